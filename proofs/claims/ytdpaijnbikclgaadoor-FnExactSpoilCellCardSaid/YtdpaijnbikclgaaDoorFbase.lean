/- Part of the evaluator's contracts: base. -/
import Derived.Test.YtdpaijnbikclgaaDoorFL0
namespace Go.Proofs.YtdpaijnbikclgaaDoorB
open Go Go.Proofs.YtdpaijnbikclgaaDoorE
set_option linter.unusedVariables false
set_option linter.unusedSectionVars false
set_option linter.unusedSimpArgs false
set_option maxHeartbeats 4000000
set_option maxRecDepth 20000
def inB (n lo hi : Int) : Bool := decide (lo ≤ n) && decide (n ≤ hi)
theorem inB_t {n lo hi : Int} (h : inB n lo hi = true) : lo ≤ n ∧ n ≤ hi := by simpa [inB] using h
theorem inB_f {n lo hi : Int} (h : inB n lo hi = false) : n < lo ∨ hi < n := by simp [inB] at h; omega
theorem inB_it {n lo hi : Int} : (inB n lo hi = true) ↔ (lo ≤ n ∧ n ≤ hi) := ⟨inB_t, fun h => by simp [inB, h]⟩
theorem inB_if {n lo hi : Int} : (inB n lo hi = false) ↔ (n < lo ∨ hi < n) := ⟨inB_f, fun h => by simp [inB]; omega⟩
theorem c26 {k : Nat} {md : Md} {S : Store} {vs : List A} {D : List Nat} {n lo hi : Int} (hd : dpArgs S [] vs = some ([(.v (.int .i64 (n))), (.v (.int .i64 (lo))), (.v (.int .i64 (hi)))], D))  (hk : 1 ≤ k := by omega) :
  Cal (run k) md 26 vs S (fun r S' => r = (.v (.bool (inB n lo hi))) ∧ S' = S) := by
 obtain ⟨k, rfl⟩ : ∃ j, k = j + 1 := ⟨k - 1, by omega⟩
 refine Cal.fn (n := 15) (rs := [.tmp 6]) (ids := []) (D := D) (Xof_none rfl) g26 (by delta Tryd.f26; exact rfl) (by delta Tryd.f26; exact rfl) (by delta Tryd.f26; exact rfl) hd rfl (by first | rfl | simp [idsV, idsC]) (by simp) (by simp) ?_
 intro md' ow; have w := ow.w; have w0 := ow.w0; have fz : md'.fz = false := ow.fz
 repeat' (first | ((with_reducible apply EvO.off); exact rfl; exact rfl) | ((first | ((with_reducible refine qA ?_ ?_ ?_ ?_ ?_); rotate_left 2; exact rfl) | ((with_reducible refine qB ?_ ?_ ?_ ?_); rotate_left 2) | ((with_reducible apply EvO.cons); exact rfl) | ((with_reducible apply EvO.guard); exact rfl; exact rfl) | skip); (focus ((with_reducible refine Eq.trans ?_ rfl); simp (disch := first | (intros; contradiction) | (as_aux_lemma => first | omega | (simp only [LEN]; try omega))) only [EV, TT, w, w0, fz, Nat.reduceEqDiff, Nat.reduceBeqDiff, Nat.reduceAdd, Nat.reduceMul, Nat.reduceLeDiff, Nat.reduceLT, reduceCtorEq, Int.reduceEq, Int.reduceNeg, FIN, DP]; first | done | exact rfl)); try exact rfl) | ((with_reducible refine Ev.regionH ?_); intro H) | ((with_reducible apply regH_k); exact KIs.mk rfl; (focus ((with_reducible apply EnvIs.mk); simp only [SE, Nat.reduceEqDiff, Nat.reduceAdd, reduceCtorEq]; try exact rfl)); clear H) | exact KIs.mk rfl | (with_reducible first | apply Ev.seq | apply EvO.nil | apply zA | apply Ev.ret | apply zB) | ((with_reducible refine endQ_r (vs := ?_) (vs' := ?_) (S₂ := ?_) ?_ ?_ ?_); rotate_left 3) | ((first | (intro (c' : Bool) hc; cases c') | intro hc) <;> first | (cases hc; done) | (try simp only [HC, inB_it, inB_if] at hc)) | fail)
 all_goals (refine ⟨?_, rfl⟩; simp only [resA, inB]; congr 2; simp [*]; try omega)
theorem c34 {k : Nat} {md : Md} {S : Store} {vs : List A} {D : List Nat} {n lo hi : Int} (hd : dpArgs S [] vs = some ([(.v (.int .i64 (n))), (.v (.int .i64 (lo))), (.v (.int .i64 (hi)))], D))  (hk : 1 ≤ k := by omega) :
  Cal (run k) md 34 vs S (fun r S' => r = (.v (.bool (inB n lo hi))) ∧ S' = S) := by
 obtain ⟨k, rfl⟩ : ∃ j, k = j + 1 := ⟨k - 1, by omega⟩
 refine Cal.fn (n := 15) (rs := [.tmp 6]) (ids := []) (D := D) (Xof_none rfl) g34 (by delta Tryd.f34; exact rfl) (by delta Tryd.f34; exact rfl) (by delta Tryd.f34; exact rfl) hd rfl (by first | rfl | simp [idsV, idsC]) (by simp) (by simp) ?_
 intro md' ow; have w := ow.w; have w0 := ow.w0; have fz : md'.fz = false := ow.fz
 repeat' (first | ((with_reducible apply EvO.off); exact rfl; exact rfl) | ((first | ((with_reducible refine qA ?_ ?_ ?_ ?_ ?_); rotate_left 2; exact rfl) | ((with_reducible refine qB ?_ ?_ ?_ ?_); rotate_left 2) | ((with_reducible apply EvO.cons); exact rfl) | ((with_reducible apply EvO.guard); exact rfl; exact rfl) | skip); (focus ((with_reducible refine Eq.trans ?_ rfl); simp (disch := first | (intros; contradiction) | (as_aux_lemma => first | omega | (simp only [LEN]; try omega))) only [EV, TT, w, w0, fz, Nat.reduceEqDiff, Nat.reduceBeqDiff, Nat.reduceAdd, Nat.reduceMul, Nat.reduceLeDiff, Nat.reduceLT, reduceCtorEq, Int.reduceEq, Int.reduceNeg, FIN, DP]; first | done | exact rfl)); try exact rfl) | ((with_reducible refine Ev.regionH ?_); intro H) | ((with_reducible apply regH_k); exact KIs.mk rfl; (focus ((with_reducible apply EnvIs.mk); simp only [SE, Nat.reduceEqDiff, Nat.reduceAdd, reduceCtorEq]; try exact rfl)); clear H) | exact KIs.mk rfl | (with_reducible first | apply Ev.seq | apply EvO.nil | apply zA | apply Ev.ret | apply zB) | ((with_reducible refine endQ_r (vs := ?_) (vs' := ?_) (S₂ := ?_) ?_ ?_ ?_); rotate_left 3) | ((first | (intro (c' : Bool) hc; cases c') | intro hc) <;> first | (cases hc; done) | (try simp only [HC, inB_it, inB_if] at hc)) | fail)
 all_goals (refine ⟨?_, rfl⟩; simp only [resA, inB]; congr 2; simp [*]; try omega)
end Go.Proofs.YtdpaijnbikclgaaDoorB

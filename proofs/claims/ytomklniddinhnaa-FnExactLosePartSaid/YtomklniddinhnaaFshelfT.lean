/- Part of the evaluator's contracts: shelfT. -/
import Derived.Test.YtomklniddinhnaaFbase
namespace Go.Proofs.YtomklniddinhnaaB
open Go Go.Proofs.YtomklniddinhnaaE
set_option linter.unusedVariables false
set_option linter.unusedSectionVars false
set_option linter.unusedSimpArgs false
set_option maxHeartbeats 4000000
set_option maxRecDepth 20000
theorem c44 {k : Nat} {md : Md} {S : Store} {vs : List A} {D : List Nat} {n : Int} (hd : dpArgs S [] vs = some ([(.v (.int .i64 (n)))], D))  (hk : 2 ≤ k) :
    Cal (run k) md 44 vs S (fun r S' => r = (.v (.bool (inB n 1 3))) ∧ S' = S) := by
  obtain ⟨k, rfl⟩ : ∃ j, k = j + 1 := ⟨k - 1, by omega⟩
  refine Cal.fn (n := 5) (rs := [.tmp 2]) (ids := []) (D := D) (Xof_none rfl) g44 (by delta Try.f44; exact rfl) (by delta Try.f44; exact rfl) (by delta Try.f44; exact rfl) hd (by first | rfl | simp [idsV, idsC]) (by simp) (by simp) ?_
  intro md' ow; have w := ow.w; have w0 := ow.w0; have fz : md'.fz = false := ow.fz
  repeat' (first
    | ((with_reducible apply EvO.off); (focus (exact rfl)); (focus (exact rfl)))
    | ((first | ((with_reducible apply EvO.call (vs := ?_)); (focus (exact rfl)); (focus (exact rfl))) | (with_reducible apply Cal.hd (ms := []) (p := ?_)) | ((with_reducible refine EvO.c1 (a := ?_) (S' := ?_) ?_ ?_ ?_); rotate_left 2; (focus (exact rfl))) | ((with_reducible refine EvO.c0 (a := ?_) (S' := ?_) ?_ ?_); rotate_left 2) | ((with_reducible apply EvO.cons); (focus (exact rfl))) | ((with_reducible apply EvO.guard); (focus (exact rfl)); (focus (exact rfl))) | ((with_reducible refine Ev.cond (t := ?_) ?_ ?_ ?_); rotate_left) | skip); (focus ((with_reducible refine Eq.trans ?_ rfl); simp (disch := first | (intros; contradiction) | (as_aux_lemma => omega) | (as_aux_lemma => (simp only [LEN2]; first | done | omega)) | (as_aux_lemma => (simp only [LEN]; first | done | omega))) only [EV, TT, w, w0, fz, Nat.reduceEqDiff, Nat.reduceBeqDiff, Nat.reduceAdd, Nat.reduceMul, Nat.reduceLeDiff, Nat.reduceLT, reduceCtorEq, Int.reduceEq, Int.reduceNeg, FIN, DP]; first | done | exact rfl)); try (focus (exact rfl)))
    | ((with_reducible apply CalH.mk); intro hd; first | exact c29 (hd := hd)   (hk := by omega))
    | (with_reducible (first | rintro r S' ⟨rfl, rfl⟩); refine ⟨_, rfl, ?_⟩)
    | with_reducible refine Ev.seq ?_
    | ((with_reducible refine Ev.regionH ?_); intro H)
    | with_reducible refine EvO.nil ?_
    | ((with_reducible apply regH_k); (focus (exact KIs.mk rfl)); (focus ((with_reducible apply EnvIs.mk); simp only [SE, Nat.reduceEqDiff, Nat.reduceAdd, reduceCtorEq]; first | done | exact rfl)); clear H)
    | exact KIs.mk rfl
    | with_reducible first | refine Ev.skip ?_ | refine Ev.ret ?_ | refine Ev.exit ?_ | refine Ev.block ?_ | refine thenQ_n ?_ | refine thenQ_x ?_ | refine thenQ_r ?_ | refine blockQ_n ?_ | refine blockQ_r ?_ | refine blockQ_x0 ?_ | refine roundQ_x ?_ | refine roundQ_r ?_
    | ((with_reducible refine endQ_r (vs := ?_) (vs' := ?_) (S₂ := ?_) ?_ ?_ ?_); rotate_left 3)
    | ((with_reducible refine blockQ_x1 ?_ ?_); exact rfl)
    | (intro c' hc; cases c' <;> first | (cases hc; done) | (try simp only [HC, inB_it, inB_if] at hc))
    | (intro hc; first | (cases hc; done) | (try simp only [HC, inB_it, inB_if] at hc))
    | fail)
  exact ⟨rfl, rfl⟩
theorem c46 {k : Nat} {md : Md} {S : Store} {vs : List A} {D : List Nat} {n : Int} (hd : dpArgs S [] vs = some ([(.v (.int .i64 (n)))], D))  (hk : 2 ≤ k) :
    Cal (run k) md 46 vs S (fun r S' => r = (.v (.bool (inB n 1 3))) ∧ S' = S) := by
  obtain ⟨k, rfl⟩ : ∃ j, k = j + 1 := ⟨k - 1, by omega⟩
  refine Cal.fn (n := 5) (rs := [.tmp 2]) (ids := []) (D := D) (Xof_none rfl) g46 (by delta Try.f46; exact rfl) (by delta Try.f46; exact rfl) (by delta Try.f46; exact rfl) hd (by first | rfl | simp [idsV, idsC]) (by simp) (by simp) ?_
  intro md' ow; have w := ow.w; have w0 := ow.w0; have fz : md'.fz = false := ow.fz
  repeat' (first
    | ((with_reducible apply EvO.off); (focus (exact rfl)); (focus (exact rfl)))
    | ((first | ((with_reducible apply EvO.call (vs := ?_)); (focus (exact rfl)); (focus (exact rfl))) | (with_reducible apply Cal.hd (ms := []) (p := ?_)) | ((with_reducible refine EvO.c1 (a := ?_) (S' := ?_) ?_ ?_ ?_); rotate_left 2; (focus (exact rfl))) | ((with_reducible refine EvO.c0 (a := ?_) (S' := ?_) ?_ ?_); rotate_left 2) | ((with_reducible apply EvO.cons); (focus (exact rfl))) | ((with_reducible apply EvO.guard); (focus (exact rfl)); (focus (exact rfl))) | ((with_reducible refine Ev.cond (t := ?_) ?_ ?_ ?_); rotate_left) | skip); (focus ((with_reducible refine Eq.trans ?_ rfl); simp (disch := first | (intros; contradiction) | (as_aux_lemma => omega) | (as_aux_lemma => (simp only [LEN2]; first | done | omega)) | (as_aux_lemma => (simp only [LEN]; first | done | omega))) only [EV, TT, w, w0, fz, Nat.reduceEqDiff, Nat.reduceBeqDiff, Nat.reduceAdd, Nat.reduceMul, Nat.reduceLeDiff, Nat.reduceLT, reduceCtorEq, Int.reduceEq, Int.reduceNeg, FIN, DP]; first | done | exact rfl)); try (focus (exact rfl)))
    | ((with_reducible apply CalH.mk); intro hd; first | exact c34 (hd := hd)   (hk := by omega))
    | (with_reducible (first | rintro r S' ⟨rfl, rfl⟩); refine ⟨_, rfl, ?_⟩)
    | with_reducible refine Ev.seq ?_
    | ((with_reducible refine Ev.regionH ?_); intro H)
    | with_reducible refine EvO.nil ?_
    | ((with_reducible apply regH_k); (focus (exact KIs.mk rfl)); (focus ((with_reducible apply EnvIs.mk); simp only [SE, Nat.reduceEqDiff, Nat.reduceAdd, reduceCtorEq]; first | done | exact rfl)); clear H)
    | exact KIs.mk rfl
    | with_reducible first | refine Ev.skip ?_ | refine Ev.ret ?_ | refine Ev.exit ?_ | refine Ev.block ?_ | refine thenQ_n ?_ | refine thenQ_x ?_ | refine thenQ_r ?_ | refine blockQ_n ?_ | refine blockQ_r ?_ | refine blockQ_x0 ?_ | refine roundQ_x ?_ | refine roundQ_r ?_
    | ((with_reducible refine endQ_r (vs := ?_) (vs' := ?_) (S₂ := ?_) ?_ ?_ ?_); rotate_left 3)
    | ((with_reducible refine blockQ_x1 ?_ ?_); exact rfl)
    | (intro c' hc; cases c' <;> first | (cases hc; done) | (try simp only [HC, inB_it, inB_if] at hc))
    | (intro hc; first | (cases hc; done) | (try simp only [HC, inB_it, inB_if] at hc))
    | fail)
  exact ⟨rfl, rfl⟩
def many (t : Int) : Int := if t = 1 then 3 else if t = 2 then 5 else 4
def few (t : Int) : Int := if t = 1 then 1 else if t = 2 then 3 else 2
theorem c55 {k : Nat} {md : Md} {S : Store} {vs : List A} {D : List Nat} {t : Int} (hd : dpArgs S [] vs = some ([(.v (.int .i64 (t)))], D))  (hk : 1 ≤ k) :
    Cal (run k) md 55 vs S (fun r S' => r = .tu [(.v (.int .i64 (many t))), (.v (.int .i64 (few t)))] ∧ S' = S) := by
  obtain ⟨k, rfl⟩ : ∃ j, k = j + 1 := ⟨k - 1, by omega⟩
  refine Cal.fn (n := 9) (rs := [.tmp 2, .tmp 3]) (ids := []) (D := D) (Xof_none rfl) g55 (by delta Try.f55; exact rfl) (by delta Try.f55; exact rfl) (by delta Try.f55; exact rfl) hd (by first | rfl | simp [idsV, idsC]) (by simp) (by simp) ?_
  intro md' ow; have w := ow.w; have w0 := ow.w0; have fz : md'.fz = false := ow.fz
  repeat' (first
    | ((with_reducible apply EvO.off); (focus (exact rfl)); (focus (exact rfl)))
    | ((first | ((with_reducible refine EvO.c1 (a := ?_) (S' := ?_) ?_ ?_ ?_); rotate_left 2; (focus (exact rfl))) | ((with_reducible refine EvO.c0 (a := ?_) (S' := ?_) ?_ ?_); rotate_left 2) | ((with_reducible apply EvO.cons); (focus (exact rfl))) | ((with_reducible apply EvO.guard); (focus (exact rfl)); (focus (exact rfl))) | ((with_reducible refine Ev.cond (t := ?_) ?_ ?_ ?_); rotate_left) | skip); (focus ((with_reducible refine Eq.trans ?_ rfl); simp (disch := first | (intros; contradiction) | (as_aux_lemma => omega) | (as_aux_lemma => (simp only [LEN2]; first | done | omega)) | (as_aux_lemma => (simp only [LEN]; first | done | omega))) only [EV, TT, w, w0, fz, Nat.reduceEqDiff, Nat.reduceBeqDiff, Nat.reduceAdd, Nat.reduceMul, Nat.reduceLeDiff, Nat.reduceLT, reduceCtorEq, Int.reduceEq, Int.reduceNeg, FIN, DP]; first | done | exact rfl)); try (focus (exact rfl)))
    | with_reducible refine Ev.seq ?_
    | ((with_reducible refine Ev.regionH ?_); intro H)
    | with_reducible refine EvO.nil ?_
    | ((with_reducible apply regH_k); (focus (exact KIs.mk rfl)); (focus ((with_reducible apply EnvIs.mk); simp only [SE, Nat.reduceEqDiff, Nat.reduceAdd, reduceCtorEq]; first | done | exact rfl)); clear H)
    | exact KIs.mk rfl
    | with_reducible first | refine Ev.skip ?_ | refine Ev.ret ?_ | refine Ev.exit ?_ | refine Ev.block ?_ | refine thenQ_n ?_ | refine thenQ_x ?_ | refine thenQ_r ?_ | refine blockQ_n ?_ | refine blockQ_r ?_ | refine blockQ_x0 ?_ | refine roundQ_x ?_ | refine roundQ_r ?_
    | ((with_reducible refine endQ_r (vs := ?_) (vs' := ?_) (S₂ := ?_) ?_ ?_ ?_); rotate_left 3)
    | ((with_reducible refine blockQ_x1 ?_ ?_); exact rfl)
    | (intro c' hc; cases c' <;> first | (cases hc; done) | (try simp only [HC, inB_it, inB_if] at hc))
    | (intro hc; first | (cases hc; done) | (try simp only [HC, inB_it, inB_if] at hc))
    | fail)
  all_goals (refine ⟨?_, rfl⟩; simp [resA, many, few, *])
theorem c82 {k : Nat} {md : Md} {S : Store} {vs : List A} {D : List Nat} {t : Int} (hd : dpArgs S [] vs = some ([(.v (.int .i64 (t)))], D))  (hk : 1 ≤ k) :
    Cal (run k) md 82 vs S (fun r S' => r = .tu [(.v (.int .i64 (many t))), (.v (.int .i64 (few t)))] ∧ S' = S) := by
  obtain ⟨k, rfl⟩ : ∃ j, k = j + 1 := ⟨k - 1, by omega⟩
  refine Cal.fn (n := 9) (rs := [.tmp 2, .tmp 3]) (ids := []) (D := D) (Xof_none rfl) g82 (by delta Try.f82; exact rfl) (by delta Try.f82; exact rfl) (by delta Try.f82; exact rfl) hd (by first | rfl | simp [idsV, idsC]) (by simp) (by simp) ?_
  intro md' ow; have w := ow.w; have w0 := ow.w0; have fz : md'.fz = false := ow.fz
  repeat' (first
    | ((with_reducible apply EvO.off); (focus (exact rfl)); (focus (exact rfl)))
    | ((first | ((with_reducible refine EvO.c1 (a := ?_) (S' := ?_) ?_ ?_ ?_); rotate_left 2; (focus (exact rfl))) | ((with_reducible refine EvO.c0 (a := ?_) (S' := ?_) ?_ ?_); rotate_left 2) | ((with_reducible apply EvO.cons); (focus (exact rfl))) | ((with_reducible apply EvO.guard); (focus (exact rfl)); (focus (exact rfl))) | ((with_reducible refine Ev.cond (t := ?_) ?_ ?_ ?_); rotate_left) | skip); (focus ((with_reducible refine Eq.trans ?_ rfl); simp (disch := first | (intros; contradiction) | (as_aux_lemma => omega) | (as_aux_lemma => (simp only [LEN2]; first | done | omega)) | (as_aux_lemma => (simp only [LEN]; first | done | omega))) only [EV, TT, w, w0, fz, Nat.reduceEqDiff, Nat.reduceBeqDiff, Nat.reduceAdd, Nat.reduceMul, Nat.reduceLeDiff, Nat.reduceLT, reduceCtorEq, Int.reduceEq, Int.reduceNeg, FIN, DP]; first | done | exact rfl)); try (focus (exact rfl)))
    | with_reducible refine Ev.seq ?_
    | ((with_reducible refine Ev.regionH ?_); intro H)
    | with_reducible refine EvO.nil ?_
    | ((with_reducible apply regH_k); (focus (exact KIs.mk rfl)); (focus ((with_reducible apply EnvIs.mk); simp only [SE, Nat.reduceEqDiff, Nat.reduceAdd, reduceCtorEq]; first | done | exact rfl)); clear H)
    | exact KIs.mk rfl
    | with_reducible first | refine Ev.skip ?_ | refine Ev.ret ?_ | refine Ev.exit ?_ | refine Ev.block ?_ | refine thenQ_n ?_ | refine thenQ_x ?_ | refine thenQ_r ?_ | refine blockQ_n ?_ | refine blockQ_r ?_ | refine blockQ_x0 ?_ | refine roundQ_x ?_ | refine roundQ_r ?_
    | ((with_reducible refine endQ_r (vs := ?_) (vs' := ?_) (S₂ := ?_) ?_ ?_ ?_); rotate_left 3)
    | ((with_reducible refine blockQ_x1 ?_ ?_); exact rfl)
    | (intro c' hc; cases c' <;> first | (cases hc; done) | (try simp only [HC, inB_it, inB_if] at hc))
    | (intro hc; first | (cases hc; done) | (try simp only [HC, inB_it, inB_if] at hc))
    | fail)
  all_goals (refine ⟨?_, rfl⟩; simp [resA, many, few, *])
def long (t s : Int) : Int := if t = 2 then (s + 2) / 3 else s
def longW (t s : Int) : Int := if t = 2 then IntKind.i64.wrap ((IntKind.i64.wrap (s + 2)).tdiv 3) else s
theorem longW_eq {t s : Int} (h : 0 ≤ s ∧ s ≤ 1000) : longW t s = long t s := by
  unfold longW long; split
  · rw [wr64 (n := s + 2) (by omega), tdivE (by omega), wr64 (by omega)]
  · rfl
theorem c56 {k : Nat} {md : Md} {S : Store} {vs : List A} {D : List Nat} {t s : Int} (hd : dpArgs S [] vs = some ([(.v (.int .i64 (t))), (.v (.int .i64 (s)))], D))  (hk : 1 ≤ k) :
    Cal (run k) md 56 vs S (fun r S' => r = (.v (.int .i64 (longW t s))) ∧ S' = S) := by
  obtain ⟨k, rfl⟩ : ∃ j, k = j + 1 := ⟨k - 1, by omega⟩
  refine Cal.fn (n := 11) (rs := [.tmp 4]) (ids := []) (D := D) (Xof_none rfl) g56 (by delta Try.f56; exact rfl) (by delta Try.f56; exact rfl) (by delta Try.f56; exact rfl) hd (by first | rfl | simp [idsV, idsC]) (by simp) (by simp) ?_
  intro md' ow; have w := ow.w; have w0 := ow.w0; have fz : md'.fz = false := ow.fz
  repeat' (first
    | ((with_reducible apply EvO.off); (focus (exact rfl)); (focus (exact rfl)))
    | ((first | ((with_reducible refine EvO.c1 (a := ?_) (S' := ?_) ?_ ?_ ?_); rotate_left 2; (focus (exact rfl))) | ((with_reducible refine EvO.c0 (a := ?_) (S' := ?_) ?_ ?_); rotate_left 2) | ((with_reducible apply EvO.cons); (focus (exact rfl))) | ((with_reducible apply EvO.guard); (focus (exact rfl)); (focus (exact rfl))) | ((with_reducible refine Ev.cond (t := ?_) ?_ ?_ ?_); rotate_left) | skip); (focus ((with_reducible refine Eq.trans ?_ rfl); simp (disch := first | (intros; contradiction) | (as_aux_lemma => omega) | (as_aux_lemma => (simp only [LEN2]; first | done | omega)) | (as_aux_lemma => (simp only [LEN]; first | done | omega))) only [EV, TT, w, w0, fz, Nat.reduceEqDiff, Nat.reduceBeqDiff, Nat.reduceAdd, Nat.reduceMul, Nat.reduceLeDiff, Nat.reduceLT, reduceCtorEq, Int.reduceEq, Int.reduceNeg, FIN, DP]; first | done | exact rfl)); try (focus (exact rfl)))
    | with_reducible refine Ev.seq ?_
    | ((with_reducible refine Ev.regionH ?_); intro H)
    | with_reducible refine EvO.nil ?_
    | ((with_reducible apply regH_k); (focus (exact KIs.mk rfl)); (focus ((with_reducible apply EnvIs.mk); simp only [SE, Nat.reduceEqDiff, Nat.reduceAdd, reduceCtorEq]; first | done | exact rfl)); clear H)
    | exact KIs.mk rfl
    | with_reducible first | refine Ev.skip ?_ | refine Ev.ret ?_ | refine Ev.exit ?_ | refine Ev.block ?_ | refine thenQ_n ?_ | refine thenQ_x ?_ | refine thenQ_r ?_ | refine blockQ_n ?_ | refine blockQ_r ?_ | refine blockQ_x0 ?_ | refine roundQ_x ?_ | refine roundQ_r ?_
    | ((with_reducible refine endQ_r (vs := ?_) (vs' := ?_) (S₂ := ?_) ?_ ?_ ?_); rotate_left 3)
    | ((with_reducible refine blockQ_x1 ?_ ?_); exact rfl)
    | (intro c' hc; cases c' <;> first | (cases hc; done) | (try simp only [HC, inB_it, inB_if] at hc))
    | (intro hc; first | (cases hc; done) | (try simp only [HC, inB_it, inB_if] at hc))
    | fail)
  all_goals (refine ⟨?_, rfl⟩; simp [resA, longW, *])
end Go.Proofs.YtomklniddinhnaaB

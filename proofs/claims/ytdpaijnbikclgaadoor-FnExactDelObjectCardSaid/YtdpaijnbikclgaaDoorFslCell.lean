/- Part of the evaluator's contracts: sl_Cell. -/
import Derived.Test.YtdpaijnbikclgaaDoorFidx
import Derived.Test.YtdpaijnbikclgaaDoorFelCell
namespace Go.Proofs.YtdpaijnbikclgaaDoorB
open Go Go.Proofs.YtdpaijnbikclgaaDoorE
set_option linter.unusedVariables false
set_option linter.unusedSectionVars false
set_option linter.unusedSimpArgs false
set_option maxHeartbeats 4000000
set_option maxRecDepth 20000
theorem k87_2 (e : Env) : lpE (FI.K ⟨[], false, [(2, [0, 1, 7, 8]), (1000, [0, 1]), (1001, [0, 1, 7, 8]), (1002, [0, 1, 7, 8, 9]), (1003, [0, 1, 5, 7, 8]), (1004, [0, 1, 5, 7, 8, 16]), (1005, [4]), (1006, [0, 1, 7, 8]), (1007, [4])]⟩ 2) e = mkE [(0, e 0), (1, e 1), (7, e 7), (8, e 8)] := rfl
theorem c87 {k : Nat} {md : Md} {S : Store} {vs : List A} {D : List Nat} {l : List Cell} {p : Cell → Bool} {g d : Nat} {cp : List A} (hd : dpArgs S [] vs = some ([.ro 4 (l.map Cell.c), .fn g cp], D)) (hD : (D.all fun i => !((cp.flatMap idsC) : List Nat).contains i) = true := by first | rfl | simp) (hn : l.length ≤ 1048576 := by first | assumption | omega | with_reducible rfl) (hmu : ((cp.flatMap idsC).all fun id => decide (S.length ≤ id) || muOk S S.length id) = true) (hmf : ((cp.flatMap idsC).all fun id => muFlat S id) = true) (hcl : ∀ x ∈ l, ∀ k md, d ≤ k → Cal (run k) md g ((.ag (Cell.c x)) :: cp) S (fun r S' => r = .v (.bool (p x)) ∧ S' = S) := by first | assumption | omega | with_reducible rfl) (hk : d + 1 ≤ k := by omega) :
  Cal (run k) md 87 vs S (fun r S' => r = (.v (.int .i64 (idxI p l))) ∧ S' = S) := by
 obtain ⟨k, rfl⟩ : ∃ j, k = j + 1 := ⟨k - 1, by omega⟩
 refine Cal.fn (n := 19) (rs := [.tmp 4]) (ids := (cp.flatMap idsC)) (D := D) (Xof_none rfl) g87 (by delta Tryd.f87; exact rfl) (by delta Tryd.f87; exact rfl) (by delta Tryd.f87; exact rfl) hd rfl (by first | rfl | simp [idsV, idsC]) hD (by simp) ?_
 intro md' ow; have w := ow.w; have w0 := ow.w0; have fz : md'.fz = false := ow.fz
 (have F := an2 @yD @yA; (repeat' (first | refine' dA42 | fail)); all_goals clear F)
 apply Ev.loop (fun j e S' => ∃ i : Nat, e = mkE [(0, .ro 4 (l.map Cell.c)), (1, .fn g cp), (7, (.v (.int .i64 ((l.length : Int))))), (8, (.v (.int .i64 ((i : Int)))))] ∧ S' = S ∧ j = l.length - i ∧ (i ≤ l.length) ∧ (∀ x ∈ l.take i, p x = false))
 ·exact ⟨0, (k87_2 _).trans dN17, (by first | rfl | (simp only [app_app, List.cons_append, List.nil_append]; done)), rfl, (by first | omega | rfl | (simp; done)), (by first | omega | rfl | (simp; done))⟩
 rintro j e S' ⟨i, rfl, rfl, hj, hi, hp⟩
 by_cases hli : (i : Int) < (l.length : Int)
 ·have hlt : i < l.length := by omega
  (have F := an3 @yD @yA @hli; (repeat' (first | refine' dA43 | ((with_reducible apply EvO.call (vs := ?_)); exact rfl; exact rfl; exact dE11) | fail)); all_goals clear F)
  ·exact ⟨by rw [resA, idxI_found hlt hp (by assumption)], rfl⟩
  ·apply roundQ_m; refine ⟨_, ⟨i + 1, (k87_2 _).trans dN17, ?_, rfl, ?_, ?_⟩, ?_⟩
   ·first | exact lpG_same | exact lpG_grow rfl | (refine (congrArg (fun K => lpG K _ _ _) (show _ = some _ from rfl)).trans (lpG_cut rfl ?_); simp [lowV, okC, mkE_at]; done) | (refine (congrArg (fun K => lpG K _ _ _) (show _ = some _ from rfl)).trans (lpG_mod rfl rfl ?_ ?_) <;> simp [lowV, okC, mkE_at, rowsAll_cons, rowsAll_nil, yD, yA]; done) | (refine (lpG_len ?_).trans ?_; (focus (simp only [len_app, List.length_cons, List.length_nil, List.length_set]; done)); first | rfl | (simp (disch := first | (intros; contradiction) | (as_aux_lemma => omega) | (as_aux_lemma => (simp only [LEN2]; first | done | omega)) | (as_aux_lemma => (simp only [LEN]; try omega))) only [EV, TT, w, w0, fz, yD, yA, Nat.reduceEqDiff, Nat.reduceBeqDiff, Nat.reduceAdd, Nat.reduceMul, Nat.reduceLeDiff, Nat.reduceLT, reduceCtorEq, Int.reduceEq, Int.reduceNeg]; first | done | rfl)) | (refine (congrArg (fun K => lpG K _ _ _) (show _ = some _ from rfl)).trans (lpG_grow ?_); simp only [lowV, okC, EV, Nat.reduceEqDiff, Nat.reduceBeqDiff, Nat.reduceAdd, Nat.reduceMul, Nat.reduceLeDiff, Nat.reduceLT, reduceCtorEq, Int.reduceEq, Int.reduceNeg]; done)
   ·omega
   ·(intro x hx; rw [List.take_add_one, List.getElem?_eq_getElem hlt] at hx; rcases List.mem_append.1 hx with h | h; exact hp x h; simp at h; subst h; assumption)
   ·omega
 ·obtain rfl : i = l.length := by omega
  (have F := an3 @yD @yA @hli; (repeat' (first | refine' dA42 | fail)); all_goals clear F)
  exact ⟨by rw [resA, idxI_none (by rw [List.take_length] at hp; exact hp)], rfl⟩
end Go.Proofs.YtdpaijnbikclgaaDoorB

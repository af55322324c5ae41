/- Part of the evaluator's contracts: el_Kept. -/
import Derived.Test.YtomklniddinhnaaFbase
import Derived.Test.YtomklniddinhnaaFmark
namespace Go.Proofs.YtomklniddinhnaaB
open Go Go.Proofs.YtomklniddinhnaaE
set_option linter.unusedVariables false
set_option linter.unusedSectionVars false
set_option linter.unusedSimpArgs false
set_option maxHeartbeats 4000000
set_option maxRecDepth 20000
structure Kept where
  tier : Int
  size : Int
  deriving DecidableEq
def Kept.c (x : Kept) : List A := [(.v (.int .i64 (x.tier))), (.v (.int .i64 (x.size)))]
theorem fl_Kept (l : List Kept) : flatRowsB (List.map Kept.c l) = true := flat_map Kept.c (fun _ => rfl) l
theorem ok_Kept (m : Nat) (l : List Kept) : rowsAll (okC m) (List.map Kept.c l) = true := rowsAll_map (okC m) Kept.c (fun _ => rfl) l
theorem nr_Kept (l : List Kept) : rowsAll noRoC (List.map Kept.c l) = true := rowsAll_map noRoC Kept.c (fun _ => rfl) l
theorem lf_Kept (l : List Kept) : leafRows (List.map Kept.c l) = true := leaf_map Kept.c (fun _ => rfl) l
theorem c27 {k : Nat} {md : Md} {S : Store} {vs : List A} {D : List Nat} {l : List Kept} {left : Int} (hd : dpArgs S [] vs = some ([.ro 2 (l.map Kept.c), (.v (.int .i64 (left)))], D)) (hl : 0 ≤ left ∧ left ≤ 1048576) (hn : l.length ≤ 9223372036854775807) (hk : 1 ≤ k) :
    Cal (run k) md 27 vs S (fun r S' => ∃ n, r = .v (.int .i64 n) ∧ S' = S ∧ (n < 0 ∨ 0 ≤ n ∧ n = left - (l.length : Int))) := by
  obtain ⟨k, rfl⟩ : ∃ j, k = j + 1 := ⟨k - 1, by omega⟩
  refine Cal.fn (n := 12) (rs := [.tmp 4]) (ids := []) (D := D) (Xof_none rfl) g27 (by delta Try.f27; exact rfl) (by delta Try.f27; exact rfl) (by delta Try.f27; exact rfl) hd (by first | rfl | simp [idsV, idsC]) (by simp) (by simp) ?_
  intro md' ow; have w := ow.w; have w0 := ow.w0; have fz : md'.fz = false := ow.fz
  repeat' (first
    | ((with_reducible apply EvO.off); (focus (exact rfl)); (focus (exact rfl)))
    | ((first | ((with_reducible refine EvO.c1 (a := ?_) (S' := ?_) ?_ ?_ ?_); rotate_left 2; (focus (exact rfl))) | ((with_reducible refine EvO.c0 (a := ?_) (S' := ?_) ?_ ?_); rotate_left 2) | ((with_reducible apply EvO.cons); (focus (exact rfl))) | ((with_reducible apply EvO.guard); (focus (exact rfl)); (focus (exact rfl))) | ((with_reducible refine Ev.cond (t := ?_) ?_ ?_ ?_); rotate_left) | skip); (focus ((with_reducible refine Eq.trans ?_ rfl); simp (disch := first | (intros; contradiction) | (as_aux_lemma => omega) | (as_aux_lemma => (simp only [LEN2]; first | done | omega)) | (as_aux_lemma => (simp only [LEN]; first | done | omega))) only [EV, TT, w, w0, fz, FX_mark, fl_Kept, ok_Kept, nr_Kept, lf_Kept, Kept.c, Nat.reduceEqDiff, Nat.reduceBeqDiff, Nat.reduceAdd, Nat.reduceMul, Nat.reduceLeDiff, Nat.reduceLT, reduceCtorEq, Int.reduceEq, Int.reduceNeg, FIN, DP]; first | done | exact rfl)); try (focus (exact rfl)))
    | with_reducible refine Ev.seq ?_
    | ((with_reducible refine Ev.regionH ?_); intro H)
    | with_reducible refine EvO.nil ?_
    | ((with_reducible apply regH_k); (focus (exact KIs.mk rfl)); (focus ((with_reducible apply EnvIs.mk); simp only [SE, Nat.reduceEqDiff, Nat.reduceAdd, reduceCtorEq]; first | done | exact rfl)); clear H)
    | exact KIs.mk rfl
    | with_reducible first | refine Ev.skip ?_ | refine Ev.ret ?_ | refine Ev.exit ?_ | refine Ev.block ?_ | refine thenQ_n ?_ | refine thenQ_x ?_ | refine thenQ_r ?_ | refine blockQ_n ?_ | refine blockQ_r ?_ | refine blockQ_x0 ?_ | refine roundQ_x ?_ | refine roundQ_r ?_
    | ((with_reducible refine endQ_r (vs := ?_) (vs' := ?_) (S₂ := ?_) ?_ ?_ ?_); rotate_left 3)
    | ((with_reducible refine blockQ_x1 ?_ ?_); exact rfl)
    | (intro c' hc; cases c' <;> first | (cases hc; done) | (try simp only [HC, inB_it, inB_if] at hc))
    | (intro hc; first | (cases hc; done) | (try simp only [HC, inB_it, inB_if] at hc))
    | fail)
  · exact ⟨_, rfl, rfl, .inl (by decide)⟩
  · exact ⟨_, rfl, rfl, .inr (by omega)⟩
theorem c58 {k : Nat} {md : Md} {S : Store} {vs : List A} {D : List Nat} {a0 : Int} {a1 : Int} (hd : dpArgs S [] vs = some ([.ag [(.v (.int .i64 (a0))), (.v (.int .i64 (a1)))]], D))  (hk : 1 ≤ k) :
    Cal (run k) md 58 vs S (fun r S' => r = .ag [(.v (.int .i64 (a0))), (.v (.int .i64 (a1)))] ∧ S' = S) := by
  obtain ⟨k, rfl⟩ : ∃ j, k = j + 1 := ⟨k - 1, by omega⟩
  refine Cal.fn (n := 11) (rs := [.cell 2 69]) (ids := []) (D := D) (Xof_none rfl) g58 (by delta Try.f58; exact rfl) (by delta Try.f58; exact rfl) (by delta Try.f58; exact rfl) hd (by first | rfl | simp [idsV, idsC]) (by simp) (by simp) ?_
  intro md' ow; have w := ow.w; have w0 := ow.w0; have fz : md'.fz = false := ow.fz
  repeat' (first
    | ((with_reducible apply EvO.off); (focus (exact rfl)); (focus (exact rfl)))
    | ((first | ((with_reducible refine EvO.c1 (a := ?_) (S' := ?_) ?_ ?_ ?_); rotate_left 2; (focus (exact rfl))) | ((with_reducible refine EvO.c0 (a := ?_) (S' := ?_) ?_ ?_); rotate_left 2) | ((with_reducible apply EvO.cons); (focus (exact rfl))) | ((with_reducible apply EvO.guard); (focus (exact rfl)); (focus (exact rfl))) | ((with_reducible refine Ev.cond (t := ?_) ?_ ?_ ?_); rotate_left) | skip); (focus ((with_reducible refine Eq.trans ?_ rfl); simp (disch := first | (intros; contradiction) | (as_aux_lemma => omega) | (as_aux_lemma => (simp only [LEN2]; first | done | omega)) | (as_aux_lemma => (simp only [LEN]; first | done | omega))) only [EV, TT, w, w0, fz, FX_mark, fl_Kept, ok_Kept, nr_Kept, lf_Kept, Kept.c, Nat.reduceEqDiff, Nat.reduceBeqDiff, Nat.reduceAdd, Nat.reduceMul, Nat.reduceLeDiff, Nat.reduceLT, reduceCtorEq, Int.reduceEq, Int.reduceNeg, FIN, DP]; first | done | exact rfl)); try (focus (exact rfl)))
    | with_reducible refine Ev.seq ?_
    | ((with_reducible refine Ev.regionH ?_); intro H)
    | with_reducible refine EvO.nil ?_
    | ((with_reducible apply regH_k); (focus (exact KIs.mk rfl)); (focus ((with_reducible apply EnvIs.mk); simp only [SE, Nat.reduceEqDiff, Nat.reduceAdd, reduceCtorEq]; first | done | exact rfl)); clear H)
    | exact KIs.mk rfl
    | with_reducible first | refine Ev.skip ?_ | refine Ev.ret ?_ | refine Ev.exit ?_ | refine Ev.block ?_ | refine thenQ_n ?_ | refine thenQ_x ?_ | refine thenQ_r ?_ | refine blockQ_n ?_ | refine blockQ_r ?_ | refine blockQ_x0 ?_ | refine roundQ_x ?_ | refine roundQ_r ?_
    | ((with_reducible refine endQ_r (vs := ?_) (vs' := ?_) (S₂ := ?_) ?_ ?_ ?_); rotate_left 3)
    | ((with_reducible refine blockQ_x1 ?_ ?_); exact rfl)
    | (intro c' hc; cases c' <;> first | (cases hc; done) | (try simp only [HC, inB_it, inB_if] at hc))
    | (intro hc; first | (cases hc; done) | (try simp only [HC, inB_it, inB_if] at hc))
    | fail)
  exact ⟨rfl, rfl⟩
theorem k32_3 (e : Env) : lpE (FI.K ⟨[], false, [(3, [0, 3, 4]), (1000, [0]), (1001, [0, 3]), (1002, [0, 3, 4]), (1003, [0, 3, 4, 11]), (1004, [0, 3, 4]), (1005, [0, 3, 4]), (1006, [2])]⟩ 3) e = mkE [(0, e 0), (3, e 3), (4, e 4)] := rfl
theorem c32 {k : Nat} {md : Md} {S : Store} {vs : List A} {D : List Nat} {l : List Kept} (hd : dpArgs S [] vs = some ([.ro 2 (l.map Kept.c)], D)) (hn : l.length ≤ 1048576) (hk : 2 ≤ k) :
    Cal (run k) md 32 vs S (fun r S' => r = .sl S.length 0 l.length l.length ∧ S' = S ++ [⟨2, l.map Kept.c, 0, false⟩]) := by
  obtain ⟨k, rfl⟩ : ∃ j, k = j + 1 := ⟨k - 1, by omega⟩
  refine Cal.fn (n := 23) (rs := [.tmp 2]) (ids := []) (D := D) (Xof_none rfl) g32 (by delta Try.f32; exact rfl) (by delta Try.f32; exact rfl) (by delta Try.f32; exact rfl) hd (by first | rfl | simp [idsV, idsC]) (by simp) (by simp) ?_
  intro md' ow; have w := ow.w; have w0 := ow.w0; have fz : md'.fz = false := ow.fz
  repeat' (first
    | ((with_reducible apply EvO.off); (focus (exact rfl)); (focus (exact rfl)))
    | ((first | ((with_reducible apply EvO.call (vs := ?_)); (focus (exact rfl)); (focus (exact rfl))) | (with_reducible apply Cal.hd (ms := []) (p := ?_)) | ((with_reducible refine EvO.c1 (a := ?_) (S' := ?_) ?_ ?_ ?_); rotate_left 2; (focus (exact rfl))) | ((with_reducible refine EvO.c0 (a := ?_) (S' := ?_) ?_ ?_); rotate_left 2) | ((with_reducible apply EvO.cons); (focus (exact rfl))) | ((with_reducible apply EvO.guard); (focus (exact rfl)); (focus (exact rfl))) | ((with_reducible refine Ev.cond (t := ?_) ?_ ?_ ?_); rotate_left) | skip); (focus ((with_reducible refine Eq.trans ?_ rfl); simp (disch := first | (intros; contradiction) | (as_aux_lemma => omega) | (as_aux_lemma => (simp only [LEN2]; first | done | omega)) | (as_aux_lemma => (simp only [LEN]; first | done | omega))) only [EV, TT, w, w0, fz, FX_mark, fl_Kept, ok_Kept, nr_Kept, lf_Kept, Kept.c, Nat.reduceEqDiff, Nat.reduceBeqDiff, Nat.reduceAdd, Nat.reduceMul, Nat.reduceLeDiff, Nat.reduceLT, reduceCtorEq, Int.reduceEq, Int.reduceNeg, FIN, DP]; first | done | exact rfl)); try (focus (exact rfl)))
    | ((with_reducible apply CalH.mk); intro hd; first | exact c58 (hd := hd)   (hk := by omega))
    | (with_reducible (first | rintro r S' ⟨rfl, rfl⟩); refine ⟨_, rfl, ?_⟩)
    | with_reducible refine Ev.seq ?_
    | ((with_reducible refine Ev.regionH ?_); intro H)
    | with_reducible refine EvO.nil ?_
    | ((with_reducible apply regH_k); (focus (exact KIs.mk rfl)); (focus ((with_reducible apply EnvIs.mk); simp only [SE, Nat.reduceEqDiff, Nat.reduceAdd, reduceCtorEq]; first | done | exact rfl)); clear H)
    | exact KIs.mk rfl
    | with_reducible first | refine Ev.skip ?_ | refine Ev.ret ?_ | refine Ev.exit ?_ | refine Ev.block ?_ | refine thenQ_n ?_ | refine thenQ_x ?_ | refine thenQ_r ?_ | refine blockQ_n ?_ | refine blockQ_r ?_ | refine blockQ_x0 ?_ | refine roundQ_x ?_ | refine roundQ_r ?_
    | ((with_reducible refine endQ_r (vs := ?_) (vs' := ?_) (S₂ := ?_) ?_ ?_ ?_); rotate_left 3)
    | ((with_reducible refine blockQ_x1 ?_ ?_); exact rfl)
    | (intro c' hc; cases c' <;> first | (cases hc; done) | (try simp only [HC, inB_it, inB_if] at hc))
    | (intro hc; first | (cases hc; done) | (try simp only [HC, inB_it, inB_if] at hc))
    | fail)
  apply Ev.loop (fun j e S' => ∃ i : Nat, e = mkE [(0, .ro 2 (l.map Kept.c)), (3, .sl (S.length + 1) 0 l.length l.length), (4, (.v (.int .i64 ((i : Int)))))] ∧ S' = S ++ [⟨2, [], 0, false⟩, ⟨2, fillR Kept.c [.v (.int .i64 0), .v (.int .i64 0)] l i, 0, false⟩] ∧ j = l.length - i ∧ (i ≤ l.length))
  · exact ⟨0, (k32_3 _).trans (by simp (disch := first | (intros; contradiction) | (as_aux_lemma => omega) | (as_aux_lemma => (simp only [LEN2]; first | done | omega)) | (as_aux_lemma => (simp only [LEN]; first | done | omega))) only [EV, TT, w, w0, fz, FX_mark, fl_Kept, ok_Kept, nr_Kept, lf_Kept, Kept.c, Nat.reduceEqDiff, Nat.reduceBeqDiff, Nat.reduceAdd, Nat.reduceMul, Nat.reduceLeDiff, Nat.reduceLT, reduceCtorEq, Int.reduceEq, Int.reduceNeg]; first | done | rfl | (congr <;> omega)), (by rw [fillR_0]), rfl, (by omega)⟩
  rintro j e S' ⟨i, rfl, rfl, hj, hi⟩
  have hlen := fillR_len Kept.c [.v (.int .i64 0), .v (.int .i64 0)] l i hi
  by_cases hli : (i : Int) < (l.length : Int)
  · have hlt : i < l.length := by omega
    have hg2 := fillR_get Kept.c [.v (.int .i64 0), .v (.int .i64 0)] l i hlt
    have hset := fillR_set Kept.c [.v (.int .i64 0), .v (.int .i64 0)] l i hlt
    simp only [Kept.c] at hset
    repeat' (first
      | ((with_reducible apply EvO.off); (focus (exact rfl)); (focus (exact rfl)))
      | ((first | ((with_reducible apply EvO.call (vs := ?_)); (focus (exact rfl)); (focus (exact rfl))) | (with_reducible apply Cal.hd (ms := []) (p := ?_)) | ((with_reducible refine EvO.c1 (a := ?_) (S' := ?_) ?_ ?_ ?_); rotate_left 2; (focus (exact rfl))) | ((with_reducible refine EvO.c0 (a := ?_) (S' := ?_) ?_ ?_); rotate_left 2) | ((with_reducible apply EvO.cons); (focus (exact rfl))) | ((with_reducible apply EvO.guard); (focus (exact rfl)); (focus (exact rfl))) | ((with_reducible refine Ev.cond (t := ?_) ?_ ?_ ?_); rotate_left) | skip); (focus ((with_reducible refine Eq.trans ?_ rfl); simp (disch := first | (intros; contradiction) | (as_aux_lemma => omega) | (as_aux_lemma => (simp only [LEN2]; first | done | omega)) | (as_aux_lemma => (simp only [LEN]; first | done | omega))) only [EV, TT, w, w0, fz, FX_mark, fl_Kept, ok_Kept, nr_Kept, lf_Kept, Kept.c, hli, hlen, hg2, hset, Nat.reduceEqDiff, Nat.reduceBeqDiff, Nat.reduceAdd, Nat.reduceMul, Nat.reduceLeDiff, Nat.reduceLT, reduceCtorEq, Int.reduceEq, Int.reduceNeg, FIN, DP]; first | done | exact rfl)); try (focus (exact rfl)))
      | ((with_reducible apply CalH.mk); intro hd; first | exact c58 (hd := hd)   (hk := by omega))
      | (with_reducible (first | rintro r S' ⟨rfl, rfl⟩); refine ⟨_, rfl, ?_⟩)
      | with_reducible refine Ev.seq ?_
      | ((with_reducible refine Ev.regionH ?_); intro H)
      | with_reducible refine EvO.nil ?_
      | ((with_reducible apply regH_k); (focus (exact KIs.mk rfl)); (focus ((with_reducible apply EnvIs.mk); simp only [SE, Nat.reduceEqDiff, Nat.reduceAdd, reduceCtorEq]; first | done | exact rfl)); clear H)
      | exact KIs.mk rfl
      | with_reducible first | refine Ev.skip ?_ | refine Ev.ret ?_ | refine Ev.exit ?_ | refine Ev.block ?_ | refine thenQ_n ?_ | refine thenQ_x ?_ | refine thenQ_r ?_ | refine blockQ_n ?_ | refine blockQ_r ?_ | refine blockQ_x0 ?_ | refine roundQ_x ?_ | refine roundQ_r ?_
      | ((with_reducible refine endQ_r (vs := ?_) (vs' := ?_) (S₂ := ?_) ?_ ?_ ?_); rotate_left 3)
      | ((with_reducible refine blockQ_x1 ?_ ?_); exact rfl)
      | (intro c' hc; cases c' <;> first | (cases hc; done) | (try simp only [HC, inB_it, inB_if] at hc))
      | (intro hc; first | (cases hc; done) | (try simp only [HC, inB_it, inB_if] at hc))
      | fail)
    apply roundQ_m; refine ⟨_, ⟨i + 1, (k32_3 _).trans (by simp (disch := first | (intros; contradiction) | (as_aux_lemma => omega) | (as_aux_lemma => (simp only [LEN2]; first | done | omega)) | (as_aux_lemma => (simp only [LEN]; first | done | omega))) only [EV, TT, w, w0, fz, FX_mark, fl_Kept, ok_Kept, nr_Kept, lf_Kept, Kept.c, Nat.reduceEqDiff, Nat.reduceBeqDiff, Nat.reduceAdd, Nat.reduceMul, Nat.reduceLeDiff, Nat.reduceLT, reduceCtorEq, Int.reduceEq, Int.reduceNeg]; first | done | rfl | (congr <;> omega)), ?_, rfl, ?_⟩, ?_⟩
    · first | exact lpG_same | exact lpG_grow rfl | (refine (congrArg (fun K => lpG K _ _ _) (show _ = some _ from rfl)).trans (lpG_cut rfl ?_); simp [lowV, okC, mkE_at]; done) | (refine (congrArg (fun K => lpG K _ _ _) (show _ = some _ from rfl)).trans (lpG_mod rfl rfl ?_ ?_) <;> simp [lowV, okC, mkE_at, rowsAll_cons, rowsAll_nil, FX_mark, fl_Kept, ok_Kept, nr_Kept, lf_Kept, Kept.c]; done) | (refine (lpG_len ?_).trans ?_; (focus (simp only [len_app, List.length_cons, List.length_nil, List.length_set]; done)); first | rfl | (simp (disch := first | (intros; contradiction) | (as_aux_lemma => omega) | (as_aux_lemma => (simp only [LEN2]; first | done | omega)) | (as_aux_lemma => (simp only [LEN]; first | done | omega))) only [EV, TT, w, w0, fz, FX_mark, fl_Kept, ok_Kept, nr_Kept, lf_Kept, Kept.c, Nat.reduceEqDiff, Nat.reduceBeqDiff, Nat.reduceAdd, Nat.reduceMul, Nat.reduceLeDiff, Nat.reduceLT, reduceCtorEq, Int.reduceEq, Int.reduceNeg]; first | done | rfl)) | (refine (congrArg (fun K => lpG K _ _ _) (show _ = some _ from rfl)).trans (lpG_grow ?_); simp only [lowV, okC, EV, Nat.reduceEqDiff, Nat.reduceBeqDiff, Nat.reduceAdd, Nat.reduceMul, Nat.reduceLeDiff, Nat.reduceLT, reduceCtorEq, Int.reduceEq, Int.reduceNeg]; done)
    · first | omega | rfl | assumption | (simp; done)
    · omega
  · obtain rfl : i = l.length := by omega
    rw [fillR_all]
    repeat' (first
      | ((with_reducible apply EvO.off); (focus (exact rfl)); (focus (exact rfl)))
      | ((first | ((with_reducible apply EvO.call (vs := ?_)); (focus (exact rfl)); (focus (exact rfl))) | (with_reducible apply Cal.hd (ms := []) (p := ?_)) | ((with_reducible refine EvO.c1 (a := ?_) (S' := ?_) ?_ ?_ ?_); rotate_left 2; (focus (exact rfl))) | ((with_reducible refine EvO.c0 (a := ?_) (S' := ?_) ?_ ?_); rotate_left 2) | ((with_reducible apply EvO.cons); (focus (exact rfl))) | ((with_reducible apply EvO.guard); (focus (exact rfl)); (focus (exact rfl))) | ((with_reducible refine Ev.cond (t := ?_) ?_ ?_ ?_); rotate_left) | skip); (focus ((with_reducible refine Eq.trans ?_ rfl); simp (disch := first | (intros; contradiction) | (as_aux_lemma => omega) | (as_aux_lemma => (simp only [LEN2]; first | done | omega)) | (as_aux_lemma => (simp only [LEN]; first | done | omega))) only [EV, TT, w, w0, fz, FX_mark, fl_Kept, ok_Kept, nr_Kept, lf_Kept, Kept.c, hli, Nat.reduceEqDiff, Nat.reduceBeqDiff, Nat.reduceAdd, Nat.reduceMul, Nat.reduceLeDiff, Nat.reduceLT, reduceCtorEq, Int.reduceEq, Int.reduceNeg, FIN, DP]; first | done | exact rfl)); try (focus (exact rfl)))
      | ((with_reducible apply CalH.mk); intro hd; first | exact c58 (hd := hd)   (hk := by omega))
      | (with_reducible (first | rintro r S' ⟨rfl, rfl⟩); refine ⟨_, rfl, ?_⟩)
      | with_reducible refine Ev.seq ?_
      | ((with_reducible refine Ev.regionH ?_); intro H)
      | with_reducible refine EvO.nil ?_
      | ((with_reducible apply regH_k); (focus (exact KIs.mk rfl)); (focus ((with_reducible apply EnvIs.mk); simp only [SE, Nat.reduceEqDiff, Nat.reduceAdd, reduceCtorEq]; first | done | exact rfl)); clear H)
      | exact KIs.mk rfl
      | with_reducible first | refine Ev.skip ?_ | refine Ev.ret ?_ | refine Ev.exit ?_ | refine Ev.block ?_ | refine thenQ_n ?_ | refine thenQ_x ?_ | refine thenQ_r ?_ | refine blockQ_n ?_ | refine blockQ_r ?_ | refine blockQ_x0 ?_ | refine roundQ_x ?_ | refine roundQ_r ?_
      | ((with_reducible refine endQ_r (vs := ?_) (vs' := ?_) (S₂ := ?_) ?_ ?_ ?_); rotate_left 3)
      | ((with_reducible refine blockQ_x1 ?_ ?_); exact rfl)
      | (intro c' hc; cases c' <;> first | (cases hc; done) | (try simp only [HC, inB_it, inB_if] at hc))
      | (intro hc; first | (cases hc; done) | (try simp only [HC, inB_it, inB_if] at hc))
      | fail)
    exact ⟨rfl, rfl⟩
theorem c67 {k : Nat} {md : Md} {S : Store} {vs : List A} {D : List Nat} {a0 : Int} {a1 : Int} {b0 : Int} {b1 : Int} (hd : dpArgs S [] vs = some ([.ag [(.v (.int .i64 (a0))), (.v (.int .i64 (a1)))], .ag [(.v (.int .i64 (b0))), (.v (.int .i64 (b1)))]], D)) (h0 : a0 = b0) (h1 : a1 = b1) (hk : 1 ≤ k) :
    Cal (run k) md 67 vs S (fun r S' => r = (.v (.bool (true))) ∧ S' = S) := by
  obtain ⟨k, rfl⟩ : ∃ j, k = j + 1 := ⟨k - 1, by omega⟩
  refine Cal.fn (n := 15) (rs := [.tmp 4]) (ids := []) (D := D) (Xof_none rfl) g67 (by delta Try.f67; exact rfl) (by delta Try.f67; exact rfl) (by delta Try.f67; exact rfl) hd (by first | rfl | simp [idsV, idsC]) (by simp) (by simp) ?_
  intro md' ow; have w := ow.w; have w0 := ow.w0; have fz : md'.fz = false := ow.fz
  subst h0; subst h1
  repeat' (first
    | ((with_reducible apply EvO.off); (focus (exact rfl)); (focus (exact rfl)))
    | ((first | ((with_reducible refine EvO.c1 (a := ?_) (S' := ?_) ?_ ?_ ?_); rotate_left 2; (focus (exact rfl))) | ((with_reducible refine EvO.c0 (a := ?_) (S' := ?_) ?_ ?_); rotate_left 2) | ((with_reducible apply EvO.cons); (focus (exact rfl))) | ((with_reducible apply EvO.guard); (focus (exact rfl)); (focus (exact rfl))) | ((with_reducible refine Ev.cond (t := ?_) ?_ ?_ ?_); rotate_left) | skip); (focus ((with_reducible refine Eq.trans ?_ rfl); simp (disch := first | (intros; contradiction) | (as_aux_lemma => omega) | (as_aux_lemma => (simp only [LEN2]; first | done | omega)) | (as_aux_lemma => (simp only [LEN]; first | done | omega))) only [EV, TT, w, w0, fz, FX_mark, fl_Kept, ok_Kept, nr_Kept, lf_Kept, Kept.c, bne_self_eq_false, beq_self_eq_true, Nat.reduceEqDiff, Nat.reduceBeqDiff, Nat.reduceAdd, Nat.reduceMul, Nat.reduceLeDiff, Nat.reduceLT, reduceCtorEq, Int.reduceEq, Int.reduceNeg, FIN, DP]; first | done | exact rfl)); try (focus (exact rfl)))
    | with_reducible refine Ev.seq ?_
    | ((with_reducible refine Ev.regionH ?_); intro H)
    | with_reducible refine EvO.nil ?_
    | ((with_reducible apply regH_k); (focus (exact KIs.mk rfl)); (focus ((with_reducible apply EnvIs.mk); simp only [SE, Nat.reduceEqDiff, Nat.reduceAdd, reduceCtorEq]; first | done | exact rfl)); clear H)
    | exact KIs.mk rfl
    | with_reducible first | refine Ev.skip ?_ | refine Ev.ret ?_ | refine Ev.exit ?_ | refine Ev.block ?_ | refine thenQ_n ?_ | refine thenQ_x ?_ | refine thenQ_r ?_ | refine blockQ_n ?_ | refine blockQ_r ?_ | refine blockQ_x0 ?_ | refine roundQ_x ?_ | refine roundQ_r ?_
    | ((with_reducible refine endQ_r (vs := ?_) (vs' := ?_) (S₂ := ?_) ?_ ?_ ?_); rotate_left 3)
    | ((with_reducible refine blockQ_x1 ?_ ?_); exact rfl)
    | (intro c' hc; cases c' <;> first | (cases hc; done) | (try simp only [HC, inB_it, inB_if] at hc))
    | (intro hc; first | (cases hc; done) | (try simp only [HC, inB_it, inB_if] at hc))
    | fail)
  exact ⟨rfl, rfl⟩
theorem k39_4 (e : Env) : lpE (FI.K ⟨[], false, [(4, [0, 1, 5]), (1000, [0, 1]), (1001, [0, 1, 10]), (1002, [4]), (1003, [0, 1, 5]), (1004, [0, 1, 5, 14]), (1005, [0, 1, 5]), (1006, [0, 1, 5, 26]), (1007, [4]), (1008, [4])]⟩ 4) e = mkE [(0, e 0), (1, e 1), (5, e 5)] := rfl
theorem c39 {k : Nat} {md : Md} {S : Store} {vs : List A} {D : List Nat} {l l' : List Kept} (hd : dpArgs S [] vs = some ([.ro 2 (l.map Kept.c), .ro 2 (l'.map Kept.c)], D)) (he : l = l') (hn : l.length ≤ 1048576) (hk : 2 ≤ k) :
    Cal (run k) md 39 vs S (fun r S' => r = (.v (.bool (true))) ∧ S' = S) := by
  obtain ⟨k, rfl⟩ : ∃ j, k = j + 1 := ⟨k - 1, by omega⟩
  refine Cal.fn (n := 27) (rs := [.tmp 4]) (ids := []) (D := D) (Xof_none rfl) g39 (by delta Try.f39; exact rfl) (by delta Try.f39; exact rfl) (by delta Try.f39; exact rfl) hd (by first | rfl | simp [idsV, idsC]) (by simp) (by simp) ?_
  intro md' ow; have w := ow.w; have w0 := ow.w0; have fz : md'.fz = false := ow.fz
  subst he
  repeat' (first
    | ((with_reducible apply EvO.off); (focus (exact rfl)); (focus (exact rfl))) | ((with_reducible apply EvT.off); (focus (exact rfl)); (focus (exact rfl)))
    | ((first | ((with_reducible apply EvO.call (vs := ?_)); (focus (exact rfl)); (focus (exact rfl))) | ((with_reducible apply EvT.call (vs := ?_)); (focus (exact rfl)); (focus (exact rfl))) | (with_reducible apply Cal.hd (ms := []) (p := ?_)) | ((with_reducible refine EvO.c1 (a := ?_) (S' := ?_) ?_ ?_ ?_); rotate_left 2; (focus (exact rfl))) | ((with_reducible refine EvO.c0 (a := ?_) (S' := ?_) ?_ ?_); rotate_left 2) | ((with_reducible apply EvO.cons); (focus (exact rfl))) | ((with_reducible refine EvT.c1 (a := ?_) (S' := ?_) ?_ ?_ ?_ ?_); rotate_left 2; (focus (exact rfl)); (focus (exact rfl))) | ((with_reducible refine EvT.c0 (a := ?_) (S' := ?_) ?_ ?_ ?_); rotate_left 2; (focus (exact rfl))) | ((with_reducible apply EvT.cons); (focus (exact rfl)); (focus (exact rfl))) | ((with_reducible apply EvO.guard); (focus (exact rfl)); (focus (exact rfl))) | ((with_reducible apply EvT.guard); (focus (exact rfl)); (focus (exact rfl))) | ((with_reducible refine Ev.cond (t := ?_) ?_ ?_ ?_); rotate_left) | skip); (focus ((with_reducible refine Eq.trans ?_ rfl); simp (disch := first | (intros; contradiction) | (as_aux_lemma => omega) | (as_aux_lemma => (simp only [LEN2]; first | done | omega)) | (as_aux_lemma => (simp only [LEN]; first | done | omega))) only [EV, TT, w, w0, fz, FX_mark, fl_Kept, ok_Kept, nr_Kept, lf_Kept, Kept.c, bne_self_eq_false, Nat.reduceEqDiff, Nat.reduceBeqDiff, Nat.reduceAdd, Nat.reduceMul, Nat.reduceLeDiff, Nat.reduceLT, reduceCtorEq, Int.reduceEq, Int.reduceNeg, FIN, DP]; first | done | exact rfl)); try (focus (exact rfl)))
    | ((with_reducible apply CalH.mk); intro hd; first | exact c67 (hd := hd) (h0 := by first | assumption | omega | with_reducible rfl) (h1 := by first | assumption | omega | with_reducible rfl)  (hk := by omega))
    | (with_reducible (first | rintro r S' ⟨rfl, rfl⟩); refine ⟨_, rfl, ?_⟩)
    | with_reducible refine Ev.seq ?_
    | ((with_reducible refine Ev.regionH ?_); intro H)
    | with_reducible refine EvO.nil ?_
    | ((with_reducible apply regH_k); (focus (exact KIs.mk rfl)); (focus ((with_reducible apply EnvIs.mk); simp only [SE, Nat.reduceEqDiff, Nat.reduceAdd, reduceCtorEq]; first | done | exact rfl)); clear H)
    | exact KIs.mk rfl
    | with_reducible first | refine Ev.skip ?_ | refine Ev.ret ?_ | refine Ev.exit ?_ | refine Ev.block ?_ | refine thenQ_n ?_ | refine thenQ_x ?_ | refine thenQ_r ?_ | refine blockQ_n ?_ | refine blockQ_r ?_ | refine blockQ_x0 ?_ | refine roundQ_x ?_ | refine roundQ_r ?_
    | ((with_reducible refine endQ_r (vs := ?_) (vs' := ?_) (S₂ := ?_) ?_ ?_ ?_); rotate_left 3)
    | ((with_reducible refine blockQ_x1 ?_ ?_); exact rfl)
    | ((with_reducible refine Ev.drawnH ?_ ?_); (focus kernel_rfl); intro H)
    | ((with_reducible refine EvT.nil ?_); refine ⟨drawn_mk (hs := []) (by repeat' (first | exact trivial | refine ⟨.inl rfl, ?_⟩ | refine ⟨.inr rfl, ?_⟩ | (refine ⟨.inr ?_, ?_⟩; (focus (simp only [app_app, List.cons_append, List.nil_append, len_app, List.length_cons, List.length_nil, len_lit, Nat.zero_add, Nat.reduceAdd]; done))))) (by kernel_rfl) ?_, ?_⟩)
    | with_reducible exact List.forall_mem_nil _
    | with_reducible refine List.forall_mem_cons.2 ⟨?_, ?_⟩
    | ((with_reducible apply stab_off); (focus (exact rfl)); (focus (exact rfl)))
    | ((with_reducible apply stab_mk); (focus (exact rfl)); (focus (exact rfl)); (focus (exact rfl)); (focus (exact rfl)))
    | (intro c' hc; cases c' <;> first | (cases hc; done) | (try simp only [HC, inB_it, inB_if] at hc))
    | (intro hc; first | (cases hc; done) | (try simp only [HC, inB_it, inB_if] at hc))
    | fail)
  apply Ev.loop (fun j e S' => ∃ i : Nat, e = mkE [(0, .ro 2 (l.map Kept.c)), (1, .ro 2 (l.map Kept.c)), (5, (.v (.int .i64 ((i : Int)))))] ∧ S' = S ∧ j = l.length - i ∧ (i ≤ l.length))
  · exact ⟨0, (k39_4 _).trans (by simp (disch := first | (intros; contradiction) | (as_aux_lemma => omega) | (as_aux_lemma => (simp only [LEN2]; first | done | omega)) | (as_aux_lemma => (simp only [LEN]; first | done | omega))) only [EV, TT, w, w0, fz, FX_mark, fl_Kept, ok_Kept, nr_Kept, lf_Kept, Kept.c, Nat.reduceEqDiff, Nat.reduceBeqDiff, Nat.reduceAdd, Nat.reduceMul, Nat.reduceLeDiff, Nat.reduceLT, reduceCtorEq, Int.reduceEq, Int.reduceNeg]; first | done | rfl | (congr <;> omega)), (by first | rfl | (simp only [app_app, List.cons_append, List.nil_append]; done)), rfl, (by first | omega | rfl | (simp; done))⟩
  rintro j e S' ⟨i, rfl, rfl, hj, hi⟩
  by_cases hli : (i : Int) < (l.length : Int)
  · have hlt : i < l.length := by omega
    repeat' (first
      | ((with_reducible apply EvO.off); (focus (exact rfl)); (focus (exact rfl))) | ((with_reducible apply EvT.off); (focus (exact rfl)); (focus (exact rfl)))
      | ((first | ((with_reducible apply EvO.call (vs := ?_)); (focus (exact rfl)); (focus (exact rfl))) | ((with_reducible apply EvT.call (vs := ?_)); (focus (exact rfl)); (focus (exact rfl))) | (with_reducible apply Cal.hd (ms := []) (p := ?_)) | ((with_reducible refine EvO.c1 (a := ?_) (S' := ?_) ?_ ?_ ?_); rotate_left 2; (focus (exact rfl))) | ((with_reducible refine EvO.c0 (a := ?_) (S' := ?_) ?_ ?_); rotate_left 2) | ((with_reducible apply EvO.cons); (focus (exact rfl))) | ((with_reducible refine EvT.c1 (a := ?_) (S' := ?_) ?_ ?_ ?_ ?_); rotate_left 2; (focus (exact rfl)); (focus (exact rfl))) | ((with_reducible refine EvT.c0 (a := ?_) (S' := ?_) ?_ ?_ ?_); rotate_left 2; (focus (exact rfl))) | ((with_reducible apply EvT.cons); (focus (exact rfl)); (focus (exact rfl))) | ((with_reducible apply EvO.guard); (focus (exact rfl)); (focus (exact rfl))) | ((with_reducible apply EvT.guard); (focus (exact rfl)); (focus (exact rfl))) | ((with_reducible refine Ev.cond (t := ?_) ?_ ?_ ?_); rotate_left) | skip); (focus ((with_reducible refine Eq.trans ?_ rfl); simp (disch := first | (intros; contradiction) | (as_aux_lemma => omega) | (as_aux_lemma => (simp only [LEN2]; first | done | omega)) | (as_aux_lemma => (simp only [LEN]; first | done | omega))) only [EV, TT, w, w0, fz, FX_mark, fl_Kept, ok_Kept, nr_Kept, lf_Kept, Kept.c, hli, bne_self_eq_false, beq_self_eq_true, Nat.reduceEqDiff, Nat.reduceBeqDiff, Nat.reduceAdd, Nat.reduceMul, Nat.reduceLeDiff, Nat.reduceLT, reduceCtorEq, Int.reduceEq, Int.reduceNeg, FIN, DP]; first | done | exact rfl)); try (focus (exact rfl)))
      | ((with_reducible apply CalH.mk); intro hd; first | exact c67 (hd := hd) (h0 := by first | assumption | omega | with_reducible rfl) (h1 := by first | assumption | omega | with_reducible rfl)  (hk := by omega))
      | (with_reducible (first | rintro r S' ⟨rfl, rfl⟩); refine ⟨_, rfl, ?_⟩)
      | with_reducible refine Ev.seq ?_
      | ((with_reducible refine Ev.regionH ?_); intro H)
      | with_reducible refine EvO.nil ?_
      | ((with_reducible apply regH_k); (focus (exact KIs.mk rfl)); (focus ((with_reducible apply EnvIs.mk); simp only [SE, Nat.reduceEqDiff, Nat.reduceAdd, reduceCtorEq]; first | done | exact rfl)); clear H)
      | exact KIs.mk rfl
      | with_reducible first | refine Ev.skip ?_ | refine Ev.ret ?_ | refine Ev.exit ?_ | refine Ev.block ?_ | refine thenQ_n ?_ | refine thenQ_x ?_ | refine thenQ_r ?_ | refine blockQ_n ?_ | refine blockQ_r ?_ | refine blockQ_x0 ?_ | refine roundQ_x ?_ | refine roundQ_r ?_
      | ((with_reducible refine endQ_r (vs := ?_) (vs' := ?_) (S₂ := ?_) ?_ ?_ ?_); rotate_left 3)
      | ((with_reducible refine blockQ_x1 ?_ ?_); exact rfl)
      | ((with_reducible refine Ev.drawnH ?_ ?_); (focus kernel_rfl); intro H)
      | ((with_reducible refine EvT.nil ?_); refine ⟨drawn_mk (hs := []) (by repeat' (first | exact trivial | refine ⟨.inl rfl, ?_⟩ | refine ⟨.inr rfl, ?_⟩ | (refine ⟨.inr ?_, ?_⟩; (focus (simp only [app_app, List.cons_append, List.nil_append, len_app, List.length_cons, List.length_nil, len_lit, Nat.zero_add, Nat.reduceAdd]; done))))) (by kernel_rfl) ?_, ?_⟩)
      | with_reducible exact List.forall_mem_nil _
      | with_reducible refine List.forall_mem_cons.2 ⟨?_, ?_⟩
      | ((with_reducible apply stab_off); (focus (exact rfl)); (focus (exact rfl)))
      | ((with_reducible apply stab_mk); (focus (exact rfl)); (focus (exact rfl)); (focus (exact rfl)); (focus (exact rfl)))
      | (intro c' hc; cases c' <;> first | (cases hc; done) | (try simp only [HC, inB_it, inB_if] at hc))
      | (intro hc; first | (cases hc; done) | (try simp only [HC, inB_it, inB_if] at hc))
      | fail)
    apply roundQ_m; refine ⟨_, ⟨i + 1, (k39_4 _).trans (by simp (disch := first | (intros; contradiction) | (as_aux_lemma => omega) | (as_aux_lemma => (simp only [LEN2]; first | done | omega)) | (as_aux_lemma => (simp only [LEN]; first | done | omega))) only [EV, TT, w, w0, fz, FX_mark, fl_Kept, ok_Kept, nr_Kept, lf_Kept, Kept.c, Nat.reduceEqDiff, Nat.reduceBeqDiff, Nat.reduceAdd, Nat.reduceMul, Nat.reduceLeDiff, Nat.reduceLT, reduceCtorEq, Int.reduceEq, Int.reduceNeg]; first | done | rfl | (congr <;> omega)), ?_, rfl, ?_⟩, ?_⟩
    · first | exact lpG_same | exact lpG_grow rfl | (refine (congrArg (fun K => lpG K _ _ _) (show _ = some _ from rfl)).trans (lpG_cut rfl ?_); simp [lowV, okC, mkE_at]; done) | (refine (congrArg (fun K => lpG K _ _ _) (show _ = some _ from rfl)).trans (lpG_mod rfl rfl ?_ ?_) <;> simp [lowV, okC, mkE_at, rowsAll_cons, rowsAll_nil, FX_mark, fl_Kept, ok_Kept, nr_Kept, lf_Kept, Kept.c]; done) | (refine (lpG_len ?_).trans ?_; (focus (simp only [len_app, List.length_cons, List.length_nil, List.length_set]; done)); first | rfl | (simp (disch := first | (intros; contradiction) | (as_aux_lemma => omega) | (as_aux_lemma => (simp only [LEN2]; first | done | omega)) | (as_aux_lemma => (simp only [LEN]; first | done | omega))) only [EV, TT, w, w0, fz, FX_mark, fl_Kept, ok_Kept, nr_Kept, lf_Kept, Kept.c, Nat.reduceEqDiff, Nat.reduceBeqDiff, Nat.reduceAdd, Nat.reduceMul, Nat.reduceLeDiff, Nat.reduceLT, reduceCtorEq, Int.reduceEq, Int.reduceNeg]; first | done | rfl)) | (refine (congrArg (fun K => lpG K _ _ _) (show _ = some _ from rfl)).trans (lpG_grow ?_); simp only [lowV, okC, EV, Nat.reduceEqDiff, Nat.reduceBeqDiff, Nat.reduceAdd, Nat.reduceMul, Nat.reduceLeDiff, Nat.reduceLT, reduceCtorEq, Int.reduceEq, Int.reduceNeg]; done)
    · first | omega | rfl | assumption | (simp; done)
    · omega
  · obtain rfl : i = l.length := by omega
    repeat' (first
      | ((with_reducible apply EvO.off); (focus (exact rfl)); (focus (exact rfl))) | ((with_reducible apply EvT.off); (focus (exact rfl)); (focus (exact rfl)))
      | ((first | ((with_reducible apply EvO.call (vs := ?_)); (focus (exact rfl)); (focus (exact rfl))) | ((with_reducible apply EvT.call (vs := ?_)); (focus (exact rfl)); (focus (exact rfl))) | (with_reducible apply Cal.hd (ms := []) (p := ?_)) | ((with_reducible refine EvO.c1 (a := ?_) (S' := ?_) ?_ ?_ ?_); rotate_left 2; (focus (exact rfl))) | ((with_reducible refine EvO.c0 (a := ?_) (S' := ?_) ?_ ?_); rotate_left 2) | ((with_reducible apply EvO.cons); (focus (exact rfl))) | ((with_reducible refine EvT.c1 (a := ?_) (S' := ?_) ?_ ?_ ?_ ?_); rotate_left 2; (focus (exact rfl)); (focus (exact rfl))) | ((with_reducible refine EvT.c0 (a := ?_) (S' := ?_) ?_ ?_ ?_); rotate_left 2; (focus (exact rfl))) | ((with_reducible apply EvT.cons); (focus (exact rfl)); (focus (exact rfl))) | ((with_reducible apply EvO.guard); (focus (exact rfl)); (focus (exact rfl))) | ((with_reducible apply EvT.guard); (focus (exact rfl)); (focus (exact rfl))) | ((with_reducible refine Ev.cond (t := ?_) ?_ ?_ ?_); rotate_left) | skip); (focus ((with_reducible refine Eq.trans ?_ rfl); simp (disch := first | (intros; contradiction) | (as_aux_lemma => omega) | (as_aux_lemma => (simp only [LEN2]; first | done | omega)) | (as_aux_lemma => (simp only [LEN]; first | done | omega))) only [EV, TT, w, w0, fz, FX_mark, fl_Kept, ok_Kept, nr_Kept, lf_Kept, Kept.c, hli, Nat.reduceEqDiff, Nat.reduceBeqDiff, Nat.reduceAdd, Nat.reduceMul, Nat.reduceLeDiff, Nat.reduceLT, reduceCtorEq, Int.reduceEq, Int.reduceNeg, FIN, DP]; first | done | exact rfl)); try (focus (exact rfl)))
      | ((with_reducible apply CalH.mk); intro hd; first | exact c67 (hd := hd) (h0 := by first | assumption | omega | with_reducible rfl) (h1 := by first | assumption | omega | with_reducible rfl)  (hk := by omega))
      | (with_reducible (first | rintro r S' ⟨rfl, rfl⟩); refine ⟨_, rfl, ?_⟩)
      | with_reducible refine Ev.seq ?_
      | ((with_reducible refine Ev.regionH ?_); intro H)
      | with_reducible refine EvO.nil ?_
      | ((with_reducible apply regH_k); (focus (exact KIs.mk rfl)); (focus ((with_reducible apply EnvIs.mk); simp only [SE, Nat.reduceEqDiff, Nat.reduceAdd, reduceCtorEq]; first | done | exact rfl)); clear H)
      | exact KIs.mk rfl
      | with_reducible first | refine Ev.skip ?_ | refine Ev.ret ?_ | refine Ev.exit ?_ | refine Ev.block ?_ | refine thenQ_n ?_ | refine thenQ_x ?_ | refine thenQ_r ?_ | refine blockQ_n ?_ | refine blockQ_r ?_ | refine blockQ_x0 ?_ | refine roundQ_x ?_ | refine roundQ_r ?_
      | ((with_reducible refine endQ_r (vs := ?_) (vs' := ?_) (S₂ := ?_) ?_ ?_ ?_); rotate_left 3)
      | ((with_reducible refine blockQ_x1 ?_ ?_); exact rfl)
      | ((with_reducible refine Ev.drawnH ?_ ?_); (focus kernel_rfl); intro H)
      | ((with_reducible refine EvT.nil ?_); refine ⟨drawn_mk (hs := []) (by repeat' (first | exact trivial | refine ⟨.inl rfl, ?_⟩ | refine ⟨.inr rfl, ?_⟩ | (refine ⟨.inr ?_, ?_⟩; (focus (simp only [app_app, List.cons_append, List.nil_append, len_app, List.length_cons, List.length_nil, len_lit, Nat.zero_add, Nat.reduceAdd]; done))))) (by kernel_rfl) ?_, ?_⟩)
      | with_reducible exact List.forall_mem_nil _
      | with_reducible refine List.forall_mem_cons.2 ⟨?_, ?_⟩
      | ((with_reducible apply stab_off); (focus (exact rfl)); (focus (exact rfl)))
      | ((with_reducible apply stab_mk); (focus (exact rfl)); (focus (exact rfl)); (focus (exact rfl)); (focus (exact rfl)))
      | (intro c' hc; cases c' <;> first | (cases hc; done) | (try simp only [HC, inB_it, inB_if] at hc))
      | (intro hc; first | (cases hc; done) | (try simp only [HC, inB_it, inB_if] at hc))
      | fail)
    exact ⟨rfl, rfl⟩
theorem c39_nn {k : Nat} {md : Md} {S : Store} {vs : List A} {D : List Nat}  (hd : dpArgs S [] vs = some ([.v (.slice none 0 0), .v (.slice none 0 0)], D))  (hk : 2 ≤ k) :
    Cal (run k) md 39 vs S (fun r S' => r = (.v (.bool (true))) ∧ S' = S) := by
  obtain ⟨k, rfl⟩ : ∃ j, k = j + 1 := ⟨k - 1, by omega⟩
  refine Cal.fn (n := 27) (rs := [.tmp 4]) (ids := []) (D := D) (Xof_none rfl) g39 (by delta Try.f39; exact rfl) (by delta Try.f39; exact rfl) (by delta Try.f39; exact rfl) hd (by first | rfl | simp [idsV, idsC]) (by simp) (by simp) ?_
  intro md' ow; have w := ow.w; have w0 := ow.w0; have fz : md'.fz = false := ow.fz
  repeat' (first
    | ((with_reducible apply EvO.off); (focus (exact rfl)); (focus (exact rfl))) | ((with_reducible apply EvT.off); (focus (exact rfl)); (focus (exact rfl)))
    | ((first | ((with_reducible apply EvO.call (vs := ?_)); (focus (exact rfl)); (focus (exact rfl))) | ((with_reducible apply EvT.call (vs := ?_)); (focus (exact rfl)); (focus (exact rfl))) | (with_reducible apply Cal.hd (ms := []) (p := ?_)) | ((with_reducible refine EvO.c1 (a := ?_) (S' := ?_) ?_ ?_ ?_); rotate_left 2; (focus (exact rfl))) | ((with_reducible refine EvO.c0 (a := ?_) (S' := ?_) ?_ ?_); rotate_left 2) | ((with_reducible apply EvO.cons); (focus (exact rfl))) | ((with_reducible refine EvT.c1 (a := ?_) (S' := ?_) ?_ ?_ ?_ ?_); rotate_left 2; (focus (exact rfl)); (focus (exact rfl))) | ((with_reducible refine EvT.c0 (a := ?_) (S' := ?_) ?_ ?_ ?_); rotate_left 2; (focus (exact rfl))) | ((with_reducible apply EvT.cons); (focus (exact rfl)); (focus (exact rfl))) | ((with_reducible apply EvO.guard); (focus (exact rfl)); (focus (exact rfl))) | ((with_reducible apply EvT.guard); (focus (exact rfl)); (focus (exact rfl))) | ((with_reducible refine Ev.cond (t := ?_) ?_ ?_ ?_); rotate_left) | skip); (focus ((with_reducible refine Eq.trans ?_ rfl); simp (disch := first | (intros; contradiction) | (as_aux_lemma => omega) | (as_aux_lemma => (simp only [LEN2]; first | done | omega)) | (as_aux_lemma => (simp only [LEN]; first | done | omega))) only [EV, TT, w, w0, fz, FX_mark, fl_Kept, ok_Kept, nr_Kept, lf_Kept, Kept.c, bne_self_eq_false, Nat.reduceEqDiff, Nat.reduceBeqDiff, Nat.reduceAdd, Nat.reduceMul, Nat.reduceLeDiff, Nat.reduceLT, reduceCtorEq, Int.reduceEq, Int.reduceNeg, FIN, DP]; first | done | exact rfl)); try (focus (exact rfl)))
    | ((with_reducible apply CalH.mk); intro hd; first | exact c67 (hd := hd) (h0 := by first | assumption | omega | with_reducible rfl) (h1 := by first | assumption | omega | with_reducible rfl)  (hk := by omega))
    | (with_reducible (first | rintro r S' ⟨rfl, rfl⟩); refine ⟨_, rfl, ?_⟩)
    | with_reducible refine Ev.seq ?_
    | ((with_reducible refine Ev.regionH ?_); intro H)
    | with_reducible refine EvO.nil ?_
    | ((with_reducible apply regH_k); (focus (exact KIs.mk rfl)); (focus ((with_reducible apply EnvIs.mk); simp only [SE, Nat.reduceEqDiff, Nat.reduceAdd, reduceCtorEq]; first | done | exact rfl)); clear H)
    | exact KIs.mk rfl
    | with_reducible first | refine Ev.skip ?_ | refine Ev.ret ?_ | refine Ev.exit ?_ | refine Ev.block ?_ | refine thenQ_n ?_ | refine thenQ_x ?_ | refine thenQ_r ?_ | refine blockQ_n ?_ | refine blockQ_r ?_ | refine blockQ_x0 ?_ | refine roundQ_x ?_ | refine roundQ_r ?_
    | ((with_reducible refine endQ_r (vs := ?_) (vs' := ?_) (S₂ := ?_) ?_ ?_ ?_); rotate_left 3)
    | ((with_reducible refine blockQ_x1 ?_ ?_); exact rfl)
    | ((with_reducible refine Ev.drawnH ?_ ?_); (focus kernel_rfl); intro H)
    | ((with_reducible refine EvT.nil ?_); refine ⟨drawn_mk (hs := []) (by repeat' (first | exact trivial | refine ⟨.inl rfl, ?_⟩ | refine ⟨.inr rfl, ?_⟩ | (refine ⟨.inr ?_, ?_⟩; (focus (simp only [app_app, List.cons_append, List.nil_append, len_app, List.length_cons, List.length_nil, len_lit, Nat.zero_add, Nat.reduceAdd]; done))))) (by kernel_rfl) ?_, ?_⟩)
    | with_reducible exact List.forall_mem_nil _
    | with_reducible refine List.forall_mem_cons.2 ⟨?_, ?_⟩
    | ((with_reducible apply stab_off); (focus (exact rfl)); (focus (exact rfl)))
    | ((with_reducible apply stab_mk); (focus (exact rfl)); (focus (exact rfl)); (focus (exact rfl)); (focus (exact rfl)))
    | (intro c' hc; cases c' <;> first | (cases hc; done) | (try simp only [HC, inB_it, inB_if] at hc))
    | (intro hc; first | (cases hc; done) | (try simp only [HC, inB_it, inB_if] at hc))
    | fail)
  apply Ev.loop (fun j e S' => ∃ i : Nat, e = mkE [(0, .v (.slice none 0 0)), (1, .v (.slice none 0 0)), (5, (.v (.int .i64 ((i : Int)))))] ∧ S' = S ∧ j = 0 ∧ (i = 0))
  · exact ⟨0, (k39_4 _).trans (by simp (disch := first | (intros; contradiction) | (as_aux_lemma => omega) | (as_aux_lemma => (simp only [LEN2]; first | done | omega)) | (as_aux_lemma => (simp only [LEN]; first | done | omega))) only [EV, TT, w, w0, fz, FX_mark, fl_Kept, ok_Kept, nr_Kept, lf_Kept, Kept.c, Nat.reduceEqDiff, Nat.reduceBeqDiff, Nat.reduceAdd, Nat.reduceMul, Nat.reduceLeDiff, Nat.reduceLT, reduceCtorEq, Int.reduceEq, Int.reduceNeg]; first | done | rfl | (congr <;> omega)), (by first | rfl | (simp only [app_app, List.cons_append, List.nil_append]; done)), rfl, (by first | omega | rfl | (simp; done))⟩
  rintro j e S' ⟨i, rfl, rfl, hj, hi⟩
  subst hi
  repeat' (first
    | ((with_reducible apply EvO.off); (focus (exact rfl)); (focus (exact rfl))) | ((with_reducible apply EvT.off); (focus (exact rfl)); (focus (exact rfl)))
    | ((first | ((with_reducible apply EvO.call (vs := ?_)); (focus (exact rfl)); (focus (exact rfl))) | ((with_reducible apply EvT.call (vs := ?_)); (focus (exact rfl)); (focus (exact rfl))) | (with_reducible apply Cal.hd (ms := []) (p := ?_)) | ((with_reducible refine EvO.c1 (a := ?_) (S' := ?_) ?_ ?_ ?_); rotate_left 2; (focus (exact rfl))) | ((with_reducible refine EvO.c0 (a := ?_) (S' := ?_) ?_ ?_); rotate_left 2) | ((with_reducible apply EvO.cons); (focus (exact rfl))) | ((with_reducible refine EvT.c1 (a := ?_) (S' := ?_) ?_ ?_ ?_ ?_); rotate_left 2; (focus (exact rfl)); (focus (exact rfl))) | ((with_reducible refine EvT.c0 (a := ?_) (S' := ?_) ?_ ?_ ?_); rotate_left 2; (focus (exact rfl))) | ((with_reducible apply EvT.cons); (focus (exact rfl)); (focus (exact rfl))) | ((with_reducible apply EvO.guard); (focus (exact rfl)); (focus (exact rfl))) | ((with_reducible apply EvT.guard); (focus (exact rfl)); (focus (exact rfl))) | ((with_reducible refine Ev.cond (t := ?_) ?_ ?_ ?_); rotate_left) | skip); (focus ((with_reducible refine Eq.trans ?_ rfl); simp (disch := first | (intros; contradiction) | (as_aux_lemma => omega) | (as_aux_lemma => (simp only [LEN2]; first | done | omega)) | (as_aux_lemma => (simp only [LEN]; first | done | omega))) only [EV, TT, w, w0, fz, FX_mark, fl_Kept, ok_Kept, nr_Kept, lf_Kept, Kept.c, Nat.reduceEqDiff, Nat.reduceBeqDiff, Nat.reduceAdd, Nat.reduceMul, Nat.reduceLeDiff, Nat.reduceLT, reduceCtorEq, Int.reduceEq, Int.reduceNeg, FIN, DP]; first | done | exact rfl)); try (focus (exact rfl)))
    | ((with_reducible apply CalH.mk); intro hd; first | exact c67 (hd := hd) (h0 := by first | assumption | omega | with_reducible rfl) (h1 := by first | assumption | omega | with_reducible rfl)  (hk := by omega))
    | (with_reducible (first | rintro r S' ⟨rfl, rfl⟩); refine ⟨_, rfl, ?_⟩)
    | with_reducible refine Ev.seq ?_
    | ((with_reducible refine Ev.regionH ?_); intro H)
    | with_reducible refine EvO.nil ?_
    | ((with_reducible apply regH_k); (focus (exact KIs.mk rfl)); (focus ((with_reducible apply EnvIs.mk); simp only [SE, Nat.reduceEqDiff, Nat.reduceAdd, reduceCtorEq]; first | done | exact rfl)); clear H)
    | exact KIs.mk rfl
    | with_reducible first | refine Ev.skip ?_ | refine Ev.ret ?_ | refine Ev.exit ?_ | refine Ev.block ?_ | refine thenQ_n ?_ | refine thenQ_x ?_ | refine thenQ_r ?_ | refine blockQ_n ?_ | refine blockQ_r ?_ | refine blockQ_x0 ?_ | refine roundQ_x ?_ | refine roundQ_r ?_
    | ((with_reducible refine endQ_r (vs := ?_) (vs' := ?_) (S₂ := ?_) ?_ ?_ ?_); rotate_left 3)
    | ((with_reducible refine blockQ_x1 ?_ ?_); exact rfl)
    | ((with_reducible refine Ev.drawnH ?_ ?_); (focus kernel_rfl); intro H)
    | ((with_reducible refine EvT.nil ?_); refine ⟨drawn_mk (hs := []) (by repeat' (first | exact trivial | refine ⟨.inl rfl, ?_⟩ | refine ⟨.inr rfl, ?_⟩ | (refine ⟨.inr ?_, ?_⟩; (focus (simp only [app_app, List.cons_append, List.nil_append, len_app, List.length_cons, List.length_nil, len_lit, Nat.zero_add, Nat.reduceAdd]; done))))) (by kernel_rfl) ?_, ?_⟩)
    | with_reducible exact List.forall_mem_nil _
    | with_reducible refine List.forall_mem_cons.2 ⟨?_, ?_⟩
    | ((with_reducible apply stab_off); (focus (exact rfl)); (focus (exact rfl)))
    | ((with_reducible apply stab_mk); (focus (exact rfl)); (focus (exact rfl)); (focus (exact rfl)); (focus (exact rfl)))
    | (intro c' hc; cases c' <;> first | (cases hc; done) | (try simp only [HC, inB_it, inB_if] at hc))
    | (intro hc; first | (cases hc; done) | (try simp only [HC, inB_it, inB_if] at hc))
    | fail)
  exact ⟨rfl, rfl⟩
theorem k41_2 (e : Env) : lpE (FI.K ⟨[true], false, [(2, [0, 1, 5]), (1000, [0, 1]), (1001, [0, 1, 5]), (1002, [0, 1, 5, 9]), (1003, [0, 1, 5]), (1004, [0, 1, 5]), (1005, [0, 1, 5]), (1006, [0, 1, 5]), (1007, [0, 1, 5]), (1008, [4])]⟩ 2) e = mkE [(0, e 0), (1, e 1), (5, e 5)] := rfl
theorem c41_nil {k : Nat} {md : Md} {S : Store} {vs : List A} {D : List Nat} {x : Int} (hd : dpArgs S [true] vs = some ([.v (.slice none 0 0), (.v (.int .i64 (x)))], D))  (hk : 1 ≤ k) :
    Cal (run k) md 41 vs S (fun r S' => r = (.v (.int .i64 (x))) ∧ S' = S) := by
  obtain ⟨k, rfl⟩ : ∃ j, k = j + 1 := ⟨k - 1, by omega⟩
  refine Cal.fn (n := 27) (rs := [.tmp 4]) (ids := []) (D := D) (Xof_none rfl) g41 (by delta Try.f41; exact rfl) (by delta Try.f41; exact rfl) (by delta Try.f41; exact rfl) hd (by first | rfl | simp [idsV, idsC]) (by simp) (by simp) ?_
  intro md' ow; have w := ow.w; have w0 := ow.w0; have fz : md'.fz = false := ow.fz
  repeat' (first
    | ((with_reducible apply EvO.off); (focus (exact rfl)); (focus (exact rfl)))
    | ((first | ((with_reducible refine EvO.c1 (a := ?_) (S' := ?_) ?_ ?_ ?_); rotate_left 2; (focus (exact rfl))) | ((with_reducible refine EvO.c0 (a := ?_) (S' := ?_) ?_ ?_); rotate_left 2) | ((with_reducible apply EvO.cons); (focus (exact rfl))) | ((with_reducible apply EvO.guard); (focus (exact rfl)); (focus (exact rfl))) | ((with_reducible refine Ev.cond (t := ?_) ?_ ?_ ?_); rotate_left) | skip); (focus ((with_reducible refine Eq.trans ?_ rfl); simp (disch := first | (intros; contradiction) | (as_aux_lemma => omega) | (as_aux_lemma => (simp only [LEN2]; first | done | omega)) | (as_aux_lemma => (simp only [LEN]; first | done | omega))) only [EV, TT, w, w0, fz, FX_mark, fl_Kept, ok_Kept, nr_Kept, lf_Kept, Kept.c, Nat.reduceEqDiff, Nat.reduceBeqDiff, Nat.reduceAdd, Nat.reduceMul, Nat.reduceLeDiff, Nat.reduceLT, reduceCtorEq, Int.reduceEq, Int.reduceNeg, FIN, DP]; first | done | exact rfl)); try (focus (exact rfl)))
    | with_reducible refine Ev.seq ?_
    | ((with_reducible refine Ev.regionH ?_); intro H)
    | with_reducible refine EvO.nil ?_
    | ((with_reducible apply regH_k); (focus (exact KIs.mk rfl)); (focus ((with_reducible apply EnvIs.mk); simp only [SE, Nat.reduceEqDiff, Nat.reduceAdd, reduceCtorEq]; first | done | exact rfl)); clear H)
    | exact KIs.mk rfl
    | with_reducible first | refine Ev.skip ?_ | refine Ev.ret ?_ | refine Ev.exit ?_ | refine Ev.block ?_ | refine thenQ_n ?_ | refine thenQ_x ?_ | refine thenQ_r ?_ | refine blockQ_n ?_ | refine blockQ_r ?_ | refine blockQ_x0 ?_ | refine roundQ_x ?_ | refine roundQ_r ?_
    | ((with_reducible refine endQ_r (vs := ?_) (vs' := ?_) (S₂ := ?_) ?_ ?_ ?_); rotate_left 3)
    | ((with_reducible refine blockQ_x1 ?_ ?_); exact rfl)
    | (intro c' hc; cases c' <;> first | (cases hc; done) | (try simp only [HC, inB_it, inB_if] at hc))
    | (intro hc; first | (cases hc; done) | (try simp only [HC, inB_it, inB_if] at hc))
    | fail)
  apply Ev.loop (fun j e S' => ∃ i : Nat, e = mkE [(0, .v (.slice none 0 0)), (1, (.v (.int .i64 (x)))), (5, (.v (.int .i64 ((i : Int)))))] ∧ S' = S ∧ j = 0 ∧ (i = 0))
  · exact ⟨0, (k41_2 _).trans (by simp (disch := first | (intros; contradiction) | (as_aux_lemma => omega) | (as_aux_lemma => (simp only [LEN2]; first | done | omega)) | (as_aux_lemma => (simp only [LEN]; first | done | omega))) only [EV, TT, w, w0, fz, FX_mark, fl_Kept, ok_Kept, nr_Kept, lf_Kept, Kept.c, Nat.reduceEqDiff, Nat.reduceBeqDiff, Nat.reduceAdd, Nat.reduceMul, Nat.reduceLeDiff, Nat.reduceLT, reduceCtorEq, Int.reduceEq, Int.reduceNeg]; first | done | rfl | (congr <;> omega)), (by first | rfl | (simp only [app_app, List.cons_append, List.nil_append]; done)), rfl, (by first | omega | rfl | (simp; done))⟩
  rintro j e S' ⟨i, rfl, rfl, hj, hi⟩
  subst hi
  repeat' (first
    | ((with_reducible apply EvO.off); (focus (exact rfl)); (focus (exact rfl)))
    | ((first | ((with_reducible refine EvO.c1 (a := ?_) (S' := ?_) ?_ ?_ ?_); rotate_left 2; (focus (exact rfl))) | ((with_reducible refine EvO.c0 (a := ?_) (S' := ?_) ?_ ?_); rotate_left 2) | ((with_reducible apply EvO.cons); (focus (exact rfl))) | ((with_reducible apply EvO.guard); (focus (exact rfl)); (focus (exact rfl))) | ((with_reducible refine Ev.cond (t := ?_) ?_ ?_ ?_); rotate_left) | skip); (focus ((with_reducible refine Eq.trans ?_ rfl); simp (disch := first | (intros; contradiction) | (as_aux_lemma => omega) | (as_aux_lemma => (simp only [LEN2]; first | done | omega)) | (as_aux_lemma => (simp only [LEN]; first | done | omega))) only [EV, TT, w, w0, fz, FX_mark, fl_Kept, ok_Kept, nr_Kept, lf_Kept, Kept.c, Nat.reduceEqDiff, Nat.reduceBeqDiff, Nat.reduceAdd, Nat.reduceMul, Nat.reduceLeDiff, Nat.reduceLT, reduceCtorEq, Int.reduceEq, Int.reduceNeg, FIN, DP]; first | done | exact rfl)); try (focus (exact rfl)))
    | with_reducible refine Ev.seq ?_
    | ((with_reducible refine Ev.regionH ?_); intro H)
    | with_reducible refine EvO.nil ?_
    | ((with_reducible apply regH_k); (focus (exact KIs.mk rfl)); (focus ((with_reducible apply EnvIs.mk); simp only [SE, Nat.reduceEqDiff, Nat.reduceAdd, reduceCtorEq]; first | done | exact rfl)); clear H)
    | exact KIs.mk rfl
    | with_reducible first | refine Ev.skip ?_ | refine Ev.ret ?_ | refine Ev.exit ?_ | refine Ev.block ?_ | refine thenQ_n ?_ | refine thenQ_x ?_ | refine thenQ_r ?_ | refine blockQ_n ?_ | refine blockQ_r ?_ | refine blockQ_x0 ?_ | refine roundQ_x ?_ | refine roundQ_r ?_
    | ((with_reducible refine endQ_r (vs := ?_) (vs' := ?_) (S₂ := ?_) ?_ ?_ ?_); rotate_left 3)
    | ((with_reducible refine blockQ_x1 ?_ ?_); exact rfl)
    | (intro c' hc; cases c' <;> first | (cases hc; done) | (try simp only [HC, inB_it, inB_if] at hc))
    | (intro hc; first | (cases hc; done) | (try simp only [HC, inB_it, inB_if] at hc))
    | fail)
  exact ⟨rfl, rfl⟩
theorem k43_2 (e : Env) : lpE (FI.K ⟨[], false, [(2, [0, 1, 5]), (1000, [0, 1]), (1001, [0, 1, 5]), (1002, [0, 1, 5, 9]), (1003, [0, 1, 5]), (1004, [0, 1, 5, 18]), (1005, [4]), (1006, [0, 1, 5]), (1007, [0, 1, 5, 27]), (1008, [4]), (1009, [0, 1, 5]), (1010, [4])]⟩ 2) e = mkE [(0, e 0), (1, e 1), (5, e 5)] := rfl
theorem c43_nil {k : Nat} {md : Md} {S : Store} {vs : List A} {D : List Nat} {x : Int} (hd : dpArgs S [] vs = some ([.v (.slice none 0 0), (.v (.int .i64 (x)))], D))  (hk : 1 ≤ k) :
    Cal (run k) md 43 vs S (fun r S' => r = (.v (.int .i64 (x))) ∧ S' = S) := by
  obtain ⟨k, rfl⟩ : ∃ j, k = j + 1 := ⟨k - 1, by omega⟩
  refine Cal.fn (n := 31) (rs := [.tmp 4]) (ids := []) (D := D) (Xof_none rfl) g43 (by delta Try.f43; exact rfl) (by delta Try.f43; exact rfl) (by delta Try.f43; exact rfl) hd (by first | rfl | simp [idsV, idsC]) (by simp) (by simp) ?_
  intro md' ow; have w := ow.w; have w0 := ow.w0; have fz : md'.fz = false := ow.fz
  repeat' (first
    | ((with_reducible apply EvO.off); (focus (exact rfl)); (focus (exact rfl)))
    | ((first | ((with_reducible refine EvO.c1 (a := ?_) (S' := ?_) ?_ ?_ ?_); rotate_left 2; (focus (exact rfl))) | ((with_reducible refine EvO.c0 (a := ?_) (S' := ?_) ?_ ?_); rotate_left 2) | ((with_reducible apply EvO.cons); (focus (exact rfl))) | ((with_reducible apply EvO.guard); (focus (exact rfl)); (focus (exact rfl))) | ((with_reducible refine Ev.cond (t := ?_) ?_ ?_ ?_); rotate_left) | skip); (focus ((with_reducible refine Eq.trans ?_ rfl); simp (disch := first | (intros; contradiction) | (as_aux_lemma => omega) | (as_aux_lemma => (simp only [LEN2]; first | done | omega)) | (as_aux_lemma => (simp only [LEN]; first | done | omega))) only [EV, TT, w, w0, fz, FX_mark, fl_Kept, ok_Kept, nr_Kept, lf_Kept, Kept.c, Nat.reduceEqDiff, Nat.reduceBeqDiff, Nat.reduceAdd, Nat.reduceMul, Nat.reduceLeDiff, Nat.reduceLT, reduceCtorEq, Int.reduceEq, Int.reduceNeg, FIN, DP]; first | done | exact rfl)); try (focus (exact rfl)))
    | with_reducible refine Ev.seq ?_
    | ((with_reducible refine Ev.regionH ?_); intro H)
    | with_reducible refine EvO.nil ?_
    | ((with_reducible apply regH_k); (focus (exact KIs.mk rfl)); (focus ((with_reducible apply EnvIs.mk); simp only [SE, Nat.reduceEqDiff, Nat.reduceAdd, reduceCtorEq]; first | done | exact rfl)); clear H)
    | exact KIs.mk rfl
    | with_reducible first | refine Ev.skip ?_ | refine Ev.ret ?_ | refine Ev.exit ?_ | refine Ev.block ?_ | refine thenQ_n ?_ | refine thenQ_x ?_ | refine thenQ_r ?_ | refine blockQ_n ?_ | refine blockQ_r ?_ | refine blockQ_x0 ?_ | refine roundQ_x ?_ | refine roundQ_r ?_
    | ((with_reducible refine endQ_r (vs := ?_) (vs' := ?_) (S₂ := ?_) ?_ ?_ ?_); rotate_left 3)
    | ((with_reducible refine blockQ_x1 ?_ ?_); exact rfl)
    | (intro c' hc; cases c' <;> first | (cases hc; done) | (try simp only [HC, inB_it, inB_if] at hc))
    | (intro hc; first | (cases hc; done) | (try simp only [HC, inB_it, inB_if] at hc))
    | fail)
  apply Ev.loop (fun j e S' => ∃ i : Nat, e = mkE [(0, .v (.slice none 0 0)), (1, (.v (.int .i64 (x)))), (5, (.v (.int .i64 ((i : Int)))))] ∧ S' = S ∧ j = 0 ∧ (i = 0))
  · exact ⟨0, (k43_2 _).trans (by simp (disch := first | (intros; contradiction) | (as_aux_lemma => omega) | (as_aux_lemma => (simp only [LEN2]; first | done | omega)) | (as_aux_lemma => (simp only [LEN]; first | done | omega))) only [EV, TT, w, w0, fz, FX_mark, fl_Kept, ok_Kept, nr_Kept, lf_Kept, Kept.c, Nat.reduceEqDiff, Nat.reduceBeqDiff, Nat.reduceAdd, Nat.reduceMul, Nat.reduceLeDiff, Nat.reduceLT, reduceCtorEq, Int.reduceEq, Int.reduceNeg]; first | done | rfl | (congr <;> omega)), (by first | rfl | (simp only [app_app, List.cons_append, List.nil_append]; done)), rfl, (by first | omega | rfl | (simp; done))⟩
  rintro j e S' ⟨i, rfl, rfl, hj, hi⟩
  subst hi
  repeat' (first
    | ((with_reducible apply EvO.off); (focus (exact rfl)); (focus (exact rfl)))
    | ((first | ((with_reducible refine EvO.c1 (a := ?_) (S' := ?_) ?_ ?_ ?_); rotate_left 2; (focus (exact rfl))) | ((with_reducible refine EvO.c0 (a := ?_) (S' := ?_) ?_ ?_); rotate_left 2) | ((with_reducible apply EvO.cons); (focus (exact rfl))) | ((with_reducible apply EvO.guard); (focus (exact rfl)); (focus (exact rfl))) | ((with_reducible refine Ev.cond (t := ?_) ?_ ?_ ?_); rotate_left) | skip); (focus ((with_reducible refine Eq.trans ?_ rfl); simp (disch := first | (intros; contradiction) | (as_aux_lemma => omega) | (as_aux_lemma => (simp only [LEN2]; first | done | omega)) | (as_aux_lemma => (simp only [LEN]; first | done | omega))) only [EV, TT, w, w0, fz, FX_mark, fl_Kept, ok_Kept, nr_Kept, lf_Kept, Kept.c, Nat.reduceEqDiff, Nat.reduceBeqDiff, Nat.reduceAdd, Nat.reduceMul, Nat.reduceLeDiff, Nat.reduceLT, reduceCtorEq, Int.reduceEq, Int.reduceNeg, FIN, DP]; first | done | exact rfl)); try (focus (exact rfl)))
    | with_reducible refine Ev.seq ?_
    | ((with_reducible refine Ev.regionH ?_); intro H)
    | with_reducible refine EvO.nil ?_
    | ((with_reducible apply regH_k); (focus (exact KIs.mk rfl)); (focus ((with_reducible apply EnvIs.mk); simp only [SE, Nat.reduceEqDiff, Nat.reduceAdd, reduceCtorEq]; first | done | exact rfl)); clear H)
    | exact KIs.mk rfl
    | with_reducible first | refine Ev.skip ?_ | refine Ev.ret ?_ | refine Ev.exit ?_ | refine Ev.block ?_ | refine thenQ_n ?_ | refine thenQ_x ?_ | refine thenQ_r ?_ | refine blockQ_n ?_ | refine blockQ_r ?_ | refine blockQ_x0 ?_ | refine roundQ_x ?_ | refine roundQ_r ?_
    | ((with_reducible refine endQ_r (vs := ?_) (vs' := ?_) (S₂ := ?_) ?_ ?_ ?_); rotate_left 3)
    | ((with_reducible refine blockQ_x1 ?_ ?_); exact rfl)
    | (intro c' hc; cases c' <;> first | (cases hc; done) | (try simp only [HC, inB_it, inB_if] at hc))
    | (intro hc; first | (cases hc; done) | (try simp only [HC, inB_it, inB_if] at hc))
    | fail)
  exact ⟨rfl, rfl⟩
def mkKept (x : Int) (m : Nat) : List Kept := (List.range m).map fun (i : Nat) => ⟨(x + 2 * (i : Int)), (x + 2 * (i : Int) + 1)⟩
theorem mkKept_len (x : Int) (m : Nat) : (mkKept x m).length = m := by simp [mkKept]
theorem mkKept_get (x : Int) {m i : Nat} (h : i < m) : (List.map Kept.c (mkKept x m))[i]? = some (Kept.c ⟨(x + 2 * (i : Int)), (x + 2 * (i : Int) + 1)⟩) := by simp [mkKept, h]
theorem mkKept_pre (x : Int) (l : List Kept) {i : Nat} (h : i ≤ l.length) : (mkKept x i ++ l.drop i).length = l.length := by simp [mkKept]; omega
theorem mkKept_at (x : Int) (l : List Kept) {i : Nat} (h : i < l.length) : (mkKept x i ++ l.drop i)[i]? = some l[i] := by rw [List.getElem?_append_right (by simp [mkKept])]; simp [mkKept, h]
theorem mkKept_step (x : Int) (l : List Kept) (i : Nat) (h : i < l.length) : (List.map Kept.c (mkKept x i ++ l.drop i)).set i (Kept.c ⟨(x + 2 * (i : Int)), (x + 2 * (i : Int) + 1)⟩) = List.map Kept.c (mkKept x (i + 1) ++ l.drop (i + 1)) := by
  rw [← List.map_set]
  congr 1
  rw [List.set_append, if_neg (by simp [mkKept]), show (mkKept x i).length = i by simp [mkKept], Nat.sub_self, List.drop_eq_getElem_cons h, List.set_cons_zero, mkKept, mkKept, List.range_succ, List.map_append, List.append_assoc]
  rfl
theorem tk_mkKept (x : Int) (m : Nat) : List.take m (List.map Kept.c (mkKept x m)) = List.map Kept.c (mkKept x m) := List.take_of_length_le (by simp [mkKept])
theorem c41 {k : Nat} {md : Md} {S : Store} {vs : List A} {D : List Nat} {id : Nat} {l : List Kept} {x : Int} (hd : dpArgs S [true] vs = some ([.sl id 0 l.length l.length, (.v (.int .i64 (x)))], D)) (hD : (D.all fun i => !([id] : List Nat).contains i) = true) (hx : 0 ≤ x ∧ x ≤ 16777216) (hn : l.length ≤ 1048576) (hid : S[id]? = some ⟨2, l.map Kept.c, 0, false⟩) (hw : md.wr id = true) (hk : 1 ≤ k) :
    Cal (run k) md 41 vs S (fun r S' => r = (.v (.int .i64 (x + 2 * l.length))) ∧ S' = S.set id ⟨2, (mkKept x l.length).map Kept.c, 0, false⟩) := by
  obtain ⟨k, rfl⟩ : ∃ j, k = j + 1 := ⟨k - 1, by omega⟩
  refine Cal.fn (n := 27) (rs := [.tmp 4]) (ids := [id]) (D := D) (Xof_none rfl) g41 (by delta Try.f41; exact rfl) (by delta Try.f41; exact rfl) (by delta Try.f41; exact rfl) hd (by first | rfl | simp [idsV, idsC]) hD (by simp) ?_
  intro md' ow; have w := ow.w; have w0 := ow.w0; have fz : md'.fz = false := ow.fz
  have hlt0 := (List.getElem?_eq_some_iff.1 hid).1
  have wi := ow.old id (by simp) hw
  repeat' (first
    | ((with_reducible apply EvO.off); (focus (exact rfl)); (focus (exact rfl)))
    | ((first | ((with_reducible refine EvO.c1 (a := ?_) (S' := ?_) ?_ ?_ ?_); rotate_left 2; (focus (exact rfl))) | ((with_reducible refine EvO.c0 (a := ?_) (S' := ?_) ?_ ?_); rotate_left 2) | ((with_reducible apply EvO.cons); (focus (exact rfl))) | ((with_reducible apply EvO.guard); (focus (exact rfl)); (focus (exact rfl))) | ((with_reducible refine Ev.cond (t := ?_) ?_ ?_ ?_); rotate_left) | skip); (focus ((with_reducible refine Eq.trans ?_ rfl); simp (disch := first | (intros; contradiction) | (as_aux_lemma => omega) | (as_aux_lemma => (simp only [LEN2]; first | done | omega)) | (as_aux_lemma => (simp only [LEN]; first | done | omega))) only [EV, TT, EVM, w, w0, fz, FX_mark, fl_Kept, ok_Kept, nr_Kept, lf_Kept, Kept.c, tk_mkKept, mkKept_len, Nat.reduceEqDiff, Nat.reduceBeqDiff, Nat.reduceAdd, Nat.reduceMul, Nat.reduceLeDiff, Nat.reduceLT, reduceCtorEq, Int.reduceEq, Int.reduceNeg, FIN, DP]; first | done | exact rfl)); try (focus (exact rfl)))
    | with_reducible refine Ev.seq ?_
    | ((with_reducible refine Ev.regionH ?_); intro H)
    | with_reducible refine EvO.nil ?_
    | ((with_reducible apply regH_k); (focus (exact KIs.mk rfl)); (focus ((with_reducible apply EnvIs.mk); simp only [SE, Nat.reduceEqDiff, Nat.reduceAdd, reduceCtorEq]; first | done | exact rfl)); clear H)
    | exact KIs.mk rfl
    | with_reducible first | refine Ev.skip ?_ | refine Ev.ret ?_ | refine Ev.exit ?_ | refine Ev.block ?_ | refine thenQ_n ?_ | refine thenQ_x ?_ | refine thenQ_r ?_ | refine blockQ_n ?_ | refine blockQ_r ?_ | refine blockQ_x0 ?_ | refine roundQ_x ?_ | refine roundQ_r ?_
    | ((with_reducible refine endQ_r (vs := ?_) (vs' := ?_) (S₂ := ?_) ?_ ?_ ?_); rotate_left 3)
    | ((with_reducible refine blockQ_x1 ?_ ?_); exact rfl)
    | (intro c' hc; cases c' <;> first | (cases hc; done) | (try simp only [HC, inB_it, inB_if] at hc))
    | (intro hc; first | (cases hc; done) | (try simp only [HC, inB_it, inB_if] at hc))
    | fail)
  apply Ev.loop (fun j e S' => ∃ i : Nat, e = mkE [(0, .sl id 0 l.length l.length), (1, (.v (.int .i64 (x + 2 * (i : Int))))), (5, (.v (.int .i64 ((i : Int)))))] ∧ S' = S.set id ⟨2, (mkKept x i ++ l.drop i).map Kept.c, 0, false⟩ ∧ j = l.length - i ∧ (i ≤ l.length))
  · exact ⟨0, (k41_2 _).trans (by simp (disch := first | (intros; contradiction) | (as_aux_lemma => omega) | (as_aux_lemma => (simp only [LEN2]; first | done | omega)) | (as_aux_lemma => (simp only [LEN]; first | done | omega))) only [EV, TT, w, w0, fz, FX_mark, fl_Kept, ok_Kept, nr_Kept, lf_Kept, Kept.c, tk_mkKept, mkKept_len, Nat.reduceEqDiff, Nat.reduceBeqDiff, Nat.reduceAdd, Nat.reduceMul, Nat.reduceLeDiff, Nat.reduceLT, reduceCtorEq, Int.reduceEq, Int.reduceNeg]; first | done | rfl | (congr <;> omega)), (by rw [show mkKept x 0 ++ l.drop 0 = l by simp [mkKept]]; exact (set_self hid).symm), rfl, (by omega)⟩
  rintro j e S' ⟨i, rfl, rfl, hj, hi⟩
  have hml := mkKept_pre x l hi
  by_cases hli : (i : Int) < (l.length : Int)
  · have hlt : i < l.length := by omega
    have hg := mkKept_at x l hlt
    repeat' (first
      | ((with_reducible apply EvO.off); (focus (exact rfl)); (focus (exact rfl)))
      | ((first | ((with_reducible refine EvO.c1 (a := ?_) (S' := ?_) ?_ ?_ ?_); rotate_left 2; (focus (exact rfl))) | ((with_reducible refine EvO.c0 (a := ?_) (S' := ?_) ?_ ?_); rotate_left 2) | ((with_reducible apply EvO.cons); (focus (exact rfl))) | ((with_reducible apply EvO.guard); (focus (exact rfl)); (focus (exact rfl))) | ((with_reducible refine Ev.cond (t := ?_) ?_ ?_ ?_); rotate_left) | skip); (focus ((with_reducible refine Eq.trans ?_ rfl); simp (disch := first | (intros; contradiction) | (as_aux_lemma => omega) | (as_aux_lemma => (simp only [LEN2]; first | done | omega)) | (as_aux_lemma => (simp only [LEN]; first | done | omega))) only [EV, TT, EVM, w, w0, fz, FX_mark, fl_Kept, ok_Kept, nr_Kept, lf_Kept, Kept.c, tk_mkKept, mkKept_len, hli, wi, hlt, hlt0, List.getElem?_set_self, List.set_set, List.length_set, hml, hg, List.getElem?_map, Nat.reduceEqDiff, Nat.reduceBeqDiff, Nat.reduceAdd, Nat.reduceMul, Nat.reduceLeDiff, Nat.reduceLT, reduceCtorEq, Int.reduceEq, Int.reduceNeg, FIN, DP]; first | done | exact rfl)); try (focus (exact rfl)))
      | with_reducible refine Ev.seq ?_
      | ((with_reducible refine Ev.regionH ?_); intro H)
      | with_reducible refine EvO.nil ?_
      | ((with_reducible apply regH_k); (focus (exact KIs.mk rfl)); (focus ((with_reducible apply EnvIs.mk); simp only [SE, Nat.reduceEqDiff, Nat.reduceAdd, reduceCtorEq]; first | done | exact rfl)); clear H)
      | exact KIs.mk rfl
      | with_reducible first | refine Ev.skip ?_ | refine Ev.ret ?_ | refine Ev.exit ?_ | refine Ev.block ?_ | refine thenQ_n ?_ | refine thenQ_x ?_ | refine thenQ_r ?_ | refine blockQ_n ?_ | refine blockQ_r ?_ | refine blockQ_x0 ?_ | refine roundQ_x ?_ | refine roundQ_r ?_
      | ((with_reducible refine endQ_r (vs := ?_) (vs' := ?_) (S₂ := ?_) ?_ ?_ ?_); rotate_left 3)
      | ((with_reducible refine blockQ_x1 ?_ ?_); exact rfl)
      | (intro c' hc; cases c' <;> first | (cases hc; done) | (try simp only [HC, inB_it, inB_if] at hc))
      | (intro hc; first | (cases hc; done) | (try simp only [HC, inB_it, inB_if] at hc))
      | fail)
    apply roundQ_m; refine ⟨_, ⟨i + 1, (k41_2 _).trans (by simp (disch := first | (intros; contradiction) | (as_aux_lemma => omega) | (as_aux_lemma => (simp only [LEN2]; first | done | omega)) | (as_aux_lemma => (simp only [LEN]; first | done | omega))) only [nx2, EV, TT, w, w0, fz, FX_mark, fl_Kept, ok_Kept, nr_Kept, lf_Kept, Kept.c, tk_mkKept, mkKept_len, Nat.reduceEqDiff, Nat.reduceBeqDiff, Nat.reduceAdd, Nat.reduceMul, Nat.reduceLeDiff, Nat.reduceLT, reduceCtorEq, Int.reduceEq, Int.reduceNeg]; first | done | rfl | (congr <;> omega)), ?_, rfl, ?_⟩, ?_⟩
    · refine (lpG_len ?_).trans ?_; (focus (simp only [List.length_set]; done)); rw [← mkKept_step x l i hlt]; first | rfl | (simp only [markU, markB]; first | done | rfl)
    · omega
    · omega
  · obtain rfl : i = l.length := by omega
    rw [List.drop_length, List.append_nil]
    repeat' (first
      | ((with_reducible apply EvO.off); (focus (exact rfl)); (focus (exact rfl)))
      | ((first | ((with_reducible refine EvO.c1 (a := ?_) (S' := ?_) ?_ ?_ ?_); rotate_left 2; (focus (exact rfl))) | ((with_reducible refine EvO.c0 (a := ?_) (S' := ?_) ?_ ?_); rotate_left 2) | ((with_reducible apply EvO.cons); (focus (exact rfl))) | ((with_reducible apply EvO.guard); (focus (exact rfl)); (focus (exact rfl))) | ((with_reducible refine Ev.cond (t := ?_) ?_ ?_ ?_); rotate_left) | skip); (focus ((with_reducible refine Eq.trans ?_ rfl); simp (disch := first | (intros; contradiction) | (as_aux_lemma => omega) | (as_aux_lemma => (simp only [LEN2]; first | done | omega)) | (as_aux_lemma => (simp only [LEN]; first | done | omega))) only [EV, TT, EVM, w, w0, fz, FX_mark, fl_Kept, ok_Kept, nr_Kept, lf_Kept, Kept.c, tk_mkKept, mkKept_len, hli, hlt0, List.getElem?_set_self, List.length_set, hw, Nat.reduceEqDiff, Nat.reduceBeqDiff, Nat.reduceAdd, Nat.reduceMul, Nat.reduceLeDiff, Nat.reduceLT, reduceCtorEq, Int.reduceEq, Int.reduceNeg, FIN, DP]; first | done | exact rfl)); try (focus (exact rfl)))
      | with_reducible refine Ev.seq ?_
      | ((with_reducible refine Ev.regionH ?_); intro H)
      | with_reducible refine EvO.nil ?_
      | ((with_reducible apply regH_k); (focus (exact KIs.mk rfl)); (focus ((with_reducible apply EnvIs.mk); simp only [SE, Nat.reduceEqDiff, Nat.reduceAdd, reduceCtorEq]; first | done | exact rfl)); clear H)
      | exact KIs.mk rfl
      | with_reducible first | refine Ev.skip ?_ | refine Ev.ret ?_ | refine Ev.exit ?_ | refine Ev.block ?_ | refine thenQ_n ?_ | refine thenQ_x ?_ | refine thenQ_r ?_ | refine blockQ_n ?_ | refine blockQ_r ?_ | refine blockQ_x0 ?_ | refine roundQ_x ?_ | refine roundQ_r ?_
      | ((with_reducible refine endQ_r (vs := ?_) (vs' := ?_) (S₂ := ?_) ?_ ?_ ?_); rotate_left 3)
      | ((with_reducible refine blockQ_x1 ?_ ?_); exact rfl)
      | (intro c' hc; cases c' <;> first | (cases hc; done) | (try simp only [HC, inB_it, inB_if] at hc))
      | (intro hc; first | (cases hc; done) | (try simp only [HC, inB_it, inB_if] at hc))
      | fail)
    exact ⟨rfl, rfl⟩
theorem c43 {k : Nat} {md : Md} {S : Store} {vs : List A} {D : List Nat} {m : Nat} {x : Int} (hd : dpArgs S [] vs = some ([.ro 2 ((mkKept x m).map Kept.c), (.v (.int .i64 (x)))], D)) (hx : 0 ≤ x ∧ x ≤ 16777216) (hn : m ≤ 1048576) (hk : 1 ≤ k) :
    Cal (run k) md 43 vs S (fun r S' => r = (.v (.int .i64 (x + 2 * m))) ∧ S' = S) := by
  obtain ⟨k, rfl⟩ : ∃ j, k = j + 1 := ⟨k - 1, by omega⟩
  refine Cal.fn (n := 31) (rs := [.tmp 4]) (ids := []) (D := D) (Xof_none rfl) g43 (by delta Try.f43; exact rfl) (by delta Try.f43; exact rfl) (by delta Try.f43; exact rfl) hd (by first | rfl | simp [idsV, idsC]) (by simp) (by simp) ?_
  intro md' ow; have w := ow.w; have w0 := ow.w0; have fz : md'.fz = false := ow.fz
  repeat' (first
    | ((with_reducible apply EvO.off); (focus (exact rfl)); (focus (exact rfl)))
    | ((first | ((with_reducible refine EvO.c1 (a := ?_) (S' := ?_) ?_ ?_ ?_); rotate_left 2; (focus (exact rfl))) | ((with_reducible refine EvO.c0 (a := ?_) (S' := ?_) ?_ ?_); rotate_left 2) | ((with_reducible apply EvO.cons); (focus (exact rfl))) | ((with_reducible apply EvO.guard); (focus (exact rfl)); (focus (exact rfl))) | ((with_reducible refine Ev.cond (t := ?_) ?_ ?_ ?_); rotate_left) | skip); (focus ((with_reducible refine Eq.trans ?_ rfl); simp (disch := first | (intros; contradiction) | (as_aux_lemma => omega) | (as_aux_lemma => (simp only [LEN2]; first | done | omega)) | (as_aux_lemma => (simp only [LEN]; first | done | omega))) only [EV, TT, w, w0, fz, FX_mark, fl_Kept, ok_Kept, nr_Kept, lf_Kept, Kept.c, tk_mkKept, mkKept_len, Nat.reduceEqDiff, Nat.reduceBeqDiff, Nat.reduceAdd, Nat.reduceMul, Nat.reduceLeDiff, Nat.reduceLT, reduceCtorEq, Int.reduceEq, Int.reduceNeg, FIN, DP]; first | done | exact rfl)); try (focus (exact rfl)))
    | with_reducible refine Ev.seq ?_
    | ((with_reducible refine Ev.regionH ?_); intro H)
    | with_reducible refine EvO.nil ?_
    | ((with_reducible apply regH_k); (focus (exact KIs.mk rfl)); (focus ((with_reducible apply EnvIs.mk); simp only [SE, Nat.reduceEqDiff, Nat.reduceAdd, reduceCtorEq]; first | done | exact rfl)); clear H)
    | exact KIs.mk rfl
    | with_reducible first | refine Ev.skip ?_ | refine Ev.ret ?_ | refine Ev.exit ?_ | refine Ev.block ?_ | refine thenQ_n ?_ | refine thenQ_x ?_ | refine thenQ_r ?_ | refine blockQ_n ?_ | refine blockQ_r ?_ | refine blockQ_x0 ?_ | refine roundQ_x ?_ | refine roundQ_r ?_
    | ((with_reducible refine endQ_r (vs := ?_) (vs' := ?_) (S₂ := ?_) ?_ ?_ ?_); rotate_left 3)
    | ((with_reducible refine blockQ_x1 ?_ ?_); exact rfl)
    | (intro c' hc; cases c' <;> first | (cases hc; done) | (try simp only [HC, inB_it, inB_if] at hc))
    | (intro hc; first | (cases hc; done) | (try simp only [HC, inB_it, inB_if] at hc))
    | fail)
  apply Ev.loop (fun j e S' => ∃ i : Nat, e = mkE [(0, .ro 2 ((mkKept x m).map Kept.c)), (1, (.v (.int .i64 (x + 2 * (i : Int))))), (5, (.v (.int .i64 ((i : Int)))))] ∧ S' = S ∧ j = m - i ∧ (i ≤ m))
  · exact ⟨0, (k43_2 _).trans (by simp (disch := first | (intros; contradiction) | (as_aux_lemma => omega) | (as_aux_lemma => (simp only [LEN2]; first | done | omega)) | (as_aux_lemma => (simp only [LEN]; first | done | omega))) only [EV, TT, w, w0, fz, FX_mark, fl_Kept, ok_Kept, nr_Kept, lf_Kept, Kept.c, tk_mkKept, mkKept_len, Nat.reduceEqDiff, Nat.reduceBeqDiff, Nat.reduceAdd, Nat.reduceMul, Nat.reduceLeDiff, Nat.reduceLT, reduceCtorEq, Int.reduceEq, Int.reduceNeg]; first | done | rfl | (congr <;> omega)), (by first | rfl | (simp only [app_app, List.cons_append, List.nil_append]; done)), rfl, (by first | omega | rfl | (simp; done))⟩
  rintro j e S' ⟨i, rfl, rfl, hj, hi⟩
  by_cases hli : (i : Int) < (m : Int)
  · have hlt : i < m := by omega
    have hg := mkKept_get x hlt
    repeat' (first
      | ((with_reducible apply EvO.off); (focus (exact rfl)); (focus (exact rfl)))
      | ((first | ((with_reducible refine EvO.c1 (a := ?_) (S' := ?_) ?_ ?_ ?_); rotate_left 2; (focus (exact rfl))) | ((with_reducible refine EvO.c0 (a := ?_) (S' := ?_) ?_ ?_); rotate_left 2) | ((with_reducible apply EvO.cons); (focus (exact rfl))) | ((with_reducible apply EvO.guard); (focus (exact rfl)); (focus (exact rfl))) | ((with_reducible refine Ev.cond (t := ?_) ?_ ?_ ?_); rotate_left) | skip); (focus ((with_reducible refine Eq.trans ?_ rfl); simp (disch := first | (intros; contradiction) | (as_aux_lemma => omega) | (as_aux_lemma => (simp only [LEN2]; first | done | omega)) | (as_aux_lemma => (simp only [LEN]; first | done | omega))) only [EV, TT, w, w0, fz, FX_mark, fl_Kept, ok_Kept, nr_Kept, lf_Kept, Kept.c, tk_mkKept, mkKept_len, hli, hg, mkKept_len, bne_self_eq_false, Nat.reduceEqDiff, Nat.reduceBeqDiff, Nat.reduceAdd, Nat.reduceMul, Nat.reduceLeDiff, Nat.reduceLT, reduceCtorEq, Int.reduceEq, Int.reduceNeg, FIN, DP]; first | done | exact rfl)); try (focus (exact rfl)))
      | with_reducible refine Ev.seq ?_
      | ((with_reducible refine Ev.regionH ?_); intro H)
      | with_reducible refine EvO.nil ?_
      | ((with_reducible apply regH_k); (focus (exact KIs.mk rfl)); (focus ((with_reducible apply EnvIs.mk); simp only [SE, Nat.reduceEqDiff, Nat.reduceAdd, reduceCtorEq]; first | done | exact rfl)); clear H)
      | exact KIs.mk rfl
      | with_reducible first | refine Ev.skip ?_ | refine Ev.ret ?_ | refine Ev.exit ?_ | refine Ev.block ?_ | refine thenQ_n ?_ | refine thenQ_x ?_ | refine thenQ_r ?_ | refine blockQ_n ?_ | refine blockQ_r ?_ | refine blockQ_x0 ?_ | refine roundQ_x ?_ | refine roundQ_r ?_
      | ((with_reducible refine endQ_r (vs := ?_) (vs' := ?_) (S₂ := ?_) ?_ ?_ ?_); rotate_left 3)
      | ((with_reducible refine blockQ_x1 ?_ ?_); exact rfl)
      | (intro c' hc; cases c' <;> first | (cases hc; done) | (try simp only [HC, inB_it, inB_if] at hc))
      | (intro hc; first | (cases hc; done) | (try simp only [HC, inB_it, inB_if] at hc))
      | fail)
    apply roundQ_m; refine ⟨_, ⟨i + 1, (k43_2 _).trans (by simp (disch := first | (intros; contradiction) | (as_aux_lemma => omega) | (as_aux_lemma => (simp only [LEN2]; first | done | omega)) | (as_aux_lemma => (simp only [LEN]; first | done | omega))) only [nx2, EV, TT, w, w0, fz, FX_mark, fl_Kept, ok_Kept, nr_Kept, lf_Kept, Kept.c, tk_mkKept, mkKept_len, Nat.reduceEqDiff, Nat.reduceBeqDiff, Nat.reduceAdd, Nat.reduceMul, Nat.reduceLeDiff, Nat.reduceLT, reduceCtorEq, Int.reduceEq, Int.reduceNeg]; first | done | rfl | (congr <;> omega)), ?_, rfl, ?_⟩, ?_⟩
    · first | exact lpG_same | exact lpG_grow rfl | (refine (congrArg (fun K => lpG K _ _ _) (show _ = some _ from rfl)).trans (lpG_cut rfl ?_); simp [lowV, okC, mkE_at]; done) | (refine (congrArg (fun K => lpG K _ _ _) (show _ = some _ from rfl)).trans (lpG_mod rfl rfl ?_ ?_) <;> simp [lowV, okC, mkE_at, rowsAll_cons, rowsAll_nil, FX_mark, fl_Kept, ok_Kept, nr_Kept, lf_Kept, Kept.c, tk_mkKept, mkKept_len]; done) | (refine (lpG_len ?_).trans ?_; (focus (simp only [len_app, List.length_cons, List.length_nil, List.length_set]; done)); first | rfl | (simp (disch := first | (intros; contradiction) | (as_aux_lemma => omega) | (as_aux_lemma => (simp only [LEN2]; first | done | omega)) | (as_aux_lemma => (simp only [LEN]; first | done | omega))) only [nx2, EV, TT, w, w0, fz, FX_mark, fl_Kept, ok_Kept, nr_Kept, lf_Kept, Kept.c, tk_mkKept, mkKept_len, Nat.reduceEqDiff, Nat.reduceBeqDiff, Nat.reduceAdd, Nat.reduceMul, Nat.reduceLeDiff, Nat.reduceLT, reduceCtorEq, Int.reduceEq, Int.reduceNeg]; first | done | rfl)) | (refine (congrArg (fun K => lpG K _ _ _) (show _ = some _ from rfl)).trans (lpG_grow ?_); simp only [lowV, okC, EV, Nat.reduceEqDiff, Nat.reduceBeqDiff, Nat.reduceAdd, Nat.reduceMul, Nat.reduceLeDiff, Nat.reduceLT, reduceCtorEq, Int.reduceEq, Int.reduceNeg]; done)
    · first | omega | rfl | assumption | (simp; done)
    · omega
  · obtain rfl : i = m := by omega
    repeat' (first
      | ((with_reducible apply EvO.off); (focus (exact rfl)); (focus (exact rfl)))
      | ((first | ((with_reducible refine EvO.c1 (a := ?_) (S' := ?_) ?_ ?_ ?_); rotate_left 2; (focus (exact rfl))) | ((with_reducible refine EvO.c0 (a := ?_) (S' := ?_) ?_ ?_); rotate_left 2) | ((with_reducible apply EvO.cons); (focus (exact rfl))) | ((with_reducible apply EvO.guard); (focus (exact rfl)); (focus (exact rfl))) | ((with_reducible refine Ev.cond (t := ?_) ?_ ?_ ?_); rotate_left) | skip); (focus ((with_reducible refine Eq.trans ?_ rfl); simp (disch := first | (intros; contradiction) | (as_aux_lemma => omega) | (as_aux_lemma => (simp only [LEN2]; first | done | omega)) | (as_aux_lemma => (simp only [LEN]; first | done | omega))) only [EV, TT, w, w0, fz, FX_mark, fl_Kept, ok_Kept, nr_Kept, lf_Kept, Kept.c, tk_mkKept, mkKept_len, hli, mkKept_len, Nat.reduceEqDiff, Nat.reduceBeqDiff, Nat.reduceAdd, Nat.reduceMul, Nat.reduceLeDiff, Nat.reduceLT, reduceCtorEq, Int.reduceEq, Int.reduceNeg, FIN, DP]; first | done | exact rfl)); try (focus (exact rfl)))
      | with_reducible refine Ev.seq ?_
      | ((with_reducible refine Ev.regionH ?_); intro H)
      | with_reducible refine EvO.nil ?_
      | ((with_reducible apply regH_k); (focus (exact KIs.mk rfl)); (focus ((with_reducible apply EnvIs.mk); simp only [SE, Nat.reduceEqDiff, Nat.reduceAdd, reduceCtorEq]; first | done | exact rfl)); clear H)
      | exact KIs.mk rfl
      | with_reducible first | refine Ev.skip ?_ | refine Ev.ret ?_ | refine Ev.exit ?_ | refine Ev.block ?_ | refine thenQ_n ?_ | refine thenQ_x ?_ | refine thenQ_r ?_ | refine blockQ_n ?_ | refine blockQ_r ?_ | refine blockQ_x0 ?_ | refine roundQ_x ?_ | refine roundQ_r ?_
      | ((with_reducible refine endQ_r (vs := ?_) (vs' := ?_) (S₂ := ?_) ?_ ?_ ?_); rotate_left 3)
      | ((with_reducible refine blockQ_x1 ?_ ?_); exact rfl)
      | (intro c' hc; cases c' <;> first | (cases hc; done) | (try simp only [HC, inB_it, inB_if] at hc))
      | (intro hc; first | (cases hc; done) | (try simp only [HC, inB_it, inB_if] at hc))
      | fail)
    exact ⟨rfl, rfl⟩
theorem FX_el_Kept : (((type_of% @fl_Kept) ∧ ((type_of% @ok_Kept) ∧ (type_of% @nr_Kept))) ∧ (((type_of% @lf_Kept) ∧ (type_of% @Kept.c.eq_1)) ∧ ((type_of% @tk_mkKept) ∧ (type_of% @mkKept_len)))) := ⟨⟨@fl_Kept, ⟨@ok_Kept, @nr_Kept⟩⟩, ⟨⟨@lf_Kept, @Kept.c.eq_1⟩, ⟨@tk_mkKept, @mkKept_len⟩⟩⟩
end Go.Proofs.YtomklniddinhnaaB

/- Part of the evaluator's contracts: lost1. -/
import Derived.Test.YtdpaijnbikclgaaDoorFclu3
import Derived.Test.YtdpaijnbikclgaaDoorFelShard
namespace Go.Proofs.YtdpaijnbikclgaaDoorB
open Go Go.Proofs.YtdpaijnbikclgaaDoorE
set_option linter.unusedVariables false
set_option linter.unusedSectionVars false
set_option linter.unusedSimpArgs false
set_option maxHeartbeats 4000000
set_option maxRecDepth 20000
def smA (s : ByteArray) : Nat → Int
  | 0 => 1
  | i + 1 => (smA s i + ((at_ s i).toNat : Int)) % 251
def smB (s : ByteArray) : Nat → Int
  | 0 => 0
  | i + 1 => (smB s i + smA s (i + 1)) % 251
theorem sm_bd (s : ByteArray) : ∀ i, (0 ≤ smA s i ∧ smA s i ≤ 250) ∧ 0 ≤ smB s i ∧ smB s i ≤ 250
  | 0 => by simp [smA, smB]
  | i + 1 => by simp only [smA, smB]; omega
def sumS (s : ByteArray) : Int := 256 * smB s s.size + smA s s.size
theorem k71_4 (e : Env) : lpE (FI.K ⟨[], false, [(4, [0, 3, 4, 5]), (1000, [0]), (1001, [0, 3]), (1002, [0, 3, 4]), (1003, [0, 3, 4, 5]), (1004, [0, 3, 4, 5, 9]), (1005, [0, 3, 4, 5]), (1006, [0, 3, 4, 5]), (1007, [0, 3, 4, 5]), (1008, [2])]⟩ 4) e = mkE [(0, e 0), (3, e 3), (4, e 4), (5, e 5)] := rfl
theorem c71 {k : Nat} {md : Md} {S : Store} {vs : List A} {D : List Nat} {s : ByteArray} (hd : dpArgs S [] vs = some ([(.v (.string (s)))], D)) (hs : s.size ≤ 1048576) (hk : 1 ≤ k) :
    Cal (run k) md 71 vs S (fun r S' => r = (.v (.int .i64 (sumS s))) ∧ S' = S) := by
  obtain ⟨k, rfl⟩ : ∃ j, k = j + 1 := ⟨k - 1, by omega⟩
  refine Cal.fn (n := 27) (rs := [.tmp 2]) (ids := []) (D := D) (Xof_none rfl) g71 (by delta Tryd.f71; exact rfl) (by delta Tryd.f71; exact rfl) (by delta Tryd.f71; exact rfl) hd (by first | rfl | simp [idsV, idsC]) (by simp) (by simp) ?_
  intro md' ow; have w := ow.w; have w0 := ow.w0; have fz : md'.fz = false := ow.fz
  repeat' (first
    | ((with_reducible apply EvO.off); (focus (exact rfl)); (focus (exact rfl)))
    | ((first | ((with_reducible refine EvO.c1 (a := ?_) (S' := ?_) ?_ ?_ ?_); rotate_left 2; (focus (exact rfl))) | ((with_reducible refine EvO.c0 (a := ?_) (S' := ?_) ?_ ?_); rotate_left 2) | ((with_reducible apply EvO.cons); (focus (exact rfl))) | ((with_reducible apply EvO.guard); (focus (exact rfl)); (focus (exact rfl))) | ((with_reducible refine Ev.cond (t := ?_) ?_ ?_ ?_); rotate_left) | skip); (focus ((with_reducible refine Eq.trans ?_ rfl); simp (disch := first | (intros; contradiction) | (as_aux_lemma => omega) | (as_aux_lemma => (simp only [LEN2]; first | done | omega)) | (as_aux_lemma => (simp only [LEN]; first | done | omega))) only [EV, TT, w, w0, fz, FX_mark, FX_str, FX_el_Cell, FX_el_Object, FX_node, FX_el_Shard, Nat.reduceEqDiff, Nat.reduceBeqDiff, Nat.reduceAdd, Nat.reduceMul, Nat.reduceLeDiff, Nat.reduceLT, reduceCtorEq, Int.reduceEq, Int.reduceNeg, FIN, DP]; first | done | exact rfl)); try (focus (exact rfl)))
    | with_reducible refine Ev.seq ?_
    | ((with_reducible refine Ev.regionH ?_); intro H)
    | with_reducible refine EvO.nil ?_
    | ((with_reducible apply regH_k); (focus (exact KIs.mk rfl)); (focus ((with_reducible apply EnvIs.mk); simp only [SE, Nat.reduceEqDiff, Nat.reduceAdd, reduceCtorEq]; first | done | exact rfl)); clear H)
    | exact KIs.mk rfl
    | with_reducible first | refine Ev.skip ?_ | refine Ev.ret ?_ | refine Ev.exit ?_ | refine Ev.block ?_ | refine thenQ_n ?_ | refine thenQ_x ?_ | refine thenQ_r ?_ | refine blockQ_n ?_ | refine blockQ_r ?_ | refine blockQ_x0 ?_ | refine roundQ_x ?_ | refine roundQ_r ?_
    | ((with_reducible refine endQ_r (vs := ?_) (vs' := ?_) (S₂ := ?_) ?_ ?_ ?_); rotate_left 3)
    | ((with_reducible refine blockQ_x1 ?_ ?_); exact rfl)
    | (intro c' hc; cases c' <;> first | (cases hc; done) | (try simp only [HC, inB_it, inB_if] at hc))
    | (intro hc; first | (cases hc; done) | (try simp only [HC, inB_it, inB_if] at hc))
    | fail)
  apply Ev.loop (fun j e S' => ∃ i : Nat, e = mkE [(0, (.v (.string (s)))), (3, (.v (.int .i64 (smA s i)))), (4, (.v (.int .i64 (smB s i)))), (5, (.v (.int .i64 ((i : Int)))))] ∧ S' = S ∧ j = s.size - i ∧ (i ≤ s.size))
  · exact ⟨0, (k71_4 _).trans (by simp (disch := first | (intros; contradiction) | (as_aux_lemma => omega) | (as_aux_lemma => (simp only [LEN2]; first | done | omega)) | (as_aux_lemma => (simp only [LEN]; first | done | omega))) only [EV, TT, w, w0, fz, FX_mark, FX_str, FX_el_Cell, FX_el_Object, FX_node, FX_el_Shard, Nat.reduceEqDiff, Nat.reduceBeqDiff, Nat.reduceAdd, Nat.reduceMul, Nat.reduceLeDiff, Nat.reduceLT, reduceCtorEq, Int.reduceEq, Int.reduceNeg]; first | done | rfl | (congr <;> omega)), (by first | rfl | (simp only [app_app, List.cons_append, List.nil_append]; done)), rfl, (by omega)⟩
  rintro j e S' ⟨i, rfl, rfl, hj, hi⟩
  have hb := sm_bd s i
  by_cases hli : (i : Int) < (s.size : Int)
  · have hlt : i < s.size := by omega
    have hb2 := at_lt s i
    have hb3 := sm_bd s (i + 1)
    have e1 : (smA s i + ((at_ s i).toNat : Int)) % 251 = smA s (i + 1) := rfl
    have e2 : (smB s i + smA s (i + 1)) % 251 = smB s (i + 1) := rfl
    generalize h1 : smA s (i + 1) = x at *
    generalize h2 : smB s (i + 1) = y at *
    repeat' (first
      | ((with_reducible apply EvO.off); (focus (exact rfl)); (focus (exact rfl)))
      | ((first | ((with_reducible refine EvO.c1 (a := ?_) (S' := ?_) ?_ ?_ ?_); rotate_left 2; (focus (exact rfl))) | ((with_reducible refine EvO.c0 (a := ?_) (S' := ?_) ?_ ?_); rotate_left 2) | ((with_reducible apply EvO.cons); (focus (exact rfl))) | ((with_reducible apply EvO.guard); (focus (exact rfl)); (focus (exact rfl))) | ((with_reducible refine Ev.cond (t := ?_) ?_ ?_ ?_); rotate_left) | skip); (focus ((with_reducible refine Eq.trans ?_ rfl); simp (disch := first | (intros; contradiction) | (as_aux_lemma => omega) | (as_aux_lemma => (simp only [LEN2]; first | done | omega)) | (as_aux_lemma => (simp only [LEN]; first | done | omega))) only [EV, TT, w, w0, fz, FX_mark, FX_str, FX_el_Cell, FX_el_Object, FX_node, FX_el_Shard, hli, e1, e2, Nat.reduceEqDiff, Nat.reduceBeqDiff, Nat.reduceAdd, Nat.reduceMul, Nat.reduceLeDiff, Nat.reduceLT, reduceCtorEq, Int.reduceEq, Int.reduceNeg, FIN, DP]; first | done | exact rfl)); try (focus (exact rfl)))
      | with_reducible refine Ev.seq ?_
      | ((with_reducible refine Ev.regionH ?_); intro H)
      | with_reducible refine EvO.nil ?_
      | ((with_reducible apply regH_k); (focus (exact KIs.mk rfl)); (focus ((with_reducible apply EnvIs.mk); simp only [SE, Nat.reduceEqDiff, Nat.reduceAdd, reduceCtorEq]; first | done | exact rfl)); clear H)
      | exact KIs.mk rfl
      | with_reducible first | refine Ev.skip ?_ | refine Ev.ret ?_ | refine Ev.exit ?_ | refine Ev.block ?_ | refine thenQ_n ?_ | refine thenQ_x ?_ | refine thenQ_r ?_ | refine blockQ_n ?_ | refine blockQ_r ?_ | refine blockQ_x0 ?_ | refine roundQ_x ?_ | refine roundQ_r ?_
      | ((with_reducible refine endQ_r (vs := ?_) (vs' := ?_) (S₂ := ?_) ?_ ?_ ?_); rotate_left 3)
      | ((with_reducible refine blockQ_x1 ?_ ?_); exact rfl)
      | (intro c' hc; cases c' <;> first | (cases hc; done) | (try simp only [HC, inB_it, inB_if] at hc))
      | (intro hc; first | (cases hc; done) | (try simp only [HC, inB_it, inB_if] at hc))
      | fail)
    all_goals first | (exfalso; omega) | skip
    all_goals
      apply roundQ_m; refine ⟨_, ⟨i + 1, (k71_4 _).trans (by simp (disch := first | (intros; contradiction) | (as_aux_lemma => omega) | (as_aux_lemma => (simp only [LEN2]; first | done | omega)) | (as_aux_lemma => (simp only [LEN]; first | done | omega))) only [hli, h1, h2, EV, TT, w, w0, fz, FX_mark, FX_str, FX_el_Cell, FX_el_Object, FX_node, FX_el_Shard, Nat.reduceEqDiff, Nat.reduceBeqDiff, Nat.reduceAdd, Nat.reduceMul, Nat.reduceLeDiff, Nat.reduceLT, reduceCtorEq, Int.reduceEq, Int.reduceNeg]; first | done | rfl | (congr <;> omega)), ?_, rfl, ?_⟩, ?_⟩
      · first | exact lpG_same | exact lpG_grow rfl | (refine (congrArg (fun K => lpG K _ _ _) (show _ = some _ from rfl)).trans (lpG_cut rfl ?_); simp [lowV, okC, mkE_at]; done) | (refine (congrArg (fun K => lpG K _ _ _) (show _ = some _ from rfl)).trans (lpG_mod rfl rfl ?_ ?_) <;> simp [lowV, okC, mkE_at, rowsAll_cons, rowsAll_nil, FX_mark, FX_str, FX_el_Cell, FX_el_Object, FX_node, FX_el_Shard]; done) | (refine (lpG_len ?_).trans ?_; (focus (simp only [len_app, List.length_cons, List.length_nil, List.length_set]; done)); first | rfl | (simp (disch := first | (intros; contradiction) | (as_aux_lemma => omega) | (as_aux_lemma => (simp only [LEN2]; first | done | omega)) | (as_aux_lemma => (simp only [LEN]; first | done | omega))) only [hli, h1, h2, EV, TT, w, w0, fz, FX_mark, FX_str, FX_el_Cell, FX_el_Object, FX_node, FX_el_Shard, Nat.reduceEqDiff, Nat.reduceBeqDiff, Nat.reduceAdd, Nat.reduceMul, Nat.reduceLeDiff, Nat.reduceLT, reduceCtorEq, Int.reduceEq, Int.reduceNeg]; first | done | rfl)) | (refine (congrArg (fun K => lpG K _ _ _) (show _ = some _ from rfl)).trans (lpG_grow ?_); simp only [lowV, okC, EV, Nat.reduceEqDiff, Nat.reduceBeqDiff, Nat.reduceAdd, Nat.reduceMul, Nat.reduceLeDiff, Nat.reduceLT, reduceCtorEq, Int.reduceEq, Int.reduceNeg]; done)
      · omega
      · omega
  · obtain rfl : i = s.size := by omega
    repeat' (first
      | ((with_reducible apply EvO.off); (focus (exact rfl)); (focus (exact rfl)))
      | ((first | ((with_reducible refine EvO.c1 (a := ?_) (S' := ?_) ?_ ?_ ?_); rotate_left 2; (focus (exact rfl))) | ((with_reducible refine EvO.c0 (a := ?_) (S' := ?_) ?_ ?_); rotate_left 2) | ((with_reducible apply EvO.cons); (focus (exact rfl))) | ((with_reducible apply EvO.guard); (focus (exact rfl)); (focus (exact rfl))) | ((with_reducible refine Ev.cond (t := ?_) ?_ ?_ ?_); rotate_left) | skip); (focus ((with_reducible refine Eq.trans ?_ rfl); simp (disch := first | (intros; contradiction) | (as_aux_lemma => omega) | (as_aux_lemma => (simp only [LEN2]; first | done | omega)) | (as_aux_lemma => (simp only [LEN]; first | done | omega))) only [EV, TT, w, w0, fz, FX_mark, FX_str, FX_el_Cell, FX_el_Object, FX_node, FX_el_Shard, hli, Nat.reduceEqDiff, Nat.reduceBeqDiff, Nat.reduceAdd, Nat.reduceMul, Nat.reduceLeDiff, Nat.reduceLT, reduceCtorEq, Int.reduceEq, Int.reduceNeg, FIN, DP]; first | done | exact rfl)); try (focus (exact rfl)))
      | with_reducible refine Ev.seq ?_
      | ((with_reducible refine Ev.regionH ?_); intro H)
      | with_reducible refine EvO.nil ?_
      | ((with_reducible apply regH_k); (focus (exact KIs.mk rfl)); (focus ((with_reducible apply EnvIs.mk); simp only [SE, Nat.reduceEqDiff, Nat.reduceAdd, reduceCtorEq]; first | done | exact rfl)); clear H)
      | exact KIs.mk rfl
      | with_reducible first | refine Ev.skip ?_ | refine Ev.ret ?_ | refine Ev.exit ?_ | refine Ev.block ?_ | refine thenQ_n ?_ | refine thenQ_x ?_ | refine thenQ_r ?_ | refine blockQ_n ?_ | refine blockQ_r ?_ | refine blockQ_x0 ?_ | refine roundQ_x ?_ | refine roundQ_r ?_
      | ((with_reducible refine endQ_r (vs := ?_) (vs' := ?_) (S₂ := ?_) ?_ ?_ ?_); rotate_left 3)
      | ((with_reducible refine blockQ_x1 ?_ ?_); exact rfl)
      | (intro c' hc; cases c' <;> first | (cases hc; done) | (try simp only [HC, inB_it, inB_if] at hc))
      | (intro hc; first | (cases hc; done) | (try simp only [HC, inB_it, inB_if] at hc))
      | fail)
    all_goals exact ⟨rfl, rfl⟩
theorem k72_3 (e : Env) : lpE (FI.K ⟨[], false, [(3, [0, 3, 4, 7, 8]), (1000, [0]), (1001, [0, 3, 4]), (1002, [0, 3, 4, 7, 8]), (1003, [0, 3, 4, 7, 8, 9]), (1004, [0, 3, 4, 5, 7, 8]), (1005, [0, 3, 4, 7, 8]), (1006, [0, 3, 4, 7, 8]), (1007, [0, 3, 4, 7, 8]), (1008, [2])]⟩ 3) e = mkE [(0, e 0), (3, e 3), (4, e 4), (7, e 7), (8, e 8)] := rfl
theorem c72 {k : Nat} {md : Md} {S : Store} {vs : List A} {D : List Nat} {s : ByteArray} (hd : dpArgs S [] vs = some ([(.v (.string (s)))], D)) (hs : s.size ≤ 1048576) (hk : 1 ≤ k) :
    Cal (run k) md 72 vs S (fun r S' => r = (.v (.int .i64 (sumS s))) ∧ S' = S) := by
  obtain ⟨k, rfl⟩ : ∃ j, k = j + 1 := ⟨k - 1, by omega⟩
  refine Cal.fn (n := 27) (rs := [.tmp 2]) (ids := []) (D := D) (Xof_none rfl) g72 (by delta Tryd.f72; exact rfl) (by delta Tryd.f72; exact rfl) (by delta Tryd.f72; exact rfl) hd (by first | rfl | simp [idsV, idsC]) (by simp) (by simp) ?_
  intro md' ow; have w := ow.w; have w0 := ow.w0; have fz : md'.fz = false := ow.fz
  repeat' (first
    | ((with_reducible apply EvO.off); (focus (exact rfl)); (focus (exact rfl)))
    | ((first | ((with_reducible refine EvO.c1 (a := ?_) (S' := ?_) ?_ ?_ ?_); rotate_left 2; (focus (exact rfl))) | ((with_reducible refine EvO.c0 (a := ?_) (S' := ?_) ?_ ?_); rotate_left 2) | ((with_reducible apply EvO.cons); (focus (exact rfl))) | ((with_reducible apply EvO.guard); (focus (exact rfl)); (focus (exact rfl))) | ((with_reducible refine Ev.cond (t := ?_) ?_ ?_ ?_); rotate_left) | skip); (focus ((with_reducible refine Eq.trans ?_ rfl); simp (disch := first | (intros; contradiction) | (as_aux_lemma => omega) | (as_aux_lemma => (simp only [LEN2]; first | done | omega)) | (as_aux_lemma => (simp only [LEN]; first | done | omega))) only [EV, TT, w, w0, fz, FX_mark, FX_str, FX_el_Cell, FX_el_Object, FX_node, FX_el_Shard, Nat.reduceEqDiff, Nat.reduceBeqDiff, Nat.reduceAdd, Nat.reduceMul, Nat.reduceLeDiff, Nat.reduceLT, reduceCtorEq, Int.reduceEq, Int.reduceNeg, FIN, DP]; first | done | exact rfl)); try (focus (exact rfl)))
    | with_reducible refine Ev.seq ?_
    | ((with_reducible refine Ev.regionH ?_); intro H)
    | with_reducible refine EvO.nil ?_
    | ((with_reducible apply regH_k); (focus (exact KIs.mk rfl)); (focus ((with_reducible apply EnvIs.mk); simp only [SE, Nat.reduceEqDiff, Nat.reduceAdd, reduceCtorEq]; first | done | exact rfl)); clear H)
    | exact KIs.mk rfl
    | with_reducible first | refine Ev.skip ?_ | refine Ev.ret ?_ | refine Ev.exit ?_ | refine Ev.block ?_ | refine thenQ_n ?_ | refine thenQ_x ?_ | refine thenQ_r ?_ | refine blockQ_n ?_ | refine blockQ_r ?_ | refine blockQ_x0 ?_ | refine roundQ_x ?_ | refine roundQ_r ?_
    | ((with_reducible refine endQ_r (vs := ?_) (vs' := ?_) (S₂ := ?_) ?_ ?_ ?_); rotate_left 3)
    | ((with_reducible refine blockQ_x1 ?_ ?_); exact rfl)
    | (intro c' hc; cases c' <;> first | (cases hc; done) | (try simp only [HC, inB_it, inB_if] at hc))
    | (intro hc; first | (cases hc; done) | (try simp only [HC, inB_it, inB_if] at hc))
    | fail)
  apply Ev.loop (fun j e S' => ∃ i : Nat, e = mkE [(0, (.v (.string (s)))), (3, (.v (.int .i64 (smA s i)))), (4, (.v (.int .i64 (smB s i)))), (7, (.v (.int .i64 ((s.size : Int))))), (8, (.v (.int .i64 ((i : Int)))))] ∧ S' = S ∧ j = s.size - i ∧ (i ≤ s.size))
  · exact ⟨0, (k72_3 _).trans (by simp (disch := first | (intros; contradiction) | (as_aux_lemma => omega) | (as_aux_lemma => (simp only [LEN2]; first | done | omega)) | (as_aux_lemma => (simp only [LEN]; first | done | omega))) only [EV, TT, w, w0, fz, FX_mark, FX_str, FX_el_Cell, FX_el_Object, FX_node, FX_el_Shard, Nat.reduceEqDiff, Nat.reduceBeqDiff, Nat.reduceAdd, Nat.reduceMul, Nat.reduceLeDiff, Nat.reduceLT, reduceCtorEq, Int.reduceEq, Int.reduceNeg]; first | done | rfl | (congr <;> omega)), (by first | rfl | (simp only [app_app, List.cons_append, List.nil_append]; done)), rfl, (by omega)⟩
  rintro j e S' ⟨i, rfl, rfl, hj, hi⟩
  have hb := sm_bd s i
  by_cases hli : (i : Int) < (s.size : Int)
  · have hlt : i < s.size := by omega
    have hb2 := at_lt s i
    have hb3 := sm_bd s (i + 1)
    have e1 : (smA s i + ((at_ s i).toNat : Int)) % 251 = smA s (i + 1) := rfl
    have e2 : (smB s i + smA s (i + 1)) % 251 = smB s (i + 1) := rfl
    generalize h1 : smA s (i + 1) = x at *
    generalize h2 : smB s (i + 1) = y at *
    repeat' (first
      | ((with_reducible apply EvO.off); (focus (exact rfl)); (focus (exact rfl)))
      | ((first | ((with_reducible refine EvO.c1 (a := ?_) (S' := ?_) ?_ ?_ ?_); rotate_left 2; (focus (exact rfl))) | ((with_reducible refine EvO.c0 (a := ?_) (S' := ?_) ?_ ?_); rotate_left 2) | ((with_reducible apply EvO.cons); (focus (exact rfl))) | ((with_reducible apply EvO.guard); (focus (exact rfl)); (focus (exact rfl))) | ((with_reducible refine Ev.cond (t := ?_) ?_ ?_ ?_); rotate_left) | skip); (focus ((with_reducible refine Eq.trans ?_ rfl); simp (disch := first | (intros; contradiction) | (as_aux_lemma => omega) | (as_aux_lemma => (simp only [LEN2]; first | done | omega)) | (as_aux_lemma => (simp only [LEN]; first | done | omega))) only [EV, TT, w, w0, fz, FX_mark, FX_str, FX_el_Cell, FX_el_Object, FX_node, FX_el_Shard, hli, e1, e2, Nat.reduceEqDiff, Nat.reduceBeqDiff, Nat.reduceAdd, Nat.reduceMul, Nat.reduceLeDiff, Nat.reduceLT, reduceCtorEq, Int.reduceEq, Int.reduceNeg, FIN, DP]; first | done | exact rfl)); try (focus (exact rfl)))
      | with_reducible refine Ev.seq ?_
      | ((with_reducible refine Ev.regionH ?_); intro H)
      | with_reducible refine EvO.nil ?_
      | ((with_reducible apply regH_k); (focus (exact KIs.mk rfl)); (focus ((with_reducible apply EnvIs.mk); simp only [SE, Nat.reduceEqDiff, Nat.reduceAdd, reduceCtorEq]; first | done | exact rfl)); clear H)
      | exact KIs.mk rfl
      | with_reducible first | refine Ev.skip ?_ | refine Ev.ret ?_ | refine Ev.exit ?_ | refine Ev.block ?_ | refine thenQ_n ?_ | refine thenQ_x ?_ | refine thenQ_r ?_ | refine blockQ_n ?_ | refine blockQ_r ?_ | refine blockQ_x0 ?_ | refine roundQ_x ?_ | refine roundQ_r ?_
      | ((with_reducible refine endQ_r (vs := ?_) (vs' := ?_) (S₂ := ?_) ?_ ?_ ?_); rotate_left 3)
      | ((with_reducible refine blockQ_x1 ?_ ?_); exact rfl)
      | (intro c' hc; cases c' <;> first | (cases hc; done) | (try simp only [HC, inB_it, inB_if] at hc))
      | (intro hc; first | (cases hc; done) | (try simp only [HC, inB_it, inB_if] at hc))
      | fail)
    all_goals first | (exfalso; omega) | skip
    all_goals
      apply roundQ_m; refine ⟨_, ⟨i + 1, (k72_3 _).trans (by simp (disch := first | (intros; contradiction) | (as_aux_lemma => omega) | (as_aux_lemma => (simp only [LEN2]; first | done | omega)) | (as_aux_lemma => (simp only [LEN]; first | done | omega))) only [hli, h1, h2, EV, TT, w, w0, fz, FX_mark, FX_str, FX_el_Cell, FX_el_Object, FX_node, FX_el_Shard, Nat.reduceEqDiff, Nat.reduceBeqDiff, Nat.reduceAdd, Nat.reduceMul, Nat.reduceLeDiff, Nat.reduceLT, reduceCtorEq, Int.reduceEq, Int.reduceNeg]; first | done | rfl | (congr <;> omega)), ?_, rfl, ?_⟩, ?_⟩
      · first | exact lpG_same | exact lpG_grow rfl | (refine (congrArg (fun K => lpG K _ _ _) (show _ = some _ from rfl)).trans (lpG_cut rfl ?_); simp [lowV, okC, mkE_at]; done) | (refine (congrArg (fun K => lpG K _ _ _) (show _ = some _ from rfl)).trans (lpG_mod rfl rfl ?_ ?_) <;> simp [lowV, okC, mkE_at, rowsAll_cons, rowsAll_nil, FX_mark, FX_str, FX_el_Cell, FX_el_Object, FX_node, FX_el_Shard]; done) | (refine (lpG_len ?_).trans ?_; (focus (simp only [len_app, List.length_cons, List.length_nil, List.length_set]; done)); first | rfl | (simp (disch := first | (intros; contradiction) | (as_aux_lemma => omega) | (as_aux_lemma => (simp only [LEN2]; first | done | omega)) | (as_aux_lemma => (simp only [LEN]; first | done | omega))) only [hli, h1, h2, EV, TT, w, w0, fz, FX_mark, FX_str, FX_el_Cell, FX_el_Object, FX_node, FX_el_Shard, Nat.reduceEqDiff, Nat.reduceBeqDiff, Nat.reduceAdd, Nat.reduceMul, Nat.reduceLeDiff, Nat.reduceLT, reduceCtorEq, Int.reduceEq, Int.reduceNeg]; first | done | rfl)) | (refine (congrArg (fun K => lpG K _ _ _) (show _ = some _ from rfl)).trans (lpG_grow ?_); simp only [lowV, okC, EV, Nat.reduceEqDiff, Nat.reduceBeqDiff, Nat.reduceAdd, Nat.reduceMul, Nat.reduceLeDiff, Nat.reduceLT, reduceCtorEq, Int.reduceEq, Int.reduceNeg]; done)
      · omega
      · omega
  · obtain rfl : i = s.size := by omega
    repeat' (first
      | ((with_reducible apply EvO.off); (focus (exact rfl)); (focus (exact rfl)))
      | ((first | ((with_reducible refine EvO.c1 (a := ?_) (S' := ?_) ?_ ?_ ?_); rotate_left 2; (focus (exact rfl))) | ((with_reducible refine EvO.c0 (a := ?_) (S' := ?_) ?_ ?_); rotate_left 2) | ((with_reducible apply EvO.cons); (focus (exact rfl))) | ((with_reducible apply EvO.guard); (focus (exact rfl)); (focus (exact rfl))) | ((with_reducible refine Ev.cond (t := ?_) ?_ ?_ ?_); rotate_left) | skip); (focus ((with_reducible refine Eq.trans ?_ rfl); simp (disch := first | (intros; contradiction) | (as_aux_lemma => omega) | (as_aux_lemma => (simp only [LEN2]; first | done | omega)) | (as_aux_lemma => (simp only [LEN]; first | done | omega))) only [EV, TT, w, w0, fz, FX_mark, FX_str, FX_el_Cell, FX_el_Object, FX_node, FX_el_Shard, hli, Nat.reduceEqDiff, Nat.reduceBeqDiff, Nat.reduceAdd, Nat.reduceMul, Nat.reduceLeDiff, Nat.reduceLT, reduceCtorEq, Int.reduceEq, Int.reduceNeg, FIN, DP]; first | done | exact rfl)); try (focus (exact rfl)))
      | with_reducible refine Ev.seq ?_
      | ((with_reducible refine Ev.regionH ?_); intro H)
      | with_reducible refine EvO.nil ?_
      | ((with_reducible apply regH_k); (focus (exact KIs.mk rfl)); (focus ((with_reducible apply EnvIs.mk); simp only [SE, Nat.reduceEqDiff, Nat.reduceAdd, reduceCtorEq]; first | done | exact rfl)); clear H)
      | exact KIs.mk rfl
      | with_reducible first | refine Ev.skip ?_ | refine Ev.ret ?_ | refine Ev.exit ?_ | refine Ev.block ?_ | refine thenQ_n ?_ | refine thenQ_x ?_ | refine thenQ_r ?_ | refine blockQ_n ?_ | refine blockQ_r ?_ | refine blockQ_x0 ?_ | refine roundQ_x ?_ | refine roundQ_r ?_
      | ((with_reducible refine endQ_r (vs := ?_) (vs' := ?_) (S₂ := ?_) ?_ ?_ ?_); rotate_left 3)
      | ((with_reducible refine blockQ_x1 ?_ ?_); exact rfl)
      | (intro c' hc; cases c' <;> first | (cases hc; done) | (try simp only [HC, inB_it, inB_if] at hc))
      | (intro hc; first | (cases hc; done) | (try simp only [HC, inB_it, inB_if] at hc))
      | fail)
    all_goals exact ⟨rfl, rfl⟩
end Go.Proofs.YtdpaijnbikclgaaDoorB

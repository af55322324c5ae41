/- Part of the evaluator's contracts: node. -/
import Derived.Test.YtdpaijnbikclgaaDoorFelCell
import Derived.Test.YtdpaijnbikclgaaDoorFelObject
namespace Go.Proofs.YtdpaijnbikclgaaDoorB
open Go Go.Proofs.YtdpaijnbikclgaaDoorE
set_option linter.unusedVariables false
set_option linter.unusedSectionVars false
set_option linter.unusedSimpArgs false
set_option maxHeartbeats 4000000
set_option maxRecDepth 20000
def nodeC (l : List Cell) : List A := [.ro 4 (l.map Cell.c)]
theorem fl_node (l : List (List Cell)) : flatRowsB (List.map nodeC l) = true := flat_map nodeC (fun _ => rfl) l
theorem ok_node (m : Nat) (l : List (List Cell)) : rowsAll (okC m) (List.map nodeC l) = true := rowsAll_map (okC m) nodeC (fun _ => rfl) l
theorem lf_node (l : List (List Cell)) : leafRows (List.map nodeC l) = true := leaf_map nodeC (fun _ => rfl) l
theorem okf_node (m : Nat) (l : List (List Cell)) (i : Nat) : rowsAll (okC m) (fillR nodeC [.v (.slice none 0 0)] l i) = true := by
  unfold fillR
  rw [rowsAll_app, Bool.and_eq_true]
  refine ⟨rowsAll_map (okC m) nodeC (fun _ => rfl) _, ?_⟩
  simp only [rowsAll, List.all_eq_true]
  intro x hx y hy
  have e := List.eq_of_mem_replicate hx
  subst e
  simp at hy; subst hy; rfl
theorem c52 {k : Nat} {md : Md} {S : Store} {vs : List A} {D : List Nat} {c : List Cell} {left : Int} (hd : dpArgs S [] vs = some ([.ag [.ro 4 (c.map Cell.c)], (.v (.int .i64 (left)))], D)) (hl : 0 ≤ left ∧ left ≤ 1048576) (hn : c.length ≤ 9223372036854775807) (hs : ∀ x ∈ c, x.name.size ≤ 140737488351232 ∧ x.data.size ≤ 140737488351232) (hk : 3 ≤ k) :
    Cal (run k) md 52 vs S (fun r S' => ∃ n, r = .v (.int .i64 n) ∧ S' = S ∧ (n < 0 ∨ 0 ≤ n ∧ n = left - (c.length : Int) - (szCell c : Int))) := by
  obtain ⟨k, rfl⟩ : ∃ j, k = j + 1 := ⟨k - 1, by omega⟩
  refine Cal.fn (n := 12) (rs := [.tmp 4]) (ids := []) (D := D) (Xof_none rfl) g52 (by delta Tryd.f52; exact rfl) (by delta Tryd.f52; exact rfl) (by delta Tryd.f52; exact rfl) hd (by first | rfl | simp [idsV, idsC]) (by simp) (by simp) ?_
  intro md' ow; have w := ow.w; have w0 := ow.w0; have fz : md'.fz = false := ow.fz
  repeat' (first
    | ((with_reducible apply EvO.off); (focus (exact rfl)); (focus (exact rfl)))
    | ((first | ((with_reducible apply EvO.call (vs := ?_)); (focus (exact rfl)); (focus (exact rfl))) | (with_reducible apply Cal.hd (ms := []) (p := ?_)) | ((with_reducible refine EvO.c1 (a := ?_) (S' := ?_) ?_ ?_ ?_); rotate_left 2; (focus (exact rfl))) | ((with_reducible refine EvO.c0 (a := ?_) (S' := ?_) ?_ ?_); rotate_left 2) | ((with_reducible apply EvO.cons); (focus (exact rfl))) | ((with_reducible apply EvO.guard); (focus (exact rfl)); (focus (exact rfl))) | ((with_reducible refine Ev.cond (t := ?_) ?_ ?_ ?_); rotate_left) | skip); (focus ((with_reducible refine Eq.trans ?_ rfl); simp (disch := first | (intros; contradiction) | (as_aux_lemma => omega) | (as_aux_lemma => (simp only [LEN2]; first | done | omega)) | (as_aux_lemma => (simp only [LEN]; first | done | omega))) only [EV, TT, w, w0, fz, FX_mark, FX_el_Cell, FX_el_Object, fl_node, ok_node, lf_node, nodeC, Nat.reduceEqDiff, Nat.reduceBeqDiff, Nat.reduceAdd, Nat.reduceMul, Nat.reduceLeDiff, Nat.reduceLT, reduceCtorEq, Int.reduceEq, Int.reduceNeg, FIN, DP]; first | done | exact rfl)); try (focus (exact rfl)))
    | ((with_reducible apply CalH.mk); intro hd; first | exact c75 (hd := hd) (hl := by first | assumption | omega | with_reducible rfl) (hn := by first | assumption | omega | with_reducible rfl) (hs := by first | assumption | omega | with_reducible rfl)  (hk := by omega))
    | (with_reducible (first | rintro r S' ⟨rfl, rfl⟩ | rintro r S' ⟨n, rfl, rfl, hsz⟩); refine ⟨_, rfl, ?_⟩)
    | with_reducible refine Ev.seq ?_
    | ((with_reducible refine Ev.regionH ?_); intro H)
    | with_reducible refine EvO.nil ?_
    | ((with_reducible apply regH_k); (focus (exact KIs.mk rfl)); (focus ((with_reducible apply EnvIs.mk); simp only [SE, Nat.reduceEqDiff, Nat.reduceAdd, reduceCtorEq]; first | done | exact rfl)); clear H)
    | exact KIs.mk rfl
    | with_reducible first | refine Ev.skip ?_ | refine Ev.ret ?_ | refine Ev.exit ?_ | refine Ev.block ?_ | refine thenQ_n ?_ | refine thenQ_x ?_ | refine thenQ_r ?_ | refine blockQ_n ?_ | refine blockQ_r ?_ | refine blockQ_x0 ?_ | refine roundQ_x ?_ | refine roundQ_r ?_
    | ((with_reducible refine endQ_r (vs := ?_) (vs' := ?_) (S₂ := ?_) ?_ ?_ ?_); rotate_left 3)
    | ((with_reducible refine blockQ_x1 ?_ ?_); exact rfl)
    | (intro c' hc; cases c' <;> first | (cases hc; done) | (try simp only [HC, inB_it, inB_if] at hc))
    | (intro hc; first | (cases hc; done) | (try simp only [HC, inB_it, inB_if] at hc))
    | fail)
  all_goals refine ⟨_, rfl, rfl, ?_⟩
  all_goals omega
def szN (l : List (List Cell)) : Nat := (l.map fun c => c.length + szCell c).sum
theorem szN_s (l : List (List Cell)) {i : Nat} (h : i < l.length) : szN (l.take (i + 1)) = szN (l.take i) + (l[i].length + szCell l[i]) := by unfold szN; rw [List.take_add_one, List.map_append, List.sum_append, List.getElem?_eq_getElem h]; rfl
theorem mem_le_sum : ∀ {l : List Nat} {x : Nat}, x ∈ l → x ≤ l.sum
  | [], x, h => by simp at h
  | a :: l, x, h => by
    rw [List.sum_cons]
    rcases List.mem_cons.1 h with h | h
    · omega
    · have := mem_le_sum h; omega
theorem szN_le {l : List (List Cell)} {b : Nat} (h : szN l ≤ b) : ∀ c ∈ l, c.length ≤ b := fun c hc => by
  have : c.length + szCell c ≤ szN l := mem_le_sum (List.mem_map.2 ⟨c, hc, rfl⟩)
  omega
theorem k23_5 (e : Env) : lpE (FI.K ⟨[], false, [(5, [0, 1, 5]), (1000, [0, 1]), (1001, [0, 1]), (1002, [0, 1, 11]), (1003, [4]), (1004, [0, 1, 5]), (1005, [0, 1, 5, 15]), (1006, [0, 1, 5]), (1007, [0, 1, 5]), (1008, [0, 1, 5, 25]), (1009, [4]), (1010, [4])]⟩ 5) e = mkE [(0, e 0), (1, e 1), (5, e 5)] := rfl
theorem c23 {k : Nat} {md : Md} {S : Store} {vs : List A} {D : List Nat} {l : List (List Cell)} {left : Int} (hd : dpArgs S [] vs = some ([.ro 1 (l.map nodeC), (.v (.int .i64 (left)))], D)) (hl : 0 ≤ left ∧ left ≤ 1048576) (hn : l.length ≤ 9223372036854775807) (hs : ∀ c ∈ l, c.length ≤ 9223372036854775807 ∧ ∀ x ∈ c, x.name.size ≤ 140737488351232 ∧ x.data.size ≤ 140737488351232) (hk : 4 ≤ k) :
    Cal (run k) md 23 vs S (fun r S' => ∃ n, r = .v (.int .i64 n) ∧ S' = S ∧ (n < 0 ∨ 0 ≤ n ∧ n = left - (l.length : Int) - (szN l : Int))) := by
  obtain ⟨k, rfl⟩ : ∃ j, k = j + 1 := ⟨k - 1, by omega⟩
  refine Cal.fn (n := 27) (rs := [.tmp 4]) (ids := []) (D := D) (Xof_none rfl) g23 (by delta Tryd.f23; exact rfl) (by delta Tryd.f23; exact rfl) (by delta Tryd.f23; exact rfl) hd (by first | rfl | simp [idsV, idsC]) (by simp) (by simp) ?_
  intro md' ow; have w := ow.w; have w0 := ow.w0; have fz : md'.fz = false := ow.fz
  repeat' (first
    | ((with_reducible apply EvO.off); (focus (exact rfl)); (focus (exact rfl)))
    | ((first | ((with_reducible apply EvO.call (vs := ?_)); (focus (exact rfl)); (focus (exact rfl))) | (with_reducible apply Cal.hd (ms := []) (p := ?_)) | ((with_reducible refine EvO.c1 (a := ?_) (S' := ?_) ?_ ?_ ?_); rotate_left 2; (focus (exact rfl))) | ((with_reducible refine EvO.c0 (a := ?_) (S' := ?_) ?_ ?_); rotate_left 2) | ((with_reducible apply EvO.cons); (focus (exact rfl))) | ((with_reducible apply EvO.guard); (focus (exact rfl)); (focus (exact rfl))) | ((with_reducible refine Ev.cond (t := ?_) ?_ ?_ ?_); rotate_left) | skip); (focus ((with_reducible refine Eq.trans ?_ rfl); simp (disch := first | (intros; contradiction) | (as_aux_lemma => omega) | (as_aux_lemma => (simp only [LEN2]; first | done | omega)) | (as_aux_lemma => (simp only [LEN]; first | done | omega))) only [EV, TT, w, w0, fz, FX_mark, FX_el_Cell, FX_el_Object, fl_node, ok_node, lf_node, nodeC, Nat.reduceEqDiff, Nat.reduceBeqDiff, Nat.reduceAdd, Nat.reduceMul, Nat.reduceLeDiff, Nat.reduceLT, reduceCtorEq, Int.reduceEq, Int.reduceNeg, FIN, DP]; first | done | exact rfl)); try (focus (exact rfl)))
    | ((with_reducible apply CalH.mk); intro hd; first | exact c52 (hd := hd) (hl := by first | assumption | omega | with_reducible rfl) (hn := by first | assumption | omega | with_reducible rfl) (hs := by first | assumption | omega | with_reducible rfl)  (hk := by omega))
    | (with_reducible (first | rintro r S' ⟨rfl, rfl⟩ | rintro r S' ⟨n, rfl, rfl, hsz⟩); refine ⟨_, rfl, ?_⟩)
    | with_reducible refine Ev.seq ?_
    | ((with_reducible refine Ev.regionH ?_); intro H)
    | with_reducible refine EvO.nil ?_
    | ((with_reducible apply regH_k); (focus (exact KIs.mk rfl)); (focus ((with_reducible apply EnvIs.mk); simp only [SE, Nat.reduceEqDiff, Nat.reduceAdd, reduceCtorEq]; first | done | exact rfl)); clear H)
    | exact KIs.mk rfl
    | with_reducible first | refine Ev.skip ?_ | refine Ev.ret ?_ | refine Ev.exit ?_ | refine Ev.block ?_ | refine thenQ_n ?_ | refine thenQ_x ?_ | refine thenQ_r ?_ | refine blockQ_n ?_ | refine blockQ_r ?_ | refine blockQ_x0 ?_ | refine roundQ_x ?_ | refine roundQ_r ?_
    | ((with_reducible refine endQ_r (vs := ?_) (vs' := ?_) (S₂ := ?_) ?_ ?_ ?_); rotate_left 3)
    | ((with_reducible refine blockQ_x1 ?_ ?_); exact rfl)
    | (intro c' hc; cases c' <;> first | (cases hc; done) | (try simp only [HC, inB_it, inB_if] at hc))
    | (intro hc; first | (cases hc; done) | (try simp only [HC, inB_it, inB_if] at hc))
    | fail)
  · exact ⟨_, rfl, rfl, .inl (by decide)⟩
  apply Ev.loop (fun j e S' => ∃ i : Nat, ∃ y : Int, e = mkE [(0, .ro 1 (l.map nodeC)), (1, (.v (.int .i64 (y)))), (5, (.v (.int .i64 ((i : Int)))))] ∧ S' = S ∧ j = l.length - i ∧ (i ≤ l.length) ∧ (0 ≤ y ∧ y = left - (l.length : Int) - (szN (l.take i) : Int)))
  · exact ⟨0, left - (l.length : Int), (k23_5 _).trans (by simp (disch := first | (intros; contradiction) | (as_aux_lemma => omega) | (as_aux_lemma => (simp only [LEN2]; first | done | omega)) | (as_aux_lemma => (simp only [LEN]; first | done | omega))) only [EV, TT, w, w0, fz, FX_mark, FX_el_Cell, FX_el_Object, fl_node, ok_node, lf_node, nodeC, Nat.reduceEqDiff, Nat.reduceBeqDiff, Nat.reduceAdd, Nat.reduceMul, Nat.reduceLeDiff, Nat.reduceLT, reduceCtorEq, Int.reduceEq, Int.reduceNeg]; first | done | rfl | (congr <;> omega)), (by first | rfl | (simp only [app_app, List.cons_append, List.nil_append]; done)), rfl, (by omega), (by simp [szN]; omega)⟩
  rintro j e S' ⟨i, y, rfl, rfl, hj, hi, hy⟩
  by_cases hli : (i : Int) < (l.length : Int)
  · have hlt : i < l.length := by omega
    have hz := hs l[i] (by simp)
    have hz1 := hz.1
    have hz2 := hz.2
    have ht := szN_s l hlt
    repeat' (first
      | ((with_reducible apply EvO.off); (focus (exact rfl)); (focus (exact rfl)))
      | ((first | ((with_reducible apply EvO.call (vs := ?_)); (focus (exact rfl)); (focus (exact rfl))) | (with_reducible apply Cal.hd (ms := []) (p := ?_)) | ((with_reducible refine EvO.c1 (a := ?_) (S' := ?_) ?_ ?_ ?_); rotate_left 2; (focus (exact rfl))) | ((with_reducible refine EvO.c0 (a := ?_) (S' := ?_) ?_ ?_); rotate_left 2) | ((with_reducible apply EvO.cons); (focus (exact rfl))) | ((with_reducible apply EvO.guard); (focus (exact rfl)); (focus (exact rfl))) | ((with_reducible refine Ev.cond (t := ?_) ?_ ?_ ?_); rotate_left) | skip); (focus ((with_reducible refine Eq.trans ?_ rfl); simp (disch := first | (intros; contradiction) | (as_aux_lemma => omega) | (as_aux_lemma => (simp only [LEN2]; first | done | omega)) | (as_aux_lemma => (simp only [LEN]; first | done | omega))) only [EV, TT, w, w0, fz, FX_mark, FX_el_Cell, FX_el_Object, fl_node, ok_node, lf_node, nodeC, hli, Nat.reduceEqDiff, Nat.reduceBeqDiff, Nat.reduceAdd, Nat.reduceMul, Nat.reduceLeDiff, Nat.reduceLT, reduceCtorEq, Int.reduceEq, Int.reduceNeg, FIN, DP]; first | done | exact rfl)); try (focus (exact rfl)))
      | ((with_reducible apply CalH.mk); intro hd; first | exact c52 (hd := hd) (hl := by first | assumption | omega | with_reducible rfl) (hn := by first | assumption | omega | with_reducible rfl) (hs := by first | assumption | omega | with_reducible rfl)  (hk := by omega))
      | (with_reducible (first | rintro r S' ⟨rfl, rfl⟩ | rintro r S' ⟨n, rfl, rfl, hsz⟩); refine ⟨_, rfl, ?_⟩)
      | with_reducible refine Ev.seq ?_
      | ((with_reducible refine Ev.regionH ?_); intro H)
      | with_reducible refine EvO.nil ?_
      | ((with_reducible apply regH_k); (focus (exact KIs.mk rfl)); (focus ((with_reducible apply EnvIs.mk); simp only [SE, Nat.reduceEqDiff, Nat.reduceAdd, reduceCtorEq]; first | done | exact rfl)); clear H)
      | exact KIs.mk rfl
      | with_reducible first | refine Ev.skip ?_ | refine Ev.ret ?_ | refine Ev.exit ?_ | refine Ev.block ?_ | refine thenQ_n ?_ | refine thenQ_x ?_ | refine thenQ_r ?_ | refine blockQ_n ?_ | refine blockQ_r ?_ | refine blockQ_x0 ?_ | refine roundQ_x ?_ | refine roundQ_r ?_
      | ((with_reducible refine endQ_r (vs := ?_) (vs' := ?_) (S₂ := ?_) ?_ ?_ ?_); rotate_left 3)
      | ((with_reducible refine blockQ_x1 ?_ ?_); exact rfl)
      | (intro c' hc; cases c' <;> first | (cases hc; done) | (try simp only [HC, inB_it, inB_if] at hc))
      | (intro hc; first | (cases hc; done) | (try simp only [HC, inB_it, inB_if] at hc))
      | fail)
    · exact ⟨_, rfl, rfl, .inl (by decide)⟩
    · apply roundQ_m; refine ⟨_, ⟨i + 1, _, (k23_5 _).trans (by simp (disch := first | (intros; contradiction) | (as_aux_lemma => omega) | (as_aux_lemma => (simp only [LEN2]; first | done | omega)) | (as_aux_lemma => (simp only [LEN]; first | done | omega))) only [EV, TT, w, w0, fz, FX_mark, FX_el_Cell, FX_el_Object, fl_node, ok_node, lf_node, nodeC, Nat.reduceEqDiff, Nat.reduceBeqDiff, Nat.reduceAdd, Nat.reduceMul, Nat.reduceLeDiff, Nat.reduceLT, reduceCtorEq, Int.reduceEq, Int.reduceNeg]; first | done | rfl | (congr <;> omega)), ?_, rfl, ?_, ?_⟩, ?_⟩
      · first | exact lpG_same | exact lpG_grow rfl | (refine (congrArg (fun K => lpG K _ _ _) (show _ = some _ from rfl)).trans (lpG_cut rfl ?_); simp [lowV, okC, mkE_at]; done) | (refine (congrArg (fun K => lpG K _ _ _) (show _ = some _ from rfl)).trans (lpG_mod rfl rfl ?_ ?_) <;> simp [lowV, okC, mkE_at, rowsAll_cons, rowsAll_nil, FX_mark, FX_el_Cell, FX_el_Object, fl_node, ok_node, lf_node, nodeC]; done) | (refine (lpG_len ?_).trans ?_; (focus (simp only [len_app, List.length_cons, List.length_nil, List.length_set]; done)); first | rfl | (simp (disch := first | (intros; contradiction) | (as_aux_lemma => omega) | (as_aux_lemma => (simp only [LEN2]; first | done | omega)) | (as_aux_lemma => (simp only [LEN]; first | done | omega))) only [EV, TT, w, w0, fz, FX_mark, FX_el_Cell, FX_el_Object, fl_node, ok_node, lf_node, nodeC, Nat.reduceEqDiff, Nat.reduceBeqDiff, Nat.reduceAdd, Nat.reduceMul, Nat.reduceLeDiff, Nat.reduceLT, reduceCtorEq, Int.reduceEq, Int.reduceNeg]; first | done | rfl)) | (refine (congrArg (fun K => lpG K _ _ _) (show _ = some _ from rfl)).trans (lpG_grow ?_); simp only [lowV, okC, EV, Nat.reduceEqDiff, Nat.reduceBeqDiff, Nat.reduceAdd, Nat.reduceMul, Nat.reduceLeDiff, Nat.reduceLT, reduceCtorEq, Int.reduceEq, Int.reduceNeg]; done)
      · first | omega | rfl | assumption | (simp; done)
      · first | omega | rfl | assumption | (simp; done)
      · omega
  · obtain rfl : i = l.length := by omega
    rw [List.take_length] at hy
    repeat' (first
      | ((with_reducible apply EvO.off); (focus (exact rfl)); (focus (exact rfl)))
      | ((first | ((with_reducible apply EvO.call (vs := ?_)); (focus (exact rfl)); (focus (exact rfl))) | (with_reducible apply Cal.hd (ms := []) (p := ?_)) | ((with_reducible refine EvO.c1 (a := ?_) (S' := ?_) ?_ ?_ ?_); rotate_left 2; (focus (exact rfl))) | ((with_reducible refine EvO.c0 (a := ?_) (S' := ?_) ?_ ?_); rotate_left 2) | ((with_reducible apply EvO.cons); (focus (exact rfl))) | ((with_reducible apply EvO.guard); (focus (exact rfl)); (focus (exact rfl))) | ((with_reducible refine Ev.cond (t := ?_) ?_ ?_ ?_); rotate_left) | skip); (focus ((with_reducible refine Eq.trans ?_ rfl); simp (disch := first | (intros; contradiction) | (as_aux_lemma => omega) | (as_aux_lemma => (simp only [LEN2]; first | done | omega)) | (as_aux_lemma => (simp only [LEN]; first | done | omega))) only [EV, TT, w, w0, fz, FX_mark, FX_el_Cell, FX_el_Object, fl_node, ok_node, lf_node, nodeC, hli, Nat.reduceEqDiff, Nat.reduceBeqDiff, Nat.reduceAdd, Nat.reduceMul, Nat.reduceLeDiff, Nat.reduceLT, reduceCtorEq, Int.reduceEq, Int.reduceNeg, FIN, DP]; first | done | exact rfl)); try (focus (exact rfl)))
      | ((with_reducible apply CalH.mk); intro hd; first | exact c52 (hd := hd) (hl := by first | assumption | omega | with_reducible rfl) (hn := by first | assumption | omega | with_reducible rfl) (hs := by first | assumption | omega | with_reducible rfl)  (hk := by omega))
      | (with_reducible (first | rintro r S' ⟨rfl, rfl⟩ | rintro r S' ⟨n, rfl, rfl, hsz⟩); refine ⟨_, rfl, ?_⟩)
      | with_reducible refine Ev.seq ?_
      | ((with_reducible refine Ev.regionH ?_); intro H)
      | with_reducible refine EvO.nil ?_
      | ((with_reducible apply regH_k); (focus (exact KIs.mk rfl)); (focus ((with_reducible apply EnvIs.mk); simp only [SE, Nat.reduceEqDiff, Nat.reduceAdd, reduceCtorEq]; first | done | exact rfl)); clear H)
      | exact KIs.mk rfl
      | with_reducible first | refine Ev.skip ?_ | refine Ev.ret ?_ | refine Ev.exit ?_ | refine Ev.block ?_ | refine thenQ_n ?_ | refine thenQ_x ?_ | refine thenQ_r ?_ | refine blockQ_n ?_ | refine blockQ_r ?_ | refine blockQ_x0 ?_ | refine roundQ_x ?_ | refine roundQ_r ?_
      | ((with_reducible refine endQ_r (vs := ?_) (vs' := ?_) (S₂ := ?_) ?_ ?_ ?_); rotate_left 3)
      | ((with_reducible refine blockQ_x1 ?_ ?_); exact rfl)
      | (intro c' hc; cases c' <;> first | (cases hc; done) | (try simp only [HC, inB_it, inB_if] at hc))
      | (intro hc; first | (cases hc; done) | (try simp only [HC, inB_it, inB_if] at hc))
      | fail)
    exact ⟨_, rfl, rfl, .inr hy⟩
theorem c54 {k : Nat} {md : Md} {S : Store} {vs : List A} {D : List Nat} {c : List Cell} (hd : dpArgs S [] vs = some ([.ag [.ro 4 (c.map Cell.c)]], D)) (hn : c.length ≤ 1048576) (hk : 3 ≤ k) :
    Cal (run k) md 54 vs S (fun r S' => r = .ag [.sl S.length 0 c.length c.length] ∧ S' = S ++ [⟨4, c.map Cell.c, 0, false⟩]) := by
  obtain ⟨k, rfl⟩ : ∃ j, k = j + 1 := ⟨k - 1, by omega⟩
  refine Cal.fn (n := 9) (rs := [.cell 2 54]) (ids := []) (D := D) (Xof_none rfl) g54 (by delta Tryd.f54; exact rfl) (by delta Tryd.f54; exact rfl) (by delta Tryd.f54; exact rfl) hd (by first | rfl | simp [idsV, idsC]) (by simp) (by simp) ?_
  intro md' ow; have w := ow.w; have w0 := ow.w0; have fz : md'.fz = false := ow.fz
  repeat' (first
    | ((with_reducible apply EvO.off); (focus (exact rfl)); (focus (exact rfl)))
    | ((first | ((with_reducible apply EvO.call (vs := ?_)); (focus (exact rfl)); (focus (exact rfl))) | (with_reducible apply Cal.hd (ms := []) (p := ?_)) | ((with_reducible refine EvO.c1 (a := ?_) (S' := ?_) ?_ ?_ ?_); rotate_left 2; (focus (exact rfl))) | ((with_reducible refine EvO.c0 (a := ?_) (S' := ?_) ?_ ?_); rotate_left 2) | ((with_reducible apply EvO.cons); (focus (exact rfl))) | ((with_reducible apply EvO.guard); (focus (exact rfl)); (focus (exact rfl))) | ((with_reducible refine Ev.cond (t := ?_) ?_ ?_ ?_); rotate_left) | skip); (focus ((with_reducible refine Eq.trans ?_ rfl); simp (disch := first | (intros; contradiction) | (as_aux_lemma => omega) | (as_aux_lemma => (simp only [LEN2]; first | done | omega)) | (as_aux_lemma => (simp only [LEN]; first | done | omega))) only [EV, TT, w, w0, fz, FX_mark, FX_el_Cell, FX_el_Object, fl_node, ok_node, lf_node, nodeC, Nat.reduceEqDiff, Nat.reduceBeqDiff, Nat.reduceAdd, Nat.reduceMul, Nat.reduceLeDiff, Nat.reduceLT, reduceCtorEq, Int.reduceEq, Int.reduceNeg, FIN, DP]; first | done | exact rfl)); try (focus (exact rfl)))
    | ((with_reducible apply CalH.mk); intro hd; first | exact c76 (hd := hd) (hn := by first | assumption | omega | with_reducible rfl)  (hk := by omega))
    | (with_reducible (first | rintro r S' ⟨rfl, rfl⟩); refine ⟨_, rfl, ?_⟩)
    | with_reducible refine Ev.seq ?_
    | ((with_reducible refine Ev.regionH ?_); intro H)
    | with_reducible refine EvO.nil ?_
    | ((with_reducible apply regH_k); (focus (exact KIs.mk rfl)); (focus ((with_reducible apply EnvIs.mk); simp only [SE, Nat.reduceEqDiff, Nat.reduceAdd, reduceCtorEq]; first | done | exact rfl)); clear H)
    | exact KIs.mk rfl
    | with_reducible first | refine Ev.skip ?_ | refine Ev.ret ?_ | refine Ev.exit ?_ | refine Ev.block ?_ | refine thenQ_n ?_ | refine thenQ_x ?_ | refine thenQ_r ?_ | refine blockQ_n ?_ | refine blockQ_r ?_ | refine blockQ_x0 ?_ | refine roundQ_x ?_ | refine roundQ_r ?_
    | ((with_reducible refine endQ_r (vs := ?_) (vs' := ?_) (S₂ := ?_) ?_ ?_ ?_); rotate_left 3)
    | ((with_reducible refine blockQ_x1 ?_ ?_); exact rfl)
    | (intro c' hc; cases c' <;> first | (cases hc; done) | (try simp only [HC, inB_it, inB_if] at hc))
    | (intro hc; first | (cases hc; done) | (try simp only [HC, inB_it, inB_if] at hc))
    | fail)
  exact ⟨rfl, rfl⟩
theorem k31_3 (e : Env) : lpE (FI.K ⟨[], true, [(3, [0, 3, 4]), (1000, [0]), (1001, [0, 3]), (1002, [0, 3, 4]), (1003, [0, 3, 4, 11]), (1004, [0, 3, 4]), (1005, [0, 3, 4]), (1006, [2])]⟩ 3) e = mkE [(0, e 0), (3, e 3), (4, e 4)] := rfl
theorem c31 {k : Nat} {md : Md} {S : Store} {vs : List A} {D : List Nat} {l : List (List Cell)} (hd : dpArgs S [] vs = some ([.ro 1 (l.map nodeC)], D)) (hD0 : D = []) (hn : l.length ≤ 1048576) (hcs : ∀ c ∈ l, c.length ≤ 1048576) (hk : 4 ≤ k) :
    Cal (run k) md 31 vs S (fun r S' => r = .sl S.length 0 l.length l.length ∧ S' = S ++ [⟨1, l.map nodeC, 0, false⟩]) := by
  obtain ⟨k, rfl⟩ : ∃ j, k = j + 1 := ⟨k - 1, by omega⟩
  refine Cal.fn (n := 23) (rs := [.tmp 2]) (ids := []) (D := D) (Xof_none rfl) g31 (by delta Tryd.f31; exact rfl) (by delta Tryd.f31; exact rfl) (by delta Tryd.f31; exact rfl) hd (by first | rfl | simp [idsV, idsC]) (by simp) (by simp) ?_
  intro md' ow; have w := ow.w; have w0 := ow.w0; have fz : md'.fz = true := ow.fz
  subst hD0
  repeat' (first
    | ((with_reducible apply EvO.off); (focus (exact rfl)); (focus (exact rfl)))
    | ((first | ((with_reducible apply EvO.call (vs := ?_)); (focus (exact rfl)); (focus (exact rfl))) | (with_reducible apply Cal.hd (ms := []) (p := ?_)) | ((with_reducible refine EvO.c1 (a := ?_) (S' := ?_) ?_ ?_ ?_); rotate_left 2; (focus (exact rfl))) | ((with_reducible refine EvO.c0 (a := ?_) (S' := ?_) ?_ ?_); rotate_left 2) | ((with_reducible apply EvO.cons); (focus (exact rfl))) | ((with_reducible apply EvO.guard); (focus (exact rfl)); (focus (exact rfl))) | ((with_reducible refine Ev.cond (t := ?_) ?_ ?_ ?_); rotate_left) | skip); (focus ((with_reducible refine Eq.trans ?_ rfl); simp (disch := first | (intros; contradiction) | (as_aux_lemma => omega) | (as_aux_lemma => (simp only [LEN2]; first | done | omega)) | (as_aux_lemma => (simp only [LEN]; first | done | omega))) only [EV, TT, w, w0, fz, FX_mark, FX_el_Cell, FX_el_Object, fl_node, ok_node, lf_node, nodeC, Nat.reduceEqDiff, Nat.reduceBeqDiff, Nat.reduceAdd, Nat.reduceMul, Nat.reduceLeDiff, Nat.reduceLT, reduceCtorEq, Int.reduceEq, Int.reduceNeg, FIN, DP]; first | done | exact rfl)); try (focus (exact rfl)))
    | ((with_reducible apply CalH.mk); intro hd; first | exact c54 (hd := hd) (hn := by first | assumption | omega | with_reducible rfl)  (hk := by omega))
    | (with_reducible (first | rintro r S' ⟨rfl, rfl⟩); refine ⟨_, rfl, ?_⟩)
    | with_reducible refine Ev.seq ?_
    | ((with_reducible refine Ev.regionH ?_); intro H)
    | with_reducible refine EvO.nil ?_
    | ((with_reducible apply regH_k); (focus (exact KIs.mk rfl)); (focus ((with_reducible apply EnvIs.mk); simp only [SE, Nat.reduceEqDiff, Nat.reduceAdd, reduceCtorEq]; first | done | exact rfl)); clear H)
    | exact KIs.mk rfl
    | with_reducible first | refine Ev.skip ?_ | refine Ev.ret ?_ | refine Ev.exit ?_ | refine Ev.block ?_ | refine thenQ_n ?_ | refine thenQ_x ?_ | refine thenQ_r ?_ | refine blockQ_n ?_ | refine blockQ_r ?_ | refine blockQ_x0 ?_ | refine roundQ_x ?_ | refine roundQ_r ?_
    | ((with_reducible refine endQ_r (vs := ?_) (vs' := ?_) (S₂ := ?_) ?_ ?_ ?_); rotate_left 3)
    | ((with_reducible refine blockQ_x1 ?_ ?_); exact rfl)
    | (intro c' hc; cases c' <;> first | (cases hc; done) | (try simp only [HC, inB_it, inB_if] at hc))
    | (intro hc; first | (cases hc; done) | (try simp only [HC, inB_it, inB_if] at hc))
    | fail)
  apply Ev.loop (fun j e S' => ∃ i : Nat, e = mkE [(0, .ro 1 (l.map nodeC)), (3, .sl (S.length + 1) 0 l.length l.length), (4, (.v (.int .i64 ((i : Int)))))] ∧ S' = S ++ [⟨1, [], 0, false⟩, ⟨1, fillR nodeC [.v (.slice none 0 0)] l i, 0, false⟩] ∧ j = l.length - i ∧ (i ≤ l.length))
  · exact ⟨0, (k31_3 _).trans (by simp (disch := first | (intros; contradiction) | (as_aux_lemma => omega) | (as_aux_lemma => (simp only [LEN2]; first | done | omega)) | (as_aux_lemma => (simp only [LEN]; first | done | omega))) only [EV, TT, w, w0, fz, FX_mark, FX_el_Cell, FX_el_Object, fl_node, ok_node, lf_node, nodeC, Nat.reduceEqDiff, Nat.reduceBeqDiff, Nat.reduceAdd, Nat.reduceMul, Nat.reduceLeDiff, Nat.reduceLT, reduceCtorEq, Int.reduceEq, Int.reduceNeg]; first | done | rfl | (congr <;> omega)), (by rw [fillR_0]), rfl, (by omega)⟩
  rintro j e S' ⟨i, rfl, rfl, hj, hi⟩
  have hlen := fillR_len nodeC [.v (.slice none 0 0)] l i hi
  by_cases hli : (i : Int) < (l.length : Int)
  · have hlt : i < l.length := by omega
    have hz := hcs l[i] (by simp)
    have hg2 := fillR_get nodeC [.v (.slice none 0 0)] l i hlt
    have hset := fillR_set nodeC [.v (.slice none 0 0)] l i hlt
    simp only [nodeC] at hset
    have hmm : md'.m ≤ S.length + 2 := by have := ow.m; omega
    repeat' (first
      | ((with_reducible apply EvO.off); (focus (exact rfl)); (focus (exact rfl)))
      | ((first | ((with_reducible apply EvO.call (vs := ?_)); (focus (exact rfl)); (focus (exact rfl))) | (with_reducible apply Cal.hd (ms := []) (p := ?_)) | ((with_reducible refine EvO.c1 (a := ?_) (S' := ?_) ?_ ?_ ?_); rotate_left 2; (focus (exact rfl))) | ((with_reducible refine EvO.c0 (a := ?_) (S' := ?_) ?_ ?_); rotate_left 2) | ((with_reducible apply EvO.cons); (focus (exact rfl))) | ((with_reducible apply EvO.guard); (focus (exact rfl)); (focus (exact rfl))) | ((with_reducible refine Ev.cond (t := ?_) ?_ ?_ ?_); rotate_left) | skip); (focus ((with_reducible refine Eq.trans ?_ rfl); simp (disch := first | (intros; contradiction) | (as_aux_lemma => omega) | (as_aux_lemma => (simp only [LEN2]; first | done | omega)) | (as_aux_lemma => (simp only [LEN]; first | done | omega))) only [EV, TT, w, w0, fz, FX_mark, FX_el_Cell, FX_el_Object, fl_node, ok_node, lf_node, nodeC, hli, hlen, hg2, hset, hmm, if_true, Option.map_some, Nat.reduceEqDiff, Nat.reduceBeqDiff, Nat.reduceAdd, Nat.reduceMul, Nat.reduceLeDiff, Nat.reduceLT, reduceCtorEq, Int.reduceEq, Int.reduceNeg, FIN, DP]; first | done | exact rfl)); try (focus (exact rfl)))
      | ((with_reducible apply CalH.mk); intro hd; first | exact c54 (hd := hd) (hn := by first | assumption | omega | with_reducible rfl)  (hk := by omega))
      | (with_reducible (first | rintro r S' ⟨rfl, rfl⟩); refine ⟨_, rfl, ?_⟩)
      | with_reducible refine Ev.seq ?_
      | ((with_reducible refine Ev.regionH ?_); intro H)
      | with_reducible refine EvO.nil ?_
      | ((with_reducible apply regH_k); (focus (exact KIs.mk rfl)); (focus ((with_reducible apply EnvIs.mk); simp only [SE, Nat.reduceEqDiff, Nat.reduceAdd, reduceCtorEq]; first | done | exact rfl)); clear H)
      | exact KIs.mk rfl
      | with_reducible first | refine Ev.skip ?_ | refine Ev.ret ?_ | refine Ev.exit ?_ | refine Ev.block ?_ | refine thenQ_n ?_ | refine thenQ_x ?_ | refine thenQ_r ?_ | refine blockQ_n ?_ | refine blockQ_r ?_ | refine blockQ_x0 ?_ | refine roundQ_x ?_ | refine roundQ_r ?_
      | ((with_reducible refine endQ_r (vs := ?_) (vs' := ?_) (S₂ := ?_) ?_ ?_ ?_); rotate_left 3)
      | ((with_reducible refine blockQ_x1 ?_ ?_); exact rfl)
      | (intro c' hc; cases c' <;> first | (cases hc; done) | (try simp only [HC, inB_it, inB_if] at hc))
      | (intro hc; first | (cases hc; done) | (try simp only [HC, inB_it, inB_if] at hc))
      | fail)
    apply roundQ_m; refine ⟨_, ⟨i + 1, (k31_3 _).trans (by simp (disch := first | (intros; contradiction) | (as_aux_lemma => omega) | (as_aux_lemma => (simp only [LEN2]; first | done | omega)) | (as_aux_lemma => (simp only [LEN]; first | done | omega))) only [EV, TT, w, w0, fz, FX_mark, FX_el_Cell, FX_el_Object, fl_node, ok_node, lf_node, nodeC, Nat.reduceEqDiff, Nat.reduceBeqDiff, Nat.reduceAdd, Nat.reduceMul, Nat.reduceLeDiff, Nat.reduceLT, reduceCtorEq, Int.reduceEq, Int.reduceNeg]; first | done | rfl | (congr <;> omega)), ?_, rfl, ?_⟩, ?_⟩
    · (refine (congrArg (fun K => lpG K _ _ _) (show _ = some _ from rfl)).trans (lpG_mod rfl rfl ?_ ?_) <;> simp [lowV, okC, mkE_at, rowsAll_cons, rowsAll_nil, okf_node]; done)
    · omega
    · omega
  · obtain rfl : i = l.length := by omega
    rw [fillR_all]
    repeat' (first
      | ((with_reducible apply EvO.off); (focus (exact rfl)); (focus (exact rfl)))
      | ((first | ((with_reducible apply EvO.call (vs := ?_)); (focus (exact rfl)); (focus (exact rfl))) | (with_reducible apply Cal.hd (ms := []) (p := ?_)) | ((with_reducible refine EvO.c1 (a := ?_) (S' := ?_) ?_ ?_ ?_); rotate_left 2; (focus (exact rfl))) | ((with_reducible refine EvO.c0 (a := ?_) (S' := ?_) ?_ ?_); rotate_left 2) | ((with_reducible apply EvO.cons); (focus (exact rfl))) | ((with_reducible apply EvO.guard); (focus (exact rfl)); (focus (exact rfl))) | ((with_reducible refine Ev.cond (t := ?_) ?_ ?_ ?_); rotate_left) | skip); (focus ((with_reducible refine Eq.trans ?_ rfl); simp (disch := first | (intros; contradiction) | (as_aux_lemma => omega) | (as_aux_lemma => (simp only [LEN2]; first | done | omega)) | (as_aux_lemma => (simp only [LEN]; first | done | omega))) only [EV, TT, w, w0, fz, FX_mark, FX_el_Cell, FX_el_Object, fl_node, ok_node, lf_node, nodeC, hli, Nat.reduceEqDiff, Nat.reduceBeqDiff, Nat.reduceAdd, Nat.reduceMul, Nat.reduceLeDiff, Nat.reduceLT, reduceCtorEq, Int.reduceEq, Int.reduceNeg, FIN, DP]; first | done | exact rfl)); try (focus (exact rfl)))
      | ((with_reducible apply CalH.mk); intro hd; first | exact c54 (hd := hd) (hn := by first | assumption | omega | with_reducible rfl)  (hk := by omega))
      | (with_reducible (first | rintro r S' ⟨rfl, rfl⟩); refine ⟨_, rfl, ?_⟩)
      | with_reducible refine Ev.seq ?_
      | ((with_reducible refine Ev.regionH ?_); intro H)
      | with_reducible refine EvO.nil ?_
      | ((with_reducible apply regH_k); (focus (exact KIs.mk rfl)); (focus ((with_reducible apply EnvIs.mk); simp only [SE, Nat.reduceEqDiff, Nat.reduceAdd, reduceCtorEq]; first | done | exact rfl)); clear H)
      | exact KIs.mk rfl
      | with_reducible first | refine Ev.skip ?_ | refine Ev.ret ?_ | refine Ev.exit ?_ | refine Ev.block ?_ | refine thenQ_n ?_ | refine thenQ_x ?_ | refine thenQ_r ?_ | refine blockQ_n ?_ | refine blockQ_r ?_ | refine blockQ_x0 ?_ | refine roundQ_x ?_ | refine roundQ_r ?_
      | ((with_reducible refine endQ_r (vs := ?_) (vs' := ?_) (S₂ := ?_) ?_ ?_ ?_); rotate_left 3)
      | ((with_reducible refine blockQ_x1 ?_ ?_); exact rfl)
      | (intro c' hc; cases c' <;> first | (cases hc; done) | (try simp only [HC, inB_it, inB_if] at hc))
      | (intro hc; first | (cases hc; done) | (try simp only [HC, inB_it, inB_if] at hc))
      | fail)
    exact ⟨rfl, rfl⟩
theorem c62 {k : Nat} {md : Md} {S : Store} {vs : List A} {D : List Nat} {c c' : List Cell} (hd : dpArgs S [] vs = some ([.ag [.ro 4 (c.map Cell.c)], .ag [.ro 4 (c'.map Cell.c)]], D)) (he : c = c') (hn : c.length ≤ 1048576) (hk : 3 ≤ k) :
    Cal (run k) md 62 vs S (fun r S' => r = (.v (.bool (true))) ∧ S' = S) := by
  obtain ⟨k, rfl⟩ : ∃ j, k = j + 1 := ⟨k - 1, by omega⟩
  refine Cal.fn (n := 11) (rs := [.tmp 4]) (ids := []) (D := D) (Xof_none rfl) g62 (by delta Tryd.f62; exact rfl) (by delta Tryd.f62; exact rfl) (by delta Tryd.f62; exact rfl) hd (by first | rfl | simp [idsV, idsC]) (by simp) (by simp) ?_
  intro md' ow; have w := ow.w; have w0 := ow.w0; have fz : md'.fz = false := ow.fz
  subst he
  repeat' (first
    | ((with_reducible apply EvO.off); (focus (exact rfl)); (focus (exact rfl)))
    | ((first | ((with_reducible apply EvO.call (vs := ?_)); (focus (exact rfl)); (focus (exact rfl))) | (with_reducible apply Cal.hd (ms := []) (p := ?_)) | ((with_reducible refine EvO.c1 (a := ?_) (S' := ?_) ?_ ?_ ?_); rotate_left 2; (focus (exact rfl))) | ((with_reducible refine EvO.c0 (a := ?_) (S' := ?_) ?_ ?_); rotate_left 2) | ((with_reducible apply EvO.cons); (focus (exact rfl))) | ((with_reducible apply EvO.guard); (focus (exact rfl)); (focus (exact rfl))) | ((with_reducible refine Ev.cond (t := ?_) ?_ ?_ ?_); rotate_left) | skip); (focus ((with_reducible refine Eq.trans ?_ rfl); simp (disch := first | (intros; contradiction) | (as_aux_lemma => omega) | (as_aux_lemma => (simp only [LEN2]; first | done | omega)) | (as_aux_lemma => (simp only [LEN]; first | done | omega))) only [EV, TT, w, w0, fz, FX_mark, FX_el_Cell, FX_el_Object, fl_node, ok_node, lf_node, nodeC, bne_self_eq_false, beq_self_eq_true, Nat.reduceEqDiff, Nat.reduceBeqDiff, Nat.reduceAdd, Nat.reduceMul, Nat.reduceLeDiff, Nat.reduceLT, reduceCtorEq, Int.reduceEq, Int.reduceNeg, FIN, DP]; first | done | exact rfl)); try (focus (exact rfl)))
    | ((with_reducible apply CalH.mk); intro hd; first | exact c86 (hd := hd) (he := by first | assumption | omega | with_reducible rfl) (hn := by first | assumption | omega | with_reducible rfl)  (hk := by omega) | exact c86_nn (hd := hd)   (hk := by omega))
    | (with_reducible (first | rintro r S' ⟨rfl, rfl⟩); refine ⟨_, rfl, ?_⟩)
    | with_reducible refine Ev.seq ?_
    | ((with_reducible refine Ev.regionH ?_); intro H)
    | with_reducible refine EvO.nil ?_
    | ((with_reducible apply regH_k); (focus (exact KIs.mk rfl)); (focus ((with_reducible apply EnvIs.mk); simp only [SE, Nat.reduceEqDiff, Nat.reduceAdd, reduceCtorEq]; first | done | exact rfl)); clear H)
    | exact KIs.mk rfl
    | with_reducible first | refine Ev.skip ?_ | refine Ev.ret ?_ | refine Ev.exit ?_ | refine Ev.block ?_ | refine thenQ_n ?_ | refine thenQ_x ?_ | refine thenQ_r ?_ | refine blockQ_n ?_ | refine blockQ_r ?_ | refine blockQ_x0 ?_ | refine roundQ_x ?_ | refine roundQ_r ?_
    | ((with_reducible refine endQ_r (vs := ?_) (vs' := ?_) (S₂ := ?_) ?_ ?_ ?_); rotate_left 3)
    | ((with_reducible refine blockQ_x1 ?_ ?_); exact rfl)
    | (intro c' hc; cases c' <;> first | (cases hc; done) | (try simp only [HC, inB_it, inB_if] at hc))
    | (intro hc; first | (cases hc; done) | (try simp only [HC, inB_it, inB_if] at hc))
    | fail)
  exact ⟨rfl, rfl⟩
theorem k39_4 (e : Env) : lpE (FI.K ⟨[], false, [(4, [0, 1, 5]), (1000, [0, 1]), (1001, [0, 1, 10]), (1002, [4]), (1003, [0, 1, 5]), (1004, [0, 1, 5, 14]), (1005, [0, 1, 5]), (1006, [0, 1, 5, 26]), (1007, [4]), (1008, [4])]⟩ 4) e = mkE [(0, e 0), (1, e 1), (5, e 5)] := rfl
theorem c39 {k : Nat} {md : Md} {S : Store} {vs : List A} {D : List Nat} {l l' : List (List Cell)} (hd : dpArgs S [] vs = some ([.ro 1 (l.map nodeC), .ro 1 (l'.map nodeC)], D)) (he : l = l') (hn : l.length ≤ 1048576) (hcs : ∀ c ∈ l, c.length ≤ 1048576) (hk : 4 ≤ k) :
    Cal (run k) md 39 vs S (fun r S' => r = (.v (.bool (true))) ∧ S' = S) := by
  obtain ⟨k, rfl⟩ : ∃ j, k = j + 1 := ⟨k - 1, by omega⟩
  refine Cal.fn (n := 27) (rs := [.tmp 4]) (ids := []) (D := D) (Xof_none rfl) g39 (by delta Tryd.f39; exact rfl) (by delta Tryd.f39; exact rfl) (by delta Tryd.f39; exact rfl) hd (by first | rfl | simp [idsV, idsC]) (by simp) (by simp) ?_
  intro md' ow; have w := ow.w; have w0 := ow.w0; have fz : md'.fz = false := ow.fz
  subst he
  repeat' (first
    | ((with_reducible apply EvO.off); (focus (exact rfl)); (focus (exact rfl))) | ((with_reducible apply EvT.off); (focus (exact rfl)); (focus (exact rfl)))
    | ((first | ((with_reducible apply EvO.call (vs := ?_)); (focus (exact rfl)); (focus (exact rfl))) | ((with_reducible apply EvT.call (vs := ?_)); (focus (exact rfl)); (focus (exact rfl))) | (with_reducible apply Cal.hd (ms := []) (p := ?_)) | ((with_reducible refine EvO.c1 (a := ?_) (S' := ?_) ?_ ?_ ?_); rotate_left 2; (focus (exact rfl))) | ((with_reducible refine EvO.c0 (a := ?_) (S' := ?_) ?_ ?_); rotate_left 2) | ((with_reducible apply EvO.cons); (focus (exact rfl))) | ((with_reducible refine EvT.c1 (a := ?_) (S' := ?_) ?_ ?_ ?_ ?_); rotate_left 2; (focus (exact rfl)); (focus (exact rfl))) | ((with_reducible refine EvT.c0 (a := ?_) (S' := ?_) ?_ ?_ ?_); rotate_left 2; (focus (exact rfl))) | ((with_reducible apply EvT.cons); (focus (exact rfl)); (focus (exact rfl))) | ((with_reducible apply EvO.guard); (focus (exact rfl)); (focus (exact rfl))) | ((with_reducible apply EvT.guard); (focus (exact rfl)); (focus (exact rfl))) | ((with_reducible refine Ev.cond (t := ?_) ?_ ?_ ?_); rotate_left) | skip); (focus ((with_reducible refine Eq.trans ?_ rfl); simp (disch := first | (intros; contradiction) | (as_aux_lemma => omega) | (as_aux_lemma => (simp only [LEN2]; first | done | omega)) | (as_aux_lemma => (simp only [LEN]; first | done | omega))) only [EV, TT, w, w0, fz, FX_mark, FX_el_Cell, FX_el_Object, fl_node, ok_node, lf_node, nodeC, bne_self_eq_false, Nat.reduceEqDiff, Nat.reduceBeqDiff, Nat.reduceAdd, Nat.reduceMul, Nat.reduceLeDiff, Nat.reduceLT, reduceCtorEq, Int.reduceEq, Int.reduceNeg, FIN, DP]; first | done | exact rfl)); try (focus (exact rfl)))
    | ((with_reducible apply CalH.mk); intro hd; first | exact c62 (hd := hd) (he := by first | assumption | omega | with_reducible rfl) (hn := by first | assumption | omega | with_reducible rfl)  (hk := by omega))
    | (with_reducible (first | rintro r S' ⟨rfl, rfl⟩); refine ⟨_, rfl, ?_⟩)
    | with_reducible refine Ev.seq ?_
    | ((with_reducible refine Ev.regionH ?_); intro H)
    | with_reducible refine EvO.nil ?_
    | ((with_reducible apply regH_k); (focus (exact KIs.mk rfl)); (focus ((with_reducible apply EnvIs.mk); simp only [SE, Nat.reduceEqDiff, Nat.reduceAdd, reduceCtorEq]; first | done | exact rfl)); clear H)
    | exact KIs.mk rfl
    | with_reducible first | refine Ev.skip ?_ | refine Ev.ret ?_ | refine Ev.exit ?_ | refine Ev.block ?_ | refine thenQ_n ?_ | refine thenQ_x ?_ | refine thenQ_r ?_ | refine blockQ_n ?_ | refine blockQ_r ?_ | refine blockQ_x0 ?_ | refine roundQ_x ?_ | refine roundQ_r ?_
    | ((with_reducible refine endQ_r (vs := ?_) (vs' := ?_) (S₂ := ?_) ?_ ?_ ?_); rotate_left 3)
    | ((with_reducible refine blockQ_x1 ?_ ?_); exact rfl)
    | ((with_reducible refine Ev.drawnH ?_ ?_); (focus kernel_rfl); intro H)
    | ((with_reducible refine EvT.nil ?_); refine ⟨drawn_mk (hs := []) (by repeat' (first | exact trivial | refine ⟨.inl rfl, ?_⟩ | refine ⟨.inr rfl, ?_⟩ | (refine ⟨.inr ?_, ?_⟩; (focus (simp only [app_app, List.cons_append, List.nil_append, len_app, List.length_cons, List.length_nil, len_lit, Nat.zero_add, Nat.reduceAdd]; done))))) (by kernel_rfl) ?_, ?_⟩)
    | with_reducible exact List.forall_mem_nil _
    | with_reducible refine List.forall_mem_cons.2 ⟨?_, ?_⟩
    | ((with_reducible apply stab_off); (focus (exact rfl)); (focus (exact rfl)))
    | ((with_reducible apply stab_mk); (focus (exact rfl)); (focus (exact rfl)); (focus (exact rfl)); (focus (exact rfl)))
    | (intro c' hc; cases c' <;> first | (cases hc; done) | (try simp only [HC, inB_it, inB_if] at hc))
    | (intro hc; first | (cases hc; done) | (try simp only [HC, inB_it, inB_if] at hc))
    | fail)
  apply Ev.loop (fun j e S' => ∃ i : Nat, e = mkE [(0, .ro 1 (l.map nodeC)), (1, .ro 1 (l.map nodeC)), (5, (.v (.int .i64 ((i : Int)))))] ∧ S' = S ∧ j = l.length - i ∧ (i ≤ l.length))
  · exact ⟨0, (k39_4 _).trans (by simp (disch := first | (intros; contradiction) | (as_aux_lemma => omega) | (as_aux_lemma => (simp only [LEN2]; first | done | omega)) | (as_aux_lemma => (simp only [LEN]; first | done | omega))) only [EV, TT, w, w0, fz, FX_mark, FX_el_Cell, FX_el_Object, fl_node, ok_node, lf_node, nodeC, Nat.reduceEqDiff, Nat.reduceBeqDiff, Nat.reduceAdd, Nat.reduceMul, Nat.reduceLeDiff, Nat.reduceLT, reduceCtorEq, Int.reduceEq, Int.reduceNeg]; first | done | rfl | (congr <;> omega)), (by first | rfl | (simp only [app_app, List.cons_append, List.nil_append]; done)), rfl, (by first | omega | rfl | (simp; done))⟩
  rintro j e S' ⟨i, rfl, rfl, hj, hi⟩
  by_cases hli : (i : Int) < (l.length : Int)
  · have hlt : i < l.length := by omega
    have hz := hcs l[i] (by simp)
    repeat' (first
      | ((with_reducible apply EvO.off); (focus (exact rfl)); (focus (exact rfl))) | ((with_reducible apply EvT.off); (focus (exact rfl)); (focus (exact rfl)))
      | ((first | ((with_reducible apply EvO.call (vs := ?_)); (focus (exact rfl)); (focus (exact rfl))) | ((with_reducible apply EvT.call (vs := ?_)); (focus (exact rfl)); (focus (exact rfl))) | (with_reducible apply Cal.hd (ms := []) (p := ?_)) | ((with_reducible refine EvO.c1 (a := ?_) (S' := ?_) ?_ ?_ ?_); rotate_left 2; (focus (exact rfl))) | ((with_reducible refine EvO.c0 (a := ?_) (S' := ?_) ?_ ?_); rotate_left 2) | ((with_reducible apply EvO.cons); (focus (exact rfl))) | ((with_reducible refine EvT.c1 (a := ?_) (S' := ?_) ?_ ?_ ?_ ?_); rotate_left 2; (focus (exact rfl)); (focus (exact rfl))) | ((with_reducible refine EvT.c0 (a := ?_) (S' := ?_) ?_ ?_ ?_); rotate_left 2; (focus (exact rfl))) | ((with_reducible apply EvT.cons); (focus (exact rfl)); (focus (exact rfl))) | ((with_reducible apply EvO.guard); (focus (exact rfl)); (focus (exact rfl))) | ((with_reducible apply EvT.guard); (focus (exact rfl)); (focus (exact rfl))) | ((with_reducible refine Ev.cond (t := ?_) ?_ ?_ ?_); rotate_left) | skip); (focus ((with_reducible refine Eq.trans ?_ rfl); simp (disch := first | (intros; contradiction) | (as_aux_lemma => omega) | (as_aux_lemma => (simp only [LEN2]; first | done | omega)) | (as_aux_lemma => (simp only [LEN]; first | done | omega))) only [EV, TT, w, w0, fz, FX_mark, FX_el_Cell, FX_el_Object, fl_node, ok_node, lf_node, nodeC, hli, bne_self_eq_false, beq_self_eq_true, Nat.reduceEqDiff, Nat.reduceBeqDiff, Nat.reduceAdd, Nat.reduceMul, Nat.reduceLeDiff, Nat.reduceLT, reduceCtorEq, Int.reduceEq, Int.reduceNeg, FIN, DP]; first | done | exact rfl)); try (focus (exact rfl)))
      | ((with_reducible apply CalH.mk); intro hd; first | exact c62 (hd := hd) (he := by first | assumption | omega | with_reducible rfl) (hn := by first | assumption | omega | with_reducible rfl)  (hk := by omega))
      | (with_reducible (first | rintro r S' ⟨rfl, rfl⟩); refine ⟨_, rfl, ?_⟩)
      | with_reducible refine Ev.seq ?_
      | ((with_reducible refine Ev.regionH ?_); intro H)
      | with_reducible refine EvO.nil ?_
      | ((with_reducible apply regH_k); (focus (exact KIs.mk rfl)); (focus ((with_reducible apply EnvIs.mk); simp only [SE, Nat.reduceEqDiff, Nat.reduceAdd, reduceCtorEq]; first | done | exact rfl)); clear H)
      | exact KIs.mk rfl
      | with_reducible first | refine Ev.skip ?_ | refine Ev.ret ?_ | refine Ev.exit ?_ | refine Ev.block ?_ | refine thenQ_n ?_ | refine thenQ_x ?_ | refine thenQ_r ?_ | refine blockQ_n ?_ | refine blockQ_r ?_ | refine blockQ_x0 ?_ | refine roundQ_x ?_ | refine roundQ_r ?_
      | ((with_reducible refine endQ_r (vs := ?_) (vs' := ?_) (S₂ := ?_) ?_ ?_ ?_); rotate_left 3)
      | ((with_reducible refine blockQ_x1 ?_ ?_); exact rfl)
      | ((with_reducible refine Ev.drawnH ?_ ?_); (focus kernel_rfl); intro H)
      | ((with_reducible refine EvT.nil ?_); refine ⟨drawn_mk (hs := []) (by repeat' (first | exact trivial | refine ⟨.inl rfl, ?_⟩ | refine ⟨.inr rfl, ?_⟩ | (refine ⟨.inr ?_, ?_⟩; (focus (simp only [app_app, List.cons_append, List.nil_append, len_app, List.length_cons, List.length_nil, len_lit, Nat.zero_add, Nat.reduceAdd]; done))))) (by kernel_rfl) ?_, ?_⟩)
      | with_reducible exact List.forall_mem_nil _
      | with_reducible refine List.forall_mem_cons.2 ⟨?_, ?_⟩
      | ((with_reducible apply stab_off); (focus (exact rfl)); (focus (exact rfl)))
      | ((with_reducible apply stab_mk); (focus (exact rfl)); (focus (exact rfl)); (focus (exact rfl)); (focus (exact rfl)))
      | (intro c' hc; cases c' <;> first | (cases hc; done) | (try simp only [HC, inB_it, inB_if] at hc))
      | (intro hc; first | (cases hc; done) | (try simp only [HC, inB_it, inB_if] at hc))
      | fail)
    apply roundQ_m; refine ⟨_, ⟨i + 1, (k39_4 _).trans (by simp (disch := first | (intros; contradiction) | (as_aux_lemma => omega) | (as_aux_lemma => (simp only [LEN2]; first | done | omega)) | (as_aux_lemma => (simp only [LEN]; first | done | omega))) only [EV, TT, w, w0, fz, FX_mark, FX_el_Cell, FX_el_Object, fl_node, ok_node, lf_node, nodeC, Nat.reduceEqDiff, Nat.reduceBeqDiff, Nat.reduceAdd, Nat.reduceMul, Nat.reduceLeDiff, Nat.reduceLT, reduceCtorEq, Int.reduceEq, Int.reduceNeg]; first | done | rfl | (congr <;> omega)), ?_, rfl, ?_⟩, ?_⟩
    · first | exact lpG_same | exact lpG_grow rfl | (refine (congrArg (fun K => lpG K _ _ _) (show _ = some _ from rfl)).trans (lpG_cut rfl ?_); simp [lowV, okC, mkE_at]; done) | (refine (congrArg (fun K => lpG K _ _ _) (show _ = some _ from rfl)).trans (lpG_mod rfl rfl ?_ ?_) <;> simp [lowV, okC, mkE_at, rowsAll_cons, rowsAll_nil, FX_mark, FX_el_Cell, FX_el_Object, fl_node, ok_node, lf_node, nodeC]; done) | (refine (lpG_len ?_).trans ?_; (focus (simp only [len_app, List.length_cons, List.length_nil, List.length_set]; done)); first | rfl | (simp (disch := first | (intros; contradiction) | (as_aux_lemma => omega) | (as_aux_lemma => (simp only [LEN2]; first | done | omega)) | (as_aux_lemma => (simp only [LEN]; first | done | omega))) only [EV, TT, w, w0, fz, FX_mark, FX_el_Cell, FX_el_Object, fl_node, ok_node, lf_node, nodeC, Nat.reduceEqDiff, Nat.reduceBeqDiff, Nat.reduceAdd, Nat.reduceMul, Nat.reduceLeDiff, Nat.reduceLT, reduceCtorEq, Int.reduceEq, Int.reduceNeg]; first | done | rfl)) | (refine (congrArg (fun K => lpG K _ _ _) (show _ = some _ from rfl)).trans (lpG_grow ?_); simp only [lowV, okC, EV, Nat.reduceEqDiff, Nat.reduceBeqDiff, Nat.reduceAdd, Nat.reduceMul, Nat.reduceLeDiff, Nat.reduceLT, reduceCtorEq, Int.reduceEq, Int.reduceNeg]; done)
    · first | omega | rfl | assumption | (simp; done)
    · omega
  · obtain rfl : i = l.length := by omega
    repeat' (first
      | ((with_reducible apply EvO.off); (focus (exact rfl)); (focus (exact rfl))) | ((with_reducible apply EvT.off); (focus (exact rfl)); (focus (exact rfl)))
      | ((first | ((with_reducible apply EvO.call (vs := ?_)); (focus (exact rfl)); (focus (exact rfl))) | ((with_reducible apply EvT.call (vs := ?_)); (focus (exact rfl)); (focus (exact rfl))) | (with_reducible apply Cal.hd (ms := []) (p := ?_)) | ((with_reducible refine EvO.c1 (a := ?_) (S' := ?_) ?_ ?_ ?_); rotate_left 2; (focus (exact rfl))) | ((with_reducible refine EvO.c0 (a := ?_) (S' := ?_) ?_ ?_); rotate_left 2) | ((with_reducible apply EvO.cons); (focus (exact rfl))) | ((with_reducible refine EvT.c1 (a := ?_) (S' := ?_) ?_ ?_ ?_ ?_); rotate_left 2; (focus (exact rfl)); (focus (exact rfl))) | ((with_reducible refine EvT.c0 (a := ?_) (S' := ?_) ?_ ?_ ?_); rotate_left 2; (focus (exact rfl))) | ((with_reducible apply EvT.cons); (focus (exact rfl)); (focus (exact rfl))) | ((with_reducible apply EvO.guard); (focus (exact rfl)); (focus (exact rfl))) | ((with_reducible apply EvT.guard); (focus (exact rfl)); (focus (exact rfl))) | ((with_reducible refine Ev.cond (t := ?_) ?_ ?_ ?_); rotate_left) | skip); (focus ((with_reducible refine Eq.trans ?_ rfl); simp (disch := first | (intros; contradiction) | (as_aux_lemma => omega) | (as_aux_lemma => (simp only [LEN2]; first | done | omega)) | (as_aux_lemma => (simp only [LEN]; first | done | omega))) only [EV, TT, w, w0, fz, FX_mark, FX_el_Cell, FX_el_Object, fl_node, ok_node, lf_node, nodeC, hli, Nat.reduceEqDiff, Nat.reduceBeqDiff, Nat.reduceAdd, Nat.reduceMul, Nat.reduceLeDiff, Nat.reduceLT, reduceCtorEq, Int.reduceEq, Int.reduceNeg, FIN, DP]; first | done | exact rfl)); try (focus (exact rfl)))
      | ((with_reducible apply CalH.mk); intro hd; first | exact c62 (hd := hd) (he := by first | assumption | omega | with_reducible rfl) (hn := by first | assumption | omega | with_reducible rfl)  (hk := by omega))
      | (with_reducible (first | rintro r S' ⟨rfl, rfl⟩); refine ⟨_, rfl, ?_⟩)
      | with_reducible refine Ev.seq ?_
      | ((with_reducible refine Ev.regionH ?_); intro H)
      | with_reducible refine EvO.nil ?_
      | ((with_reducible apply regH_k); (focus (exact KIs.mk rfl)); (focus ((with_reducible apply EnvIs.mk); simp only [SE, Nat.reduceEqDiff, Nat.reduceAdd, reduceCtorEq]; first | done | exact rfl)); clear H)
      | exact KIs.mk rfl
      | with_reducible first | refine Ev.skip ?_ | refine Ev.ret ?_ | refine Ev.exit ?_ | refine Ev.block ?_ | refine thenQ_n ?_ | refine thenQ_x ?_ | refine thenQ_r ?_ | refine blockQ_n ?_ | refine blockQ_r ?_ | refine blockQ_x0 ?_ | refine roundQ_x ?_ | refine roundQ_r ?_
      | ((with_reducible refine endQ_r (vs := ?_) (vs' := ?_) (S₂ := ?_) ?_ ?_ ?_); rotate_left 3)
      | ((with_reducible refine blockQ_x1 ?_ ?_); exact rfl)
      | ((with_reducible refine Ev.drawnH ?_ ?_); (focus kernel_rfl); intro H)
      | ((with_reducible refine EvT.nil ?_); refine ⟨drawn_mk (hs := []) (by repeat' (first | exact trivial | refine ⟨.inl rfl, ?_⟩ | refine ⟨.inr rfl, ?_⟩ | (refine ⟨.inr ?_, ?_⟩; (focus (simp only [app_app, List.cons_append, List.nil_append, len_app, List.length_cons, List.length_nil, len_lit, Nat.zero_add, Nat.reduceAdd]; done))))) (by kernel_rfl) ?_, ?_⟩)
      | with_reducible exact List.forall_mem_nil _
      | with_reducible refine List.forall_mem_cons.2 ⟨?_, ?_⟩
      | ((with_reducible apply stab_off); (focus (exact rfl)); (focus (exact rfl)))
      | ((with_reducible apply stab_mk); (focus (exact rfl)); (focus (exact rfl)); (focus (exact rfl)); (focus (exact rfl)))
      | (intro c' hc; cases c' <;> first | (cases hc; done) | (try simp only [HC, inB_it, inB_if] at hc))
      | (intro hc; first | (cases hc; done) | (try simp only [HC, inB_it, inB_if] at hc))
      | fail)
    exact ⟨rfl, rfl⟩
def cluA (kk mm : Int) (l : List (List Cell)) (q : List Object) : A := .ag [(.v (.int .i64 (kk))), (.v (.int .i64 (mm))), .ro 1 (l.map nodeC), .ro 2 (q.map Object.c)]
theorem c8 {k : Nat} {md : Md} {S : Store} {vs : List A} {D : List Nat} {kk mm : Int} {l : List (List Cell)} {q : List Object} {left : Int} (hd : dpArgs S [] vs = some ([.ag [(.v (.int .i64 (kk))), (.v (.int .i64 (mm))), .ro 1 (l.map nodeC), .ro 2 (q.map Object.c)], (.v (.int .i64 (left)))], D)) (hl : 0 ≤ left ∧ left ≤ 1048576) (hn : l.length ≤ 9223372036854775807) (hs : ∀ c ∈ l, c.length ≤ 9223372036854775807 ∧ ∀ x ∈ c, x.name.size ≤ 140737488351232 ∧ x.data.size ≤ 140737488351232) (hq : q.length ≤ 9223372036854775807) (hqs : ∀ x ∈ q, x.name.size ≤ 140737488351232) (hk : 5 ≤ k) :
    Cal (run k) md 8 vs S (fun r S' => ∃ n, r = .v (.int .i64 n) ∧ S' = S ∧ (n < 0 ∨ 0 ≤ n ∧ n = left - (l.length : Int) - (szN l : Int) - (q.length : Int) - (szObject q : Int))) := by
  obtain ⟨k, rfl⟩ : ∃ j, k = j + 1 := ⟨k - 1, by omega⟩
  refine Cal.fn (n := 18) (rs := [.tmp 4]) (ids := []) (D := D) (Xof_none rfl) g8 (by delta Tryd.f8; exact rfl) (by delta Tryd.f8; exact rfl) (by delta Tryd.f8; exact rfl) hd (by first | rfl | simp [idsV, idsC]) (by simp) (by simp) ?_
  intro md' ow; have w := ow.w; have w0 := ow.w0; have fz : md'.fz = false := ow.fz
  repeat' (first
    | ((with_reducible apply EvO.off); (focus (exact rfl)); (focus (exact rfl)))
    | ((first | ((with_reducible apply EvO.call (vs := ?_)); (focus (exact rfl)); (focus (exact rfl))) | (with_reducible apply Cal.hd (ms := []) (p := ?_)) | ((with_reducible refine EvO.c1 (a := ?_) (S' := ?_) ?_ ?_ ?_); rotate_left 2; (focus (exact rfl))) | ((with_reducible refine EvO.c0 (a := ?_) (S' := ?_) ?_ ?_); rotate_left 2) | ((with_reducible apply EvO.cons); (focus (exact rfl))) | ((with_reducible apply EvO.guard); (focus (exact rfl)); (focus (exact rfl))) | ((with_reducible refine Ev.cond (t := ?_) ?_ ?_ ?_); rotate_left) | skip); (focus ((with_reducible refine Eq.trans ?_ rfl); simp (disch := first | (intros; contradiction) | (as_aux_lemma => omega) | (as_aux_lemma => (simp only [LEN2]; first | done | omega)) | (as_aux_lemma => (simp only [LEN]; first | done | omega))) only [EV, TT, w, w0, fz, FX_mark, FX_el_Cell, FX_el_Object, fl_node, ok_node, lf_node, nodeC, Nat.reduceEqDiff, Nat.reduceBeqDiff, Nat.reduceAdd, Nat.reduceMul, Nat.reduceLeDiff, Nat.reduceLT, reduceCtorEq, Int.reduceEq, Int.reduceNeg, FIN, DP]; first | done | exact rfl)); try (focus (exact rfl)))
    | ((with_reducible apply CalH.mk); intro hd; first | exact c23 (hd := hd) (hl := by first | assumption | omega | with_reducible rfl) (hn := by first | assumption | omega | with_reducible rfl) (hs := by first | assumption | omega | with_reducible rfl)  (hk := by omega) | exact c24 (hd := hd) (hl := by first | assumption | omega | with_reducible rfl) (hn := by first | assumption | omega | with_reducible rfl) (hs := by first | assumption | omega | with_reducible rfl)  (hk := by omega))
    | (with_reducible (first | rintro r S' ⟨rfl, rfl⟩ | rintro r S' ⟨n, rfl, rfl, hsz⟩); refine ⟨_, rfl, ?_⟩)
    | with_reducible refine Ev.seq ?_
    | ((with_reducible refine Ev.regionH ?_); intro H)
    | with_reducible refine EvO.nil ?_
    | ((with_reducible apply regH_k); (focus (exact KIs.mk rfl)); (focus ((with_reducible apply EnvIs.mk); simp only [SE, Nat.reduceEqDiff, Nat.reduceAdd, reduceCtorEq]; first | done | exact rfl)); clear H)
    | exact KIs.mk rfl
    | with_reducible first | refine Ev.skip ?_ | refine Ev.ret ?_ | refine Ev.exit ?_ | refine Ev.block ?_ | refine thenQ_n ?_ | refine thenQ_x ?_ | refine thenQ_r ?_ | refine blockQ_n ?_ | refine blockQ_r ?_ | refine blockQ_x0 ?_ | refine roundQ_x ?_ | refine roundQ_r ?_
    | ((with_reducible refine endQ_r (vs := ?_) (vs' := ?_) (S₂ := ?_) ?_ ?_ ?_); rotate_left 3)
    | ((with_reducible refine blockQ_x1 ?_ ?_); exact rfl)
    | (intro c' hc; cases c' <;> first | (cases hc; done) | (try simp only [HC, inB_it, inB_if] at hc))
    | (intro hc; first | (cases hc; done) | (try simp only [HC, inB_it, inB_if] at hc))
    | fail)
  all_goals refine ⟨_, rfl, rfl, ?_⟩
  all_goals omega
theorem c10 {k : Nat} {md : Md} {S : Store} {vs : List A} {D : List Nat} {kk mm : Int} {l : List (List Cell)} {q : List Object} (hd : dpArgs S [] vs = some ([.ag [(.v (.int .i64 (kk))), (.v (.int .i64 (mm))), .ro 1 (l.map nodeC), .ro 2 (q.map Object.c)]], D)) (hD0 : D = []) (hn : l.length ≤ 1048576) (hcs : ∀ c ∈ l, c.length ≤ 1048576) (hq : q.length ≤ 1048576) (hk : 5 ≤ k) :
    Cal (run k) md 10 vs S (fun r S' => r = .ag [(.v (.int .i64 (kk))), (.v (.int .i64 (mm))), .sl S.length 0 l.length l.length, .sl (S.length + 1) 0 q.length q.length] ∧ S' = S ++ [⟨1, l.map nodeC, 0, false⟩, ⟨2, q.map Object.c, 0, false⟩]) := by
  obtain ⟨k, rfl⟩ : ∃ j, k = j + 1 := ⟨k - 1, by omega⟩
  refine Cal.fn (n := 19) (rs := [.cell 2 31]) (ids := []) (D := D) (Xof_none rfl) g10 (by delta Tryd.f10; exact rfl) (by delta Tryd.f10; exact rfl) (by delta Tryd.f10; exact rfl) hd (by first | rfl | simp [idsV, idsC]) (by simp) (by simp) ?_
  intro md' ow; have w := ow.w; have w0 := ow.w0; have fz : md'.fz = false := ow.fz
  subst hD0
  repeat' (first
    | ((with_reducible apply EvO.off); (focus (exact rfl)); (focus (exact rfl)))
    | ((first | ((with_reducible apply EvO.call (vs := ?_)); (focus (exact rfl)); (focus (exact rfl))) | (with_reducible apply Cal.hd (ms := []) (p := ?_)) | ((with_reducible refine EvO.c1 (a := ?_) (S' := ?_) ?_ ?_ ?_); rotate_left 2; (focus (exact rfl))) | ((with_reducible refine EvO.c0 (a := ?_) (S' := ?_) ?_ ?_); rotate_left 2) | ((with_reducible apply EvO.cons); (focus (exact rfl))) | ((with_reducible apply EvO.guard); (focus (exact rfl)); (focus (exact rfl))) | ((with_reducible refine Ev.cond (t := ?_) ?_ ?_ ?_); rotate_left) | skip); (focus ((with_reducible refine Eq.trans ?_ rfl); simp (disch := first | (intros; contradiction) | (as_aux_lemma => omega) | (as_aux_lemma => (simp only [LEN2]; first | done | omega)) | (as_aux_lemma => (simp only [LEN]; first | done | omega))) only [EV, TT, w, w0, fz, FX_mark, FX_el_Cell, FX_el_Object, fl_node, ok_node, lf_node, nodeC, Nat.reduceEqDiff, Nat.reduceBeqDiff, Nat.reduceAdd, Nat.reduceMul, Nat.reduceLeDiff, Nat.reduceLT, reduceCtorEq, Int.reduceEq, Int.reduceNeg, FIN, DP]; first | done | exact rfl)); try (focus (exact rfl)))
    | ((with_reducible apply CalH.mk); intro hd; first | exact c31 (hd := hd) (hD0 := by first | assumption | omega | with_reducible rfl) (hn := by first | assumption | omega | with_reducible rfl) (hcs := by first | assumption | omega | with_reducible rfl)  (hk := by omega) | exact c32 (hd := hd) (hn := by first | assumption | omega | with_reducible rfl)  (hk := by omega))
    | (with_reducible (first | rintro r S' ⟨rfl, rfl⟩); refine ⟨_, rfl, ?_⟩)
    | with_reducible refine Ev.seq ?_
    | ((with_reducible refine Ev.regionH ?_); intro H)
    | with_reducible refine EvO.nil ?_
    | ((with_reducible apply regH_k); (focus (exact KIs.mk rfl)); (focus ((with_reducible apply EnvIs.mk); simp only [SE, Nat.reduceEqDiff, Nat.reduceAdd, reduceCtorEq]; first | done | exact rfl)); clear H)
    | exact KIs.mk rfl
    | with_reducible first | refine Ev.skip ?_ | refine Ev.ret ?_ | refine Ev.exit ?_ | refine Ev.block ?_ | refine thenQ_n ?_ | refine thenQ_x ?_ | refine thenQ_r ?_ | refine blockQ_n ?_ | refine blockQ_r ?_ | refine blockQ_x0 ?_ | refine roundQ_x ?_ | refine roundQ_r ?_
    | ((with_reducible refine endQ_r (vs := ?_) (vs' := ?_) (S₂ := ?_) ?_ ?_ ?_); rotate_left 3)
    | ((with_reducible refine blockQ_x1 ?_ ?_); exact rfl)
    | (intro c' hc; cases c' <;> first | (cases hc; done) | (try simp only [HC, inB_it, inB_if] at hc))
    | (intro hc; first | (cases hc; done) | (try simp only [HC, inB_it, inB_if] at hc))
    | fail)
  exact ⟨rfl, rfl⟩
theorem c12 {k : Nat} {md : Md} {S : Store} {vs : List A} {D : List Nat} {kk mm : Int} {l l' : List (List Cell)} {q q' : List Object} (hd : dpArgs S [] vs = some ([.ag [(.v (.int .i64 (kk))), (.v (.int .i64 (mm))), .ro 1 (l.map nodeC), .ro 2 (q.map Object.c)], .ag [(.v (.int .i64 (kk))), (.v (.int .i64 (mm))), .ro 1 (l'.map nodeC), .ro 2 (q'.map Object.c)]], D)) (he : l = l') (hf : q = q') (hn : l.length ≤ 1048576) (hcs : ∀ c ∈ l, c.length ≤ 1048576) (hq : q.length ≤ 1048576) (hk : 5 ≤ k) :
    Cal (run k) md 12 vs S (fun r S' => r = (.v (.bool (true))) ∧ S' = S) := by
  obtain ⟨k, rfl⟩ : ∃ j, k = j + 1 := ⟨k - 1, by omega⟩
  refine Cal.fn (n := 27) (rs := [.tmp 4]) (ids := []) (D := D) (Xof_none rfl) g12 (by delta Tryd.f12; exact rfl) (by delta Tryd.f12; exact rfl) (by delta Tryd.f12; exact rfl) hd (by first | rfl | simp [idsV, idsC]) (by simp) (by simp) ?_
  intro md' ow; have w := ow.w; have w0 := ow.w0; have fz : md'.fz = false := ow.fz
  subst he; subst hf
  repeat' (first
    | ((with_reducible apply EvO.off); (focus (exact rfl)); (focus (exact rfl)))
    | ((first | ((with_reducible apply EvO.call (vs := ?_)); (focus (exact rfl)); (focus (exact rfl))) | (with_reducible apply Cal.hd (ms := []) (p := ?_)) | ((with_reducible refine EvO.c1 (a := ?_) (S' := ?_) ?_ ?_ ?_); rotate_left 2; (focus (exact rfl))) | ((with_reducible refine EvO.c0 (a := ?_) (S' := ?_) ?_ ?_); rotate_left 2) | ((with_reducible apply EvO.cons); (focus (exact rfl))) | ((with_reducible apply EvO.guard); (focus (exact rfl)); (focus (exact rfl))) | ((with_reducible refine Ev.cond (t := ?_) ?_ ?_ ?_); rotate_left) | skip); (focus ((with_reducible refine Eq.trans ?_ rfl); simp (disch := first | (intros; contradiction) | (as_aux_lemma => omega) | (as_aux_lemma => (simp only [LEN2]; first | done | omega)) | (as_aux_lemma => (simp only [LEN]; first | done | omega))) only [EV, TT, w, w0, fz, FX_mark, FX_el_Cell, FX_el_Object, fl_node, ok_node, lf_node, nodeC, bne_self_eq_false, beq_self_eq_true, Nat.reduceEqDiff, Nat.reduceBeqDiff, Nat.reduceAdd, Nat.reduceMul, Nat.reduceLeDiff, Nat.reduceLT, reduceCtorEq, Int.reduceEq, Int.reduceNeg, FIN, DP]; first | done | exact rfl)); try (focus (exact rfl)))
    | ((with_reducible apply CalH.mk); intro hd; first | exact c39 (hd := hd) (he := by first | assumption | omega | with_reducible rfl) (hn := by first | assumption | omega | with_reducible rfl) (hcs := by first | assumption | omega | with_reducible rfl)  (hk := by omega) | exact c40 (hd := hd) (he := by first | assumption | omega | with_reducible rfl) (hn := by first | assumption | omega | with_reducible rfl)  (hk := by omega) | exact c40_nn (hd := hd)   (hk := by omega))
    | (with_reducible (first | rintro r S' ⟨rfl, rfl⟩); refine ⟨_, rfl, ?_⟩)
    | with_reducible refine Ev.seq ?_
    | ((with_reducible refine Ev.regionH ?_); intro H)
    | with_reducible refine EvO.nil ?_
    | ((with_reducible apply regH_k); (focus (exact KIs.mk rfl)); (focus ((with_reducible apply EnvIs.mk); simp only [SE, Nat.reduceEqDiff, Nat.reduceAdd, reduceCtorEq]; first | done | exact rfl)); clear H)
    | exact KIs.mk rfl
    | with_reducible first | refine Ev.skip ?_ | refine Ev.ret ?_ | refine Ev.exit ?_ | refine Ev.block ?_ | refine thenQ_n ?_ | refine thenQ_x ?_ | refine thenQ_r ?_ | refine blockQ_n ?_ | refine blockQ_r ?_ | refine blockQ_x0 ?_ | refine roundQ_x ?_ | refine roundQ_r ?_
    | ((with_reducible refine endQ_r (vs := ?_) (vs' := ?_) (S₂ := ?_) ?_ ?_ ?_); rotate_left 3)
    | ((with_reducible refine blockQ_x1 ?_ ?_); exact rfl)
    | (intro c' hc; cases c' <;> first | (cases hc; done) | (try simp only [HC, inB_it, inB_if] at hc))
    | (intro hc; first | (cases hc; done) | (try simp only [HC, inB_it, inB_if] at hc))
    | fail)
  exact ⟨rfl, rfl⟩
theorem FX_node : (((type_of% @fl_node) ∧ (type_of% @ok_node)) ∧ ((type_of% @lf_node) ∧ (type_of% @nodeC.eq_1))) := ⟨⟨@fl_node, @ok_node⟩, ⟨@lf_node, @nodeC.eq_1⟩⟩
end Go.Proofs.YtdpaijnbikclgaaDoorB

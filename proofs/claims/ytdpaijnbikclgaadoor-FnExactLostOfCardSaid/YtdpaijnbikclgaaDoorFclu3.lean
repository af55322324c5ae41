/- Part of the evaluator's contracts: clu3. -/
import Derived.Test.YtdpaijnbikclgaaDoorFclu2
namespace Go.Proofs.YtdpaijnbikclgaaDoorB
open Go Go.Proofs.YtdpaijnbikclgaaDoorE
set_option linter.unusedVariables false
set_option linter.unusedSectionVars false
set_option linter.unusedSimpArgs false
set_option maxHeartbeats 4000000
set_option maxRecDepth 20000
def srt (q : List Object) : Prop := ∀ a b (hab : a < b) (hb : b < q.length), lessN (q[a]'(by omega)).name q[b].name = true
theorem cmp_in {q : List Object} {s : ByteArray} {i : Nat} (h : i < posQ q s) (hi : i < q.length) : Go.Lib.compareBytes q[i].name.data.toList s.data.toList = -1 := by -- 59
  have := pos_in h hi
  rw [toL, toL] at this
  rw [cmp_less, if_pos this]
theorem cmp_out {q : List Object} {s : ByteArray} (hs : srt q) {i : Nat} (h : posQ q s ≤ i) (hi : i < q.length) : 0 ≤ Go.Lib.compareBytes q[i].name.data.toList s.data.toList := by -- 59
  have h0 : Op.bytesLess q[i].name.data.toList s.data.toList = false := by
    have hp := pos_out (q := q) (s := s) (by omega)
    rw [toL, toL] at hp
    by_cases e : posQ q s = i
    · subst e; exact hp
    · have hl := hs (posQ q s) i (by omega) hi
      unfold lessN at hl
      rw [toL, toL] at hl
      cases hc : Op.bytesLess q[i].name.data.toList s.data.toList with
      | false => rfl
      | true => have := less_trans hl hc; rw [hp] at this; cases this
  rw [cmp_less, h0]
  split
  · rename_i h; cases h
  · split <;> omega
theorem cmp_eq {q : List Object} {s : ByteArray} (h : posQ q s < q.length) : (Go.Lib.compareBytes (q[posQ q s]).name.data.toList s.data.toList == 0) = hasB q s := by -- 59
  have hp := pos_out h
  rw [toL, toL] at hp
  rw [has_in h, toL, toL, cmp_less, hp]
  by_cases e : (q[posQ q s]).name.data.toList = s.data.toList
  · rw [e]; simp
  · simp only [Bool.false_eq_true, if_false]
    rw [if_neg e, beq_eq_false_iff_ne.2 e]; rfl
theorem c58 {k : Nat} {md : Md} {S : Store} {vs : List A} {D : List Nat} {o : Object} {s : ByteArray} (hd : dpArgs S [] vs = some ([.ag [(.v (.string (o.name))), (.v (.int .i64 (o.size)))], (.v (.string (s)))], D))  (hk : 4 ≤ k) :
    Cal (run k) md 58 vs S (fun r S' => r = (.v (.int .i64 (Go.Lib.compareBytes o.name.data.toList s.data.toList))) ∧ S' = S) := by
  obtain ⟨k, rfl⟩ : ∃ j, k = j + 1 := ⟨k - 1, by omega⟩
  refine Cal.fn (n := 9) (rs := [.tmp 4]) (ids := []) (D := D) (Xof_none rfl) g58 (by delta Tryd.f58; exact rfl) (by delta Tryd.f58; exact rfl) (by delta Tryd.f58; exact rfl) hd (by first | rfl | simp [idsV, idsC]) (by simp) (by simp) ?_
  intro md' ow; have w := ow.w; have w0 := ow.w0; have fz : md'.fz = false := ow.fz
  repeat' (first
    | exact c59
    | ((with_reducible apply EvO.off); (focus (exact rfl)); (focus (exact rfl)))
    | ((first | ((with_reducible apply EvO.call (vs := ?_)); (focus (exact rfl)); (focus (exact rfl))) | ((with_reducible refine EvO.c1 (a := ?_) (S' := ?_) ?_ ?_ ?_); rotate_left 2; (focus (exact rfl))) | ((with_reducible refine EvO.c0 (a := ?_) (S' := ?_) ?_ ?_); rotate_left 2) | ((with_reducible apply EvO.cons); (focus (exact rfl))) | ((with_reducible apply EvO.guard); (focus (exact rfl)); (focus (exact rfl))) | ((with_reducible refine Ev.cond (t := ?_) ?_ ?_ ?_); rotate_left) | skip); (focus ((with_reducible refine Eq.trans ?_ rfl); simp (disch := first | (intros; contradiction) | (as_aux_lemma => omega) | (as_aux_lemma => (simp only [LEN2]; first | done | omega)) | (as_aux_lemma => (simp only [LEN]; first | done | omega))) only [EV, TT, w, w0, fz, FX_mark, FX_str, FX_el_Cell, FX_el_Object, FX_node, Nat.reduceEqDiff, Nat.reduceBeqDiff, Nat.reduceAdd, Nat.reduceMul, Nat.reduceLeDiff, Nat.reduceLT, reduceCtorEq, Int.reduceEq, Int.reduceNeg, FIN, DP]; first | done | exact rfl)); try (focus (exact rfl)))
    | (with_reducible (first | rintro r S' ⟨rfl, rfl⟩); refine ⟨_, rfl, ?_⟩)
    | with_reducible refine Ev.seq ?_
    | ((with_reducible refine Ev.regionH ?_); intro H)
    | with_reducible refine EvO.nil ?_
    | ((with_reducible apply regH_k); (focus (exact KIs.mk rfl)); (focus ((with_reducible apply EnvIs.mk); simp only [SE, Nat.reduceEqDiff, Nat.reduceAdd, reduceCtorEq]; first | done | exact rfl)); clear H)
    | exact KIs.mk rfl
    | with_reducible first | refine Ev.skip ?_ | refine Ev.ret ?_ | refine Ev.exit ?_ | refine Ev.block ?_ | refine thenQ_n ?_ | refine thenQ_x ?_ | refine thenQ_r ?_ | refine blockQ_n ?_ | refine blockQ_r ?_ | refine blockQ_x0 ?_ | refine roundQ_x ?_ | refine roundQ_r ?_
    | ((with_reducible refine endQ_r (vs := ?_) (vs' := ?_) (S₂ := ?_) ?_ ?_ ?_); rotate_left 3)
    | ((with_reducible refine blockQ_x1 ?_ ?_); exact rfl)
    | (intro c' hc; cases c' <;> first | (cases hc; done) | (try simp only [HC, inB_it, inB_if] at hc))
    | (intro hc; first | (cases hc; done) | (try simp only [HC, inB_it, inB_if] at hc))
    | fail)
  all_goals exact ⟨rfl, rfl⟩
theorem half (i jj : Nat) (h : i ≤ 1048576 ∧ jj ≤ 1048576) : (IntKind.u64.wrap ((i : Int) + (jj : Int))).fdiv (2 ^ (min (Int.toNat 1) IntKind.u64.bits)) = (((i + jj) / 2 : Nat) : Int) := by
  rw [IntKind.wrap_u64]
  have e : min (Int.toNat 1) IntKind.u64.bits = 1 := rfl
  rw [e, Int.fdiv_eq_ediv_of_nonneg _ (by decide)]
  omega
theorem k57_3 (e : Env) : lpE (FI.K ⟨[], false, [(3, [0, 1, 2, 8, 9, 10]), (1000, [0, 1, 2]), (1001, [0, 1, 2, 8]), (1002, [0, 1, 2, 8, 9, 10]), (1003, [0, 1, 2, 8, 9, 10, 17]), (1004, [0, 1, 2, 8, 9, 10, 11]), (1005, [0, 1, 2, 8, 9, 10, 11, 31]), (1006, [0, 1, 2, 8, 9, 10]), (1007, [0, 1, 2, 8, 9, 10]), (1008, [6, 7])]⟩ 3) e = mkE [(0, e 0), (1, e 1), (2, e 2), (8, e 8), (9, e 9), (10, e 10)] := rfl
theorem c57_nm {k : Nat} {md : Md} {S : Store} {vs : List A} {D : List Nat} {q : List Object} {s : ByteArray} (hd : dpArgs S [] vs = some ([.ro 2 (q.map Object.c), (.v (.string (s))), .fn 58 []], D)) (hq : q.length ≤ 1048576) (hs : srt q) (hk : 5 ≤ k) :
    Cal (run k) md 57 vs S (fun r S' => r = .tu [(.v (.int .i64 ((posQ q s : Int)))), (.v (.bool (hasB q s)))] ∧ S' = S) := by
  obtain ⟨k, rfl⟩ : ∃ j, k = j + 1 := ⟨k - 1, by omega⟩
  refine Cal.fn (n := 49) (rs := [.tmp 6, .tmp 7]) (ids := []) (D := D) (Xof_none rfl) g57 (by delta Tryd.f57; exact rfl) (by delta Tryd.f57; exact rfl) (by delta Tryd.f57; exact rfl) hd (by first | rfl | simp [idsV, idsC]) (by simp) (by simp) ?_
  intro md' ow; have w := ow.w; have w0 := ow.w0; have fz : md'.fz = false := ow.fz
  have hle := pos_le q s
  repeat' (first
    | ((with_reducible apply EvO.off); (focus (exact rfl)); (focus (exact rfl)))
    | ((first | ((with_reducible refine EvO.c1 (a := ?_) (S' := ?_) ?_ ?_ ?_); rotate_left 2; (focus (exact rfl))) | ((with_reducible refine EvO.c0 (a := ?_) (S' := ?_) ?_ ?_); rotate_left 2) | ((with_reducible apply EvO.cons); (focus (exact rfl))) | ((with_reducible apply EvO.guard); (focus (exact rfl)); (focus (exact rfl))) | ((with_reducible refine Ev.cond (t := ?_) ?_ ?_ ?_); rotate_left) | skip); (focus ((with_reducible refine Eq.trans ?_ rfl); simp (disch := first | (intros; contradiction) | (as_aux_lemma => omega) | (as_aux_lemma => (simp only [LEN2]; first | done | omega)) | (as_aux_lemma => (simp only [LEN]; first | done | omega))) only [EV, TT, w, w0, fz, FX_mark, FX_str, FX_el_Cell, FX_el_Object, FX_node, Nat.reduceEqDiff, Nat.reduceBeqDiff, Nat.reduceAdd, Nat.reduceMul, Nat.reduceLeDiff, Nat.reduceLT, reduceCtorEq, Int.reduceEq, Int.reduceNeg, FIN, DP]; first | done | exact rfl)); try (focus (exact rfl)))
    | with_reducible refine Ev.seq ?_
    | ((with_reducible refine Ev.regionH ?_); intro H)
    | with_reducible refine EvO.nil ?_
    | ((with_reducible apply regH_k); (focus (exact KIs.mk rfl)); (focus ((with_reducible apply EnvIs.mk); simp only [SE, Nat.reduceEqDiff, Nat.reduceAdd, reduceCtorEq]; first | done | exact rfl)); clear H)
    | exact KIs.mk rfl
    | with_reducible first | refine Ev.skip ?_ | refine Ev.ret ?_ | refine Ev.exit ?_ | refine Ev.block ?_ | refine thenQ_n ?_ | refine thenQ_x ?_ | refine thenQ_r ?_ | refine blockQ_n ?_ | refine blockQ_r ?_ | refine blockQ_x0 ?_ | refine roundQ_x ?_ | refine roundQ_r ?_
    | ((with_reducible refine endQ_r (vs := ?_) (vs' := ?_) (S₂ := ?_) ?_ ?_ ?_); rotate_left 3)
    | ((with_reducible refine blockQ_x1 ?_ ?_); exact rfl)
    | (intro c' hc; cases c' <;> first | (cases hc; done) | (try simp only [HC, inB_it, inB_if] at hc))
    | (intro hc; first | (cases hc; done) | (try simp only [HC, inB_it, inB_if] at hc))
    | fail)
  apply Ev.loop (fun j e S' => ∃ i : Nat, ∃ jj : Nat, e = mkE [(0, .ro 2 (q.map Object.c)), (1, (.v (.string (s)))), (2, .fn 58 []), (8, (.v (.int .i64 ((q.length : Int))))), (9, (.v (.int .i64 ((i : Int))))), (10, (.v (.int .i64 ((jj : Int)))))] ∧ S' = S ∧ j = jj - i ∧ (i ≤ posQ q s) ∧ (posQ q s ≤ jj ∧ jj ≤ q.length))
  · exact ⟨0, q.length, (k57_3 _).trans (by simp (disch := first | (intros; contradiction) | (as_aux_lemma => omega) | (as_aux_lemma => (simp only [LEN2]; first | done | omega)) | (as_aux_lemma => (simp only [LEN]; first | done | omega))) only [EV, TT, w, w0, fz, FX_mark, FX_str, FX_el_Cell, FX_el_Object, FX_node, Nat.reduceEqDiff, Nat.reduceBeqDiff, Nat.reduceAdd, Nat.reduceMul, Nat.reduceLeDiff, Nat.reduceLT, reduceCtorEq, Int.reduceEq, Int.reduceNeg]; first | done | rfl | (congr <;> omega)), (by first | rfl | (simp only [app_app, List.cons_append, List.nil_append]; done)), rfl, (by omega), (by omega)⟩
  rintro j e S' ⟨i, jj, rfl, rfl, hj, hi, hjj⟩
  have hh := half i jj (by omega)
  by_cases hlt : i < jj
  · have hli : (i : Int) < (jj : Int) := by omega
    have hm1 : (i + jj) / 2 < q.length := by omega
    have hm2 : i ≤ (i + jj) / 2 ∧ (i + jj) / 2 < jj := by omega
    generalize hmm : (i + jj) / 2 = y at *
    by_cases hp : y < posQ q s
    · have hc1 := cmp_in hp hm1
      repeat' (first
        | ((with_reducible apply EvO.off); (focus (exact rfl)); (focus (exact rfl)))
        | ((first | ((with_reducible apply EvO.call (vs := ?_)); (focus (exact rfl)); (focus (exact rfl))) | (with_reducible apply Cal.hd (ms := []) (p := ?_)) | ((with_reducible refine EvO.c1 (a := ?_) (S' := ?_) ?_ ?_ ?_); rotate_left 2; (focus (exact rfl))) | ((with_reducible refine EvO.c0 (a := ?_) (S' := ?_) ?_ ?_); rotate_left 2) | ((with_reducible apply EvO.cons); (focus (exact rfl))) | ((with_reducible apply EvO.guard); (focus (exact rfl)); (focus (exact rfl))) | ((with_reducible refine Ev.cond (t := ?_) ?_ ?_ ?_); rotate_left) | skip); (focus ((with_reducible refine Eq.trans ?_ rfl); simp (disch := first | (intros; contradiction) | (as_aux_lemma => omega) | (as_aux_lemma => (simp only [LEN2]; first | done | omega)) | (as_aux_lemma => (simp only [LEN]; first | done | omega))) only [EV, TT, w, w0, fz, FX_mark, FX_str, FX_el_Cell, FX_el_Object, FX_node, hli, hh, hc1, Nat.reduceEqDiff, Nat.reduceBeqDiff, Nat.reduceAdd, Nat.reduceMul, Nat.reduceLeDiff, Nat.reduceLT, reduceCtorEq, Int.reduceEq, Int.reduceNeg, FIN, DP]; first | done | exact rfl)); try (focus (exact rfl)))
        | ((with_reducible apply CalH.mk); intro hd; first | exact c58 (k := k) (hd := hd)  (o := q[y]) (s := s) (hk := by omega))
        | (with_reducible (first | rintro r S' ⟨rfl, rfl⟩); refine ⟨_, rfl, ?_⟩)
        | with_reducible refine Ev.seq ?_
        | ((with_reducible refine Ev.regionH ?_); intro H)
        | with_reducible refine EvO.nil ?_
        | ((with_reducible apply regH_k); (focus (exact KIs.mk rfl)); (focus ((with_reducible apply EnvIs.mk); simp only [SE, Nat.reduceEqDiff, Nat.reduceAdd, reduceCtorEq]; first | done | exact rfl)); clear H)
        | exact KIs.mk rfl
        | with_reducible first | refine Ev.skip ?_ | refine Ev.ret ?_ | refine Ev.exit ?_ | refine Ev.block ?_ | refine thenQ_n ?_ | refine thenQ_x ?_ | refine thenQ_r ?_ | refine blockQ_n ?_ | refine blockQ_r ?_ | refine blockQ_x0 ?_ | refine roundQ_x ?_ | refine roundQ_r ?_
        | ((with_reducible refine endQ_r (vs := ?_) (vs' := ?_) (S₂ := ?_) ?_ ?_ ?_); rotate_left 3)
        | ((with_reducible refine blockQ_x1 ?_ ?_); exact rfl)
        | (intro c' hc; cases c' <;> first | (cases hc; done) | (try simp only [HC, inB_it, inB_if] at hc))
        | (intro hc; first | (cases hc; done) | (try simp only [HC, inB_it, inB_if] at hc))
        | fail)
      all_goals first | (exfalso; omega) | skip
      all_goals
        apply roundQ_m; refine ⟨_, ⟨y + 1, jj, (k57_3 _).trans (by simp (disch := first | (intros; contradiction) | (as_aux_lemma => omega) | (as_aux_lemma => (simp only [LEN2]; first | done | omega)) | (as_aux_lemma => (simp only [LEN]; first | done | omega))) only [hli, EV, TT, w, w0, fz, FX_mark, FX_str, FX_el_Cell, FX_el_Object, FX_node, Nat.reduceEqDiff, Nat.reduceBeqDiff, Nat.reduceAdd, Nat.reduceMul, Nat.reduceLeDiff, Nat.reduceLT, reduceCtorEq, Int.reduceEq, Int.reduceNeg]; first | done | rfl | (congr <;> omega)), ?_, rfl, ?_, ?_⟩, ?_⟩
        · first | exact lpG_same | exact lpG_grow rfl | (refine (congrArg (fun K => lpG K _ _ _) (show _ = some _ from rfl)).trans (lpG_cut rfl ?_); simp [lowV, okC, mkE_at]; done) | (refine (congrArg (fun K => lpG K _ _ _) (show _ = some _ from rfl)).trans (lpG_mod rfl rfl ?_ ?_) <;> simp [lowV, okC, mkE_at, rowsAll_cons, rowsAll_nil, FX_mark, FX_str, FX_el_Cell, FX_el_Object, FX_node]; done) | (refine (lpG_len ?_).trans ?_; (focus (simp only [len_app, List.length_cons, List.length_nil, List.length_set]; done)); first | rfl | (simp (disch := first | (intros; contradiction) | (as_aux_lemma => omega) | (as_aux_lemma => (simp only [LEN2]; first | done | omega)) | (as_aux_lemma => (simp only [LEN]; first | done | omega))) only [hli, EV, TT, w, w0, fz, FX_mark, FX_str, FX_el_Cell, FX_el_Object, FX_node, Nat.reduceEqDiff, Nat.reduceBeqDiff, Nat.reduceAdd, Nat.reduceMul, Nat.reduceLeDiff, Nat.reduceLT, reduceCtorEq, Int.reduceEq, Int.reduceNeg]; first | done | rfl)) | (refine (congrArg (fun K => lpG K _ _ _) (show _ = some _ from rfl)).trans (lpG_grow ?_); simp only [lowV, okC, EV, Nat.reduceEqDiff, Nat.reduceBeqDiff, Nat.reduceAdd, Nat.reduceMul, Nat.reduceLeDiff, Nat.reduceLT, reduceCtorEq, Int.reduceEq, Int.reduceNeg]; done)
        · omega
        · omega
        · omega
    · have hc1 := cmp_out hs (show posQ q s ≤ y by omega) hm1
      generalize hcc : Go.Lib.compareBytes q[y].name.data.toList s.data.toList = z at *
      repeat' (first
        | ((with_reducible apply EvO.off); (focus (exact rfl)); (focus (exact rfl)))
        | ((first | ((with_reducible apply EvO.call (vs := ?_)); (focus (exact rfl)); (focus (exact rfl))) | (with_reducible apply Cal.hd (ms := []) (p := ?_)) | ((with_reducible refine EvO.c1 (a := ?_) (S' := ?_) ?_ ?_ ?_); rotate_left 2; (focus (exact rfl))) | ((with_reducible refine EvO.c0 (a := ?_) (S' := ?_) ?_ ?_); rotate_left 2) | ((with_reducible apply EvO.cons); (focus (exact rfl))) | ((with_reducible apply EvO.guard); (focus (exact rfl)); (focus (exact rfl))) | ((with_reducible refine Ev.cond (t := ?_) ?_ ?_ ?_); rotate_left) | skip); (focus ((with_reducible refine Eq.trans ?_ rfl); simp (disch := first | (intros; contradiction) | (as_aux_lemma => omega) | (as_aux_lemma => (simp only [LEN2]; first | done | omega)) | (as_aux_lemma => (simp only [LEN]; first | done | omega))) only [EV, TT, w, w0, fz, FX_mark, FX_str, FX_el_Cell, FX_el_Object, FX_node, hli, hh, hcc, Nat.reduceEqDiff, Nat.reduceBeqDiff, Nat.reduceAdd, Nat.reduceMul, Nat.reduceLeDiff, Nat.reduceLT, reduceCtorEq, Int.reduceEq, Int.reduceNeg, FIN, DP]; first | done | exact rfl)); try (focus (exact rfl)))
        | ((with_reducible apply CalH.mk); intro hd; first | exact c58 (k := k) (hd := hd)  (o := q[y]) (s := s) (hk := by omega))
        | (with_reducible (first | rintro r S' ⟨rfl, rfl⟩); refine ⟨_, rfl, ?_⟩)
        | with_reducible refine Ev.seq ?_
        | ((with_reducible refine Ev.regionH ?_); intro H)
        | with_reducible refine EvO.nil ?_
        | ((with_reducible apply regH_k); (focus (exact KIs.mk rfl)); (focus ((with_reducible apply EnvIs.mk); simp only [SE, Nat.reduceEqDiff, Nat.reduceAdd, reduceCtorEq]; first | done | exact rfl)); clear H)
        | exact KIs.mk rfl
        | with_reducible first | refine Ev.skip ?_ | refine Ev.ret ?_ | refine Ev.exit ?_ | refine Ev.block ?_ | refine thenQ_n ?_ | refine thenQ_x ?_ | refine thenQ_r ?_ | refine blockQ_n ?_ | refine blockQ_r ?_ | refine blockQ_x0 ?_ | refine roundQ_x ?_ | refine roundQ_r ?_
        | ((with_reducible refine endQ_r (vs := ?_) (vs' := ?_) (S₂ := ?_) ?_ ?_ ?_); rotate_left 3)
        | ((with_reducible refine blockQ_x1 ?_ ?_); exact rfl)
        | (intro c' hc; cases c' <;> first | (cases hc; done) | (try simp only [HC, inB_it, inB_if] at hc))
        | (intro hc; first | (cases hc; done) | (try simp only [HC, inB_it, inB_if] at hc))
        | fail)
      all_goals first | (exfalso; omega) | skip
      all_goals
        apply roundQ_m; refine ⟨_, ⟨i, y, (k57_3 _).trans (by simp (disch := first | (intros; contradiction) | (as_aux_lemma => omega) | (as_aux_lemma => (simp only [LEN2]; first | done | omega)) | (as_aux_lemma => (simp only [LEN]; first | done | omega))) only [hli, EV, TT, w, w0, fz, FX_mark, FX_str, FX_el_Cell, FX_el_Object, FX_node, Nat.reduceEqDiff, Nat.reduceBeqDiff, Nat.reduceAdd, Nat.reduceMul, Nat.reduceLeDiff, Nat.reduceLT, reduceCtorEq, Int.reduceEq, Int.reduceNeg]; first | done | rfl | (congr <;> omega)), ?_, rfl, ?_, ?_⟩, ?_⟩
        · first | exact lpG_same | exact lpG_grow rfl | (refine (congrArg (fun K => lpG K _ _ _) (show _ = some _ from rfl)).trans (lpG_cut rfl ?_); simp [lowV, okC, mkE_at]; done) | (refine (congrArg (fun K => lpG K _ _ _) (show _ = some _ from rfl)).trans (lpG_mod rfl rfl ?_ ?_) <;> simp [lowV, okC, mkE_at, rowsAll_cons, rowsAll_nil, FX_mark, FX_str, FX_el_Cell, FX_el_Object, FX_node]; done) | (refine (lpG_len ?_).trans ?_; (focus (simp only [len_app, List.length_cons, List.length_nil, List.length_set]; done)); first | rfl | (simp (disch := first | (intros; contradiction) | (as_aux_lemma => omega) | (as_aux_lemma => (simp only [LEN2]; first | done | omega)) | (as_aux_lemma => (simp only [LEN]; first | done | omega))) only [hli, EV, TT, w, w0, fz, FX_mark, FX_str, FX_el_Cell, FX_el_Object, FX_node, Nat.reduceEqDiff, Nat.reduceBeqDiff, Nat.reduceAdd, Nat.reduceMul, Nat.reduceLeDiff, Nat.reduceLT, reduceCtorEq, Int.reduceEq, Int.reduceNeg]; first | done | rfl)) | (refine (congrArg (fun K => lpG K _ _ _) (show _ = some _ from rfl)).trans (lpG_grow ?_); simp only [lowV, okC, EV, Nat.reduceEqDiff, Nat.reduceBeqDiff, Nat.reduceAdd, Nat.reduceMul, Nat.reduceLeDiff, Nat.reduceLT, reduceCtorEq, Int.reduceEq, Int.reduceNeg]; done)
        · omega
        · omega
        · omega
  · have hli : ¬ (i : Int) < (jj : Int) := by omega
    obtain rfl : i = posQ q s := by omega
    by_cases hlq : (posQ q s : Int) < (q.length : Int)
    · have hl2 : posQ q s < q.length := by omega
      have hcq := cmp_eq hl2
      repeat' (first
        | ((with_reducible apply EvO.off); (focus (exact rfl)); (focus (exact rfl)))
        | ((first | ((with_reducible apply EvO.call (vs := ?_)); (focus (exact rfl)); (focus (exact rfl))) | (with_reducible apply Cal.hd (ms := []) (p := ?_)) | ((with_reducible refine EvO.c1 (a := ?_) (S' := ?_) ?_ ?_ ?_); rotate_left 2; (focus (exact rfl))) | ((with_reducible refine EvO.c0 (a := ?_) (S' := ?_) ?_ ?_); rotate_left 2) | ((with_reducible apply EvO.cons); (focus (exact rfl))) | ((with_reducible apply EvO.guard); (focus (exact rfl)); (focus (exact rfl))) | ((with_reducible refine Ev.cond (t := ?_) ?_ ?_ ?_); rotate_left) | skip); (focus ((with_reducible refine Eq.trans ?_ rfl); simp (disch := first | (intros; contradiction) | (as_aux_lemma => omega) | (as_aux_lemma => (simp only [LEN2]; first | done | omega)) | (as_aux_lemma => (simp only [LEN]; first | done | omega))) only [EV, TT, w, w0, fz, FX_mark, FX_str, FX_el_Cell, FX_el_Object, FX_node, hli, hlq, hcq, Nat.reduceEqDiff, Nat.reduceBeqDiff, Nat.reduceAdd, Nat.reduceMul, Nat.reduceLeDiff, Nat.reduceLT, reduceCtorEq, Int.reduceEq, Int.reduceNeg, FIN, DP]; first | done | exact rfl)); try (focus (exact rfl)))
        | ((with_reducible apply CalH.mk); intro hd; first | exact c58 (k := k) (hd := hd)  (o := q[posQ q s]) (s := s) (hk := by omega))
        | (with_reducible (first | rintro r S' ⟨rfl, rfl⟩); refine ⟨_, rfl, ?_⟩)
        | with_reducible refine Ev.seq ?_
        | ((with_reducible refine Ev.regionH ?_); intro H)
        | with_reducible refine EvO.nil ?_
        | ((with_reducible apply regH_k); (focus (exact KIs.mk rfl)); (focus ((with_reducible apply EnvIs.mk); simp only [SE, Nat.reduceEqDiff, Nat.reduceAdd, reduceCtorEq]; first | done | exact rfl)); clear H)
        | exact KIs.mk rfl
        | with_reducible first | refine Ev.skip ?_ | refine Ev.ret ?_ | refine Ev.exit ?_ | refine Ev.block ?_ | refine thenQ_n ?_ | refine thenQ_x ?_ | refine thenQ_r ?_ | refine blockQ_n ?_ | refine blockQ_r ?_ | refine blockQ_x0 ?_ | refine roundQ_x ?_ | refine roundQ_r ?_
        | ((with_reducible refine endQ_r (vs := ?_) (vs' := ?_) (S₂ := ?_) ?_ ?_ ?_); rotate_left 3)
        | ((with_reducible refine blockQ_x1 ?_ ?_); exact rfl)
        | (intro c' hc; cases c' <;> first | (cases hc; done) | (try simp only [HC, inB_it, inB_if] at hc))
        | (intro hc; first | (cases hc; done) | (try simp only [HC, inB_it, inB_if] at hc))
        | fail)
      all_goals first | (exfalso; omega) | exact ⟨rfl, rfl⟩
    · have hno := has_no (q := q) (s := s) (by omega)
      repeat' (first
        | ((with_reducible apply EvO.off); (focus (exact rfl)); (focus (exact rfl)))
        | ((first | ((with_reducible refine EvO.c1 (a := ?_) (S' := ?_) ?_ ?_ ?_); rotate_left 2; (focus (exact rfl))) | ((with_reducible refine EvO.c0 (a := ?_) (S' := ?_) ?_ ?_); rotate_left 2) | ((with_reducible apply EvO.cons); (focus (exact rfl))) | ((with_reducible apply EvO.guard); (focus (exact rfl)); (focus (exact rfl))) | ((with_reducible refine Ev.cond (t := ?_) ?_ ?_ ?_); rotate_left) | skip); (focus ((with_reducible refine Eq.trans ?_ rfl); simp (disch := first | (intros; contradiction) | (as_aux_lemma => omega) | (as_aux_lemma => (simp only [LEN2]; first | done | omega)) | (as_aux_lemma => (simp only [LEN]; first | done | omega))) only [EV, TT, w, w0, fz, FX_mark, FX_str, FX_el_Cell, FX_el_Object, FX_node, hli, hlq, hno, Nat.reduceEqDiff, Nat.reduceBeqDiff, Nat.reduceAdd, Nat.reduceMul, Nat.reduceLeDiff, Nat.reduceLT, reduceCtorEq, Int.reduceEq, Int.reduceNeg, FIN, DP]; first | done | exact rfl)); try (focus (exact rfl)))
        | with_reducible refine Ev.seq ?_
        | ((with_reducible refine Ev.regionH ?_); intro H)
        | with_reducible refine EvO.nil ?_
        | ((with_reducible apply regH_k); (focus (exact KIs.mk rfl)); (focus ((with_reducible apply EnvIs.mk); simp only [SE, Nat.reduceEqDiff, Nat.reduceAdd, reduceCtorEq]; first | done | exact rfl)); clear H)
        | exact KIs.mk rfl
        | with_reducible first | refine Ev.skip ?_ | refine Ev.ret ?_ | refine Ev.exit ?_ | refine Ev.block ?_ | refine thenQ_n ?_ | refine thenQ_x ?_ | refine thenQ_r ?_ | refine blockQ_n ?_ | refine blockQ_r ?_ | refine blockQ_x0 ?_ | refine roundQ_x ?_ | refine roundQ_r ?_
        | ((with_reducible refine endQ_r (vs := ?_) (vs' := ?_) (S₂ := ?_) ?_ ?_ ?_); rotate_left 3)
        | ((with_reducible refine blockQ_x1 ?_ ?_); exact rfl)
        | (intro c' hc; cases c' <;> first | (cases hc; done) | (try simp only [HC, inB_it, inB_if] at hc))
        | (intro hc; first | (cases hc; done) | (try simp only [HC, inB_it, inB_if] at hc))
        | fail)
      all_goals first | (exfalso; omega) | (refine ⟨?_, rfl⟩; rw [hno]; rfl)
theorem c36 {k : Nat} {md : Md} {S : Store} {vs : List A} {D : List Nat} {kk mm : Int} {l : List (List Cell)} {q : List Object} {s : ByteArray} (hd : dpArgs S [] vs = some ([.ag [(.v (.int .i64 (kk))), (.v (.int .i64 (mm))), .ro 1 (l.map nodeC), .ro 2 (q.map Object.c)], (.v (.string (s)))], D)) (hq : q.length ≤ 1048576) (hs : srt q) (hk : 10 ≤ k) :
    Cal (run k) md 36 vs S (fun r S' => r = .tu [(.v (.int .i64 ((posQ q s : Int)))), (.v (.bool (hasB q s)))] ∧ S' = S) := by
  obtain ⟨k, rfl⟩ : ∃ j, k = j + 1 := ⟨k - 1, by omega⟩
  refine Cal.fn (n := 12) (rs := [.tmp 4, .tmp 5]) (ids := []) (D := D) (Xof_none rfl) g36 (by delta Tryd.f36; exact rfl) (by delta Tryd.f36; exact rfl) (by delta Tryd.f36; exact rfl) hd (by first | rfl | simp [idsV, idsC]) (by simp) (by simp) ?_
  intro md' ow; have w := ow.w; have w0 := ow.w0; have fz : md'.fz = false := ow.fz
  repeat' (first
    | ((with_reducible apply EvO.off); (focus (exact rfl)); (focus (exact rfl)))
    | ((first | ((with_reducible apply EvO.call (vs := ?_)); (focus (exact rfl)); (focus (exact rfl))) | (with_reducible apply Cal.hd (ms := []) (p := ?_)) | ((with_reducible refine EvO.c1 (a := ?_) (S' := ?_) ?_ ?_ ?_); rotate_left 2; (focus (exact rfl))) | ((with_reducible refine EvO.c0 (a := ?_) (S' := ?_) ?_ ?_); rotate_left 2) | ((with_reducible apply EvO.cons); (focus (exact rfl))) | ((with_reducible apply EvO.guard); (focus (exact rfl)); (focus (exact rfl))) | ((with_reducible refine Ev.cond (t := ?_) ?_ ?_ ?_); rotate_left) | skip); (focus ((with_reducible refine Eq.trans ?_ rfl); simp (disch := first | (intros; contradiction) | (as_aux_lemma => omega) | (as_aux_lemma => (simp only [LEN2]; first | done | omega)) | (as_aux_lemma => (simp only [LEN]; first | done | omega))) only [EV, TT, w, w0, fz, FX_mark, FX_str, FX_el_Cell, FX_el_Object, FX_node, Nat.reduceEqDiff, Nat.reduceBeqDiff, Nat.reduceAdd, Nat.reduceMul, Nat.reduceLeDiff, Nat.reduceLT, reduceCtorEq, Int.reduceEq, Int.reduceNeg, FIN, DP]; first | done | exact rfl)); try (focus (exact rfl)))
    | ((with_reducible apply CalH.mk); intro hd; first | exact c57_nm (k := k) (hd := hd) (hq := by first | assumption | omega | with_reducible rfl) (hs := by first | assumption | omega | with_reducible rfl) (q := q) (s := s) (hk := by omega) | exact c58 (hd := hd)   (hk := by omega))
    | (with_reducible (first | rintro r S' ⟨rfl, rfl⟩); refine ⟨_, rfl, ?_⟩)
    | with_reducible refine Ev.seq ?_
    | ((with_reducible refine Ev.regionH ?_); intro H)
    | with_reducible refine EvO.nil ?_
    | ((with_reducible apply regH_k); (focus (exact KIs.mk rfl)); (focus ((with_reducible apply EnvIs.mk); simp only [SE, Nat.reduceEqDiff, Nat.reduceAdd, reduceCtorEq]; first | done | exact rfl)); clear H)
    | exact KIs.mk rfl
    | with_reducible first | refine Ev.skip ?_ | refine Ev.ret ?_ | refine Ev.exit ?_ | refine Ev.block ?_ | refine thenQ_n ?_ | refine thenQ_x ?_ | refine thenQ_r ?_ | refine blockQ_n ?_ | refine blockQ_r ?_ | refine blockQ_x0 ?_ | refine roundQ_x ?_ | refine roundQ_r ?_
    | ((with_reducible refine endQ_r (vs := ?_) (vs' := ?_) (S₂ := ?_) ?_ ?_ ?_); rotate_left 3)
    | ((with_reducible refine blockQ_x1 ?_ ?_); exact rfl)
    | (intro c' hc; cases c' <;> first | (cases hc; done) | (try simp only [HC, inB_it, inB_if] at hc))
    | (intro hc; first | (cases hc; done) | (try simp only [HC, inB_it, inB_if] at hc))
    | fail)
  all_goals exact ⟨rfl, rfl⟩
end Go.Proofs.YtdpaijnbikclgaaDoorB

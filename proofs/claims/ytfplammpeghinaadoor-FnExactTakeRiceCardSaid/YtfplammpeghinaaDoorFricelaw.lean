/- Part of the evaluator's contracts: ricelaw. -/
import Derived.Test.YtfplammpeghinaaDoorFtakerice
import Derived.Test.YtfplammpeghinaaDoorFbase
import Derived.Test.YtfplammpeghinaaDoorFrice
namespace Go.Proofs.YtfplammpeghinaaDoorB
open Go Go.Proofs.YtfplammpeghinaaDoorE
set_option linter.unusedVariables false
set_option linter.unusedSectionVars false
set_option linter.unusedSimpArgs false
set_option maxHeartbeats 4000000
set_option maxRecDepth 20000
theorem ext_at {s : ByteArray} {m e : Nat} (h : lead s + 1 + m ≤ e) (j : Nat) (hj : j < m) : at_ (s.extract (lead s + 1) e) j = tailF s j := at_extract (by omega)
theorem ext_ok {s : ByteArray} {m e : Nat} (h : lead s + 1 + m ≤ e) : okF (at_ (s.extract (lead s + 1) e)) m = okF (tailF s) m := okF_congr (ext_at h)
theorem ext_val {s : ByteArray} {m e : Nat} (h : lead s + 1 + m ≤ e) : valF (at_ (s.extract (lead s + 1) e)) m = valF (tailF s) m := valF_congr (ext_at h)
theorem ext_rd {s : ByteArray} {m : Nat} (h : lead s + 1 ≤ s.size) : rdF (s.extract (lead s + 1) s.size) m = (decide (lead s + 1 + m ≤ s.size) && okF (tailF s) m) := by
  unfold rdF
  rw [size_extract h (Nat.le_refl _)]
  by_cases hf : lead s + 1 + m ≤ s.size
  · rw [ext_ok hf, decide_eq_true hf, decide_eq_true (by omega)]
  · rw [decide_eq_false hf, decide_eq_false (by omega)]; rfl
theorem rice_div {s : ByteArray} {m : Nat} (h : okF (tailF s) m = true) : riceN s m / 2 ^ m = lead s := by
  have hv := valF_lt (tailF s) m (okF_t.1 h)
  unfold riceN
  rw [Nat.mul_comm, Nat.mul_add_div (by omega), Nat.div_eq_of_lt hv, Nat.add_zero]
theorem rice_sum (s : ByteArray) (m : Nat) (h : m ≤ 10) : (lead s : Int) * 2 ^ (min m IntKind.i64.bits) + (valF (tailF s) m : Int) = (riceN s m : Int) := by
  rw [min64 (by omega)]
  unfold riceN
  push_cast; rfl
theorem u64n {m : Nat} (h : m ≤ 10) : IntKind.u64.wrap (m : Int) = (m : Int) := by rw [IntKind.wrap_u64]; omega
theorem rice_bd {s : ByteArray} {m : Nat} (h : m ≤ 10) (hl : lead s + 1 + m ≤ 2000) : 0 ≤ (lead s : Int) * 2 ^ (min m IntKind.i64.bits) ∧ (lead s : Int) * 2 ^ (min m IntKind.i64.bits) ≤ 2047000 := by
  rw [min64 (by omega)]
  have h1 : 2 ^ m ≤ 2 ^ 10 := pow_le h
  have h2 : (2 : Nat) ^ 10 = 1024 := by decide
  have h3 : lead s * 2 ^ m ≤ 1999 * 1024 := Nat.mul_le_mul (by omega) (by omega)
  have h4 : ((lead s * 2 ^ m : Nat) : Int) = (lead s : Int) * 2 ^ m := by push_cast; rfl
  omega
theorem k17_4 (e : Env) : lpE (FI.K ⟨[], false, [(4, [0, 1, 7]), (1000, [0, 1]), (1001, [0, 1, 13]), (1002, [4, 5, 6]), (1003, [0, 1, 7]), (1004, [0, 1, 7, 23]), (1005, [0, 1, 7]), (1006, [0, 1, 7, 42]), (1007, [4, 5, 6]), (1008, [1, 7, 8, 9]), (1009, [1, 7, 9, 10]), (1010, [1, 7, 10, 65]), (1011, [4, 5, 6]), (1012, [4, 5, 6])]⟩ 4) e = mkE [(0, e 0), (1, e 1), (7, e 7)] := rfl
theorem c17_bad {k : Nat} {md : Md} {S : Store} {vs : List A} {D : List Nat} {s : ByteArray} {x : Int} (hd : dpArgs S [] vs = some ([(.v (.string (s))), (.v (.int .i64 (x)))], D)) (hb : inB x 0 10 = false) (hk : 3 ≤ k) :
    Cal (run k) md 17 vs S (fun r S' => r = .tu [(.v (.int .i64 (0))), (.v (.int .i64 (0))), (.v (.bool (false)))] ∧ S' = S) := by
  obtain ⟨k, rfl⟩ : ∃ j, k = j + 1 := ⟨k - 1, by omega⟩
  refine Cal.fn (n := 71) (rs := [.tmp 4, .tmp 5, .tmp 6]) (ids := []) (D := D) (Xof_none rfl) g17 (by delta Tryd.f17; exact rfl) (by delta Tryd.f17; exact rfl) (by delta Tryd.f17; exact rfl) hd (by first | rfl | simp [idsV, idsC]) (by simp) (by simp) ?_
  intro md' ow; have w := ow.w; have w0 := ow.w0; have fz : md'.fz = false := ow.fz
  repeat' (first
    | ((with_reducible apply EvO.off); (focus (exact rfl)); (focus (exact rfl)))
    | ((first | ((with_reducible apply EvO.call (vs := ?_)); (focus (exact rfl)); (focus (exact rfl))) | (with_reducible apply Cal.hd (ms := []) (p := ?_)) | ((with_reducible refine EvO.c1 (a := ?_) (S' := ?_) ?_ ?_ ?_); rotate_left 2; (focus (exact rfl))) | ((with_reducible refine EvO.c0 (a := ?_) (S' := ?_) ?_ ?_); rotate_left 2) | ((with_reducible apply EvO.cons); (focus (exact rfl))) | ((with_reducible apply EvO.guard); (focus (exact rfl)); (focus (exact rfl))) | ((with_reducible refine Ev.cond (t := ?_) ?_ ?_ ?_); rotate_left) | skip); (focus ((with_reducible refine Eq.trans ?_ rfl); simp (disch := first | (intros; contradiction) | (as_aux_lemma => omega) | (as_aux_lemma => (simp only [LEN2]; first | done | omega)) | (as_aux_lemma => (simp only [LEN]; first | done | omega))) only [EV, TT, w, w0, fz, FX_str, FX_takerice, hb, Nat.reduceEqDiff, Nat.reduceBeqDiff, Nat.reduceAdd, Nat.reduceMul, Nat.reduceLeDiff, Nat.reduceLT, reduceCtorEq, Int.reduceEq, Int.reduceNeg, FIN, DP]; first | done | exact rfl)); try (focus (exact rfl)))
    | ((with_reducible apply CalH.mk); intro hd; first | exact c37 (hd := hd)   (hk := by omega) | exact c43 (hd := hd) (hs := by first | assumption | omega | with_reducible rfl) (hm2 := by first | assumption | omega | with_reducible rfl)  (hk := by omega) | exact c44 (hd := hd)   (hk := by omega))
    | (with_reducible (first | rintro r S' ⟨rfl, rfl⟩); refine ⟨_, rfl, ?_⟩)
    | with_reducible refine Ev.seq ?_
    | ((with_reducible refine Ev.regionH ?_); intro H)
    | with_reducible refine EvO.nil ?_
    | ((with_reducible apply regH_k); (focus (exact KIs.mk rfl)); (focus ((with_reducible apply EnvIs.mk); simp only [SE, Nat.reduceEqDiff, Nat.reduceAdd, reduceCtorEq]; first | done | exact rfl)); clear H)
    | exact KIs.mk rfl
    | with_reducible first | refine Ev.skip ?_ | refine Ev.ret ?_ | refine Ev.exit ?_ | refine Ev.block ?_ | refine thenQ_n ?_ | refine thenQ_x ?_ | refine thenQ_r ?_ | refine blockQ_n ?_ | refine blockQ_r ?_ | refine blockQ_x0 ?_ | refine roundQ_x ?_ | refine roundQ_r ?_
    | ((with_reducible refine endQ_r (vs := ?_) (vs' := ?_) (S₂ := ?_) ?_ ?_ ?_); rotate_left 3)
    | ((with_reducible refine blockQ_x1 ?_ ?_); exact rfl)
    | (intro c' hc; cases c' <;> first | (cases hc; done) | (try simp only [HC, inB_it, inB_if] at hc))
    | (intro hc; first | (cases hc; done) | (try simp only [HC, inB_it, inB_if] at hc))
    | fail)
  all_goals exact ⟨rfl, rfl⟩
theorem c18_bad {k : Nat} {md : Md} {S : Store} {vs : List A} {D : List Nat} {s : ByteArray} {x : Int} (hd : dpArgs S [] vs = some ([(.v (.string (s))), (.v (.int .i64 (x)))], D)) (hb : inB x 0 10 = false) (hk : 8 ≤ k) :
    Cal (run k) md 18 vs S (fun r S' => r = .tu [(.v (.int .i64 (0))), (.v (.int .i64 (0))), (.v (.bool (false)))] ∧ S' = S) := by
  obtain ⟨k, rfl⟩ : ∃ j, k = j + 1 := ⟨k - 1, by omega⟩
  refine Cal.fn (n := 70) (rs := [.tmp 4, .tmp 5, .tmp 6]) (ids := []) (D := D) (Xof_none rfl) g18 (by delta Tryd.f18; exact rfl) (by delta Tryd.f18; exact rfl) (by delta Tryd.f18; exact rfl) hd (by first | rfl | simp [idsV, idsC]) (by simp) (by simp) ?_
  intro md' ow; have w := ow.w; have w0 := ow.w0; have fz : md'.fz = false := ow.fz
  repeat' (first
    | ((with_reducible apply EvO.off); (focus (exact rfl)); (focus (exact rfl)))
    | ((first | ((with_reducible apply EvO.call (vs := ?_)); (focus (exact rfl)); (focus (exact rfl))) | (with_reducible apply Cal.hd (ms := []) (p := ?_)) | ((with_reducible refine EvO.c1 (a := ?_) (S' := ?_) ?_ ?_ ?_); rotate_left 2; (focus (exact rfl))) | ((with_reducible refine EvO.c0 (a := ?_) (S' := ?_) ?_ ?_); rotate_left 2) | ((with_reducible apply EvO.cons); (focus (exact rfl))) | ((with_reducible apply EvO.guard); (focus (exact rfl)); (focus (exact rfl))) | ((with_reducible refine Ev.cond (t := ?_) ?_ ?_ ?_); rotate_left) | skip); (focus ((with_reducible refine Eq.trans ?_ rfl); simp (disch := first | (intros; contradiction) | (as_aux_lemma => omega) | (as_aux_lemma => (simp only [LEN2]; first | done | omega)) | (as_aux_lemma => (simp only [LEN]; first | done | omega))) only [EV, TT, w, w0, fz, FX_str, FX_takerice, hb, Nat.reduceEqDiff, Nat.reduceBeqDiff, Nat.reduceAdd, Nat.reduceMul, Nat.reduceLeDiff, Nat.reduceLT, reduceCtorEq, Int.reduceEq, Int.reduceNeg, FIN, DP]; first | done | exact rfl)); try (focus (exact rfl)))
    | ((with_reducible apply CalH.mk); intro hd; first | exact c40 (hd := hd)   (hk := by omega) | exact c49 (hd := hd) (hs := by first | assumption | omega | with_reducible rfl)  (hk := by omega) | exact c46 (hd := hd) (hs := by first | assumption | omega | with_reducible rfl)  (hk := by omega) | exact c47 (hd := hd)   (hk := by omega) | exact c50 (hd := hd) (hn := by first | assumption | omega | with_reducible rfl) (hm := by first | assumption | omega | with_reducible rfl) (hq := by first | assumption | omega | with_reducible rfl) (hqn := by first | assumption | omega | with_reducible rfl)  (hk := by omega))
    | (with_reducible (first | rintro r S' ⟨rfl, rfl⟩); refine ⟨_, rfl, ?_⟩)
    | with_reducible refine Ev.seq ?_
    | ((with_reducible refine Ev.regionH ?_); intro H)
    | with_reducible refine EvO.nil ?_
    | ((with_reducible apply regH_k); (focus (exact KIs.mk rfl)); (focus ((with_reducible apply EnvIs.mk); simp only [SE, Nat.reduceEqDiff, Nat.reduceAdd, reduceCtorEq]; first | done | exact rfl)); clear H)
    | exact KIs.mk rfl
    | with_reducible first | refine Ev.skip ?_ | refine Ev.ret ?_ | refine Ev.exit ?_ | refine Ev.block ?_ | refine thenQ_n ?_ | refine thenQ_x ?_ | refine thenQ_r ?_ | refine blockQ_n ?_ | refine blockQ_r ?_ | refine blockQ_x0 ?_ | refine roundQ_x ?_ | refine roundQ_r ?_
    | ((with_reducible refine endQ_r (vs := ?_) (vs' := ?_) (S₂ := ?_) ?_ ?_ ?_); rotate_left 3)
    | ((with_reducible refine blockQ_x1 ?_ ?_); exact rfl)
    | (intro c' hc; cases c' <;> first | (cases hc; done) | (try simp only [HC, inB_it, inB_if] at hc))
    | (intro hc; first | (cases hc; done) | (try simp only [HC, inB_it, inB_if] at hc))
    | fail)
  all_goals exact ⟨rfl, rfl⟩
theorem c17_no {k : Nat} {md : Md} {S : Store} {vs : List A} {D : List Nat} {s : ByteArray} {m : Nat} (hd : dpArgs S [] vs = some ([(.v (.string (s))), (.v (.int .i64 ((m : Int))))], D)) (hs : s.size ≤ 1048576) (hm : m ≤ 10) (hn : ¬ RC s m) (hk : 3 ≤ k) :
    Cal (run k) md 17 vs S (fun r S' => r = .tu [(.v (.int .i64 (0))), (.v (.int .i64 (0))), (.v (.bool (false)))] ∧ S' = S) := by
  obtain ⟨k, rfl⟩ : ∃ j, k = j + 1 := ⟨k - 1, by omega⟩
  refine Cal.fn (n := 71) (rs := [.tmp 4, .tmp 5, .tmp 6]) (ids := []) (D := D) (Xof_none rfl) g17 (by delta Tryd.f17; exact rfl) (by delta Tryd.f17; exact rfl) (by delta Tryd.f17; exact rfl) hd (by first | rfl | simp [idsV, idsC]) (by simp) (by simp) ?_
  intro md' ow; have w := ow.w; have w0 := ow.w0; have fz : md'.fz = false := ow.fz
  have hin : inB (m : Int) 0 10 = true := inB_it.2 (by omega)
  have hle := lead_le s
  repeat' (first
    | ((with_reducible apply EvO.off); (focus (exact rfl)); (focus (exact rfl)))
    | ((first | ((with_reducible apply EvO.call (vs := ?_)); (focus (exact rfl)); (focus (exact rfl))) | (with_reducible apply Cal.hd (ms := []) (p := ?_)) | ((with_reducible refine EvO.c1 (a := ?_) (S' := ?_) ?_ ?_ ?_); rotate_left 2; (focus (exact rfl))) | ((with_reducible refine EvO.c0 (a := ?_) (S' := ?_) ?_ ?_); rotate_left 2) | ((with_reducible apply EvO.cons); (focus (exact rfl))) | ((with_reducible apply EvO.guard); (focus (exact rfl)); (focus (exact rfl))) | ((with_reducible refine Ev.cond (t := ?_) ?_ ?_ ?_); rotate_left) | skip); (focus ((with_reducible refine Eq.trans ?_ rfl); simp (disch := first | (intros; contradiction) | (as_aux_lemma => omega) | (as_aux_lemma => (simp only [LEN2]; first | done | omega)) | (as_aux_lemma => (simp only [LEN]; first | done | omega))) only [EV, TT, w, w0, fz, FX_str, FX_takerice, hin, Nat.reduceEqDiff, Nat.reduceBeqDiff, Nat.reduceAdd, Nat.reduceMul, Nat.reduceLeDiff, Nat.reduceLT, reduceCtorEq, Int.reduceEq, Int.reduceNeg, FIN, DP]; first | done | exact rfl)); try (focus (exact rfl)))
    | ((with_reducible apply CalH.mk); intro hd; first | exact c37 (hd := hd)   (hk := by omega) | exact c43 (hd := hd) (hs := by first | assumption | omega | with_reducible rfl) (hm2 := by first | assumption | omega | with_reducible rfl)  (hk := by omega) | exact c44 (hd := hd)   (hk := by omega))
    | (with_reducible (first | rintro r S' ⟨rfl, rfl⟩); refine ⟨_, rfl, ?_⟩)
    | with_reducible refine Ev.seq ?_
    | ((with_reducible refine Ev.regionH ?_); intro H)
    | with_reducible refine EvO.nil ?_
    | ((with_reducible apply regH_k); (focus (exact KIs.mk rfl)); (focus ((with_reducible apply EnvIs.mk); simp only [SE, Nat.reduceEqDiff, Nat.reduceAdd, reduceCtorEq]; first | done | exact rfl)); clear H)
    | exact KIs.mk rfl
    | with_reducible first | refine Ev.skip ?_ | refine Ev.ret ?_ | refine Ev.exit ?_ | refine Ev.block ?_ | refine thenQ_n ?_ | refine thenQ_x ?_ | refine thenQ_r ?_ | refine blockQ_n ?_ | refine blockQ_r ?_ | refine blockQ_x0 ?_ | refine roundQ_x ?_ | refine roundQ_r ?_
    | ((with_reducible refine endQ_r (vs := ?_) (vs' := ?_) (S₂ := ?_) ?_ ?_ ?_); rotate_left 3)
    | ((with_reducible refine blockQ_x1 ?_ ?_); exact rfl)
    | (intro c' hc; cases c' <;> first | (cases hc; done) | (try simp only [HC, inB_it, inB_if] at hc))
    | (intro hc; first | (cases hc; done) | (try simp only [HC, inB_it, inB_if] at hc))
    | fail)
  rename Store => S
  apply Ev.loop (fun j e S' => ∃ i : Nat, e = mkE [(0, (.v (.string (s)))), (1, (.v (.int .i64 ((m : Int))))), (7, (.v (.int .i64 ((i : Int)))))] ∧ S' = S ∧ j = s.size - i ∧ (i ≤ lead s))
  · exact ⟨0, (k17_4 _).trans (by simp (disch := first | (intros; contradiction) | (as_aux_lemma => omega) | (as_aux_lemma => (simp only [LEN2]; first | done | omega)) | (as_aux_lemma => (simp only [LEN]; first | done | omega))) only [EV, TT, w, w0, fz, FX_str, FX_takerice, Nat.reduceEqDiff, Nat.reduceBeqDiff, Nat.reduceAdd, Nat.reduceMul, Nat.reduceLeDiff, Nat.reduceLT, reduceCtorEq, Int.reduceEq, Int.reduceNeg]; first | done | rfl | (congr <;> omega)), (by first | rfl | (simp only [app_app, List.cons_append, List.nil_append]; done)), rfl, (by omega)⟩
  rintro j e S' ⟨i, rfl, rfl, hj, hi⟩
  by_cases hlt : i < lead s
  · have hb1 : ((at_ s i).toNat : Int) = 49 := (eq49 _).2 (lead_in hlt)
    have hli : (i : Int) < (s.size : Int) := by omega
    have hlt2 : i < s.size := by omega
    repeat' (first
      | ((with_reducible apply EvO.off); (focus (exact rfl)); (focus (exact rfl)))
      | ((first | ((with_reducible apply EvO.call (vs := ?_)); (focus (exact rfl)); (focus (exact rfl))) | (with_reducible apply Cal.hd (ms := []) (p := ?_)) | ((with_reducible refine EvO.c1 (a := ?_) (S' := ?_) ?_ ?_ ?_); rotate_left 2; (focus (exact rfl))) | ((with_reducible refine EvO.c0 (a := ?_) (S' := ?_) ?_ ?_); rotate_left 2) | ((with_reducible apply EvO.cons); (focus (exact rfl))) | ((with_reducible apply EvO.guard); (focus (exact rfl)); (focus (exact rfl))) | ((with_reducible refine Ev.cond (t := ?_) ?_ ?_ ?_); rotate_left) | skip); (focus ((with_reducible refine Eq.trans ?_ rfl); simp (disch := first | (intros; contradiction) | (as_aux_lemma => omega) | (as_aux_lemma => (simp only [LEN2]; first | done | omega)) | (as_aux_lemma => (simp only [LEN]; first | done | omega))) only [EV, TT, w, w0, fz, FX_str, FX_takerice, hli, hb1, beq_self_eq_true, Nat.reduceEqDiff, Nat.reduceBeqDiff, Nat.reduceAdd, Nat.reduceMul, Nat.reduceLeDiff, Nat.reduceLT, reduceCtorEq, Int.reduceEq, Int.reduceNeg, FIN, DP]; first | done | exact rfl)); try (focus (exact rfl)))
      | ((with_reducible apply CalH.mk); intro hd; first | exact c37 (hd := hd)   (hk := by omega) | exact c43 (hd := hd) (hs := by first | assumption | omega | with_reducible rfl) (hm2 := by first | assumption | omega | with_reducible rfl)  (hk := by omega) | exact c44 (hd := hd)   (hk := by omega))
      | (with_reducible (first | rintro r S' ⟨rfl, rfl⟩); refine ⟨_, rfl, ?_⟩)
      | with_reducible refine Ev.seq ?_
      | ((with_reducible refine Ev.regionH ?_); intro H)
      | with_reducible refine EvO.nil ?_
      | ((with_reducible apply regH_k); (focus (exact KIs.mk rfl)); (focus ((with_reducible apply EnvIs.mk); simp only [SE, Nat.reduceEqDiff, Nat.reduceAdd, reduceCtorEq]; first | done | exact rfl)); clear H)
      | exact KIs.mk rfl
      | with_reducible first | refine Ev.skip ?_ | refine Ev.ret ?_ | refine Ev.exit ?_ | refine Ev.block ?_ | refine thenQ_n ?_ | refine thenQ_x ?_ | refine thenQ_r ?_ | refine blockQ_n ?_ | refine blockQ_r ?_ | refine blockQ_x0 ?_ | refine roundQ_x ?_ | refine roundQ_r ?_
      | ((with_reducible refine endQ_r (vs := ?_) (vs' := ?_) (S₂ := ?_) ?_ ?_ ?_); rotate_left 3)
      | ((with_reducible refine blockQ_x1 ?_ ?_); exact rfl)
      | (intro c' hc; cases c' <;> first | (cases hc; done) | (try simp only [HC, inB_it, inB_if] at hc))
      | (intro hc; first | (cases hc; done) | (try simp only [HC, inB_it, inB_if] at hc))
      | fail)
    all_goals first | (exfalso; omega) | skip
    all_goals
      apply roundQ_m; refine ⟨_, ⟨i + 1, (k17_4 _).trans (by simp (disch := first | (intros; contradiction) | (as_aux_lemma => omega) | (as_aux_lemma => (simp only [LEN2]; first | done | omega)) | (as_aux_lemma => (simp only [LEN]; first | done | omega))) only [hli, EV, TT, w, w0, fz, FX_str, FX_takerice, Nat.reduceEqDiff, Nat.reduceBeqDiff, Nat.reduceAdd, Nat.reduceMul, Nat.reduceLeDiff, Nat.reduceLT, reduceCtorEq, Int.reduceEq, Int.reduceNeg]; first | done | rfl | (congr <;> omega)), ?_, rfl, ?_⟩, ?_⟩
      · first | exact lpG_same | exact lpG_grow rfl | (refine (congrArg (fun K => lpG K _ _ _) (show _ = some _ from rfl)).trans (lpG_cut rfl ?_); simp [lowV, okC, mkE_at]; done) | (refine (congrArg (fun K => lpG K _ _ _) (show _ = some _ from rfl)).trans (lpG_mod rfl rfl ?_ ?_) <;> simp [lowV, okC, mkE_at, rowsAll_cons, rowsAll_nil, FX_str, FX_takerice]; done) | (refine (lpG_len ?_).trans ?_; (focus (simp only [len_app, List.length_cons, List.length_nil, List.length_set]; done)); first | rfl | (simp (disch := first | (intros; contradiction) | (as_aux_lemma => omega) | (as_aux_lemma => (simp only [LEN2]; first | done | omega)) | (as_aux_lemma => (simp only [LEN]; first | done | omega))) only [hli, EV, TT, w, w0, fz, FX_str, FX_takerice, Nat.reduceEqDiff, Nat.reduceBeqDiff, Nat.reduceAdd, Nat.reduceMul, Nat.reduceLeDiff, Nat.reduceLT, reduceCtorEq, Int.reduceEq, Int.reduceNeg]; first | done | rfl)) | (refine (congrArg (fun K => lpG K _ _ _) (show _ = some _ from rfl)).trans (lpG_grow ?_); simp only [lowV, okC, EV, Nat.reduceEqDiff, Nat.reduceBeqDiff, Nat.reduceAdd, Nat.reduceMul, Nat.reduceLeDiff, Nat.reduceLT, reduceCtorEq, Int.reduceEq, Int.reduceNeg]; done)
      · omega
      · omega
  · obtain rfl : i = lead s := by omega
    have t1 : ((lead s : Int) + 1).toNat = lead s + 1 := by omega
    have hU := u64n hm
    by_cases hz : lead s < s.size ∧ at_ s (lead s) = 48 ∧ lead s + 1 + m ≤ 2000
    · obtain ⟨hz1, hz2, hz3⟩ := hz
      have hb1 : ((at_ s (lead s)).toNat : Int) = 48 := (eq48 _).2 hz2
      have hli : (lead s : Int) < (s.size : Int) := by omega
      have hrd := ext_rd (m := m) (show lead s + 1 ≤ s.size by omega)
      have hsz := size_extract (s := s) (a := lead s + 1) (b := s.size) (by omega) (Nat.le_refl _)
      have hbd := rice_bd hm hz3
      have hsum := rice_sum s m hm
      by_cases hr : rdF (s.extract (lead s + 1) s.size) m = true
      · have hr2 := hr
        rw [hrd, Bool.and_eq_true, decide_eq_true_eq] at hr2
        have hval := ext_val hr2.1
        have hv := valF_lt (tailF s) m (okF_t.1 hr2.2)
        have hp : 2 ^ m ≤ 2 ^ 10 := pow_le hm
        have hp2 : (2 : Nat) ^ 10 = 1024 := by decide
        have hN : inB ((riceN s m : Int) + 1) 1 1000000 = false := by
          cases e : inB ((riceN s m : Int) + 1) 1 1000000 with
          | false => rfl
          | true => exact absurd ⟨hz2, hz3, hr2.1, hr2.2, by have := inB_t e; omega⟩ hn
        clear hrd
        repeat' (first
          | ((with_reducible apply EvO.off); (focus (exact rfl)); (focus (exact rfl)))
          | ((first | ((with_reducible apply EvO.call (vs := ?_)); (focus (exact rfl)); (focus (exact rfl))) | (with_reducible apply Cal.hd (ms := []) (p := ?_)) | ((with_reducible refine EvO.c1 (a := ?_) (S' := ?_) ?_ ?_ ?_); rotate_left 2; (focus (exact rfl))) | ((with_reducible refine EvO.c0 (a := ?_) (S' := ?_) ?_ ?_); rotate_left 2) | ((with_reducible apply EvO.cons); (focus (exact rfl))) | ((with_reducible apply EvO.guard); (focus (exact rfl)); (focus (exact rfl))) | ((with_reducible refine Ev.cond (t := ?_) ?_ ?_ ?_); rotate_left) | skip); (focus ((with_reducible refine Eq.trans ?_ rfl); simp (disch := first | (intros; contradiction) | (as_aux_lemma => omega) | (as_aux_lemma => (simp only [LEN2]; first | done | omega)) | (as_aux_lemma => (simp only [LEN]; first | done | omega))) only [EV, TT, w, w0, fz, FX_str, FX_takerice, hli, hb1, t1, hU, hr, hval, hsum, hN, beq_self_eq_true, Nat.reduceEqDiff, Nat.reduceBeqDiff, Nat.reduceAdd, Nat.reduceMul, Nat.reduceLeDiff, Nat.reduceLT, reduceCtorEq, Int.reduceEq, Int.reduceNeg, FIN, DP]; first | done | exact rfl)); try (focus (exact rfl)))
          | ((with_reducible apply CalH.mk); intro hd; first | exact c37 (hd := hd)   (hk := by omega) | exact c43 (hd := hd) (hs := by first | assumption | omega | with_reducible rfl) (hm2 := by first | assumption | omega | with_reducible rfl)  (hk := by omega) | exact c44 (hd := hd)   (hk := by omega))
          | (with_reducible (first | rintro r S' ⟨rfl, rfl⟩); refine ⟨_, rfl, ?_⟩)
          | with_reducible refine Ev.seq ?_
          | ((with_reducible refine Ev.regionH ?_); intro H)
          | with_reducible refine EvO.nil ?_
          | ((with_reducible apply regH_k); (focus (exact KIs.mk rfl)); (focus ((with_reducible apply EnvIs.mk); simp only [SE, Nat.reduceEqDiff, Nat.reduceAdd, reduceCtorEq]; first | done | exact rfl)); clear H)
          | exact KIs.mk rfl
          | with_reducible first | refine Ev.skip ?_ | refine Ev.ret ?_ | refine Ev.exit ?_ | refine Ev.block ?_ | refine thenQ_n ?_ | refine thenQ_x ?_ | refine thenQ_r ?_ | refine blockQ_n ?_ | refine blockQ_r ?_ | refine blockQ_x0 ?_ | refine roundQ_x ?_ | refine roundQ_r ?_
          | ((with_reducible refine endQ_r (vs := ?_) (vs' := ?_) (S₂ := ?_) ?_ ?_ ?_); rotate_left 3)
          | ((with_reducible refine blockQ_x1 ?_ ?_); exact rfl)
          | (intro c' hc; cases c' <;> first | (cases hc; done) | (try simp only [HC, inB_it, inB_if] at hc))
          | (intro hc; first | (cases hc; done) | (try simp only [HC, inB_it, inB_if] at hc))
          | fail)
        all_goals first | (exfalso; omega) | exact ⟨rfl, rfl⟩
      · have hr : rdF (s.extract (lead s + 1) s.size) m = false := by simpa using hr
        clear hrd
        repeat' (first
          | ((with_reducible apply EvO.off); (focus (exact rfl)); (focus (exact rfl)))
          | ((first | ((with_reducible apply EvO.call (vs := ?_)); (focus (exact rfl)); (focus (exact rfl))) | (with_reducible apply Cal.hd (ms := []) (p := ?_)) | ((with_reducible refine EvO.c1 (a := ?_) (S' := ?_) ?_ ?_ ?_); rotate_left 2; (focus (exact rfl))) | ((with_reducible refine EvO.c0 (a := ?_) (S' := ?_) ?_ ?_); rotate_left 2) | ((with_reducible apply EvO.cons); (focus (exact rfl))) | ((with_reducible apply EvO.guard); (focus (exact rfl)); (focus (exact rfl))) | ((with_reducible refine Ev.cond (t := ?_) ?_ ?_ ?_); rotate_left) | skip); (focus ((with_reducible refine Eq.trans ?_ rfl); simp (disch := first | (intros; contradiction) | (as_aux_lemma => omega) | (as_aux_lemma => (simp only [LEN2]; first | done | omega)) | (as_aux_lemma => (simp only [LEN]; first | done | omega))) only [EV, TT, w, w0, fz, FX_str, FX_takerice, hli, hb1, t1, hU, hr, beq_self_eq_true, Nat.reduceEqDiff, Nat.reduceBeqDiff, Nat.reduceAdd, Nat.reduceMul, Nat.reduceLeDiff, Nat.reduceLT, reduceCtorEq, Int.reduceEq, Int.reduceNeg, FIN, DP]; first | done | exact rfl)); try (focus (exact rfl)))
          | ((with_reducible apply CalH.mk); intro hd; first | exact c37 (hd := hd)   (hk := by omega) | exact c43 (hd := hd) (hs := by first | assumption | omega | with_reducible rfl) (hm2 := by first | assumption | omega | with_reducible rfl)  (hk := by omega) | exact c44 (hd := hd)   (hk := by omega))
          | (with_reducible (first | rintro r S' ⟨rfl, rfl⟩); refine ⟨_, rfl, ?_⟩)
          | with_reducible refine Ev.seq ?_
          | ((with_reducible refine Ev.regionH ?_); intro H)
          | with_reducible refine EvO.nil ?_
          | ((with_reducible apply regH_k); (focus (exact KIs.mk rfl)); (focus ((with_reducible apply EnvIs.mk); simp only [SE, Nat.reduceEqDiff, Nat.reduceAdd, reduceCtorEq]; first | done | exact rfl)); clear H)
          | exact KIs.mk rfl
          | with_reducible first | refine Ev.skip ?_ | refine Ev.ret ?_ | refine Ev.exit ?_ | refine Ev.block ?_ | refine thenQ_n ?_ | refine thenQ_x ?_ | refine thenQ_r ?_ | refine blockQ_n ?_ | refine blockQ_r ?_ | refine blockQ_x0 ?_ | refine roundQ_x ?_ | refine roundQ_r ?_
          | ((with_reducible refine endQ_r (vs := ?_) (vs' := ?_) (S₂ := ?_) ?_ ?_ ?_); rotate_left 3)
          | ((with_reducible refine blockQ_x1 ?_ ?_); exact rfl)
          | (intro c' hc; cases c' <;> first | (cases hc; done) | (try simp only [HC, inB_it, inB_if] at hc))
          | (intro hc; first | (cases hc; done) | (try simp only [HC, inB_it, inB_if] at hc))
          | fail)
        all_goals first | (exfalso; omega) | exact ⟨rfl, rfl⟩
    · by_cases hli : (lead s : Int) < (s.size : Int)
      · have hz1 : lead s < s.size := by omega
        have hb0 : ¬ ((at_ s (lead s)).toNat : Int) = 49 := fun e => lead_out hz1 ((eq49 _).1 e)
        by_cases hz2 : at_ s (lead s) = 48
        · have hb1 : ((at_ s (lead s)).toNat : Int) = 48 := (eq48 _).2 hz2
          have hz3 : 2000 < (lead s : Int) + 1 + (m : Int) := by
            rcases Nat.lt_or_ge 2000 (lead s + 1 + m) with h | h
            · omega
            · exact absurd ⟨hz1, hz2, h⟩ hz
          clear hz
          repeat' (first
            | ((with_reducible apply EvO.off); (focus (exact rfl)); (focus (exact rfl)))
            | ((first | ((with_reducible apply EvO.call (vs := ?_)); (focus (exact rfl)); (focus (exact rfl))) | (with_reducible apply Cal.hd (ms := []) (p := ?_)) | ((with_reducible refine EvO.c1 (a := ?_) (S' := ?_) ?_ ?_ ?_); rotate_left 2; (focus (exact rfl))) | ((with_reducible refine EvO.c0 (a := ?_) (S' := ?_) ?_ ?_); rotate_left 2) | ((with_reducible apply EvO.cons); (focus (exact rfl))) | ((with_reducible apply EvO.guard); (focus (exact rfl)); (focus (exact rfl))) | ((with_reducible refine Ev.cond (t := ?_) ?_ ?_ ?_); rotate_left) | skip); (focus ((with_reducible refine Eq.trans ?_ rfl); simp (disch := first | (intros; contradiction) | (as_aux_lemma => omega) | (as_aux_lemma => (simp only [LEN2]; first | done | omega)) | (as_aux_lemma => (simp only [LEN]; first | done | omega))) only [EV, TT, w, w0, fz, FX_str, FX_takerice, hli, hb1, Nat.reduceEqDiff, Nat.reduceBeqDiff, Nat.reduceAdd, Nat.reduceMul, Nat.reduceLeDiff, Nat.reduceLT, reduceCtorEq, Int.reduceEq, Int.reduceNeg, FIN, DP]; first | done | exact rfl)); try (focus (exact rfl)))
            | ((with_reducible apply CalH.mk); intro hd; first | exact c37 (hd := hd)   (hk := by omega) | exact c43 (hd := hd) (hs := by first | assumption | omega | with_reducible rfl) (hm2 := by first | assumption | omega | with_reducible rfl)  (hk := by omega) | exact c44 (hd := hd)   (hk := by omega))
            | (with_reducible (first | rintro r S' ⟨rfl, rfl⟩); refine ⟨_, rfl, ?_⟩)
            | with_reducible refine Ev.seq ?_
            | ((with_reducible refine Ev.regionH ?_); intro H)
            | with_reducible refine EvO.nil ?_
            | ((with_reducible apply regH_k); (focus (exact KIs.mk rfl)); (focus ((with_reducible apply EnvIs.mk); simp only [SE, Nat.reduceEqDiff, Nat.reduceAdd, reduceCtorEq]; first | done | exact rfl)); clear H)
            | exact KIs.mk rfl
            | with_reducible first | refine Ev.skip ?_ | refine Ev.ret ?_ | refine Ev.exit ?_ | refine Ev.block ?_ | refine thenQ_n ?_ | refine thenQ_x ?_ | refine thenQ_r ?_ | refine blockQ_n ?_ | refine blockQ_r ?_ | refine blockQ_x0 ?_ | refine roundQ_x ?_ | refine roundQ_r ?_
            | ((with_reducible refine endQ_r (vs := ?_) (vs' := ?_) (S₂ := ?_) ?_ ?_ ?_); rotate_left 3)
            | ((with_reducible refine blockQ_x1 ?_ ?_); exact rfl)
            | (intro c' hc; cases c' <;> first | (cases hc; done) | (try simp only [HC, inB_it, inB_if] at hc))
            | (intro hc; first | (cases hc; done) | (try simp only [HC, inB_it, inB_if] at hc))
            | fail)
          all_goals first | (exfalso; omega) | exact ⟨rfl, rfl⟩
        · have hb1 : ¬ ((at_ s (lead s)).toNat : Int) = 48 := fun e => hz2 ((eq48 _).1 e)
          clear hz
          repeat' (first
            | ((with_reducible apply EvO.off); (focus (exact rfl)); (focus (exact rfl)))
            | ((first | ((with_reducible apply EvO.call (vs := ?_)); (focus (exact rfl)); (focus (exact rfl))) | (with_reducible apply Cal.hd (ms := []) (p := ?_)) | ((with_reducible refine EvO.c1 (a := ?_) (S' := ?_) ?_ ?_ ?_); rotate_left 2; (focus (exact rfl))) | ((with_reducible refine EvO.c0 (a := ?_) (S' := ?_) ?_ ?_); rotate_left 2) | ((with_reducible apply EvO.cons); (focus (exact rfl))) | ((with_reducible apply EvO.guard); (focus (exact rfl)); (focus (exact rfl))) | ((with_reducible refine Ev.cond (t := ?_) ?_ ?_ ?_); rotate_left) | skip); (focus ((with_reducible refine Eq.trans ?_ rfl); simp (disch := first | (intros; contradiction) | (as_aux_lemma => omega) | (as_aux_lemma => (simp only [LEN2]; first | done | omega)) | (as_aux_lemma => (simp only [LEN]; first | done | omega))) only [EV, TT, w, w0, fz, FX_str, FX_takerice, hli, Nat.reduceEqDiff, Nat.reduceBeqDiff, Nat.reduceAdd, Nat.reduceMul, Nat.reduceLeDiff, Nat.reduceLT, reduceCtorEq, Int.reduceEq, Int.reduceNeg, FIN, DP]; first | done | exact rfl)); try (focus (exact rfl)))
            | ((with_reducible apply CalH.mk); intro hd; first | exact c37 (hd := hd)   (hk := by omega) | exact c43 (hd := hd) (hs := by first | assumption | omega | with_reducible rfl) (hm2 := by first | assumption | omega | with_reducible rfl)  (hk := by omega) | exact c44 (hd := hd)   (hk := by omega))
            | (with_reducible (first | rintro r S' ⟨rfl, rfl⟩); refine ⟨_, rfl, ?_⟩)
            | with_reducible refine Ev.seq ?_
            | ((with_reducible refine Ev.regionH ?_); intro H)
            | with_reducible refine EvO.nil ?_
            | ((with_reducible apply regH_k); (focus (exact KIs.mk rfl)); (focus ((with_reducible apply EnvIs.mk); simp only [SE, Nat.reduceEqDiff, Nat.reduceAdd, reduceCtorEq]; first | done | exact rfl)); clear H)
            | exact KIs.mk rfl
            | with_reducible first | refine Ev.skip ?_ | refine Ev.ret ?_ | refine Ev.exit ?_ | refine Ev.block ?_ | refine thenQ_n ?_ | refine thenQ_x ?_ | refine thenQ_r ?_ | refine blockQ_n ?_ | refine blockQ_r ?_ | refine blockQ_x0 ?_ | refine roundQ_x ?_ | refine roundQ_r ?_
            | ((with_reducible refine endQ_r (vs := ?_) (vs' := ?_) (S₂ := ?_) ?_ ?_ ?_); rotate_left 3)
            | ((with_reducible refine blockQ_x1 ?_ ?_); exact rfl)
            | (intro c' hc; cases c' <;> first | (cases hc; done) | (try simp only [HC, inB_it, inB_if] at hc))
            | (intro hc; first | (cases hc; done) | (try simp only [HC, inB_it, inB_if] at hc))
            | fail)
          all_goals first | (exfalso; omega) | exact ⟨rfl, rfl⟩
      · have hls : lead s = s.size := by omega
        clear hz
        repeat' (first
          | ((with_reducible apply EvO.off); (focus (exact rfl)); (focus (exact rfl)))
          | ((first | ((with_reducible apply EvO.call (vs := ?_)); (focus (exact rfl)); (focus (exact rfl))) | (with_reducible apply Cal.hd (ms := []) (p := ?_)) | ((with_reducible refine EvO.c1 (a := ?_) (S' := ?_) ?_ ?_ ?_); rotate_left 2; (focus (exact rfl))) | ((with_reducible refine EvO.c0 (a := ?_) (S' := ?_) ?_ ?_); rotate_left 2) | ((with_reducible apply EvO.cons); (focus (exact rfl))) | ((with_reducible apply EvO.guard); (focus (exact rfl)); (focus (exact rfl))) | ((with_reducible refine Ev.cond (t := ?_) ?_ ?_ ?_); rotate_left) | skip); (focus ((with_reducible refine Eq.trans ?_ rfl); simp (disch := first | (intros; contradiction) | (as_aux_lemma => omega) | (as_aux_lemma => (simp only [LEN2]; first | done | omega)) | (as_aux_lemma => (simp only [LEN]; first | done | omega))) only [EV, TT, w, w0, fz, FX_str, FX_takerice, hli, hls, beq_self_eq_true, Nat.reduceEqDiff, Nat.reduceBeqDiff, Nat.reduceAdd, Nat.reduceMul, Nat.reduceLeDiff, Nat.reduceLT, reduceCtorEq, Int.reduceEq, Int.reduceNeg, FIN, DP]; first | done | exact rfl)); try (focus (exact rfl)))
          | ((with_reducible apply CalH.mk); intro hd; first | exact c37 (hd := hd)   (hk := by omega) | exact c43 (hd := hd) (hs := by first | assumption | omega | with_reducible rfl) (hm2 := by first | assumption | omega | with_reducible rfl)  (hk := by omega) | exact c44 (hd := hd)   (hk := by omega))
          | (with_reducible (first | rintro r S' ⟨rfl, rfl⟩); refine ⟨_, rfl, ?_⟩)
          | with_reducible refine Ev.seq ?_
          | ((with_reducible refine Ev.regionH ?_); intro H)
          | with_reducible refine EvO.nil ?_
          | ((with_reducible apply regH_k); (focus (exact KIs.mk rfl)); (focus ((with_reducible apply EnvIs.mk); simp only [SE, Nat.reduceEqDiff, Nat.reduceAdd, reduceCtorEq]; first | done | exact rfl)); clear H)
          | exact KIs.mk rfl
          | with_reducible first | refine Ev.skip ?_ | refine Ev.ret ?_ | refine Ev.exit ?_ | refine Ev.block ?_ | refine thenQ_n ?_ | refine thenQ_x ?_ | refine thenQ_r ?_ | refine blockQ_n ?_ | refine blockQ_r ?_ | refine blockQ_x0 ?_ | refine roundQ_x ?_ | refine roundQ_r ?_
          | ((with_reducible refine endQ_r (vs := ?_) (vs' := ?_) (S₂ := ?_) ?_ ?_ ?_); rotate_left 3)
          | ((with_reducible refine blockQ_x1 ?_ ?_); exact rfl)
          | (intro c' hc; cases c' <;> first | (cases hc; done) | (try simp only [HC, inB_it, inB_if] at hc))
          | (intro hc; first | (cases hc; done) | (try simp only [HC, inB_it, inB_if] at hc))
          | fail)
        all_goals first | (exfalso; omega) | exact ⟨rfl, rfl⟩
theorem c17_ok {k : Nat} {md : Md} {S : Store} {vs : List A} {D : List Nat} {s : ByteArray} {m : Nat} (hd : dpArgs S [] vs = some ([(.v (.string (s))), (.v (.int .i64 ((m : Int))))], D)) (hs : s.size ≤ 1048576) (hm : m ≤ 10) (hr : RC s m) (hk : 3 ≤ k) :
    Cal (run k) md 17 vs S (fun r S' => r = .tu [(.v (.int .i64 ((riceN s m : Int) + 1))), (.v (.int .i64 ((lead s : Int) + 1 + (m : Int)))), (.v (.bool (true)))] ∧ S' = S) := by
  obtain ⟨k, rfl⟩ : ∃ j, k = j + 1 := ⟨k - 1, by omega⟩
  refine Cal.fn (n := 71) (rs := [.tmp 4, .tmp 5, .tmp 6]) (ids := []) (D := D) (Xof_none rfl) g17 (by delta Tryd.f17; exact rfl) (by delta Tryd.f17; exact rfl) (by delta Tryd.f17; exact rfl) hd (by first | rfl | simp [idsV, idsC]) (by simp) (by simp) ?_
  intro md' ow; have w := ow.w; have w0 := ow.w0; have fz : md'.fz = false := ow.fz
  have hin : inB (m : Int) 0 10 = true := inB_it.2 (by omega)
  have hle := lead_le s
  obtain ⟨hz2, hz3, hf, hbits, hnum⟩ := hr
  repeat' (first
    | ((with_reducible apply EvO.off); (focus (exact rfl)); (focus (exact rfl)))
    | ((first | ((with_reducible apply EvO.call (vs := ?_)); (focus (exact rfl)); (focus (exact rfl))) | (with_reducible apply Cal.hd (ms := []) (p := ?_)) | ((with_reducible refine EvO.c1 (a := ?_) (S' := ?_) ?_ ?_ ?_); rotate_left 2; (focus (exact rfl))) | ((with_reducible refine EvO.c0 (a := ?_) (S' := ?_) ?_ ?_); rotate_left 2) | ((with_reducible apply EvO.cons); (focus (exact rfl))) | ((with_reducible apply EvO.guard); (focus (exact rfl)); (focus (exact rfl))) | ((with_reducible refine Ev.cond (t := ?_) ?_ ?_ ?_); rotate_left) | skip); (focus ((with_reducible refine Eq.trans ?_ rfl); simp (disch := first | (intros; contradiction) | (as_aux_lemma => omega) | (as_aux_lemma => (simp only [LEN2]; first | done | omega)) | (as_aux_lemma => (simp only [LEN]; first | done | omega))) only [EV, TT, w, w0, fz, FX_str, FX_takerice, hin, Nat.reduceEqDiff, Nat.reduceBeqDiff, Nat.reduceAdd, Nat.reduceMul, Nat.reduceLeDiff, Nat.reduceLT, reduceCtorEq, Int.reduceEq, Int.reduceNeg, FIN, DP]; first | done | exact rfl)); try (focus (exact rfl)))
    | ((with_reducible apply CalH.mk); intro hd; first | exact c37 (hd := hd)   (hk := by omega) | exact c43 (hd := hd) (hs := by first | assumption | omega | with_reducible rfl) (hm2 := by first | assumption | omega | with_reducible rfl)  (hk := by omega) | exact c44 (hd := hd)   (hk := by omega))
    | (with_reducible (first | rintro r S' ⟨rfl, rfl⟩); refine ⟨_, rfl, ?_⟩)
    | with_reducible refine Ev.seq ?_
    | ((with_reducible refine Ev.regionH ?_); intro H)
    | with_reducible refine EvO.nil ?_
    | ((with_reducible apply regH_k); (focus (exact KIs.mk rfl)); (focus ((with_reducible apply EnvIs.mk); simp only [SE, Nat.reduceEqDiff, Nat.reduceAdd, reduceCtorEq]; first | done | exact rfl)); clear H)
    | exact KIs.mk rfl
    | with_reducible first | refine Ev.skip ?_ | refine Ev.ret ?_ | refine Ev.exit ?_ | refine Ev.block ?_ | refine thenQ_n ?_ | refine thenQ_x ?_ | refine thenQ_r ?_ | refine blockQ_n ?_ | refine blockQ_r ?_ | refine blockQ_x0 ?_ | refine roundQ_x ?_ | refine roundQ_r ?_
    | ((with_reducible refine endQ_r (vs := ?_) (vs' := ?_) (S₂ := ?_) ?_ ?_ ?_); rotate_left 3)
    | ((with_reducible refine blockQ_x1 ?_ ?_); exact rfl)
    | (intro c' hc; cases c' <;> first | (cases hc; done) | (try simp only [HC, inB_it, inB_if] at hc))
    | (intro hc; first | (cases hc; done) | (try simp only [HC, inB_it, inB_if] at hc))
    | fail)
  rename Store => S
  apply Ev.loop (fun j e S' => ∃ i : Nat, e = mkE [(0, (.v (.string (s)))), (1, (.v (.int .i64 ((m : Int))))), (7, (.v (.int .i64 ((i : Int)))))] ∧ S' = S ∧ j = s.size - i ∧ (i ≤ lead s))
  · exact ⟨0, (k17_4 _).trans (by simp (disch := first | (intros; contradiction) | (as_aux_lemma => omega) | (as_aux_lemma => (simp only [LEN2]; first | done | omega)) | (as_aux_lemma => (simp only [LEN]; first | done | omega))) only [EV, TT, w, w0, fz, FX_str, FX_takerice, Nat.reduceEqDiff, Nat.reduceBeqDiff, Nat.reduceAdd, Nat.reduceMul, Nat.reduceLeDiff, Nat.reduceLT, reduceCtorEq, Int.reduceEq, Int.reduceNeg]; first | done | rfl | (congr <;> omega)), (by first | rfl | (simp only [app_app, List.cons_append, List.nil_append]; done)), rfl, (by omega)⟩
  rintro j e S' ⟨i, rfl, rfl, hj, hi⟩
  by_cases hlt : i < lead s
  · have hb1 : ((at_ s i).toNat : Int) = 49 := (eq49 _).2 (lead_in hlt)
    have hli : (i : Int) < (s.size : Int) := by omega
    have hlt2 : i < s.size := by omega
    repeat' (first
      | ((with_reducible apply EvO.off); (focus (exact rfl)); (focus (exact rfl)))
      | ((first | ((with_reducible apply EvO.call (vs := ?_)); (focus (exact rfl)); (focus (exact rfl))) | (with_reducible apply Cal.hd (ms := []) (p := ?_)) | ((with_reducible refine EvO.c1 (a := ?_) (S' := ?_) ?_ ?_ ?_); rotate_left 2; (focus (exact rfl))) | ((with_reducible refine EvO.c0 (a := ?_) (S' := ?_) ?_ ?_); rotate_left 2) | ((with_reducible apply EvO.cons); (focus (exact rfl))) | ((with_reducible apply EvO.guard); (focus (exact rfl)); (focus (exact rfl))) | ((with_reducible refine Ev.cond (t := ?_) ?_ ?_ ?_); rotate_left) | skip); (focus ((with_reducible refine Eq.trans ?_ rfl); simp (disch := first | (intros; contradiction) | (as_aux_lemma => omega) | (as_aux_lemma => (simp only [LEN2]; first | done | omega)) | (as_aux_lemma => (simp only [LEN]; first | done | omega))) only [EV, TT, w, w0, fz, FX_str, FX_takerice, hli, hb1, beq_self_eq_true, Nat.reduceEqDiff, Nat.reduceBeqDiff, Nat.reduceAdd, Nat.reduceMul, Nat.reduceLeDiff, Nat.reduceLT, reduceCtorEq, Int.reduceEq, Int.reduceNeg, FIN, DP]; first | done | exact rfl)); try (focus (exact rfl)))
      | ((with_reducible apply CalH.mk); intro hd; first | exact c37 (hd := hd)   (hk := by omega) | exact c43 (hd := hd) (hs := by first | assumption | omega | with_reducible rfl) (hm2 := by first | assumption | omega | with_reducible rfl)  (hk := by omega) | exact c44 (hd := hd)   (hk := by omega))
      | (with_reducible (first | rintro r S' ⟨rfl, rfl⟩); refine ⟨_, rfl, ?_⟩)
      | with_reducible refine Ev.seq ?_
      | ((with_reducible refine Ev.regionH ?_); intro H)
      | with_reducible refine EvO.nil ?_
      | ((with_reducible apply regH_k); (focus (exact KIs.mk rfl)); (focus ((with_reducible apply EnvIs.mk); simp only [SE, Nat.reduceEqDiff, Nat.reduceAdd, reduceCtorEq]; first | done | exact rfl)); clear H)
      | exact KIs.mk rfl
      | with_reducible first | refine Ev.skip ?_ | refine Ev.ret ?_ | refine Ev.exit ?_ | refine Ev.block ?_ | refine thenQ_n ?_ | refine thenQ_x ?_ | refine thenQ_r ?_ | refine blockQ_n ?_ | refine blockQ_r ?_ | refine blockQ_x0 ?_ | refine roundQ_x ?_ | refine roundQ_r ?_
      | ((with_reducible refine endQ_r (vs := ?_) (vs' := ?_) (S₂ := ?_) ?_ ?_ ?_); rotate_left 3)
      | ((with_reducible refine blockQ_x1 ?_ ?_); exact rfl)
      | (intro c' hc; cases c' <;> first | (cases hc; done) | (try simp only [HC, inB_it, inB_if] at hc))
      | (intro hc; first | (cases hc; done) | (try simp only [HC, inB_it, inB_if] at hc))
      | fail)
    all_goals first | (exfalso; omega) | skip
    all_goals
      apply roundQ_m; refine ⟨_, ⟨i + 1, (k17_4 _).trans (by simp (disch := first | (intros; contradiction) | (as_aux_lemma => omega) | (as_aux_lemma => (simp only [LEN2]; first | done | omega)) | (as_aux_lemma => (simp only [LEN]; first | done | omega))) only [hli, EV, TT, w, w0, fz, FX_str, FX_takerice, Nat.reduceEqDiff, Nat.reduceBeqDiff, Nat.reduceAdd, Nat.reduceMul, Nat.reduceLeDiff, Nat.reduceLT, reduceCtorEq, Int.reduceEq, Int.reduceNeg]; first | done | rfl | (congr <;> omega)), ?_, rfl, ?_⟩, ?_⟩
      · first | exact lpG_same | exact lpG_grow rfl | (refine (congrArg (fun K => lpG K _ _ _) (show _ = some _ from rfl)).trans (lpG_cut rfl ?_); simp [lowV, okC, mkE_at]; done) | (refine (congrArg (fun K => lpG K _ _ _) (show _ = some _ from rfl)).trans (lpG_mod rfl rfl ?_ ?_) <;> simp [lowV, okC, mkE_at, rowsAll_cons, rowsAll_nil, FX_str, FX_takerice]; done) | (refine (lpG_len ?_).trans ?_; (focus (simp only [len_app, List.length_cons, List.length_nil, List.length_set]; done)); first | rfl | (simp (disch := first | (intros; contradiction) | (as_aux_lemma => omega) | (as_aux_lemma => (simp only [LEN2]; first | done | omega)) | (as_aux_lemma => (simp only [LEN]; first | done | omega))) only [hli, EV, TT, w, w0, fz, FX_str, FX_takerice, Nat.reduceEqDiff, Nat.reduceBeqDiff, Nat.reduceAdd, Nat.reduceMul, Nat.reduceLeDiff, Nat.reduceLT, reduceCtorEq, Int.reduceEq, Int.reduceNeg]; first | done | rfl)) | (refine (congrArg (fun K => lpG K _ _ _) (show _ = some _ from rfl)).trans (lpG_grow ?_); simp only [lowV, okC, EV, Nat.reduceEqDiff, Nat.reduceBeqDiff, Nat.reduceAdd, Nat.reduceMul, Nat.reduceLeDiff, Nat.reduceLT, reduceCtorEq, Int.reduceEq, Int.reduceNeg]; done)
      · omega
      · omega
  · obtain rfl : i = lead s := by omega
    have t1 : ((lead s : Int) + 1).toNat = lead s + 1 := by omega
    have hU := u64n hm
    have hb1 : ((at_ s (lead s)).toNat : Int) = 48 := (eq48 _).2 hz2
    have hli : (lead s : Int) < (s.size : Int) := by omega
    have hz1 : lead s < s.size := by omega
    have hsz := size_extract (s := s) (a := lead s + 1) (b := s.size) (by omega) (Nat.le_refl _)
    have hbd := rice_bd hm hz3
    have hsum := rice_sum s m hm
    have hrd : rdF (s.extract (lead s + 1) s.size) m = true := by rw [ext_rd (by omega), decide_eq_true hf, hbits]; rfl
    have hval := ext_val hf
    have hN : inB ((riceN s m : Int) + 1) 1 1000000 = true := inB_it.2 (by omega)
    repeat' (first
      | ((with_reducible apply EvO.off); (focus (exact rfl)); (focus (exact rfl)))
      | ((first | ((with_reducible apply EvO.call (vs := ?_)); (focus (exact rfl)); (focus (exact rfl))) | (with_reducible apply Cal.hd (ms := []) (p := ?_)) | ((with_reducible refine EvO.c1 (a := ?_) (S' := ?_) ?_ ?_ ?_); rotate_left 2; (focus (exact rfl))) | ((with_reducible refine EvO.c0 (a := ?_) (S' := ?_) ?_ ?_); rotate_left 2) | ((with_reducible apply EvO.cons); (focus (exact rfl))) | ((with_reducible apply EvO.guard); (focus (exact rfl)); (focus (exact rfl))) | ((with_reducible refine Ev.cond (t := ?_) ?_ ?_ ?_); rotate_left) | skip); (focus ((with_reducible refine Eq.trans ?_ rfl); simp (disch := first | (intros; contradiction) | (as_aux_lemma => omega) | (as_aux_lemma => (simp only [LEN2]; first | done | omega)) | (as_aux_lemma => (simp only [LEN]; first | done | omega))) only [EV, TT, w, w0, fz, FX_str, FX_takerice, hli, hb1, t1, hU, hrd, hval, hsum, hN, beq_self_eq_true, Nat.reduceEqDiff, Nat.reduceBeqDiff, Nat.reduceAdd, Nat.reduceMul, Nat.reduceLeDiff, Nat.reduceLT, reduceCtorEq, Int.reduceEq, Int.reduceNeg, FIN, DP]; first | done | exact rfl)); try (focus (exact rfl)))
      | ((with_reducible apply CalH.mk); intro hd; first | exact c37 (hd := hd)   (hk := by omega) | exact c43 (hd := hd) (hs := by first | assumption | omega | with_reducible rfl) (hm2 := by first | assumption | omega | with_reducible rfl)  (hk := by omega) | exact c44 (hd := hd)   (hk := by omega))
      | (with_reducible (first | rintro r S' ⟨rfl, rfl⟩); refine ⟨_, rfl, ?_⟩)
      | with_reducible refine Ev.seq ?_
      | ((with_reducible refine Ev.regionH ?_); intro H)
      | with_reducible refine EvO.nil ?_
      | ((with_reducible apply regH_k); (focus (exact KIs.mk rfl)); (focus ((with_reducible apply EnvIs.mk); simp only [SE, Nat.reduceEqDiff, Nat.reduceAdd, reduceCtorEq]; first | done | exact rfl)); clear H)
      | exact KIs.mk rfl
      | with_reducible first | refine Ev.skip ?_ | refine Ev.ret ?_ | refine Ev.exit ?_ | refine Ev.block ?_ | refine thenQ_n ?_ | refine thenQ_x ?_ | refine thenQ_r ?_ | refine blockQ_n ?_ | refine blockQ_r ?_ | refine blockQ_x0 ?_ | refine roundQ_x ?_ | refine roundQ_r ?_
      | ((with_reducible refine endQ_r (vs := ?_) (vs' := ?_) (S₂ := ?_) ?_ ?_ ?_); rotate_left 3)
      | ((with_reducible refine blockQ_x1 ?_ ?_); exact rfl)
      | (intro c' hc; cases c' <;> first | (cases hc; done) | (try simp only [HC, inB_it, inB_if] at hc))
      | (intro hc; first | (cases hc; done) | (try simp only [HC, inB_it, inB_if] at hc))
      | fail)
    all_goals first | (exfalso; omega) | exact ⟨rfl, rfl⟩
theorem c18_no {k : Nat} {md : Md} {S : Store} {vs : List A} {D : List Nat} {s : ByteArray} {m : Nat} (hd : dpArgs S [] vs = some ([(.v (.string (s))), (.v (.int .i64 ((m : Int))))], D)) (hs : s.size ≤ 1048576) (hm : m ≤ 10) (hn : ¬ RC s m) (hk : 8 ≤ k) :
    Cal (run k) md 18 vs S (fun r S' => r = .tu [(.v (.int .i64 (0))), (.v (.int .i64 (0))), (.v (.bool (false)))] ∧ S' = S) := by
  obtain ⟨k, rfl⟩ : ∃ j, k = j + 1 := ⟨k - 1, by omega⟩
  refine Cal.fn (n := 70) (rs := [.tmp 4, .tmp 5, .tmp 6]) (ids := []) (D := D) (Xof_none rfl) g18 (by delta Tryd.f18; exact rfl) (by delta Tryd.f18; exact rfl) (by delta Tryd.f18; exact rfl) hd (by first | rfl | simp [idsV, idsC]) (by simp) (by simp) ?_
  intro md' ow; have w := ow.w; have w0 := ow.w0; have fz : md'.fz = false := ow.fz
  have hin : inB (m : Int) 0 10 = true := inB_it.2 (by omega)
  have hle := lead_le s
  by_cases hz : lead s + 1 + m ≤ 2000 ∧ lead s + 1 + m ≤ s.size
  rotate_left
  · have hz' : 2000 < (lead s : Int) + 1 + (m : Int) ∨ (s.size : Int) < (lead s : Int) + 1 + (m : Int) := by omega
    clear hz
    repeat' (first
      | ((with_reducible apply EvO.off); (focus (exact rfl)); (focus (exact rfl)))
      | ((first | ((with_reducible apply EvO.call (vs := ?_)); (focus (exact rfl)); (focus (exact rfl))) | (with_reducible apply Cal.hd (ms := []) (p := ?_)) | ((with_reducible refine EvO.c1 (a := ?_) (S' := ?_) ?_ ?_ ?_); rotate_left 2; (focus (exact rfl))) | ((with_reducible refine EvO.c0 (a := ?_) (S' := ?_) ?_ ?_); rotate_left 2) | ((with_reducible apply EvO.cons); (focus (exact rfl))) | ((with_reducible apply EvO.guard); (focus (exact rfl)); (focus (exact rfl))) | ((with_reducible refine Ev.cond (t := ?_) ?_ ?_ ?_); rotate_left) | skip); (focus ((with_reducible refine Eq.trans ?_ rfl); simp (disch := first | (intros; contradiction) | (as_aux_lemma => omega) | (as_aux_lemma => (simp only [LEN2]; first | done | omega)) | (as_aux_lemma => (simp only [LEN]; first | done | omega))) only [EV, TT, w, w0, fz, FX_str, FX_takerice, hin, Nat.reduceEqDiff, Nat.reduceBeqDiff, Nat.reduceAdd, Nat.reduceMul, Nat.reduceLeDiff, Nat.reduceLT, reduceCtorEq, Int.reduceEq, Int.reduceNeg, FIN, DP]; first | done | exact rfl)); try (focus (exact rfl)))
      | ((with_reducible apply CalH.mk); intro hd; first | exact c40 (hd := hd)   (hk := by omega) | exact c49 (hd := hd) (hs := by first | assumption | omega | with_reducible rfl)  (hk := by omega) | exact c46 (hd := hd) (hs := by first | assumption | omega | with_reducible rfl)  (hk := by omega) | exact c47 (hd := hd)   (hk := by omega) | exact c50 (hd := hd) (hn := by first | assumption | omega | with_reducible rfl) (hm := by first | assumption | omega | with_reducible rfl) (hq := by first | assumption | omega | with_reducible rfl) (hqn := by first | assumption | omega | with_reducible rfl)  (hk := by omega))
      | (with_reducible (first | rintro r S' ⟨rfl, rfl⟩); refine ⟨_, rfl, ?_⟩)
      | with_reducible refine Ev.seq ?_
      | ((with_reducible refine Ev.regionH ?_); intro H)
      | with_reducible refine EvO.nil ?_
      | ((with_reducible apply regH_k); (focus (exact KIs.mk rfl)); (focus ((with_reducible apply EnvIs.mk); simp only [SE, Nat.reduceEqDiff, Nat.reduceAdd, reduceCtorEq]; first | done | exact rfl)); clear H)
      | exact KIs.mk rfl
      | with_reducible first | refine Ev.skip ?_ | refine Ev.ret ?_ | refine Ev.exit ?_ | refine Ev.block ?_ | refine thenQ_n ?_ | refine thenQ_x ?_ | refine thenQ_r ?_ | refine blockQ_n ?_ | refine blockQ_r ?_ | refine blockQ_x0 ?_ | refine roundQ_x ?_ | refine roundQ_r ?_
      | ((with_reducible refine endQ_r (vs := ?_) (vs' := ?_) (S₂ := ?_) ?_ ?_ ?_); rotate_left 3)
      | ((with_reducible refine blockQ_x1 ?_ ?_); exact rfl)
      | (intro c' hc; cases c' <;> first | (cases hc; done) | (try simp only [HC, inB_it, inB_if] at hc))
      | (intro hc; first | (cases hc; done) | (try simp only [HC, inB_it, inB_if] at hc))
      | fail)
    all_goals first | (exfalso; omega) | exact ⟨rfl, rfl⟩
  · obtain ⟨hz3, hf⟩ := hz
    have t1 : ((lead s : Int) + 1).toNat = lead s + 1 := by omega
    have t2 : ((lead s : Int) + 1 + (m : Int)).toNat = lead s + 1 + m := by omega
    have hsz := size_extract (s := s) (a := lead s + 1) (b := lead s + 1 + m) (by omega) hf
    have hsz2 : (s.extract (lead s + 1) (lead s + 1 + m)).size = m := by omega
    clear hsz
    have hok := ext_ok (s := s) (m := m) (e := lead s + 1 + m) (Nat.le_refl _)
    have hval := ext_val (s := s) (m := m) (e := lead s + 1 + m) (Nat.le_refl _)
    have hbd := rice_bd hm hz3
    have hsum := rice_sum s m hm
    by_cases hbits : okF (tailF s) m = true
    · have hv := valF_lt (tailF s) m (okF_t.1 hbits)
      have hp : 2 ^ m ≤ 2 ^ 10 := pow_le hm
      have hp2 : (2 : Nat) ^ 10 = 1024 := by decide
      by_cases hN : inB ((riceN s m : Int) + 1) 1 1000000 = true
      · have hnn := inB_t hN
        have hz2 : ¬ at_ s (lead s) = 48 := fun e => hn ⟨e, hz3, hf, hbits, by omega⟩
        have hcmp := rice_cmp hf hbits
        rw [decide_eq_false hz2] at hcmp
        have hdiv := rice_div hbits
        repeat' (first
          | ((with_reducible apply EvO.off); (focus (exact rfl)); (focus (exact rfl)))
          | ((first | ((with_reducible apply EvO.call (vs := ?_)); (focus (exact rfl)); (focus (exact rfl))) | (with_reducible apply Cal.hd (ms := []) (p := ?_)) | ((with_reducible refine EvO.c1 (a := ?_) (S' := ?_) ?_ ?_ ?_); rotate_left 2; (focus (exact rfl))) | ((with_reducible refine EvO.c0 (a := ?_) (S' := ?_) ?_ ?_); rotate_left 2) | ((with_reducible apply EvO.cons); (focus (exact rfl))) | ((with_reducible apply EvO.guard); (focus (exact rfl)); (focus (exact rfl))) | ((with_reducible refine Ev.cond (t := ?_) ?_ ?_ ?_); rotate_left) | skip); (focus ((with_reducible refine Eq.trans ?_ rfl); simp (disch := first | (intros; contradiction) | (as_aux_lemma => omega) | (as_aux_lemma => (simp only [LEN2]; first | done | omega)) | (as_aux_lemma => (simp only [LEN]; first | done | omega))) only [EV, TT, w, w0, fz, FX_str, FX_takerice, hin, t1, t2, resF, hsz2, hok, hval, hbits, hsum, hN, hcmp, Nat.reduceEqDiff, Nat.reduceBeqDiff, Nat.reduceAdd, Nat.reduceMul, Nat.reduceLeDiff, Nat.reduceLT, reduceCtorEq, Int.reduceEq, Int.reduceNeg, FIN, DP]; first | done | exact rfl)); try (focus (exact rfl)))
          | ((with_reducible apply CalH.mk); intro hd; first | exact c40 (hd := hd)   (hk := by omega) | exact c49 (hd := hd) (hs := by first | assumption | omega | with_reducible rfl)  (hk := by omega) | exact c46 (hd := hd) (hs := by first | assumption | omega | with_reducible rfl)  (hk := by omega) | exact c47 (hd := hd)   (hk := by omega) | exact c50 (hd := hd) (hn := by first | assumption | omega | with_reducible rfl) (hm := by first | assumption | omega | with_reducible rfl) (hq := by first | assumption | omega | with_reducible rfl) (hqn := by first | assumption | omega | with_reducible rfl)  (hk := by omega))
          | (with_reducible (first | rintro r S' ⟨rfl, rfl⟩); refine ⟨_, rfl, ?_⟩)
          | with_reducible refine Ev.seq ?_
          | ((with_reducible refine Ev.regionH ?_); intro H)
          | with_reducible refine EvO.nil ?_
          | ((with_reducible apply regH_k); (focus (exact KIs.mk rfl)); (focus ((with_reducible apply EnvIs.mk); simp only [SE, Nat.reduceEqDiff, Nat.reduceAdd, reduceCtorEq]; first | done | exact rfl)); clear H)
          | exact KIs.mk rfl
          | with_reducible first | refine Ev.skip ?_ | refine Ev.ret ?_ | refine Ev.exit ?_ | refine Ev.block ?_ | refine thenQ_n ?_ | refine thenQ_x ?_ | refine thenQ_r ?_ | refine blockQ_n ?_ | refine blockQ_r ?_ | refine blockQ_x0 ?_ | refine roundQ_x ?_ | refine roundQ_r ?_
          | ((with_reducible refine endQ_r (vs := ?_) (vs' := ?_) (S₂ := ?_) ?_ ?_ ?_); rotate_left 3)
          | ((with_reducible refine blockQ_x1 ?_ ?_); exact rfl)
          | (intro c' hc; cases c' <;> first | (cases hc; done) | (try simp only [HC, inB_it, inB_if] at hc))
          | (intro hc; first | (cases hc; done) | (try simp only [HC, inB_it, inB_if] at hc))
          | fail)
        all_goals first | (exfalso; omega) | exact ⟨rfl, rfl⟩
      · have hN : inB ((riceN s m : Int) + 1) 1 1000000 = false := by simpa using hN
        repeat' (first
          | ((with_reducible apply EvO.off); (focus (exact rfl)); (focus (exact rfl)))
          | ((first | ((with_reducible apply EvO.call (vs := ?_)); (focus (exact rfl)); (focus (exact rfl))) | (with_reducible apply Cal.hd (ms := []) (p := ?_)) | ((with_reducible refine EvO.c1 (a := ?_) (S' := ?_) ?_ ?_ ?_); rotate_left 2; (focus (exact rfl))) | ((with_reducible refine EvO.c0 (a := ?_) (S' := ?_) ?_ ?_); rotate_left 2) | ((with_reducible apply EvO.cons); (focus (exact rfl))) | ((with_reducible apply EvO.guard); (focus (exact rfl)); (focus (exact rfl))) | ((with_reducible refine Ev.cond (t := ?_) ?_ ?_ ?_); rotate_left) | skip); (focus ((with_reducible refine Eq.trans ?_ rfl); simp (disch := first | (intros; contradiction) | (as_aux_lemma => omega) | (as_aux_lemma => (simp only [LEN2]; first | done | omega)) | (as_aux_lemma => (simp only [LEN]; first | done | omega))) only [EV, TT, w, w0, fz, FX_str, FX_takerice, hin, t1, t2, resF, hsz2, hok, hval, hbits, hsum, hN, Nat.reduceEqDiff, Nat.reduceBeqDiff, Nat.reduceAdd, Nat.reduceMul, Nat.reduceLeDiff, Nat.reduceLT, reduceCtorEq, Int.reduceEq, Int.reduceNeg, FIN, DP]; first | done | exact rfl)); try (focus (exact rfl)))
          | ((with_reducible apply CalH.mk); intro hd; first | exact c40 (hd := hd)   (hk := by omega) | exact c49 (hd := hd) (hs := by first | assumption | omega | with_reducible rfl)  (hk := by omega) | exact c46 (hd := hd) (hs := by first | assumption | omega | with_reducible rfl)  (hk := by omega) | exact c47 (hd := hd)   (hk := by omega) | exact c50 (hd := hd) (hn := by first | assumption | omega | with_reducible rfl) (hm := by first | assumption | omega | with_reducible rfl) (hq := by first | assumption | omega | with_reducible rfl) (hqn := by first | assumption | omega | with_reducible rfl)  (hk := by omega))
          | (with_reducible (first | rintro r S' ⟨rfl, rfl⟩); refine ⟨_, rfl, ?_⟩)
          | with_reducible refine Ev.seq ?_
          | ((with_reducible refine Ev.regionH ?_); intro H)
          | with_reducible refine EvO.nil ?_
          | ((with_reducible apply regH_k); (focus (exact KIs.mk rfl)); (focus ((with_reducible apply EnvIs.mk); simp only [SE, Nat.reduceEqDiff, Nat.reduceAdd, reduceCtorEq]; first | done | exact rfl)); clear H)
          | exact KIs.mk rfl
          | with_reducible first | refine Ev.skip ?_ | refine Ev.ret ?_ | refine Ev.exit ?_ | refine Ev.block ?_ | refine thenQ_n ?_ | refine thenQ_x ?_ | refine thenQ_r ?_ | refine blockQ_n ?_ | refine blockQ_r ?_ | refine blockQ_x0 ?_ | refine roundQ_x ?_ | refine roundQ_r ?_
          | ((with_reducible refine endQ_r (vs := ?_) (vs' := ?_) (S₂ := ?_) ?_ ?_ ?_); rotate_left 3)
          | ((with_reducible refine blockQ_x1 ?_ ?_); exact rfl)
          | (intro c' hc; cases c' <;> first | (cases hc; done) | (try simp only [HC, inB_it, inB_if] at hc))
          | (intro hc; first | (cases hc; done) | (try simp only [HC, inB_it, inB_if] at hc))
          | fail)
        all_goals first | (exfalso; omega) | exact ⟨rfl, rfl⟩
    · have hbits : okF (tailF s) m = false := by simpa using hbits
      repeat' (first
        | ((with_reducible apply EvO.off); (focus (exact rfl)); (focus (exact rfl)))
        | ((first | ((with_reducible apply EvO.call (vs := ?_)); (focus (exact rfl)); (focus (exact rfl))) | (with_reducible apply Cal.hd (ms := []) (p := ?_)) | ((with_reducible refine EvO.c1 (a := ?_) (S' := ?_) ?_ ?_ ?_); rotate_left 2; (focus (exact rfl))) | ((with_reducible refine EvO.c0 (a := ?_) (S' := ?_) ?_ ?_); rotate_left 2) | ((with_reducible apply EvO.cons); (focus (exact rfl))) | ((with_reducible apply EvO.guard); (focus (exact rfl)); (focus (exact rfl))) | ((with_reducible refine Ev.cond (t := ?_) ?_ ?_ ?_); rotate_left) | skip); (focus ((with_reducible refine Eq.trans ?_ rfl); simp (disch := first | (intros; contradiction) | (as_aux_lemma => omega) | (as_aux_lemma => (simp only [LEN2]; first | done | omega)) | (as_aux_lemma => (simp only [LEN]; first | done | omega))) only [EV, TT, w, w0, fz, FX_str, FX_takerice, hin, t1, t2, resF, hsz2, hok, hval, hbits, Nat.reduceEqDiff, Nat.reduceBeqDiff, Nat.reduceAdd, Nat.reduceMul, Nat.reduceLeDiff, Nat.reduceLT, reduceCtorEq, Int.reduceEq, Int.reduceNeg, FIN, DP]; first | done | exact rfl)); try (focus (exact rfl)))
        | ((with_reducible apply CalH.mk); intro hd; first | exact c40 (hd := hd)   (hk := by omega) | exact c49 (hd := hd) (hs := by first | assumption | omega | with_reducible rfl)  (hk := by omega) | exact c46 (hd := hd) (hs := by first | assumption | omega | with_reducible rfl)  (hk := by omega) | exact c47 (hd := hd)   (hk := by omega) | exact c50 (hd := hd) (hn := by first | assumption | omega | with_reducible rfl) (hm := by first | assumption | omega | with_reducible rfl) (hq := by first | assumption | omega | with_reducible rfl) (hqn := by first | assumption | omega | with_reducible rfl)  (hk := by omega))
        | (with_reducible (first | rintro r S' ⟨rfl, rfl⟩); refine ⟨_, rfl, ?_⟩)
        | with_reducible refine Ev.seq ?_
        | ((with_reducible refine Ev.regionH ?_); intro H)
        | with_reducible refine EvO.nil ?_
        | ((with_reducible apply regH_k); (focus (exact KIs.mk rfl)); (focus ((with_reducible apply EnvIs.mk); simp only [SE, Nat.reduceEqDiff, Nat.reduceAdd, reduceCtorEq]; first | done | exact rfl)); clear H)
        | exact KIs.mk rfl
        | with_reducible first | refine Ev.skip ?_ | refine Ev.ret ?_ | refine Ev.exit ?_ | refine Ev.block ?_ | refine thenQ_n ?_ | refine thenQ_x ?_ | refine thenQ_r ?_ | refine blockQ_n ?_ | refine blockQ_r ?_ | refine blockQ_x0 ?_ | refine roundQ_x ?_ | refine roundQ_r ?_
        | ((with_reducible refine endQ_r (vs := ?_) (vs' := ?_) (S₂ := ?_) ?_ ?_ ?_); rotate_left 3)
        | ((with_reducible refine blockQ_x1 ?_ ?_); exact rfl)
        | (intro c' hc; cases c' <;> first | (cases hc; done) | (try simp only [HC, inB_it, inB_if] at hc))
        | (intro hc; first | (cases hc; done) | (try simp only [HC, inB_it, inB_if] at hc))
        | fail)
      all_goals first | (exfalso; omega) | exact ⟨rfl, rfl⟩
theorem c18_ok {k : Nat} {md : Md} {S : Store} {vs : List A} {D : List Nat} {s : ByteArray} {m : Nat} (hd : dpArgs S [] vs = some ([(.v (.string (s))), (.v (.int .i64 ((m : Int))))], D)) (hs : s.size ≤ 1048576) (hm : m ≤ 10) (hr : RC s m) (hk : 8 ≤ k) :
    Cal (run k) md 18 vs S (fun r S' => r = .tu [(.v (.int .i64 ((riceN s m : Int) + 1))), (.v (.int .i64 ((lead s : Int) + 1 + (m : Int)))), (.v (.bool (true)))] ∧ S' = S) := by
  obtain ⟨k, rfl⟩ : ∃ j, k = j + 1 := ⟨k - 1, by omega⟩
  refine Cal.fn (n := 70) (rs := [.tmp 4, .tmp 5, .tmp 6]) (ids := []) (D := D) (Xof_none rfl) g18 (by delta Tryd.f18; exact rfl) (by delta Tryd.f18; exact rfl) (by delta Tryd.f18; exact rfl) hd (by first | rfl | simp [idsV, idsC]) (by simp) (by simp) ?_
  intro md' ow; have w := ow.w; have w0 := ow.w0; have fz : md'.fz = false := ow.fz
  have hin : inB (m : Int) 0 10 = true := inB_it.2 (by omega)
  have hle := lead_le s
  obtain ⟨hz2, hz3, hf, hbits, hnum⟩ := hr
  have t1 : ((lead s : Int) + 1).toNat = lead s + 1 := by omega
  have t2 : ((lead s : Int) + 1 + (m : Int)).toNat = lead s + 1 + m := by omega
  have hsz := size_extract (s := s) (a := lead s + 1) (b := lead s + 1 + m) (by omega) hf
  have hsz2 : (s.extract (lead s + 1) (lead s + 1 + m)).size = m := by omega
  clear hsz
  have hok := ext_ok (s := s) (m := m) (e := lead s + 1 + m) (Nat.le_refl _)
  have hval := ext_val (s := s) (m := m) (e := lead s + 1 + m) (Nat.le_refl _)
  have hbd := rice_bd hm hz3
  have hsum := rice_sum s m hm
  have hv := valF_lt (tailF s) m (okF_t.1 hbits)
  have hp : 2 ^ m ≤ 2 ^ 10 := pow_le hm
  have hp2 : (2 : Nat) ^ 10 = 1024 := by decide
  have hN : inB ((riceN s m : Int) + 1) 1 1000000 = true := inB_it.2 (by omega)
  have hcmp := rice_cmp hf hbits
  rw [decide_eq_true hz2] at hcmp
  have hdiv := rice_div hbits
  repeat' (first
    | ((with_reducible apply EvO.off); (focus (exact rfl)); (focus (exact rfl)))
    | ((first | ((with_reducible apply EvO.call (vs := ?_)); (focus (exact rfl)); (focus (exact rfl))) | (with_reducible apply Cal.hd (ms := []) (p := ?_)) | ((with_reducible refine EvO.c1 (a := ?_) (S' := ?_) ?_ ?_ ?_); rotate_left 2; (focus (exact rfl))) | ((with_reducible refine EvO.c0 (a := ?_) (S' := ?_) ?_ ?_); rotate_left 2) | ((with_reducible apply EvO.cons); (focus (exact rfl))) | ((with_reducible apply EvO.guard); (focus (exact rfl)); (focus (exact rfl))) | ((with_reducible refine Ev.cond (t := ?_) ?_ ?_ ?_); rotate_left) | skip); (focus ((with_reducible refine Eq.trans ?_ rfl); simp (disch := first | (intros; contradiction) | (as_aux_lemma => omega) | (as_aux_lemma => (simp only [LEN2]; first | done | omega)) | (as_aux_lemma => (simp only [LEN]; first | done | omega))) only [EV, TT, w, w0, fz, FX_str, FX_takerice, hin, t1, t2, resF, hsz2, hok, hval, hbits, hsum, hN, hcmp, Nat.reduceEqDiff, Nat.reduceBeqDiff, Nat.reduceAdd, Nat.reduceMul, Nat.reduceLeDiff, Nat.reduceLT, reduceCtorEq, Int.reduceEq, Int.reduceNeg, FIN, DP]; first | done | exact rfl)); try (focus (exact rfl)))
    | ((with_reducible apply CalH.mk); intro hd; first | exact c40 (hd := hd)   (hk := by omega) | exact c49 (hd := hd) (hs := by first | assumption | omega | with_reducible rfl)  (hk := by omega) | exact c46 (hd := hd) (hs := by first | assumption | omega | with_reducible rfl)  (hk := by omega) | exact c47 (hd := hd)   (hk := by omega) | exact c50 (hd := hd) (hn := by first | assumption | omega | with_reducible rfl) (hm := by first | assumption | omega | with_reducible rfl) (hq := by first | assumption | omega | with_reducible rfl) (hqn := by first | assumption | omega | with_reducible rfl)  (hk := by omega))
    | (with_reducible (first | rintro r S' ⟨rfl, rfl⟩); refine ⟨_, rfl, ?_⟩)
    | with_reducible refine Ev.seq ?_
    | ((with_reducible refine Ev.regionH ?_); intro H)
    | with_reducible refine EvO.nil ?_
    | ((with_reducible apply regH_k); (focus (exact KIs.mk rfl)); (focus ((with_reducible apply EnvIs.mk); simp only [SE, Nat.reduceEqDiff, Nat.reduceAdd, reduceCtorEq]; first | done | exact rfl)); clear H)
    | exact KIs.mk rfl
    | with_reducible first | refine Ev.skip ?_ | refine Ev.ret ?_ | refine Ev.exit ?_ | refine Ev.block ?_ | refine thenQ_n ?_ | refine thenQ_x ?_ | refine thenQ_r ?_ | refine blockQ_n ?_ | refine blockQ_r ?_ | refine blockQ_x0 ?_ | refine roundQ_x ?_ | refine roundQ_r ?_
    | ((with_reducible refine endQ_r (vs := ?_) (vs' := ?_) (S₂ := ?_) ?_ ?_ ?_); rotate_left 3)
    | ((with_reducible refine blockQ_x1 ?_ ?_); exact rfl)
    | (intro c' hc; cases c' <;> first | (cases hc; done) | (try simp only [HC, inB_it, inB_if] at hc))
    | (intro hc; first | (cases hc; done) | (try simp only [HC, inB_it, inB_if] at hc))
    | fail)
  all_goals first | (exfalso; omega) | exact ⟨rfl, rfl⟩
end Go.Proofs.YtfplammpeghinaaDoorB

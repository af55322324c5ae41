/- Part of the evaluator's contracts: lawTR. -/
import Derived.Test.YtfplammpeghinaaDoorFricelaw
namespace Go.Proofs.YtfplammpeghinaaDoorB
open Go Go.Proofs.YtfplammpeghinaaDoorE
set_option linter.unusedVariables false
set_option linter.unusedSectionVars false
set_option linter.unusedSimpArgs false
set_option maxHeartbeats 4000000
set_option maxRecDepth 20000
theorem c6_big {k : Nat} {md : Md} {S : Store} {vs : List A} {D : List Nat} {s : ByteArray} {x : Int} (hd : dpArgs S [] vs = some ([(.v (.string (s))), (.v (.int .i64 (x)))], D)) (hs : 1048576 < (s.size : Int)) (hk : 9 ≤ k) :
    Cal (run k) md 6 vs S (fun r S' => r = (.v (.bool (true))) ∧ S' = S) := by
  obtain ⟨k, rfl⟩ : ∃ j, k = j + 1 := ⟨k - 1, by omega⟩
  refine Cal.fn (n := 41) (rs := [.tmp 4]) (ids := []) (D := D) (Xof_none rfl) g6 (by delta Tryd.f6; exact rfl) (by delta Tryd.f6; exact rfl) (by delta Tryd.f6; exact rfl) hd (by first | rfl | simp [idsV, idsC]) (by simp) (by simp) ?_
  intro md' ow; have w := ow.w; have w0 := ow.w0; have fz : md'.fz = false := ow.fz
  repeat' (first
    | ((with_reducible apply EvO.off); (focus (exact rfl)); (focus (exact rfl)))
    | ((first | ((with_reducible apply EvO.call (vs := ?_)); (focus (exact rfl)); (focus (exact rfl))) | (with_reducible apply Cal.hd (ms := []) (p := ?_)) | ((with_reducible refine EvO.c1 (a := ?_) (S' := ?_) ?_ ?_ ?_); rotate_left 2; (focus (exact rfl))) | ((with_reducible refine EvO.c0 (a := ?_) (S' := ?_) ?_ ?_); rotate_left 2) | ((with_reducible apply EvO.cons); (focus (exact rfl))) | ((with_reducible apply EvO.guard); (focus (exact rfl)); (focus (exact rfl))) | ((with_reducible refine Ev.cond (t := ?_) ?_ ?_ ?_); rotate_left) | skip); (focus ((with_reducible refine Eq.trans ?_ rfl); simp (disch := first | (intros; contradiction) | (as_aux_lemma => omega) | (as_aux_lemma => (simp only [LEN2]; first | done | omega)) | (as_aux_lemma => (simp only [LEN]; first | done | omega))) only [EV, TT, w, w0, fz, FX_str, FX_takerice, hs, Nat.reduceEqDiff, Nat.reduceBeqDiff, Nat.reduceAdd, Nat.reduceMul, Nat.reduceLeDiff, Nat.reduceLT, reduceCtorEq, Int.reduceEq, Int.reduceNeg, FIN, DP]; first | done | exact rfl)); try (focus (exact rfl)))
    | ((with_reducible apply CalH.mk); intro hd; first | exact c17_bad (hd := hd) (hb := by first | assumption | omega | with_reducible rfl)  (hk := by omega) | exact c17_no (hd := hd) (hs := by first | assumption | omega | with_reducible rfl) (hm := by first | assumption | omega | with_reducible rfl) (hn := by first | assumption | omega | with_reducible rfl)  (hk := by omega) | exact c17_ok (hd := hd) (hs := by first | assumption | omega | with_reducible rfl) (hm := by first | assumption | omega | with_reducible rfl) (hr := by first | assumption | omega | with_reducible rfl)  (hk := by omega) | exact c18_bad (hd := hd) (hb := by first | assumption | omega | with_reducible rfl)  (hk := by omega) | exact c18_no (hd := hd) (hs := by first | assumption | omega | with_reducible rfl) (hm := by first | assumption | omega | with_reducible rfl) (hn := by first | assumption | omega | with_reducible rfl)  (hk := by omega) | exact c18_ok (hd := hd) (hs := by first | assumption | omega | with_reducible rfl) (hm := by first | assumption | omega | with_reducible rfl) (hr := by first | assumption | omega | with_reducible rfl)  (hk := by omega))
    | (with_reducible (first | rintro r S' ⟨rfl, rfl⟩); refine ⟨_, rfl, ?_⟩)
    | with_reducible refine Ev.seq ?_
    | ((with_reducible refine Ev.regionH ?_); intro H)
    | with_reducible refine EvO.nil ?_
    | ((with_reducible apply regH_k); (focus (exact KIs.mk rfl)); (focus ((with_reducible apply EnvIs.mk); simp only [SE, Nat.reduceEqDiff, Nat.reduceAdd, reduceCtorEq]; first | done | exact rfl)); clear H)
    | exact KIs.mk rfl
    | with_reducible first | refine Ev.skip ?_ | refine Ev.ret ?_ | refine Ev.exit ?_ | refine Ev.block ?_ | refine thenQ_n ?_ | refine thenQ_x ?_ | refine thenQ_r ?_ | refine blockQ_n ?_ | refine blockQ_r ?_ | refine blockQ_x0 ?_ | refine roundQ_x ?_ | refine roundQ_r ?_
    | ((with_reducible refine endQ_r (vs := ?_) (vs' := ?_) (S₂ := ?_) ?_ ?_ ?_); rotate_left 3)
    | ((with_reducible refine blockQ_x1 ?_ ?_); exact rfl)
    | (intro c' hc; cases c' <;> first | (cases hc; done) | (try simp only [HC, inB_it, inB_if] at hc))
    | (intro hc; first | (cases hc; done) | (try simp only [HC, inB_it, inB_if] at hc))
    | fail)
  all_goals first | (exfalso; omega) | exact ⟨rfl, rfl⟩
theorem c6_bad {k : Nat} {md : Md} {S : Store} {vs : List A} {D : List Nat} {s : ByteArray} {x : Int} (hd : dpArgs S [] vs = some ([(.v (.string (s))), (.v (.int .i64 (x)))], D)) (hs : s.size ≤ 1048576) (hb : inB x 0 10 = false) (hk : 9 ≤ k) :
    Cal (run k) md 6 vs S (fun r S' => r = (.v (.bool (true))) ∧ S' = S) := by
  obtain ⟨k, rfl⟩ : ∃ j, k = j + 1 := ⟨k - 1, by omega⟩
  refine Cal.fn (n := 41) (rs := [.tmp 4]) (ids := []) (D := D) (Xof_none rfl) g6 (by delta Tryd.f6; exact rfl) (by delta Tryd.f6; exact rfl) (by delta Tryd.f6; exact rfl) hd (by first | rfl | simp [idsV, idsC]) (by simp) (by simp) ?_
  intro md' ow; have w := ow.w; have w0 := ow.w0; have fz : md'.fz = false := ow.fz
  repeat' (first
    | ((with_reducible apply EvO.off); (focus (exact rfl)); (focus (exact rfl)))
    | ((first | ((with_reducible apply EvO.call (vs := ?_)); (focus (exact rfl)); (focus (exact rfl))) | (with_reducible apply Cal.hd (ms := []) (p := ?_)) | ((with_reducible refine EvO.c1 (a := ?_) (S' := ?_) ?_ ?_ ?_); rotate_left 2; (focus (exact rfl))) | ((with_reducible refine EvO.c0 (a := ?_) (S' := ?_) ?_ ?_); rotate_left 2) | ((with_reducible apply EvO.cons); (focus (exact rfl))) | ((with_reducible apply EvO.guard); (focus (exact rfl)); (focus (exact rfl))) | ((with_reducible refine Ev.cond (t := ?_) ?_ ?_ ?_); rotate_left) | skip); (focus ((with_reducible refine Eq.trans ?_ rfl); simp (disch := first | (intros; contradiction) | (as_aux_lemma => omega) | (as_aux_lemma => (simp only [LEN2]; first | done | omega)) | (as_aux_lemma => (simp only [LEN]; first | done | omega))) only [EV, TT, w, w0, fz, FX_str, FX_takerice, Nat.reduceEqDiff, Nat.reduceBeqDiff, Nat.reduceAdd, Nat.reduceMul, Nat.reduceLeDiff, Nat.reduceLT, reduceCtorEq, Int.reduceEq, Int.reduceNeg, FIN, DP]; first | done | exact rfl)); try (focus (exact rfl)))
    | ((with_reducible apply CalH.mk); intro hd; first | exact c17_bad (hd := hd) (hb := by first | assumption | omega | with_reducible rfl)  (hk := by omega) | exact c17_no (hd := hd) (hs := by first | assumption | omega | with_reducible rfl) (hm := by first | assumption | omega | with_reducible rfl) (hn := by first | assumption | omega | with_reducible rfl)  (hk := by omega) | exact c17_ok (hd := hd) (hs := by first | assumption | omega | with_reducible rfl) (hm := by first | assumption | omega | with_reducible rfl) (hr := by first | assumption | omega | with_reducible rfl)  (hk := by omega) | exact c18_bad (hd := hd) (hb := by first | assumption | omega | with_reducible rfl)  (hk := by omega) | exact c18_no (hd := hd) (hs := by first | assumption | omega | with_reducible rfl) (hm := by first | assumption | omega | with_reducible rfl) (hn := by first | assumption | omega | with_reducible rfl)  (hk := by omega) | exact c18_ok (hd := hd) (hs := by first | assumption | omega | with_reducible rfl) (hm := by first | assumption | omega | with_reducible rfl) (hr := by first | assumption | omega | with_reducible rfl)  (hk := by omega))
    | (with_reducible (first | rintro r S' ⟨rfl, rfl⟩); refine ⟨_, rfl, ?_⟩)
    | with_reducible refine Ev.seq ?_
    | ((with_reducible refine Ev.regionH ?_); intro H)
    | with_reducible refine EvO.nil ?_
    | ((with_reducible apply regH_k); (focus (exact KIs.mk rfl)); (focus ((with_reducible apply EnvIs.mk); simp only [SE, Nat.reduceEqDiff, Nat.reduceAdd, reduceCtorEq]; first | done | exact rfl)); clear H)
    | exact KIs.mk rfl
    | with_reducible first | refine Ev.skip ?_ | refine Ev.ret ?_ | refine Ev.exit ?_ | refine Ev.block ?_ | refine thenQ_n ?_ | refine thenQ_x ?_ | refine thenQ_r ?_ | refine blockQ_n ?_ | refine blockQ_r ?_ | refine blockQ_x0 ?_ | refine roundQ_x ?_ | refine roundQ_r ?_
    | ((with_reducible refine endQ_r (vs := ?_) (vs' := ?_) (S₂ := ?_) ?_ ?_ ?_); rotate_left 3)
    | ((with_reducible refine blockQ_x1 ?_ ?_); exact rfl)
    | (intro c' hc; cases c' <;> first | (cases hc; done) | (try simp only [HC, inB_it, inB_if] at hc))
    | (intro hc; first | (cases hc; done) | (try simp only [HC, inB_it, inB_if] at hc))
    | fail)
  all_goals first | (exfalso; omega) | exact ⟨rfl, rfl⟩
theorem c6_no {k : Nat} {md : Md} {S : Store} {vs : List A} {D : List Nat} {s : ByteArray} {m : Nat} (hd : dpArgs S [] vs = some ([(.v (.string (s))), (.v (.int .i64 ((m : Int))))], D)) (hs : s.size ≤ 1048576) (hm : m ≤ 10) (hn : ¬ RC s m) (hk : 9 ≤ k) :
    Cal (run k) md 6 vs S (fun r S' => r = (.v (.bool (true))) ∧ S' = S) := by
  obtain ⟨k, rfl⟩ : ∃ j, k = j + 1 := ⟨k - 1, by omega⟩
  refine Cal.fn (n := 41) (rs := [.tmp 4]) (ids := []) (D := D) (Xof_none rfl) g6 (by delta Tryd.f6; exact rfl) (by delta Tryd.f6; exact rfl) (by delta Tryd.f6; exact rfl) hd (by first | rfl | simp [idsV, idsC]) (by simp) (by simp) ?_
  intro md' ow; have w := ow.w; have w0 := ow.w0; have fz : md'.fz = false := ow.fz
  repeat' (first
    | ((with_reducible apply EvO.off); (focus (exact rfl)); (focus (exact rfl)))
    | ((first | ((with_reducible apply EvO.call (vs := ?_)); (focus (exact rfl)); (focus (exact rfl))) | (with_reducible apply Cal.hd (ms := []) (p := ?_)) | ((with_reducible refine EvO.c1 (a := ?_) (S' := ?_) ?_ ?_ ?_); rotate_left 2; (focus (exact rfl))) | ((with_reducible refine EvO.c0 (a := ?_) (S' := ?_) ?_ ?_); rotate_left 2) | ((with_reducible apply EvO.cons); (focus (exact rfl))) | ((with_reducible apply EvO.guard); (focus (exact rfl)); (focus (exact rfl))) | ((with_reducible refine Ev.cond (t := ?_) ?_ ?_ ?_); rotate_left) | skip); (focus ((with_reducible refine Eq.trans ?_ rfl); simp (disch := first | (intros; contradiction) | (as_aux_lemma => omega) | (as_aux_lemma => (simp only [LEN2]; first | done | omega)) | (as_aux_lemma => (simp only [LEN]; first | done | omega))) only [EV, TT, w, w0, fz, FX_str, FX_takerice, Nat.reduceEqDiff, Nat.reduceBeqDiff, Nat.reduceAdd, Nat.reduceMul, Nat.reduceLeDiff, Nat.reduceLT, reduceCtorEq, Int.reduceEq, Int.reduceNeg, FIN, DP]; first | done | exact rfl)); try (focus (exact rfl)))
    | ((with_reducible apply CalH.mk); intro hd; first | exact c17_bad (hd := hd) (hb := by first | assumption | omega | with_reducible rfl)  (hk := by omega) | exact c17_no (hd := hd) (hs := by first | assumption | omega | with_reducible rfl) (hm := by first | assumption | omega | with_reducible rfl) (hn := by first | assumption | omega | with_reducible rfl)  (hk := by omega) | exact c17_ok (hd := hd) (hs := by first | assumption | omega | with_reducible rfl) (hm := by first | assumption | omega | with_reducible rfl) (hr := by first | assumption | omega | with_reducible rfl)  (hk := by omega) | exact c18_bad (hd := hd) (hb := by first | assumption | omega | with_reducible rfl)  (hk := by omega) | exact c18_no (hd := hd) (hs := by first | assumption | omega | with_reducible rfl) (hm := by first | assumption | omega | with_reducible rfl) (hn := by first | assumption | omega | with_reducible rfl)  (hk := by omega) | exact c18_ok (hd := hd) (hs := by first | assumption | omega | with_reducible rfl) (hm := by first | assumption | omega | with_reducible rfl) (hr := by first | assumption | omega | with_reducible rfl)  (hk := by omega))
    | (with_reducible (first | rintro r S' ⟨rfl, rfl⟩); refine ⟨_, rfl, ?_⟩)
    | with_reducible refine Ev.seq ?_
    | ((with_reducible refine Ev.regionH ?_); intro H)
    | with_reducible refine EvO.nil ?_
    | ((with_reducible apply regH_k); (focus (exact KIs.mk rfl)); (focus ((with_reducible apply EnvIs.mk); simp only [SE, Nat.reduceEqDiff, Nat.reduceAdd, reduceCtorEq]; first | done | exact rfl)); clear H)
    | exact KIs.mk rfl
    | with_reducible first | refine Ev.skip ?_ | refine Ev.ret ?_ | refine Ev.exit ?_ | refine Ev.block ?_ | refine thenQ_n ?_ | refine thenQ_x ?_ | refine thenQ_r ?_ | refine blockQ_n ?_ | refine blockQ_r ?_ | refine blockQ_x0 ?_ | refine roundQ_x ?_ | refine roundQ_r ?_
    | ((with_reducible refine endQ_r (vs := ?_) (vs' := ?_) (S₂ := ?_) ?_ ?_ ?_); rotate_left 3)
    | ((with_reducible refine blockQ_x1 ?_ ?_); exact rfl)
    | (intro c' hc; cases c' <;> first | (cases hc; done) | (try simp only [HC, inB_it, inB_if] at hc))
    | (intro hc; first | (cases hc; done) | (try simp only [HC, inB_it, inB_if] at hc))
    | fail)
  all_goals first | (exfalso; omega) | exact ⟨rfl, rfl⟩
theorem c6_ok {k : Nat} {md : Md} {S : Store} {vs : List A} {D : List Nat} {s : ByteArray} {m : Nat} (hd : dpArgs S [] vs = some ([(.v (.string (s))), (.v (.int .i64 ((m : Int))))], D)) (hs : s.size ≤ 1048576) (hm : m ≤ 10) (hr : RC s m) (hk : 9 ≤ k) :
    Cal (run k) md 6 vs S (fun r S' => r = (.v (.bool (true))) ∧ S' = S) := by
  obtain ⟨k, rfl⟩ : ∃ j, k = j + 1 := ⟨k - 1, by omega⟩
  refine Cal.fn (n := 41) (rs := [.tmp 4]) (ids := []) (D := D) (Xof_none rfl) g6 (by delta Tryd.f6; exact rfl) (by delta Tryd.f6; exact rfl) (by delta Tryd.f6; exact rfl) hd (by first | rfl | simp [idsV, idsC]) (by simp) (by simp) ?_
  intro md' ow; have w := ow.w; have w0 := ow.w0; have fz : md'.fz = false := ow.fz
  repeat' (first
    | ((with_reducible apply EvO.off); (focus (exact rfl)); (focus (exact rfl)))
    | ((first | ((with_reducible apply EvO.call (vs := ?_)); (focus (exact rfl)); (focus (exact rfl))) | (with_reducible apply Cal.hd (ms := []) (p := ?_)) | ((with_reducible refine EvO.c1 (a := ?_) (S' := ?_) ?_ ?_ ?_); rotate_left 2; (focus (exact rfl))) | ((with_reducible refine EvO.c0 (a := ?_) (S' := ?_) ?_ ?_); rotate_left 2) | ((with_reducible apply EvO.cons); (focus (exact rfl))) | ((with_reducible apply EvO.guard); (focus (exact rfl)); (focus (exact rfl))) | ((with_reducible refine Ev.cond (t := ?_) ?_ ?_ ?_); rotate_left) | skip); (focus ((with_reducible refine Eq.trans ?_ rfl); simp (disch := first | (intros; contradiction) | (as_aux_lemma => omega) | (as_aux_lemma => (simp only [LEN2]; first | done | omega)) | (as_aux_lemma => (simp only [LEN]; first | done | omega))) only [EV, TT, w, w0, fz, FX_str, FX_takerice, Nat.reduceEqDiff, Nat.reduceBeqDiff, Nat.reduceAdd, Nat.reduceMul, Nat.reduceLeDiff, Nat.reduceLT, reduceCtorEq, Int.reduceEq, Int.reduceNeg, FIN, DP]; first | done | exact rfl)); try (focus (exact rfl)))
    | ((with_reducible apply CalH.mk); intro hd; first | exact c17_bad (hd := hd) (hb := by first | assumption | omega | with_reducible rfl)  (hk := by omega) | exact c17_no (hd := hd) (hs := by first | assumption | omega | with_reducible rfl) (hm := by first | assumption | omega | with_reducible rfl) (hn := by first | assumption | omega | with_reducible rfl)  (hk := by omega) | exact c17_ok (hd := hd) (hs := by first | assumption | omega | with_reducible rfl) (hm := by first | assumption | omega | with_reducible rfl) (hr := by first | assumption | omega | with_reducible rfl)  (hk := by omega) | exact c18_bad (hd := hd) (hb := by first | assumption | omega | with_reducible rfl)  (hk := by omega) | exact c18_no (hd := hd) (hs := by first | assumption | omega | with_reducible rfl) (hm := by first | assumption | omega | with_reducible rfl) (hn := by first | assumption | omega | with_reducible rfl)  (hk := by omega) | exact c18_ok (hd := hd) (hs := by first | assumption | omega | with_reducible rfl) (hm := by first | assumption | omega | with_reducible rfl) (hr := by first | assumption | omega | with_reducible rfl)  (hk := by omega))
    | (with_reducible (first | rintro r S' ⟨rfl, rfl⟩); refine ⟨_, rfl, ?_⟩)
    | with_reducible refine Ev.seq ?_
    | ((with_reducible refine Ev.regionH ?_); intro H)
    | with_reducible refine EvO.nil ?_
    | ((with_reducible apply regH_k); (focus (exact KIs.mk rfl)); (focus ((with_reducible apply EnvIs.mk); simp only [SE, Nat.reduceEqDiff, Nat.reduceAdd, reduceCtorEq]; first | done | exact rfl)); clear H)
    | exact KIs.mk rfl
    | with_reducible first | refine Ev.skip ?_ | refine Ev.ret ?_ | refine Ev.exit ?_ | refine Ev.block ?_ | refine thenQ_n ?_ | refine thenQ_x ?_ | refine thenQ_r ?_ | refine blockQ_n ?_ | refine blockQ_r ?_ | refine blockQ_x0 ?_ | refine roundQ_x ?_ | refine roundQ_r ?_
    | ((with_reducible refine endQ_r (vs := ?_) (vs' := ?_) (S₂ := ?_) ?_ ?_ ?_); rotate_left 3)
    | ((with_reducible refine blockQ_x1 ?_ ?_); exact rfl)
    | (intro c' hc; cases c' <;> first | (cases hc; done) | (try simp only [HC, inB_it, inB_if] at hc))
    | (intro hc; first | (cases hc; done) | (try simp only [HC, inB_it, inB_if] at hc))
    | fail)
  all_goals first | (exfalso; omega) | exact ⟨rfl, rfl⟩
theorem law_FnExactTakeRice (s : ByteArray) (x : Int) :
    Cal (run 60) ⟨fun _ => true, 0, false⟩ 6 [(.v (.string (s))), (.v (.int .i64 (x)))] [] (fun r S' => r = .v (.bool true)) := by
  by_cases hs : 1048576 < (s.size : Int)
  · obtain ⟨r, S', h1, h2, h3⟩ := c6_big (k := 60) (md := ⟨fun _ => true, 0, false⟩) (S := []) (vs := [(.v (.string (s))), (.v (.int .i64 (x)))]) (D := []) (s := s) (x := x) rfl hs (by omega)
    exact ⟨r, S', h1, h2⟩
  · cases hb : inB x 0 10 with
    | false =>
      obtain ⟨r, S', h1, h2, h3⟩ := c6_bad (k := 60) (md := ⟨fun _ => true, 0, false⟩) (S := []) (vs := [(.v (.string (s))), (.v (.int .i64 (x)))]) (D := []) (s := s) (x := x) rfl (by omega) hb (by omega)
      exact ⟨r, S', h1, h2⟩
    | true =>
      have hx := inB_t hb
      obtain ⟨m, rfl⟩ : ∃ m : Nat, x = (m : Int) := ⟨x.toNat, by omega⟩
      by_cases hr : RC s m
      · obtain ⟨r, S', h1, h2, h3⟩ := c6_ok (k := 60) (md := ⟨fun _ => true, 0, false⟩) (S := []) (vs := [(.v (.string (s))), (.v (.int .i64 ((m : Int))))]) (D := []) (s := s) (m := m) rfl (by omega) (by omega) hr (by omega)
        exact ⟨r, S', h1, h2⟩
      · obtain ⟨r, S', h1, h2, h3⟩ := c6_no (k := 60) (md := ⟨fun _ => true, 0, false⟩) (S := []) (vs := [(.v (.string (s))), (.v (.int .i64 ((m : Int))))]) (D := []) (s := s) (m := m) rfl (by omega) (by omega) hr (by omega)
        exact ⟨r, S', h1, h2⟩
end Go.Proofs.YtfplammpeghinaaDoorB

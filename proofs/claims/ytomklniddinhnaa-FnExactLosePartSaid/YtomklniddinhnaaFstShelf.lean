/- Part of the evaluator's contracts: st_Shelf. -/
import Derived.Test.YtomklniddinhnaaFelPart
import Derived.Test.YtomklniddinhnaaFelKept
namespace Go.Proofs.YtomklniddinhnaaB
open Go Go.Proofs.YtomklniddinhnaaE
set_option linter.unusedVariables false
set_option linter.unusedSectionVars false
set_option linter.unusedSimpArgs false
set_option maxHeartbeats 4000000
set_option maxRecDepth 20000
theorem c8 {k : Nat} {md : Md} {S : Store} {vs : List A} {D : List Nat} {l : List Part} {q : List Kept} {left : Int} (hd : dpArgs S [] vs = some ([.ag [.ro 3 (l.map Part.c), .ro 2 (q.map Kept.c)], (.v (.int .i64 (left)))], D)) (hl : 0 ≤ left ∧ left ≤ 1048576) (hnl : l.length ≤ 9223372036854775807) (hsl : ∀ x ∈ l, x.data.size ≤ 140737488351232) (hnq : q.length ≤ 9223372036854775807) (hk : 3 ≤ k) :
    Cal (run k) md 8 vs S (fun r S' => ∃ n, r = .v (.int .i64 n) ∧ S' = S ∧ (n < 0 ∨ 0 ≤ n ∧ n = left - (l.length : Int) - (szPart l : Int) - (q.length : Int))) := by
  obtain ⟨k, rfl⟩ : ∃ j, k = j + 1 := ⟨k - 1, by omega⟩
  refine Cal.fn (n := 18) (rs := [.tmp 4]) (ids := []) (D := D) (Xof_none rfl) g8 (by delta Try.f8; exact rfl) (by delta Try.f8; exact rfl) (by delta Try.f8; exact rfl) hd (by first | rfl | simp [idsV, idsC]) (by simp) (by simp) ?_
  intro md' ow; have w := ow.w; have w0 := ow.w0; have fz : md'.fz = false := ow.fz
  repeat' (first
    | ((with_reducible apply EvO.off); (focus (exact rfl)); (focus (exact rfl)))
    | ((first | ((with_reducible apply EvO.call (vs := ?_)); (focus (exact rfl)); (focus (exact rfl))) | (with_reducible apply Cal.hd (ms := []) (p := ?_)) | ((with_reducible refine EvO.c1 (a := ?_) (S' := ?_) ?_ ?_ ?_); rotate_left 2; (focus (exact rfl))) | ((with_reducible refine EvO.c0 (a := ?_) (S' := ?_) ?_ ?_); rotate_left 2) | ((with_reducible apply EvO.cons); (focus (exact rfl))) | ((with_reducible apply EvO.guard); (focus (exact rfl)); (focus (exact rfl))) | ((with_reducible refine Ev.cond (t := ?_) ?_ ?_ ?_); rotate_left) | skip); (focus ((with_reducible refine Eq.trans ?_ rfl); simp (disch := first | (intros; contradiction) | (as_aux_lemma => omega) | (as_aux_lemma => (simp only [LEN2]; first | done | omega)) | (as_aux_lemma => (simp only [LEN]; first | done | omega))) only [EV, TT, w, w0, fz, FX_mark, FX_el_Part, FX_el_Kept, Nat.reduceEqDiff, Nat.reduceBeqDiff, Nat.reduceAdd, Nat.reduceMul, Nat.reduceLeDiff, Nat.reduceLT, reduceCtorEq, Int.reduceEq, Int.reduceNeg, FIN, DP]; first | done | exact rfl)); try (focus (exact rfl)))
    | ((with_reducible apply CalH.mk); intro hd; first | exact c26 (hd := hd) (hl := by first | assumption | omega | with_reducible rfl) (hn := by first | assumption | omega | with_reducible rfl) (hs := by first | assumption | omega | with_reducible rfl)  (hk := by omega) | exact c27 (hd := hd) (hl := by first | assumption | omega | with_reducible rfl) (hn := by first | assumption | omega | with_reducible rfl)  (hk := by omega))
    | (with_reducible (first | rintro r S' ⟨rfl, rfl⟩ | rintro r S' ⟨n, rfl, rfl, hsz⟩); refine ⟨_, rfl, ?_⟩)
    | with_reducible refine Ev.seq ?_
    | ((with_reducible refine Ev.regionH ?_); intro H)
    | with_reducible refine EvO.nil ?_
    | ((with_reducible apply regH_k); (focus (exact KIs.mk rfl)); (focus ((with_reducible apply EnvIs.mk); simp only [SE, Nat.reduceEqDiff, Nat.reduceAdd, reduceCtorEq]; first | done | exact rfl)); clear H)
    | exact KIs.mk rfl
    | with_reducible first | refine Ev.skip ?_ | refine Ev.ret ?_ | refine Ev.exit ?_ | refine Ev.block ?_ | refine thenQ_n ?_ | refine thenQ_x ?_ | refine thenQ_r ?_ | refine blockQ_n ?_ | refine blockQ_r ?_ | refine blockQ_x0 ?_ | refine roundQ_x ?_ | refine roundQ_r ?_
    | ((with_reducible refine endQ_r (vs := ?_) (vs' := ?_) (S₂ := ?_) ?_ ?_ ?_); rotate_left 3)
    | ((with_reducible refine blockQ_x1 ?_ ?_); exact rfl)
    | (intro c' hc; cases c' <;> first | (cases hc; done) | (try simp only [HC, inB_it, inB_if] at hc))
    | (intro hc; first | (cases hc; done) | (try simp only [HC, inB_it, inB_if] at hc))
    | fail)
  all_goals refine ⟨_, rfl, rfl, ?_⟩
  all_goals omega
theorem c10 {k : Nat} {md : Md} {S : Store} {vs : List A} {D : List Nat} {l : List Part} {q : List Kept} (hd : dpArgs S [] vs = some ([.ag [.ro 3 (l.map Part.c), .ro 2 (q.map Kept.c)]], D)) (hnl : l.length ≤ 1048576) (hnq : q.length ≤ 1048576) (hk : 3 ≤ k) :
    Cal (run k) md 10 vs S (fun r S' => r = .ag [.sl S.length 0 l.length l.length, .sl (S.length + 1) 0 q.length q.length] ∧ S' = S ++ [⟨3, l.map Part.c, 0, false⟩, ⟨2, q.map Kept.c, 0, false⟩]) := by
  obtain ⟨k, rfl⟩ : ∃ j, k = j + 1 := ⟨k - 1, by omega⟩
  refine Cal.fn (n := 13) (rs := [.cell 2 30]) (ids := []) (D := D) (Xof_none rfl) g10 (by delta Try.f10; exact rfl) (by delta Try.f10; exact rfl) (by delta Try.f10; exact rfl) hd (by first | rfl | simp [idsV, idsC]) (by simp) (by simp) ?_
  intro md' ow; have w := ow.w; have w0 := ow.w0; have fz : md'.fz = false := ow.fz
  repeat' (first
    | ((with_reducible apply EvO.off); (focus (exact rfl)); (focus (exact rfl)))
    | ((first | ((with_reducible apply EvO.call (vs := ?_)); (focus (exact rfl)); (focus (exact rfl))) | (with_reducible apply Cal.hd (ms := []) (p := ?_)) | ((with_reducible refine EvO.c1 (a := ?_) (S' := ?_) ?_ ?_ ?_); rotate_left 2; (focus (exact rfl))) | ((with_reducible refine EvO.c0 (a := ?_) (S' := ?_) ?_ ?_); rotate_left 2) | ((with_reducible apply EvO.cons); (focus (exact rfl))) | ((with_reducible apply EvO.guard); (focus (exact rfl)); (focus (exact rfl))) | ((with_reducible refine Ev.cond (t := ?_) ?_ ?_ ?_); rotate_left) | skip); (focus ((with_reducible refine Eq.trans ?_ rfl); simp (disch := first | (intros; contradiction) | (as_aux_lemma => omega) | (as_aux_lemma => (simp only [LEN2]; first | done | omega)) | (as_aux_lemma => (simp only [LEN]; first | done | omega))) only [EV, TT, w, w0, fz, FX_mark, FX_el_Part, FX_el_Kept, Nat.reduceEqDiff, Nat.reduceBeqDiff, Nat.reduceAdd, Nat.reduceMul, Nat.reduceLeDiff, Nat.reduceLT, reduceCtorEq, Int.reduceEq, Int.reduceNeg, FIN, DP]; first | done | exact rfl)); try (focus (exact rfl)))
    | ((with_reducible apply CalH.mk); intro hd; first | exact c31 (hd := hd) (hn := by first | assumption | omega | with_reducible rfl)  (hk := by omega) | exact c32 (hd := hd) (hn := by first | assumption | omega | with_reducible rfl)  (hk := by omega))
    | (with_reducible (first | rintro r S' ⟨rfl, rfl⟩); refine ⟨_, rfl, ?_⟩)
    | with_reducible refine Ev.seq ?_
    | ((with_reducible refine Ev.regionH ?_); intro H)
    | with_reducible refine EvO.nil ?_
    | ((with_reducible apply regH_k); (focus (exact KIs.mk rfl)); (focus ((with_reducible apply EnvIs.mk); simp only [SE, Nat.reduceEqDiff, Nat.reduceAdd, reduceCtorEq]; first | done | exact rfl)); clear H)
    | exact KIs.mk rfl
    | with_reducible first | refine Ev.skip ?_ | refine Ev.ret ?_ | refine Ev.exit ?_ | refine Ev.block ?_ | refine thenQ_n ?_ | refine thenQ_x ?_ | refine thenQ_r ?_ | refine blockQ_n ?_ | refine blockQ_r ?_ | refine blockQ_x0 ?_ | refine roundQ_x ?_ | refine roundQ_r ?_
    | ((with_reducible refine endQ_r (vs := ?_) (vs' := ?_) (S₂ := ?_) ?_ ?_ ?_); rotate_left 3)
    | ((with_reducible refine blockQ_x1 ?_ ?_); exact rfl)
    | (intro c' hc; cases c' <;> first | (cases hc; done) | (try simp only [HC, inB_it, inB_if] at hc))
    | (intro hc; first | (cases hc; done) | (try simp only [HC, inB_it, inB_if] at hc))
    | fail)
  exact ⟨rfl, rfl⟩
theorem c12 {k : Nat} {md : Md} {S : Store} {vs : List A} {D : List Nat} {l : List Part} {q : List Kept} {l' : List Part} {q' : List Kept} (hd : dpArgs S [] vs = some ([.ag [.ro 3 (l.map Part.c), .ro 2 (q.map Kept.c)], .ag [.ro 3 (l'.map Part.c), .ro 2 (q'.map Kept.c)]], D)) (hel : l = l') (heq : q = q') (hnl : l.length ≤ 1048576) (hnq : q.length ≤ 1048576) (hk : 3 ≤ k) :
    Cal (run k) md 12 vs S (fun r S' => r = (.v (.bool (true))) ∧ S' = S) := by
  obtain ⟨k, rfl⟩ : ∃ j, k = j + 1 := ⟨k - 1, by omega⟩
  refine Cal.fn (n := 17) (rs := [.tmp 4]) (ids := []) (D := D) (Xof_none rfl) g12 (by delta Try.f12; exact rfl) (by delta Try.f12; exact rfl) (by delta Try.f12; exact rfl) hd (by first | rfl | simp [idsV, idsC]) (by simp) (by simp) ?_
  intro md' ow; have w := ow.w; have w0 := ow.w0; have fz : md'.fz = false := ow.fz
  subst hel; subst heq
  repeat' (first
    | ((with_reducible apply EvO.off); (focus (exact rfl)); (focus (exact rfl)))
    | ((first | ((with_reducible apply EvO.call (vs := ?_)); (focus (exact rfl)); (focus (exact rfl))) | (with_reducible apply Cal.hd (ms := []) (p := ?_)) | ((with_reducible refine EvO.c1 (a := ?_) (S' := ?_) ?_ ?_ ?_); rotate_left 2; (focus (exact rfl))) | ((with_reducible refine EvO.c0 (a := ?_) (S' := ?_) ?_ ?_); rotate_left 2) | ((with_reducible apply EvO.cons); (focus (exact rfl))) | ((with_reducible apply EvO.guard); (focus (exact rfl)); (focus (exact rfl))) | ((with_reducible refine Ev.cond (t := ?_) ?_ ?_ ?_); rotate_left) | skip); (focus ((with_reducible refine Eq.trans ?_ rfl); simp (disch := first | (intros; contradiction) | (as_aux_lemma => omega) | (as_aux_lemma => (simp only [LEN2]; first | done | omega)) | (as_aux_lemma => (simp only [LEN]; first | done | omega))) only [EV, TT, w, w0, fz, FX_mark, FX_el_Part, FX_el_Kept, bne_self_eq_false, beq_self_eq_true, Nat.reduceEqDiff, Nat.reduceBeqDiff, Nat.reduceAdd, Nat.reduceMul, Nat.reduceLeDiff, Nat.reduceLT, reduceCtorEq, Int.reduceEq, Int.reduceNeg, FIN, DP]; first | done | exact rfl)); try (focus (exact rfl)))
    | ((with_reducible apply CalH.mk); intro hd; first | exact c38 (hd := hd) (he := by first | assumption | omega | with_reducible rfl) (hn := by first | assumption | omega | with_reducible rfl)  (hk := by omega) | exact c38_nn (hd := hd)   (hk := by omega) | exact c39 (hd := hd) (he := by first | assumption | omega | with_reducible rfl) (hn := by first | assumption | omega | with_reducible rfl)  (hk := by omega) | exact c39_nn (hd := hd)   (hk := by omega))
    | (with_reducible (first | rintro r S' ⟨rfl, rfl⟩); refine ⟨_, rfl, ?_⟩)
    | with_reducible refine Ev.seq ?_
    | ((with_reducible refine Ev.regionH ?_); intro H)
    | with_reducible refine EvO.nil ?_
    | ((with_reducible apply regH_k); (focus (exact KIs.mk rfl)); (focus ((with_reducible apply EnvIs.mk); simp only [SE, Nat.reduceEqDiff, Nat.reduceAdd, reduceCtorEq]; first | done | exact rfl)); clear H)
    | exact KIs.mk rfl
    | with_reducible first | refine Ev.skip ?_ | refine Ev.ret ?_ | refine Ev.exit ?_ | refine Ev.block ?_ | refine thenQ_n ?_ | refine thenQ_x ?_ | refine thenQ_r ?_ | refine blockQ_n ?_ | refine blockQ_r ?_ | refine blockQ_x0 ?_ | refine roundQ_x ?_ | refine roundQ_r ?_
    | ((with_reducible refine endQ_r (vs := ?_) (vs' := ?_) (S₂ := ?_) ?_ ?_ ?_); rotate_left 3)
    | ((with_reducible refine blockQ_x1 ?_ ?_); exact rfl)
    | (intro c' hc; cases c' <;> first | (cases hc; done) | (try simp only [HC, inB_it, inB_if] at hc))
    | (intro hc; first | (cases hc; done) | (try simp only [HC, inB_it, inB_if] at hc))
    | fail)
  exact ⟨rfl, rfl⟩
theorem c13 {k : Nat} {md : Md} {S : Store} {vs : List A} {D : List Nat} {l : List Part} {q : List Kept} {li : Nat} {qi : Nat} {x : Int} (hd : dpArgs S [true] vs = some ([.ag [.sl li 0 l.length l.length, .sl qi 0 q.length q.length], (.v (.int .i64 (x)))], D)) (hD : (D.all fun i => !([li, qi] : List Nat).contains i) = true) (hx : 0 ≤ x ∧ x ≤ 1048576) (hnl : l.length ≤ 1048576) (hil : S[li]? = some ⟨3, l.map Part.c, 0, false⟩) (hwl : md.wr li = true) (hnq : q.length ≤ 1048576) (hiq : S[qi]? = some ⟨2, q.map Kept.c, 0, false⟩) (hwq : md.wr qi = true) (ne01 : li ≠ qi) (hk : 3 ≤ k) :
    Cal (run k) md 13 vs S (fun r S' => r = (.v (.int .i64 (x + 3 * l.length + 2 * q.length))) ∧ S' = (S.set li ⟨3, (mkPart (x) l.length).map Part.c, 0, false⟩).set qi ⟨2, (mkKept (x + 3 * l.length) q.length).map Kept.c, 0, false⟩) := by
  obtain ⟨k, rfl⟩ : ∃ j, k = j + 1 := ⟨k - 1, by omega⟩
  refine Cal.fn (n := 14) (rs := [.tmp 4]) (ids := [li, qi]) (D := D) (Xof_none rfl) g13 (by delta Try.f13; exact rfl) (by delta Try.f13; exact rfl) (by delta Try.f13; exact rfl) hd (by first | rfl | simp [idsV, idsC]) hD (by simp) ?_
  intro md' ow; have w := ow.w; have w0 := ow.w0; have fz : md'.fz = false := ow.fz
  have ltl := (List.getElem?_eq_some_iff.1 hil).1
  have wil := ow.old li (by simp) hwl
  have ltq := (List.getElem?_eq_some_iff.1 hiq).1
  have wiq := ow.old qi (by simp) hwq
  repeat' (first
    | ((with_reducible apply EvO.off); (focus (exact rfl)); (focus (exact rfl)))
    | ((first | ((with_reducible apply EvO.call (vs := ?_)); (focus (exact rfl)); (focus (exact rfl))) | (with_reducible apply Cal.hd (g := 40) (ms := [true]) (p := ?_)) | (with_reducible apply Cal.hd (g := 41) (ms := [true]) (p := ?_)) | (with_reducible apply Cal.hd (ms := []) (p := ?_)) | ((with_reducible refine EvO.c1 (a := ?_) (S' := ?_) ?_ ?_ ?_); rotate_left 2; (focus (exact rfl))) | ((with_reducible refine EvO.c0 (a := ?_) (S' := ?_) ?_ ?_); rotate_left 2) | ((with_reducible apply EvO.cons); (focus (exact rfl))) | ((with_reducible apply EvO.guard); (focus (exact rfl)); (focus (exact rfl))) | ((with_reducible refine Ev.cond (t := ?_) ?_ ?_ ?_); rotate_left) | skip); (focus ((with_reducible refine Eq.trans ?_ rfl); simp (disch := first | (intros; contradiction) | (as_aux_lemma => omega) | (as_aux_lemma => (simp only [LEN2]; first | done | omega)) | (as_aux_lemma => (simp only [LEN]; first | done | omega))) only [EV, TT, EVM, w, w0, fz, FX_mark, FX_el_Part, FX_el_Kept, ltl, hil, wil, hwl, ltq, hiq, wiq, hwq, List.getElem?_set_ne ne01, List.getElem?_set_ne (Ne.symm ne01), Nat.reduceEqDiff, Nat.reduceBeqDiff, Nat.reduceAdd, Nat.reduceMul, Nat.reduceLeDiff, Nat.reduceLT, reduceCtorEq, Int.reduceEq, Int.reduceNeg, FIN, DP]; first | done | exact rfl)); try (focus (exact rfl)))
    | ((with_reducible apply CalH.mk); intro hd; first | exact c40_nil (hd := hd)   (hk := by omega) | exact c40 (hd := hd) (hD := by first | rfl | simp) (hx := by first | assumption | omega | with_reducible rfl) (hn := by first | assumption | omega | with_reducible rfl) (hid := by first | assumption | omega | with_reducible rfl | (simp (disch := first | (intros; contradiction) | (as_aux_lemma => omega) | (as_aux_lemma => (simp only [LEN2]; first | done | omega)) | (as_aux_lemma => (simp only [LEN]; first | done | omega))) only [EV, TT, EVM, w, w0, fz, FX_mark, FX_el_Part, FX_el_Kept, ltl, hil, wil, hwl, ltq, hiq, wiq, hwq, List.getElem?_set_ne ne01, List.getElem?_set_ne (Ne.symm ne01), Nat.reduceEqDiff, Nat.reduceBeqDiff, Nat.reduceAdd, Nat.reduceMul, Nat.reduceLeDiff, Nat.reduceLT, reduceCtorEq, Int.reduceEq, Int.reduceNeg]; first | done | assumption)) (hw := by first | assumption | omega | with_reducible rfl | (simp (disch := first | (intros; contradiction) | (as_aux_lemma => omega) | (as_aux_lemma => (simp only [LEN2]; first | done | omega)) | (as_aux_lemma => (simp only [LEN]; first | done | omega))) only [EV, TT, EVM, w, w0, fz, FX_mark, FX_el_Part, FX_el_Kept, ltl, hil, wil, hwl, ltq, hiq, wiq, hwq, List.getElem?_set_ne ne01, List.getElem?_set_ne (Ne.symm ne01), Nat.reduceEqDiff, Nat.reduceBeqDiff, Nat.reduceAdd, Nat.reduceMul, Nat.reduceLeDiff, Nat.reduceLT, reduceCtorEq, Int.reduceEq, Int.reduceNeg]; first | done | assumption))  (hk := by omega) | exact c41_nil (hd := hd)   (hk := by omega) | exact c41 (hd := hd) (hD := by first | rfl | simp) (hx := by first | assumption | omega | with_reducible rfl) (hn := by first | assumption | omega | with_reducible rfl) (hid := by first | assumption | omega | with_reducible rfl | (simp (disch := first | (intros; contradiction) | (as_aux_lemma => omega) | (as_aux_lemma => (simp only [LEN2]; first | done | omega)) | (as_aux_lemma => (simp only [LEN]; first | done | omega))) only [EV, TT, EVM, w, w0, fz, FX_mark, FX_el_Part, FX_el_Kept, ltl, hil, wil, hwl, ltq, hiq, wiq, hwq, List.getElem?_set_ne ne01, List.getElem?_set_ne (Ne.symm ne01), Nat.reduceEqDiff, Nat.reduceBeqDiff, Nat.reduceAdd, Nat.reduceMul, Nat.reduceLeDiff, Nat.reduceLT, reduceCtorEq, Int.reduceEq, Int.reduceNeg]; first | done | assumption)) (hw := by first | assumption | omega | with_reducible rfl | (simp (disch := first | (intros; contradiction) | (as_aux_lemma => omega) | (as_aux_lemma => (simp only [LEN2]; first | done | omega)) | (as_aux_lemma => (simp only [LEN]; first | done | omega))) only [EV, TT, EVM, w, w0, fz, FX_mark, FX_el_Part, FX_el_Kept, ltl, hil, wil, hwl, ltq, hiq, wiq, hwq, List.getElem?_set_ne ne01, List.getElem?_set_ne (Ne.symm ne01), Nat.reduceEqDiff, Nat.reduceBeqDiff, Nat.reduceAdd, Nat.reduceMul, Nat.reduceLeDiff, Nat.reduceLT, reduceCtorEq, Int.reduceEq, Int.reduceNeg]; first | done | assumption))  (hk := by omega))
    | (with_reducible (first | rintro r S' ⟨rfl, rfl⟩); refine ⟨_, rfl, ?_⟩)
    | with_reducible refine Ev.seq ?_
    | ((with_reducible refine Ev.regionH ?_); intro H)
    | with_reducible refine EvO.nil ?_
    | ((with_reducible apply regH_k); (focus (exact KIs.mk rfl)); (focus ((with_reducible apply EnvIs.mk); simp only [SE, Nat.reduceEqDiff, Nat.reduceAdd, reduceCtorEq]; first | done | exact rfl)); clear H)
    | exact KIs.mk rfl
    | with_reducible first | refine Ev.skip ?_ | refine Ev.ret ?_ | refine Ev.exit ?_ | refine Ev.block ?_ | refine thenQ_n ?_ | refine thenQ_x ?_ | refine thenQ_r ?_ | refine blockQ_n ?_ | refine blockQ_r ?_ | refine blockQ_x0 ?_ | refine roundQ_x ?_ | refine roundQ_r ?_
    | ((with_reducible refine endQ_r (vs := ?_) (vs' := ?_) (S₂ := ?_) ?_ ?_ ?_); rotate_left 3)
    | ((with_reducible refine blockQ_x1 ?_ ?_); exact rfl)
    | (intro c' hc; cases c' <;> first | (cases hc; done) | (try simp only [HC, inB_it, inB_if] at hc))
    | (intro hc; first | (cases hc; done) | (try simp only [HC, inB_it, inB_if] at hc))
    | fail)
  exact ⟨rfl, rfl⟩
theorem c14 {k : Nat} {md : Md} {S : Store} {vs : List A} {D : List Nat} {lm : Nat} {qm : Nat} {x : Int} (hd : dpArgs S [] vs = some ([.ag [.ro 3 ((mkPart (x) lm).map Part.c), .ro 2 ((mkKept (x + 3 * lm) qm).map Kept.c)], (.v (.int .i64 (x)))], D)) (hx : 0 ≤ x ∧ x ≤ 1048576) (hml : lm ≤ 1048576) (hmq : qm ≤ 1048576) (hk : 3 ≤ k) :
    Cal (run k) md 14 vs S (fun r S' => r = (.v (.int .i64 (x + 3 * lm + 2 * qm))) ∧ S' = S) := by
  obtain ⟨k, rfl⟩ : ∃ j, k = j + 1 := ⟨k - 1, by omega⟩
  refine Cal.fn (n := 18) (rs := [.tmp 4]) (ids := []) (D := D) (Xof_none rfl) g14 (by delta Try.f14; exact rfl) (by delta Try.f14; exact rfl) (by delta Try.f14; exact rfl) hd (by first | rfl | simp [idsV, idsC]) (by simp) (by simp) ?_
  intro md' ow; have w := ow.w; have w0 := ow.w0; have fz : md'.fz = false := ow.fz
  repeat' (first
    | ((with_reducible apply EvO.off); (focus (exact rfl)); (focus (exact rfl)))
    | ((first | ((with_reducible apply EvO.call (vs := ?_)); (focus (exact rfl)); (focus (exact rfl))) | (with_reducible apply Cal.hd (ms := []) (p := ?_)) | ((with_reducible refine EvO.c1 (a := ?_) (S' := ?_) ?_ ?_ ?_); rotate_left 2; (focus (exact rfl))) | ((with_reducible refine EvO.c0 (a := ?_) (S' := ?_) ?_ ?_); rotate_left 2) | ((with_reducible apply EvO.cons); (focus (exact rfl))) | ((with_reducible apply EvO.guard); (focus (exact rfl)); (focus (exact rfl))) | ((with_reducible refine Ev.cond (t := ?_) ?_ ?_ ?_); rotate_left) | skip); (focus ((with_reducible refine Eq.trans ?_ rfl); simp (disch := first | (intros; contradiction) | (as_aux_lemma => omega) | (as_aux_lemma => (simp only [LEN2]; first | done | omega)) | (as_aux_lemma => (simp only [LEN]; first | done | omega))) only [EV, TT, w, w0, fz, FX_mark, FX_el_Part, FX_el_Kept, Nat.reduceEqDiff, Nat.reduceBeqDiff, Nat.reduceAdd, Nat.reduceMul, Nat.reduceLeDiff, Nat.reduceLT, reduceCtorEq, Int.reduceEq, Int.reduceNeg, FIN, DP]; first | done | exact rfl)); try (focus (exact rfl)))
    | ((with_reducible apply CalH.mk); intro hd; first | exact c42_nil (hd := hd)   (hk := by omega) | exact c42 (hd := hd) (hx := by first | assumption | omega | with_reducible rfl) (hn := by first | assumption | omega | with_reducible rfl)  (hk := by omega) | exact c43_nil (hd := hd)   (hk := by omega) | exact c43 (hd := hd) (hx := by first | assumption | omega | with_reducible rfl) (hn := by first | assumption | omega | with_reducible rfl)  (hk := by omega))
    | (with_reducible (first | rintro r S' ⟨rfl, rfl⟩); refine ⟨_, rfl, ?_⟩)
    | with_reducible refine Ev.seq ?_
    | ((with_reducible refine Ev.regionH ?_); intro H)
    | with_reducible refine EvO.nil ?_
    | ((with_reducible apply regH_k); (focus (exact KIs.mk rfl)); (focus ((with_reducible apply EnvIs.mk); simp only [SE, Nat.reduceEqDiff, Nat.reduceAdd, reduceCtorEq]; first | done | exact rfl)); clear H)
    | exact KIs.mk rfl
    | with_reducible first | refine Ev.skip ?_ | refine Ev.ret ?_ | refine Ev.exit ?_ | refine Ev.block ?_ | refine thenQ_n ?_ | refine thenQ_x ?_ | refine thenQ_r ?_ | refine blockQ_n ?_ | refine blockQ_r ?_ | refine blockQ_x0 ?_ | refine roundQ_x ?_ | refine roundQ_r ?_
    | ((with_reducible refine endQ_r (vs := ?_) (vs' := ?_) (S₂ := ?_) ?_ ?_ ?_); rotate_left 3)
    | ((with_reducible refine blockQ_x1 ?_ ?_); exact rfl)
    | (intro c' hc; cases c' <;> first | (cases hc; done) | (try simp only [HC, inB_it, inB_if] at hc))
    | (intro hc; first | (cases hc; done) | (try simp only [HC, inB_it, inB_if] at hc))
    | fail)
  all_goals first | (exfalso; omega) | exact ⟨rfl, rfl⟩
theorem c12_nn {k : Nat} {md : Md} {S : Store} {vs : List A} {D : List Nat}  (hd : dpArgs S [] vs = some ([.ag [.v (.slice none 0 0), .v (.slice none 0 0)], .ag [.v (.slice none 0 0), .v (.slice none 0 0)]], D))  (hk : 3 ≤ k) :
    Cal (run k) md 12 vs S (fun r S' => r = (.v (.bool (true))) ∧ S' = S) := by
  obtain ⟨k, rfl⟩ : ∃ j, k = j + 1 := ⟨k - 1, by omega⟩
  refine Cal.fn (n := 17) (rs := [.tmp 4]) (ids := []) (D := D) (Xof_none rfl) g12 (by delta Try.f12; exact rfl) (by delta Try.f12; exact rfl) (by delta Try.f12; exact rfl) hd (by first | rfl | simp [idsV, idsC]) (by simp) (by simp) ?_
  intro md' ow; have w := ow.w; have w0 := ow.w0; have fz : md'.fz = false := ow.fz
  repeat' (first
    | ((with_reducible apply EvO.off); (focus (exact rfl)); (focus (exact rfl)))
    | ((first | ((with_reducible apply EvO.call (vs := ?_)); (focus (exact rfl)); (focus (exact rfl))) | (with_reducible apply Cal.hd (ms := []) (p := ?_)) | ((with_reducible refine EvO.c1 (a := ?_) (S' := ?_) ?_ ?_ ?_); rotate_left 2; (focus (exact rfl))) | ((with_reducible refine EvO.c0 (a := ?_) (S' := ?_) ?_ ?_); rotate_left 2) | ((with_reducible apply EvO.cons); (focus (exact rfl))) | ((with_reducible apply EvO.guard); (focus (exact rfl)); (focus (exact rfl))) | ((with_reducible refine Ev.cond (t := ?_) ?_ ?_ ?_); rotate_left) | skip); (focus ((with_reducible refine Eq.trans ?_ rfl); simp (disch := first | (intros; contradiction) | (as_aux_lemma => omega) | (as_aux_lemma => (simp only [LEN2]; first | done | omega)) | (as_aux_lemma => (simp only [LEN]; first | done | omega))) only [EV, TT, w, w0, fz, FX_mark, FX_el_Part, FX_el_Kept, bne_self_eq_false, beq_self_eq_true, Nat.reduceEqDiff, Nat.reduceBeqDiff, Nat.reduceAdd, Nat.reduceMul, Nat.reduceLeDiff, Nat.reduceLT, reduceCtorEq, Int.reduceEq, Int.reduceNeg, FIN, DP]; first | done | exact rfl)); try (focus (exact rfl)))
    | ((with_reducible apply CalH.mk); intro hd; first | exact c38 (hd := hd) (he := by first | assumption | omega | with_reducible rfl) (hn := by first | assumption | omega | with_reducible rfl)  (hk := by omega) | exact c38_nn (hd := hd)   (hk := by omega) | exact c39 (hd := hd) (he := by first | assumption | omega | with_reducible rfl) (hn := by first | assumption | omega | with_reducible rfl)  (hk := by omega) | exact c39_nn (hd := hd)   (hk := by omega))
    | (with_reducible (first | rintro r S' ⟨rfl, rfl⟩); refine ⟨_, rfl, ?_⟩)
    | with_reducible refine Ev.seq ?_
    | ((with_reducible refine Ev.regionH ?_); intro H)
    | with_reducible refine EvO.nil ?_
    | ((with_reducible apply regH_k); (focus (exact KIs.mk rfl)); (focus ((with_reducible apply EnvIs.mk); simp only [SE, Nat.reduceEqDiff, Nat.reduceAdd, reduceCtorEq]; first | done | exact rfl)); clear H)
    | exact KIs.mk rfl
    | with_reducible first | refine Ev.skip ?_ | refine Ev.ret ?_ | refine Ev.exit ?_ | refine Ev.block ?_ | refine thenQ_n ?_ | refine thenQ_x ?_ | refine thenQ_r ?_ | refine blockQ_n ?_ | refine blockQ_r ?_ | refine blockQ_x0 ?_ | refine roundQ_x ?_ | refine roundQ_r ?_
    | ((with_reducible refine endQ_r (vs := ?_) (vs' := ?_) (S₂ := ?_) ?_ ?_ ?_); rotate_left 3)
    | ((with_reducible refine blockQ_x1 ?_ ?_); exact rfl)
    | (intro c' hc; cases c' <;> first | (cases hc; done) | (try simp only [HC, inB_it, inB_if] at hc))
    | (intro hc; first | (cases hc; done) | (try simp only [HC, inB_it, inB_if] at hc))
    | fail)
  exact ⟨rfl, rfl⟩
theorem c13_nil {k : Nat} {md : Md} {S : Store} {vs : List A} {D : List Nat} {x : Int} (hd : dpArgs S [true] vs = some ([.ag [.v (.slice none 0 0), .v (.slice none 0 0)], (.v (.int .i64 (x)))], D))  (hk : 3 ≤ k) :
    Cal (run k) md 13 vs S (fun r S' => r = (.v (.int .i64 (x))) ∧ S' = S) := by
  obtain ⟨k, rfl⟩ : ∃ j, k = j + 1 := ⟨k - 1, by omega⟩
  refine Cal.fn (n := 14) (rs := [.tmp 4]) (ids := []) (D := D) (Xof_none rfl) g13 (by delta Try.f13; exact rfl) (by delta Try.f13; exact rfl) (by delta Try.f13; exact rfl) hd (by first | rfl | simp [idsV, idsC]) (by simp) (by simp) ?_
  intro md' ow; have w := ow.w; have w0 := ow.w0; have fz : md'.fz = false := ow.fz
  repeat' (first
    | ((with_reducible apply EvO.off); (focus (exact rfl)); (focus (exact rfl)))
    | ((first | ((with_reducible apply EvO.call (vs := ?_)); (focus (exact rfl)); (focus (exact rfl))) | (with_reducible apply Cal.hd (g := 40) (ms := [true]) (p := ?_)) | (with_reducible apply Cal.hd (g := 41) (ms := [true]) (p := ?_)) | (with_reducible apply Cal.hd (ms := []) (p := ?_)) | ((with_reducible refine EvO.c1 (a := ?_) (S' := ?_) ?_ ?_ ?_); rotate_left 2; (focus (exact rfl))) | ((with_reducible refine EvO.c0 (a := ?_) (S' := ?_) ?_ ?_); rotate_left 2) | ((with_reducible apply EvO.cons); (focus (exact rfl))) | ((with_reducible apply EvO.guard); (focus (exact rfl)); (focus (exact rfl))) | ((with_reducible refine Ev.cond (t := ?_) ?_ ?_ ?_); rotate_left) | skip); (focus ((with_reducible refine Eq.trans ?_ rfl); simp (disch := first | (intros; contradiction) | (as_aux_lemma => omega) | (as_aux_lemma => (simp only [LEN2]; first | done | omega)) | (as_aux_lemma => (simp only [LEN]; first | done | omega))) only [EV, TT, w, w0, fz, FX_mark, FX_el_Part, FX_el_Kept, Nat.reduceEqDiff, Nat.reduceBeqDiff, Nat.reduceAdd, Nat.reduceMul, Nat.reduceLeDiff, Nat.reduceLT, reduceCtorEq, Int.reduceEq, Int.reduceNeg, FIN, DP]; first | done | exact rfl)); try (focus (exact rfl)))
    | ((with_reducible apply CalH.mk); intro hd; first | exact c40_nil (hd := hd)   (hk := by omega) | exact c40 (hd := hd) (hD := by first | rfl | simp) (hx := by first | assumption | omega | with_reducible rfl) (hn := by first | assumption | omega | with_reducible rfl) (hid := by first | assumption | omega | with_reducible rfl | (simp (disch := first | (intros; contradiction) | (as_aux_lemma => omega) | (as_aux_lemma => (simp only [LEN2]; first | done | omega)) | (as_aux_lemma => (simp only [LEN]; first | done | omega))) only [EV, TT, w, w0, fz, FX_mark, FX_el_Part, FX_el_Kept, Nat.reduceEqDiff, Nat.reduceBeqDiff, Nat.reduceAdd, Nat.reduceMul, Nat.reduceLeDiff, Nat.reduceLT, reduceCtorEq, Int.reduceEq, Int.reduceNeg]; first | done | assumption)) (hw := by first | assumption | omega | with_reducible rfl | (simp (disch := first | (intros; contradiction) | (as_aux_lemma => omega) | (as_aux_lemma => (simp only [LEN2]; first | done | omega)) | (as_aux_lemma => (simp only [LEN]; first | done | omega))) only [EV, TT, w, w0, fz, FX_mark, FX_el_Part, FX_el_Kept, Nat.reduceEqDiff, Nat.reduceBeqDiff, Nat.reduceAdd, Nat.reduceMul, Nat.reduceLeDiff, Nat.reduceLT, reduceCtorEq, Int.reduceEq, Int.reduceNeg]; first | done | assumption))  (hk := by omega) | exact c41_nil (hd := hd)   (hk := by omega) | exact c41 (hd := hd) (hD := by first | rfl | simp) (hx := by first | assumption | omega | with_reducible rfl) (hn := by first | assumption | omega | with_reducible rfl) (hid := by first | assumption | omega | with_reducible rfl | (simp (disch := first | (intros; contradiction) | (as_aux_lemma => omega) | (as_aux_lemma => (simp only [LEN2]; first | done | omega)) | (as_aux_lemma => (simp only [LEN]; first | done | omega))) only [EV, TT, w, w0, fz, FX_mark, FX_el_Part, FX_el_Kept, Nat.reduceEqDiff, Nat.reduceBeqDiff, Nat.reduceAdd, Nat.reduceMul, Nat.reduceLeDiff, Nat.reduceLT, reduceCtorEq, Int.reduceEq, Int.reduceNeg]; first | done | assumption)) (hw := by first | assumption | omega | with_reducible rfl | (simp (disch := first | (intros; contradiction) | (as_aux_lemma => omega) | (as_aux_lemma => (simp only [LEN2]; first | done | omega)) | (as_aux_lemma => (simp only [LEN]; first | done | omega))) only [EV, TT, w, w0, fz, FX_mark, FX_el_Part, FX_el_Kept, Nat.reduceEqDiff, Nat.reduceBeqDiff, Nat.reduceAdd, Nat.reduceMul, Nat.reduceLeDiff, Nat.reduceLT, reduceCtorEq, Int.reduceEq, Int.reduceNeg]; first | done | assumption))  (hk := by omega))
    | (with_reducible (first | rintro r S' ⟨rfl, rfl⟩); refine ⟨_, rfl, ?_⟩)
    | with_reducible refine Ev.seq ?_
    | ((with_reducible refine Ev.regionH ?_); intro H)
    | with_reducible refine EvO.nil ?_
    | ((with_reducible apply regH_k); (focus (exact KIs.mk rfl)); (focus ((with_reducible apply EnvIs.mk); simp only [SE, Nat.reduceEqDiff, Nat.reduceAdd, reduceCtorEq]; first | done | exact rfl)); clear H)
    | exact KIs.mk rfl
    | with_reducible first | refine Ev.skip ?_ | refine Ev.ret ?_ | refine Ev.exit ?_ | refine Ev.block ?_ | refine thenQ_n ?_ | refine thenQ_x ?_ | refine thenQ_r ?_ | refine blockQ_n ?_ | refine blockQ_r ?_ | refine blockQ_x0 ?_ | refine roundQ_x ?_ | refine roundQ_r ?_
    | ((with_reducible refine endQ_r (vs := ?_) (vs' := ?_) (S₂ := ?_) ?_ ?_ ?_); rotate_left 3)
    | ((with_reducible refine blockQ_x1 ?_ ?_); exact rfl)
    | (intro c' hc; cases c' <;> first | (cases hc; done) | (try simp only [HC, inB_it, inB_if] at hc))
    | (intro hc; first | (cases hc; done) | (try simp only [HC, inB_it, inB_if] at hc))
    | fail)
  exact ⟨rfl, rfl⟩
theorem c14_nil {k : Nat} {md : Md} {S : Store} {vs : List A} {D : List Nat} {x : Int} (hd : dpArgs S [] vs = some ([.ag [.v (.slice none 0 0), .v (.slice none 0 0)], (.v (.int .i64 (x)))], D)) (hx : 0 ≤ x) (hk : 3 ≤ k) :
    Cal (run k) md 14 vs S (fun r S' => r = (.v (.int .i64 (x))) ∧ S' = S) := by
  obtain ⟨k, rfl⟩ : ∃ j, k = j + 1 := ⟨k - 1, by omega⟩
  refine Cal.fn (n := 18) (rs := [.tmp 4]) (ids := []) (D := D) (Xof_none rfl) g14 (by delta Try.f14; exact rfl) (by delta Try.f14; exact rfl) (by delta Try.f14; exact rfl) hd (by first | rfl | simp [idsV, idsC]) (by simp) (by simp) ?_
  intro md' ow; have w := ow.w; have w0 := ow.w0; have fz : md'.fz = false := ow.fz
  repeat' (first
    | ((with_reducible apply EvO.off); (focus (exact rfl)); (focus (exact rfl)))
    | ((first | ((with_reducible apply EvO.call (vs := ?_)); (focus (exact rfl)); (focus (exact rfl))) | (with_reducible apply Cal.hd (ms := []) (p := ?_)) | ((with_reducible refine EvO.c1 (a := ?_) (S' := ?_) ?_ ?_ ?_); rotate_left 2; (focus (exact rfl))) | ((with_reducible refine EvO.c0 (a := ?_) (S' := ?_) ?_ ?_); rotate_left 2) | ((with_reducible apply EvO.cons); (focus (exact rfl))) | ((with_reducible apply EvO.guard); (focus (exact rfl)); (focus (exact rfl))) | ((with_reducible refine Ev.cond (t := ?_) ?_ ?_ ?_); rotate_left) | skip); (focus ((with_reducible refine Eq.trans ?_ rfl); simp (disch := first | (intros; contradiction) | (as_aux_lemma => omega) | (as_aux_lemma => (simp only [LEN2]; first | done | omega)) | (as_aux_lemma => (simp only [LEN]; first | done | omega))) only [EV, TT, w, w0, fz, FX_mark, FX_el_Part, FX_el_Kept, Nat.reduceEqDiff, Nat.reduceBeqDiff, Nat.reduceAdd, Nat.reduceMul, Nat.reduceLeDiff, Nat.reduceLT, reduceCtorEq, Int.reduceEq, Int.reduceNeg, FIN, DP]; first | done | exact rfl)); try (focus (exact rfl)))
    | ((with_reducible apply CalH.mk); intro hd; first | exact c42_nil (hd := hd)   (hk := by omega) | exact c42 (hd := hd) (hx := by first | assumption | omega | with_reducible rfl) (hn := by first | assumption | omega | with_reducible rfl)  (hk := by omega) | exact c43_nil (hd := hd)   (hk := by omega) | exact c43 (hd := hd) (hx := by first | assumption | omega | with_reducible rfl) (hn := by first | assumption | omega | with_reducible rfl)  (hk := by omega))
    | (with_reducible (first | rintro r S' ⟨rfl, rfl⟩); refine ⟨_, rfl, ?_⟩)
    | with_reducible refine Ev.seq ?_
    | ((with_reducible refine Ev.regionH ?_); intro H)
    | with_reducible refine EvO.nil ?_
    | ((with_reducible apply regH_k); (focus (exact KIs.mk rfl)); (focus ((with_reducible apply EnvIs.mk); simp only [SE, Nat.reduceEqDiff, Nat.reduceAdd, reduceCtorEq]; first | done | exact rfl)); clear H)
    | exact KIs.mk rfl
    | with_reducible first | refine Ev.skip ?_ | refine Ev.ret ?_ | refine Ev.exit ?_ | refine Ev.block ?_ | refine thenQ_n ?_ | refine thenQ_x ?_ | refine thenQ_r ?_ | refine blockQ_n ?_ | refine blockQ_r ?_ | refine blockQ_x0 ?_ | refine roundQ_x ?_ | refine roundQ_r ?_
    | ((with_reducible refine endQ_r (vs := ?_) (vs' := ?_) (S₂ := ?_) ?_ ?_ ?_); rotate_left 3)
    | ((with_reducible refine blockQ_x1 ?_ ?_); exact rfl)
    | (intro c' hc; cases c' <;> first | (cases hc; done) | (try simp only [HC, inB_it, inB_if] at hc))
    | (intro hc; first | (cases hc; done) | (try simp only [HC, inB_it, inB_if] at hc))
    | fail)
  all_goals first | (exfalso; omega) | exact ⟨rfl, rfl⟩
end Go.Proofs.YtomklniddinhnaaB

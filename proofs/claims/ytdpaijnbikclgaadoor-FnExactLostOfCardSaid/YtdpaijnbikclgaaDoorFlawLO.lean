/- Part of the evaluator's contracts: lawLO. -/
import Derived.Test.YtdpaijnbikclgaaDoorFlost5
import Derived.Test.YtdpaijnbikclgaaDoorFlawGC
import Derived.Test.YtdpaijnbikclgaaDoorFnode
namespace Go.Proofs.YtdpaijnbikclgaaDoorB
open Go Go.Proofs.YtdpaijnbikclgaaDoorE
set_option linter.unusedVariables false
set_option linter.unusedSectionVars false
set_option linter.unusedSimpArgs false
set_option maxHeartbeats 4000000
set_option maxRecDepth 20000
theorem szObj_le {q : List Object} {o : Object} (h : o ∈ q) : o.name.size ≤ szObject q := mem_le_sum (List.mem_map.2 ⟨o, h, rfl⟩)
theorem c7_bign {k : Nat} {md : Md} {S : Store} {vs : List A} {D : List Nat} {kk mm : Int} {l : List (List Cell)} {q : List Object} {s : ByteArray} (hd : dpArgs S [] vs = some ([.ag [(.v (.int .i64 (kk))), (.v (.int .i64 (mm))), .ro 1 (l.map nodeC), .ro 2 (q.map Object.c)], (.v (.string (s)))], D)) (hT : 1048576 < s.size) (hk : 14 ≤ k) :
    Cal (run k) md 7 vs S (fun r S' => r = (.v (.bool (true))) ∧ S' = S) := by
  obtain ⟨k, rfl⟩ : ∃ j, k = j + 1 := ⟨k - 1, by omega⟩
  refine Cal.fn (n := 47) (rs := [.tmp 4]) (ids := []) (D := D) (Xof_none rfl) g7 (by delta Tryd.f7; exact rfl) (by delta Tryd.f7; exact rfl) (by delta Tryd.f7; exact rfl) hd (by first | rfl | simp [idsV, idsC]) (by simp) (by simp) ?_
  intro md' ow; have w := ow.w; have w0 := ow.w0; have fz : md'.fz = false := ow.fz
  repeat' (first
    | ((with_reducible apply EvO.off); (focus (exact rfl)); (focus (exact rfl))) | ((with_reducible apply EvT.off); (focus (exact rfl)); (focus (exact rfl)))
    | ((first | ((with_reducible apply EvO.call (vs := ?_)); (focus (exact rfl)); (focus (exact rfl))) | ((with_reducible apply EvT.call (vs := ?_)); (focus (exact rfl)); (focus (exact rfl))) | (with_reducible apply Cal.hd (ms := []) (p := ?_)) | ((with_reducible refine EvO.c1 (a := ?_) (S' := ?_) ?_ ?_ ?_); rotate_left 2; (focus (exact rfl))) | ((with_reducible refine EvO.c0 (a := ?_) (S' := ?_) ?_ ?_); rotate_left 2) | ((with_reducible apply EvO.cons); (focus (exact rfl))) | ((with_reducible refine EvT.c1 (a := ?_) (S' := ?_) ?_ ?_ ?_ ?_); rotate_left 2; (focus (exact rfl)); (focus (exact rfl))) | ((with_reducible refine EvT.c0 (a := ?_) (S' := ?_) ?_ ?_ ?_); rotate_left 2; (focus (exact rfl))) | ((with_reducible apply EvT.cons); (focus (exact rfl)); (focus (exact rfl))) | ((with_reducible apply EvO.guard); (focus (exact rfl)); (focus (exact rfl))) | ((with_reducible apply EvT.guard); (focus (exact rfl)); (focus (exact rfl))) | ((with_reducible refine Ev.cond (t := ?_) ?_ ?_ ?_); rotate_left) | skip); (focus ((with_reducible refine Eq.trans ?_ rfl); simp (disch := first | (intros; contradiction) | (as_aux_lemma => omega) | (as_aux_lemma => (simp only [LEN2]; first | done | omega)) | (as_aux_lemma => (simp only [LEN]; first | done | omega))) only [EV, TT, w, w0, fz, FX_mark, FX_str, FX_el_Cell, FX_el_Object, FX_node, FX_el_Shard, Nat.reduceEqDiff, Nat.reduceBeqDiff, Nat.reduceAdd, Nat.reduceMul, Nat.reduceLeDiff, Nat.reduceLT, reduceCtorEq, Int.reduceEq, Int.reduceNeg, FIN, DP]; first | done | exact rfl)); try (focus (exact rfl)))
    | ((with_reducible apply CalH.mk); intro hd; first | exact c8 (hd := hd) (hl := by first | assumption | omega | with_reducible rfl) (hn := by first | assumption | omega | with_reducible rfl) (hs := by first | assumption | omega | with_reducible rfl) (hq := by first | assumption | omega | with_reducible rfl) (hqs := by first | assumption | omega | with_reducible rfl)  (hk := by omega) | exact c10 (hd := hd) (hD0 := by first | assumption | omega | with_reducible rfl) (hn := by first | assumption | omega | with_reducible rfl) (hcs := by first | assumption | omega | with_reducible rfl) (hq := by first | assumption | omega | with_reducible rfl)  (hk := by omega) | exact c21 (hd := hd) (hl := by first | assumption | omega | with_reducible rfl) (hq := by first | assumption | omega | with_reducible rfl) (hcs := by first | assumption | omega | with_reducible rfl) (hns := by first | assumption | omega | with_reducible rfl) (hqs := by first | assumption | omega | with_reducible rfl)  (hk := by omega) | exact c22 (hd := hd) (hl := by first | assumption | omega | with_reducible rfl) (hq := by first | assumption | omega | with_reducible rfl) (hcs := by first | assumption | omega | with_reducible rfl) (hns := by first | assumption | omega | with_reducible rfl) (hqs := by first | assumption | omega | with_reducible rfl)  (hk := by omega) | exact c12 (hd := hd) (he := by first | assumption | omega | with_reducible rfl) (hf := by first | assumption | omega | with_reducible rfl) (hn := by first | assumption | omega | with_reducible rfl) (hcs := by first | assumption | omega | with_reducible rfl) (hq := by first | assumption | omega | with_reducible rfl)  (hk := by omega))
    | (with_reducible (first | rintro r S' ⟨rfl, rfl⟩ | rintro r S' ⟨n, rfl, rfl, hsz⟩); refine ⟨_, rfl, ?_⟩)
    | with_reducible refine Ev.seq ?_
    | ((with_reducible refine Ev.regionH ?_); intro H)
    | with_reducible refine EvO.nil ?_
    | ((with_reducible apply regH_k); (focus (exact KIs.mk rfl)); (focus ((with_reducible apply EnvIs.mk); simp only [SE, Nat.reduceEqDiff, Nat.reduceAdd, reduceCtorEq]; first | done | exact rfl)); clear H)
    | exact KIs.mk rfl
    | with_reducible first | refine Ev.skip ?_ | refine Ev.ret ?_ | refine Ev.exit ?_ | refine Ev.block ?_ | refine thenQ_n ?_ | refine thenQ_x ?_ | refine thenQ_r ?_ | refine blockQ_n ?_ | refine blockQ_r ?_ | refine blockQ_x0 ?_ | refine roundQ_x ?_ | refine roundQ_r ?_
    | ((with_reducible refine endQ_r (vs := ?_) (vs' := ?_) (S₂ := ?_) ?_ ?_ ?_); rotate_left 3)
    | ((with_reducible refine blockQ_x1 ?_ ?_); exact rfl)
    | ((with_reducible refine Ev.drawnH ?_ ?_); (focus kernel_rfl); intro H)
    | ((with_reducible refine EvT.nil ?_); refine ⟨drawn_mk (hs := [(0, 2)]) (by repeat' (first | exact trivial | refine ⟨.inl rfl, ?_⟩ | refine ⟨.inr rfl, ?_⟩ | (refine ⟨.inr ?_, ?_⟩; (focus (simp only [app_app, List.cons_append, List.nil_append, len_app, List.length_cons, List.length_nil, len_lit, Nat.zero_add, Nat.reduceAdd]; done))))) (by kernel_rfl) ?_, ?_⟩)
    | with_reducible exact List.forall_mem_nil _
    | with_reducible refine List.forall_mem_cons.2 ⟨?_, ?_⟩
    | ((with_reducible apply stab_off); (focus (exact rfl)); (focus (exact rfl)))
    | ((with_reducible apply stab_mk); (focus (exact rfl)); (focus (exact rfl)); (focus (exact rfl)); (focus (exact rfl)))
    | (intro c' hc; cases c' <;> first | (cases hc; done) | (try simp only [HC, inB_it, inB_if] at hc))
    | (intro hc; first | (cases hc; done) | (try simp only [HC, inB_it, inB_if] at hc))
    | fail)
  all_goals first | (exfalso; omega) | exact ⟨rfl, rfl⟩
theorem c7_big {k : Nat} {md : Md} {S : Store} {vs : List A} {D : List Nat} {kk mm : Int} {l : List (List Cell)} {q : List Object} {s : ByteArray} (hd : dpArgs S [] vs = some ([.ag [(.v (.int .i64 (kk))), (.v (.int .i64 (mm))), .ro 1 (l.map nodeC), .ro 2 (q.map Object.c)], (.v (.string (s)))], D)) (hsz : s.size ≤ 1048576) (hl : l.length ≤ 9223372036854775807) (hs : ∀ c ∈ l, c.length ≤ 9223372036854775807 ∧ ∀ x ∈ c, x.name.size ≤ 140737488351232 ∧ x.data.size ≤ 140737488351232) (hq : q.length ≤ 9223372036854775807) (hqs : ∀ o ∈ q, o.name.size ≤ 140737488351232) (hT : 1048576 < l.length + szN l + q.length + szObject q) (hD0 : D = []) (hk : 14 ≤ k) :
    Cal (run k) md 7 vs S (fun r S' => r = (.v (.bool (true))) ∧ S' = S) := by
  obtain ⟨k, rfl⟩ : ∃ j, k = j + 1 := ⟨k - 1, by omega⟩
  refine Cal.fn (n := 47) (rs := [.tmp 4]) (ids := []) (D := D) (Xof_none rfl) g7 (by delta Tryd.f7; exact rfl) (by delta Tryd.f7; exact rfl) (by delta Tryd.f7; exact rfl) hd (by first | rfl | simp [idsV, idsC]) (by simp) (by simp) ?_
  intro md' ow; have w := ow.w; have w0 := ow.w0; have fz : md'.fz = false := ow.fz
  subst hD0
  repeat' (first
    | ((with_reducible apply EvO.off); (focus (exact rfl)); (focus (exact rfl))) | ((with_reducible apply EvT.off); (focus (exact rfl)); (focus (exact rfl)))
    | ((first | ((with_reducible apply EvO.call (vs := ?_)); (focus (exact rfl)); (focus (exact rfl))) | ((with_reducible apply EvT.call (vs := ?_)); (focus (exact rfl)); (focus (exact rfl))) | (with_reducible apply Cal.hd (ms := []) (p := ?_)) | ((with_reducible refine EvO.c1 (a := ?_) (S' := ?_) ?_ ?_ ?_); rotate_left 2; (focus (exact rfl))) | ((with_reducible refine EvO.c0 (a := ?_) (S' := ?_) ?_ ?_); rotate_left 2) | ((with_reducible apply EvO.cons); (focus (exact rfl))) | ((with_reducible refine EvT.c1 (a := ?_) (S' := ?_) ?_ ?_ ?_ ?_); rotate_left 2; (focus (exact rfl)); (focus (exact rfl))) | ((with_reducible refine EvT.c0 (a := ?_) (S' := ?_) ?_ ?_ ?_); rotate_left 2; (focus (exact rfl))) | ((with_reducible apply EvT.cons); (focus (exact rfl)); (focus (exact rfl))) | ((with_reducible apply EvO.guard); (focus (exact rfl)); (focus (exact rfl))) | ((with_reducible apply EvT.guard); (focus (exact rfl)); (focus (exact rfl))) | ((with_reducible refine Ev.cond (t := ?_) ?_ ?_ ?_); rotate_left) | skip); (focus ((with_reducible refine Eq.trans ?_ rfl); simp (disch := first | (intros; contradiction) | (as_aux_lemma => omega) | (as_aux_lemma => (simp only [LEN2]; first | done | omega)) | (as_aux_lemma => (simp only [LEN]; first | done | omega))) only [EV, TT, w, w0, fz, FX_mark, FX_str, FX_el_Cell, FX_el_Object, FX_node, FX_el_Shard, Nat.reduceEqDiff, Nat.reduceBeqDiff, Nat.reduceAdd, Nat.reduceMul, Nat.reduceLeDiff, Nat.reduceLT, reduceCtorEq, Int.reduceEq, Int.reduceNeg, FIN, DP]; first | done | exact rfl)); try (focus (exact rfl)))
    | ((with_reducible apply CalH.mk); intro hd; first | exact c8 (hd := hd) (hl := by first | assumption | omega | with_reducible rfl) (hn := by first | assumption | omega | with_reducible rfl) (hs := by first | assumption | omega | with_reducible rfl) (hq := by first | assumption | omega | with_reducible rfl) (hqs := by first | assumption | omega | with_reducible rfl)  (hk := by omega) | exact c10 (hd := hd) (hD0 := by first | assumption | omega | with_reducible rfl) (hn := by first | assumption | omega | with_reducible rfl) (hcs := by first | assumption | omega | with_reducible rfl) (hq := by first | assumption | omega | with_reducible rfl)  (hk := by omega) | exact c21 (hd := hd) (hl := by first | assumption | omega | with_reducible rfl) (hq := by first | assumption | omega | with_reducible rfl) (hcs := by first | assumption | omega | with_reducible rfl) (hns := by first | assumption | omega | with_reducible rfl) (hqs := by first | assumption | omega | with_reducible rfl)  (hk := by omega) | exact c22 (hd := hd) (hl := by first | assumption | omega | with_reducible rfl) (hq := by first | assumption | omega | with_reducible rfl) (hcs := by first | assumption | omega | with_reducible rfl) (hns := by first | assumption | omega | with_reducible rfl) (hqs := by first | assumption | omega | with_reducible rfl)  (hk := by omega) | exact c12 (hd := hd) (he := by first | assumption | omega | with_reducible rfl) (hf := by first | assumption | omega | with_reducible rfl) (hn := by first | assumption | omega | with_reducible rfl) (hcs := by first | assumption | omega | with_reducible rfl) (hq := by first | assumption | omega | with_reducible rfl)  (hk := by omega))
    | (with_reducible (first | rintro r S' ⟨rfl, rfl⟩ | rintro r S' ⟨n, rfl, rfl, hsz⟩); refine ⟨_, rfl, ?_⟩)
    | with_reducible refine Ev.seq ?_
    | ((with_reducible refine Ev.regionH ?_); intro H)
    | with_reducible refine EvO.nil ?_
    | ((with_reducible apply regH_k); (focus (exact KIs.mk rfl)); (focus ((with_reducible apply EnvIs.mk); simp only [SE, Nat.reduceEqDiff, Nat.reduceAdd, reduceCtorEq]; first | done | exact rfl)); clear H)
    | exact KIs.mk rfl
    | with_reducible first | refine Ev.skip ?_ | refine Ev.ret ?_ | refine Ev.exit ?_ | refine Ev.block ?_ | refine thenQ_n ?_ | refine thenQ_x ?_ | refine thenQ_r ?_ | refine blockQ_n ?_ | refine blockQ_r ?_ | refine blockQ_x0 ?_ | refine roundQ_x ?_ | refine roundQ_r ?_
    | ((with_reducible refine endQ_r (vs := ?_) (vs' := ?_) (S₂ := ?_) ?_ ?_ ?_); rotate_left 3)
    | ((with_reducible refine blockQ_x1 ?_ ?_); exact rfl)
    | ((with_reducible refine Ev.drawnH ?_ ?_); (focus kernel_rfl); intro H)
    | ((with_reducible refine EvT.nil ?_); refine ⟨drawn_mk (hs := [(0, 2)]) (by repeat' (first | exact trivial | refine ⟨.inl rfl, ?_⟩ | refine ⟨.inr rfl, ?_⟩ | (refine ⟨.inr ?_, ?_⟩; (focus (simp only [app_app, List.cons_append, List.nil_append, len_app, List.length_cons, List.length_nil, len_lit, Nat.zero_add, Nat.reduceAdd]; done))))) (by kernel_rfl) ?_, ?_⟩)
    | with_reducible exact List.forall_mem_nil _
    | with_reducible refine List.forall_mem_cons.2 ⟨?_, ?_⟩
    | ((with_reducible apply stab_off); (focus (exact rfl)); (focus (exact rfl)))
    | ((with_reducible apply stab_mk); (focus (exact rfl)); (focus (exact rfl)); (focus (exact rfl)); (focus (exact rfl)))
    | (intro c' hc; cases c' <;> first | (cases hc; done) | (try simp only [HC, inB_it, inB_if] at hc))
    | (intro hc; first | (cases hc; done) | (try simp only [HC, inB_it, inB_if] at hc))
    | fail)
  all_goals first | (exfalso; omega) | exact ⟨rfl, rfl⟩
theorem c7_ok {k : Nat} {md : Md} {S : Store} {vs : List A} {D : List Nat} {kk mm : Int} {l : List (List Cell)} {q : List Object} {s : ByteArray} (hd : dpArgs S [] vs = some ([.ag [(.v (.int .i64 (kk))), (.v (.int .i64 (mm))), .ro 1 (l.map nodeC), .ro 2 (q.map Object.c)], (.v (.string (s)))], D)) (hsz : s.size ≤ 1048576) (hl : l.length ≤ 9223372036854775807) (hs : ∀ c ∈ l, c.length ≤ 9223372036854775807 ∧ ∀ x ∈ c, x.name.size ≤ 140737488351232 ∧ x.data.size ≤ 140737488351232) (hq : q.length ≤ 9223372036854775807) (hqs : ∀ o ∈ q, o.name.size ≤ 140737488351232) (hT : l.length + szN l + q.length + szObject q ≤ 1048576) (hD0 : D = []) (hk : 14 ≤ k) :
    Cal (run k) md 7 vs S (fun r S' => r = (.v (.bool (true))) ∧ S' = S) := by
  obtain ⟨k, rfl⟩ : ∃ j, k = j + 1 := ⟨k - 1, by omega⟩
  refine Cal.fn (n := 47) (rs := [.tmp 4]) (ids := []) (D := D) (Xof_none rfl) g7 (by delta Tryd.f7; exact rfl) (by delta Tryd.f7; exact rfl) (by delta Tryd.f7; exact rfl) hd (by first | rfl | simp [idsV, idsC]) (by simp) (by simp) ?_
  intro md' ow; have w := ow.w; have w0 := ow.w0; have fz : md'.fz = false := ow.fz
  subst hD0
  have hcs : ∀ c ∈ l, c.length ≤ 1048576 := szN_le (by omega)
  have hns : ∀ c ∈ l, ∀ x ∈ c, x.name.size ≤ 1048576 := fun c hc x hx => by have := szCell_le hx; have := szN_cell hc; omega
  have hqs2 : ∀ o ∈ q, o.name.size ≤ 1048576 := fun o ho => by have := szObj_le ho; omega
  generalize hg1 : (lostP kk mm l q s).1 = g1
  generalize hg2 : (lostP kk mm l q s).2 = g2
  repeat' (first
    | ((with_reducible apply EvO.off); (focus (exact rfl)); (focus (exact rfl))) | ((with_reducible apply EvT.off); (focus (exact rfl)); (focus (exact rfl)))
    | ((first | ((with_reducible apply EvO.call (vs := ?_)); (focus (exact rfl)); (focus (exact rfl))) | ((with_reducible apply EvT.call (vs := ?_)); (focus (exact rfl)); (focus (exact rfl))) | (with_reducible apply Cal.hd (ms := []) (p := ?_)) | ((with_reducible refine EvO.c1 (a := ?_) (S' := ?_) ?_ ?_ ?_); rotate_left 2; (focus (exact rfl))) | ((with_reducible refine EvO.c0 (a := ?_) (S' := ?_) ?_ ?_); rotate_left 2) | ((with_reducible apply EvO.cons); (focus (exact rfl))) | ((with_reducible refine EvT.c1 (a := ?_) (S' := ?_) ?_ ?_ ?_ ?_); rotate_left 2; (focus (exact rfl)); (focus (exact rfl))) | ((with_reducible refine EvT.c0 (a := ?_) (S' := ?_) ?_ ?_ ?_); rotate_left 2; (focus (exact rfl))) | ((with_reducible apply EvT.cons); (focus (exact rfl)); (focus (exact rfl))) | ((with_reducible apply EvO.guard); (focus (exact rfl)); (focus (exact rfl))) | ((with_reducible apply EvT.guard); (focus (exact rfl)); (focus (exact rfl))) | ((with_reducible refine Ev.cond (t := ?_) ?_ ?_ ?_); rotate_left) | skip); (focus ((with_reducible refine Eq.trans ?_ rfl); simp (disch := first | (intros; contradiction) | (as_aux_lemma => omega) | (as_aux_lemma => (simp only [LEN2]; first | done | omega)) | (as_aux_lemma => (simp only [LEN]; first | done | omega))) only [EV, TT, w, w0, fz, FX_mark, FX_str, FX_el_Cell, FX_el_Object, FX_node, FX_el_Shard, hg1, hg2, bne_self_eq_false, Nat.reduceEqDiff, Nat.reduceBeqDiff, Nat.reduceAdd, Nat.reduceMul, Nat.reduceLeDiff, Nat.reduceLT, reduceCtorEq, Int.reduceEq, Int.reduceNeg, FIN, DP]; first | done | exact rfl)); try (focus (exact rfl)))
    | ((with_reducible apply CalH.mk); intro hd; first | exact c8 (hd := hd) (hl := by first | assumption | omega | with_reducible rfl) (hn := by first | assumption | omega | with_reducible rfl) (hs := by first | assumption | omega | with_reducible rfl) (hq := by first | assumption | omega | with_reducible rfl) (hqs := by first | assumption | omega | with_reducible rfl)  (hk := by omega) | exact c10 (hd := hd) (hD0 := by first | assumption | omega | with_reducible rfl) (hn := by first | assumption | omega | with_reducible rfl) (hcs := by first | assumption | omega | with_reducible rfl) (hq := by first | assumption | omega | with_reducible rfl)  (hk := by omega) | exact c21 (hd := hd) (hl := by first | assumption | omega | with_reducible rfl) (hq := by first | assumption | omega | with_reducible rfl) (hcs := by first | assumption | omega | with_reducible rfl) (hns := by first | assumption | omega | with_reducible rfl) (hqs := by first | assumption | omega | with_reducible rfl)  (hk := by omega) | exact c22 (hd := hd) (hl := by first | assumption | omega | with_reducible rfl) (hq := by first | assumption | omega | with_reducible rfl) (hcs := by first | assumption | omega | with_reducible rfl) (hns := by first | assumption | omega | with_reducible rfl) (hqs := by first | assumption | omega | with_reducible rfl)  (hk := by omega) | exact c12 (hd := hd) (he := by first | assumption | omega | with_reducible rfl) (hf := by first | assumption | omega | with_reducible rfl) (hn := by first | assumption | omega | with_reducible rfl) (hcs := by first | assumption | omega | with_reducible rfl) (hq := by first | assumption | omega | with_reducible rfl)  (hk := by omega))
    | (with_reducible (first | rintro r S' ⟨rfl, rfl⟩ | rintro r S' ⟨n, rfl, rfl, hsz⟩); refine ⟨_, rfl, ?_⟩)
    | with_reducible refine Ev.seq ?_
    | ((with_reducible refine Ev.regionH ?_); intro H)
    | with_reducible refine EvO.nil ?_
    | ((with_reducible apply regH_k); (focus (exact KIs.mk rfl)); (focus ((with_reducible apply EnvIs.mk); simp only [SE, Nat.reduceEqDiff, Nat.reduceAdd, reduceCtorEq]; first | done | exact rfl)); clear H)
    | exact KIs.mk rfl
    | with_reducible first | refine Ev.skip ?_ | refine Ev.ret ?_ | refine Ev.exit ?_ | refine Ev.block ?_ | refine thenQ_n ?_ | refine thenQ_x ?_ | refine thenQ_r ?_ | refine blockQ_n ?_ | refine blockQ_r ?_ | refine blockQ_x0 ?_ | refine roundQ_x ?_ | refine roundQ_r ?_
    | ((with_reducible refine endQ_r (vs := ?_) (vs' := ?_) (S₂ := ?_) ?_ ?_ ?_); rotate_left 3)
    | ((with_reducible refine blockQ_x1 ?_ ?_); exact rfl)
    | ((with_reducible refine Ev.drawnH ?_ ?_); (focus kernel_rfl); intro H)
    | ((with_reducible refine EvT.nil ?_); refine ⟨drawn_mk (hs := [(0, 2)]) (by repeat' (first | exact trivial | refine ⟨.inl rfl, ?_⟩ | refine ⟨.inr rfl, ?_⟩ | (refine ⟨.inr ?_, ?_⟩; (focus (simp only [app_app, List.cons_append, List.nil_append, len_app, List.length_cons, List.length_nil, len_lit, Nat.zero_add, Nat.reduceAdd]; done))))) (by kernel_rfl) ?_, ?_⟩)
    | with_reducible exact List.forall_mem_nil _
    | with_reducible refine List.forall_mem_cons.2 ⟨?_, ?_⟩
    | ((with_reducible apply stab_off); (focus (exact rfl)); (focus (exact rfl)))
    | ((with_reducible apply stab_mk); (focus (exact rfl)); (focus (exact rfl)); (focus (exact rfl)); (focus (exact rfl)))
    | (intro c' hc; cases c' <;> first | (cases hc; done) | (try simp only [HC, inB_it, inB_if] at hc))
    | (intro hc; first | (cases hc; done) | (try simp only [HC, inB_it, inB_if] at hc))
    | fail)
  all_goals first | (exfalso; omega) | exact ⟨rfl, rfl⟩
theorem law_FnExactLostOf (kk mm : Int) (l : List (List Cell)) (q : List Object) (s : ByteArray) (hl : l.length ≤ 9223372036854775807) (hs : ∀ c ∈ l, c.length ≤ 9223372036854775807 ∧ ∀ x ∈ c, x.name.size ≤ 140737488351232 ∧ x.data.size ≤ 140737488351232) (hq : q.length ≤ 9223372036854775807) (hqs : ∀ o ∈ q, o.name.size ≤ 140737488351232) :
    Cal (run 60) ⟨fun _ => true, 0, false⟩ 7 [.ag [(.v (.int .i64 (kk))), (.v (.int .i64 (mm))), .ro 1 (l.map nodeC), .ro 2 (q.map Object.c)], (.v (.string (s)))] [] (fun r S' => r = .v (.bool true)) := by
  rcases Nat.lt_or_ge 1048576 s.size with hz | hz
  · obtain ⟨r, S', h1, h2, h3⟩ := c7_bign (k := 60) (md := ⟨fun _ => true, 0, false⟩) (S := []) (vs := [.ag [(.v (.int .i64 (kk))), (.v (.int .i64 (mm))), .ro 1 (l.map nodeC), .ro 2 (q.map Object.c)], (.v (.string (s)))]) (D := []) (kk := kk) (mm := mm) (l := l) (q := q) (s := s) rfl hz (by omega)
    exact ⟨r, S', h1, h2⟩
  rcases Nat.lt_or_ge 1048576 (l.length + szN l + q.length + szObject q) with hT | hT
  · obtain ⟨r, S', h1, h2, h3⟩ := c7_big (k := 60) (md := ⟨fun _ => true, 0, false⟩) (S := []) (vs := [.ag [(.v (.int .i64 (kk))), (.v (.int .i64 (mm))), .ro 1 (l.map nodeC), .ro 2 (q.map Object.c)], (.v (.string (s)))]) (D := []) (kk := kk) (mm := mm) (l := l) (q := q) (s := s) rfl hz hl hs hq hqs hT rfl (by omega)
    exact ⟨r, S', h1, h2⟩
  · obtain ⟨r, S', h1, h2, h3⟩ := c7_ok (k := 60) (md := ⟨fun _ => true, 0, false⟩) (S := []) (vs := [.ag [(.v (.int .i64 (kk))), (.v (.int .i64 (mm))), .ro 1 (l.map nodeC), .ro 2 (q.map Object.c)], (.v (.string (s)))]) (D := []) (kk := kk) (mm := mm) (l := l) (q := q) (s := s) rfl hz hl hs hq hqs hT rfl (by omega)
    exact ⟨r, S', h1, h2⟩
end Go.Proofs.YtdpaijnbikclgaaDoorB

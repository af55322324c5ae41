/- Part of the evaluator's contracts: lost5. -/
import Derived.Test.YtdpaijnbikclgaaDoorFlost4
import Derived.Test.YtdpaijnbikclgaaDoorFclu2
import Derived.Test.YtdpaijnbikclgaaDoorFclu4
import Derived.Test.YtdpaijnbikclgaaDoorFlost2
import Derived.Test.YtdpaijnbikclgaaDoorFclu5
import Derived.Test.YtdpaijnbikclgaaDoorFclu3
import Derived.Test.YtdpaijnbikclgaaDoorFlost3
namespace Go.Proofs.YtdpaijnbikclgaaDoorB
open Go Go.Proofs.YtdpaijnbikclgaaDoorE
set_option linter.unusedVariables false
set_option linter.unusedSectionVars false
set_option linter.unusedSimpArgs false
set_option maxHeartbeats 4000000
set_option maxRecDepth 20000
noncomputable def lostP (kk mm : Int) (l : List (List Cell)) (q : List Object) (s : ByteArray) : Int × Bool :=
  match goodC kk mm l q && hasB q s, q[posQ q s]? with
  | true, some o => (kk + mm - ((wholeL kk l o (kk + mm).toNat).length : Int), true)
  | _, _ => (0, false)
theorem c21 {k : Nat} {md : Md} {S : Store} {vs : List A} {D : List Nat} {kk mm : Int} {l : List (List Cell)} {q : List Object} {s : ByteArray} (hd : dpArgs S [] vs = some ([.ag [(.v (.int .i64 (kk))), (.v (.int .i64 (mm))), .ro 1 (l.map nodeC), .ro 2 (q.map Object.c)], (.v (.string (s)))], D)) (hl : l.length ≤ 1048576) (hq : q.length ≤ 1048576) (hcs : ∀ c ∈ l, c.length ≤ 1048576) (hns : ∀ c ∈ l, ∀ x ∈ c, x.name.size ≤ 1048576) (hqs : ∀ o ∈ q, o.name.size ≤ 1048576) (hk : 4 ≤ k) :
    Cal (run k) md 21 vs S (fun r S' => r = .tu [(.v (.int .i64 ((lostP kk mm l q s).1))), (.v (.bool ((lostP kk mm l q s).2)))] ∧ S' = S) := by
  obtain ⟨k, rfl⟩ : ∃ j, k = j + 1 := ⟨k - 1, by omega⟩
  refine Cal.fn (n := 36) (rs := [.tmp 4, .tmp 5]) (ids := []) (D := D) (Xof_none rfl) g21 (by delta Tryd.f21; exact rfl) (by delta Tryd.f21; exact rfl) (by delta Tryd.f21; exact rfl) hd (by first | rfl | simp [idsV, idsC]) (by simp) (by simp) ?_
  intro md' ow; have w := ow.w; have w0 := ow.w0; have fz : md'.fz = false := ow.fz
  have hqs2 : ∀ o ∈ q, o.name.size ≤ 9223372036854775807 := fun o ho => by have := hqs o ho; omega
  by_cases hG : GoodP kk mm l q
  rotate_left
  · have hg := goodC_f hG
    have hv : lostP kk mm l q s = (0, false) := by unfold lostP; rw [hg]; rfl
    repeat' (first
      | ((with_reducible apply EvO.off); (focus (exact rfl)); (focus (exact rfl))) | ((with_reducible apply EvT.off); (focus (exact rfl)); (focus (exact rfl)))
      | ((first | ((with_reducible apply EvO.call (vs := ?_)); (focus (exact rfl)); (focus (exact rfl))) | ((with_reducible apply EvT.call (vs := ?_)); (focus (exact rfl)); (focus (exact rfl))) | (with_reducible apply Cal.hd (ms := []) (p := ?_)) | ((with_reducible refine EvO.c1 (a := ?_) (S' := ?_) ?_ ?_ ?_); rotate_left 2; (focus (exact rfl))) | ((with_reducible refine EvO.c0 (a := ?_) (S' := ?_) ?_ ?_); rotate_left 2) | ((with_reducible apply EvO.cons); (focus (exact rfl))) | ((with_reducible refine EvT.c1 (a := ?_) (S' := ?_) ?_ ?_ ?_ ?_); rotate_left 2; (focus (exact rfl)); (focus (exact rfl))) | ((with_reducible refine EvT.c0 (a := ?_) (S' := ?_) ?_ ?_ ?_); rotate_left 2; (focus (exact rfl))) | ((with_reducible apply EvT.cons); (focus (exact rfl)); (focus (exact rfl))) | ((with_reducible apply EvO.guard); (focus (exact rfl)); (focus (exact rfl))) | ((with_reducible apply EvT.guard); (focus (exact rfl)); (focus (exact rfl))) | ((with_reducible refine Ev.cond (t := ?_) ?_ ?_ ?_); rotate_left) | skip); (focus ((with_reducible refine Eq.trans ?_ rfl); simp (disch := first | (intros; contradiction) | (as_aux_lemma => omega) | (as_aux_lemma => (simp only [LEN2]; first | done | omega)) | (as_aux_lemma => (simp only [LEN]; first | done | omega))) only [EV, TT, w, w0, fz, FX_mark, FX_str, FX_el_Cell, FX_el_Object, FX_node, FX_el_Shard, hg, Nat.reduceEqDiff, Nat.reduceBeqDiff, Nat.reduceAdd, Nat.reduceMul, Nat.reduceLeDiff, Nat.reduceLT, reduceCtorEq, Int.reduceEq, Int.reduceNeg, FIN, DP]; first | done | exact rfl)); try (focus (exact rfl)))
      | ((with_reducible apply CalH.mk); intro hd; first | exact c28 (hd := hd) (hq := by first | assumption | omega | with_reducible rfl)  (hk := by omega) | exact c9 (hd := hd) (hl := by first | assumption | omega | with_reducible rfl) (hq := by first | assumption | omega | with_reducible rfl) (hcs := by first | assumption | omega | with_reducible rfl) (hns := by first | assumption | omega | with_reducible rfl) (hqs := by first | assumption | omega | with_reducible rfl)  (hk := by omega) | exact c50 (hd := hd) (hkk := by first | assumption | omega | with_reducible rfl) (hmm := by first | assumption | omega | with_reducible rfl) (hos := by first | assumption | omega | with_reducible rfl) (hon := by first | assumption | omega | with_reducible rfl) (hl := by first | assumption | omega | with_reducible rfl) (hcs := by first | assumption | omega | with_reducible rfl) (hds := by first | assumption | omega | with_reducible rfl)  (hk := by omega))
      | (with_reducible (first | rintro r S' ⟨rfl, rfl⟩); refine ⟨_, rfl, ?_⟩)
      | with_reducible refine Ev.seq ?_
      | ((with_reducible refine Ev.regionH ?_); intro H)
      | with_reducible refine EvO.nil ?_
      | ((with_reducible apply regH_k); (focus (exact KIs.mk rfl)); (focus ((with_reducible apply EnvIs.mk); simp only [SE, Nat.reduceEqDiff, Nat.reduceAdd, reduceCtorEq]; first | done | exact rfl)); clear H)
      | exact KIs.mk rfl
      | with_reducible first | refine Ev.skip ?_ | refine Ev.ret ?_ | refine Ev.exit ?_ | refine Ev.block ?_ | refine thenQ_n ?_ | refine thenQ_x ?_ | refine thenQ_r ?_ | refine blockQ_n ?_ | refine blockQ_r ?_ | refine blockQ_x0 ?_ | refine roundQ_x ?_ | refine roundQ_r ?_
      | ((with_reducible refine endQ_r (vs := ?_) (vs' := ?_) (S₂ := ?_) ?_ ?_ ?_); rotate_left 3)
      | ((with_reducible refine blockQ_x1 ?_ ?_); exact rfl)
      | ((with_reducible refine Ev.drawnH ?_ ?_); (focus kernel_rfl); intro H)
      | ((with_reducible refine EvT.nil ?_); refine ⟨drawn_mk (hs := [(1, 11), (3, 11)]) (by repeat' (first | exact trivial | refine ⟨.inl rfl, ?_⟩ | refine ⟨.inr rfl, ?_⟩ | (refine ⟨.inr ?_, ?_⟩; (focus (simp only [app_app, List.cons_append, List.nil_append, len_app, List.length_cons, List.length_nil, len_lit, Nat.zero_add, Nat.reduceAdd]; done))))) (by kernel_rfl) ?_, ?_⟩)
      | with_reducible exact List.forall_mem_nil _
      | with_reducible refine List.forall_mem_cons.2 ⟨?_, ?_⟩
      | ((with_reducible apply stab_off); (focus (exact rfl)); (focus (exact rfl)))
      | ((with_reducible apply stab_mk); (focus (exact rfl)); (focus (exact rfl)); (focus (exact rfl)); (focus (exact rfl)))
      | (intro c' hc; cases c' <;> first | (cases hc; done) | (try simp only [HC, inB_it, inB_if] at hc))
      | (intro hc; first | (cases hc; done) | (try simp only [HC, inB_it, inB_if] at hc))
      | fail)
    all_goals first | (exfalso; omega) | (refine ⟨?_, rfl⟩; rw [hv]; rfl)
  have hg := goodC_t hG
  have hsr : srt q := fun a b hab hb => sorted hG.ob hab hb
  cases hh : hasB q s with
  | false =>
    have hv : lostP kk mm l q s = (0, false) := by unfold lostP; rw [hg, hh]; rfl
    repeat' (first
      | ((with_reducible apply EvO.off); (focus (exact rfl)); (focus (exact rfl))) | ((with_reducible apply EvT.off); (focus (exact rfl)); (focus (exact rfl)))
      | ((first | ((with_reducible apply EvO.call (vs := ?_)); (focus (exact rfl)); (focus (exact rfl))) | ((with_reducible apply EvT.call (vs := ?_)); (focus (exact rfl)); (focus (exact rfl))) | (with_reducible apply Cal.hd (ms := []) (p := ?_)) | ((with_reducible refine EvO.c1 (a := ?_) (S' := ?_) ?_ ?_ ?_); rotate_left 2; (focus (exact rfl))) | ((with_reducible refine EvO.c0 (a := ?_) (S' := ?_) ?_ ?_); rotate_left 2) | ((with_reducible apply EvO.cons); (focus (exact rfl))) | ((with_reducible refine EvT.c1 (a := ?_) (S' := ?_) ?_ ?_ ?_ ?_); rotate_left 2; (focus (exact rfl)); (focus (exact rfl))) | ((with_reducible refine EvT.c0 (a := ?_) (S' := ?_) ?_ ?_ ?_); rotate_left 2; (focus (exact rfl))) | ((with_reducible apply EvT.cons); (focus (exact rfl)); (focus (exact rfl))) | ((with_reducible apply EvO.guard); (focus (exact rfl)); (focus (exact rfl))) | ((with_reducible apply EvT.guard); (focus (exact rfl)); (focus (exact rfl))) | ((with_reducible refine Ev.cond (t := ?_) ?_ ?_ ?_); rotate_left) | skip); (focus ((with_reducible refine Eq.trans ?_ rfl); simp (disch := first | (intros; contradiction) | (as_aux_lemma => omega) | (as_aux_lemma => (simp only [LEN2]; first | done | omega)) | (as_aux_lemma => (simp only [LEN]; first | done | omega))) only [EV, TT, w, w0, fz, FX_mark, FX_str, FX_el_Cell, FX_el_Object, FX_node, FX_el_Shard, hg, hh, Nat.reduceEqDiff, Nat.reduceBeqDiff, Nat.reduceAdd, Nat.reduceMul, Nat.reduceLeDiff, Nat.reduceLT, reduceCtorEq, Int.reduceEq, Int.reduceNeg, FIN, DP]; first | done | exact rfl)); try (focus (exact rfl)))
      | ((with_reducible apply CalH.mk); intro hd; first | exact c28 (hd := hd) (hq := by first | assumption | omega | with_reducible rfl)  (hk := by omega) | exact c9 (hd := hd) (hl := by first | assumption | omega | with_reducible rfl) (hq := by first | assumption | omega | with_reducible rfl) (hcs := by first | assumption | omega | with_reducible rfl) (hns := by first | assumption | omega | with_reducible rfl) (hqs := by first | assumption | omega | with_reducible rfl)  (hk := by omega) | exact c50 (hd := hd) (hkk := by first | assumption | omega | with_reducible rfl) (hmm := by first | assumption | omega | with_reducible rfl) (hos := by first | assumption | omega | with_reducible rfl) (hon := by first | assumption | omega | with_reducible rfl) (hl := by first | assumption | omega | with_reducible rfl) (hcs := by first | assumption | omega | with_reducible rfl) (hds := by first | assumption | omega | with_reducible rfl)  (hk := by omega))
      | (with_reducible (first | rintro r S' ⟨rfl, rfl⟩); refine ⟨_, rfl, ?_⟩)
      | with_reducible refine Ev.seq ?_
      | ((with_reducible refine Ev.regionH ?_); intro H)
      | with_reducible refine EvO.nil ?_
      | ((with_reducible apply regH_k); (focus (exact KIs.mk rfl)); (focus ((with_reducible apply EnvIs.mk); simp only [SE, Nat.reduceEqDiff, Nat.reduceAdd, reduceCtorEq]; first | done | exact rfl)); clear H)
      | exact KIs.mk rfl
      | with_reducible first | refine Ev.skip ?_ | refine Ev.ret ?_ | refine Ev.exit ?_ | refine Ev.block ?_ | refine thenQ_n ?_ | refine thenQ_x ?_ | refine thenQ_r ?_ | refine blockQ_n ?_ | refine blockQ_r ?_ | refine blockQ_x0 ?_ | refine roundQ_x ?_ | refine roundQ_r ?_
      | ((with_reducible refine endQ_r (vs := ?_) (vs' := ?_) (S₂ := ?_) ?_ ?_ ?_); rotate_left 3)
      | ((with_reducible refine blockQ_x1 ?_ ?_); exact rfl)
      | ((with_reducible refine Ev.drawnH ?_ ?_); (focus kernel_rfl); intro H)
      | ((with_reducible refine EvT.nil ?_); refine ⟨drawn_mk (hs := [(1, 11), (3, 11)]) (by repeat' (first | exact trivial | refine ⟨.inl rfl, ?_⟩ | refine ⟨.inr rfl, ?_⟩ | (refine ⟨.inr ?_, ?_⟩; (focus (simp only [app_app, List.cons_append, List.nil_append, len_app, List.length_cons, List.length_nil, len_lit, Nat.zero_add, Nat.reduceAdd]; done))))) (by kernel_rfl) ?_, ?_⟩)
      | with_reducible exact List.forall_mem_nil _
      | with_reducible refine List.forall_mem_cons.2 ⟨?_, ?_⟩
      | ((with_reducible apply stab_off); (focus (exact rfl)); (focus (exact rfl)))
      | ((with_reducible apply stab_mk); (focus (exact rfl)); (focus (exact rfl)); (focus (exact rfl)); (focus (exact rfl)))
      | (intro c' hc; cases c' <;> first | (cases hc; done) | (try simp only [HC, inB_it, inB_if] at hc))
      | (intro hc; first | (cases hc; done) | (try simp only [HC, inB_it, inB_if] at hc))
      | fail)
    all_goals first | (exfalso; omega) | (refine ⟨?_, rfl⟩; rw [hv]; rfl)
  | true =>
    have hlq : posQ q s < q.length := Classical.byContradiction fun e => by rw [has_no e] at hh; cases hh
    have hli : (posQ q s : Int) < (q.length : Int) := by omega
    have hv : lostP kk mm l q s = (kk + mm - ((wholeL kk l q[posQ q s] (kk + mm).toNat).length : Int), true) := by unfold lostP; rw [hg, hh, List.getElem?_eq_getElem hlq]; rfl
    have hb := shp_bd2 hG.shape
    have hnd := hG.nodes
    have hob := hG.ob _ hlq
    have hos := hob.s
    have hon := hqs q[posQ q s] (by simp)
    have hcs2 : ∀ c ∈ l, c.length ≤ 60 := fun c hc => by
      obtain ⟨a, ha, rfl⟩ := List.getElem_of_mem hc
      exact hG.few a ha
    have hds : ∀ c ∈ l, ∀ x ∈ c, x.data.size ≤ 1048576 := fun c hc x hx => by
      obtain ⟨a, ha, rfl⟩ := List.getElem_of_mem hc
      obtain ⟨i, hi, rfl⟩ := List.getElem_of_mem hx
      have := (hG.ce a ha i hi).dt
      omega
    have hle := whole_le hG q[posQ q s]
    repeat' (first
      | ((with_reducible apply EvO.off); (focus (exact rfl)); (focus (exact rfl))) | ((with_reducible apply EvT.off); (focus (exact rfl)); (focus (exact rfl)))
      | ((first | ((with_reducible apply EvO.call (vs := ?_)); (focus (exact rfl)); (focus (exact rfl))) | ((with_reducible apply EvT.call (vs := ?_)); (focus (exact rfl)); (focus (exact rfl))) | (with_reducible apply Cal.hd (ms := []) (p := ?_)) | ((with_reducible refine EvO.c1 (a := ?_) (S' := ?_) ?_ ?_ ?_); rotate_left 2; (focus (exact rfl))) | ((with_reducible refine EvO.c0 (a := ?_) (S' := ?_) ?_ ?_); rotate_left 2) | ((with_reducible apply EvO.cons); (focus (exact rfl))) | ((with_reducible refine EvT.c1 (a := ?_) (S' := ?_) ?_ ?_ ?_ ?_); rotate_left 2; (focus (exact rfl)); (focus (exact rfl))) | ((with_reducible refine EvT.c0 (a := ?_) (S' := ?_) ?_ ?_ ?_); rotate_left 2; (focus (exact rfl))) | ((with_reducible apply EvT.cons); (focus (exact rfl)); (focus (exact rfl))) | ((with_reducible apply EvO.guard); (focus (exact rfl)); (focus (exact rfl))) | ((with_reducible apply EvT.guard); (focus (exact rfl)); (focus (exact rfl))) | ((with_reducible refine Ev.cond (t := ?_) ?_ ?_ ?_); rotate_left) | skip); (focus ((with_reducible refine Eq.trans ?_ rfl); simp (disch := first | (intros; contradiction) | (as_aux_lemma => omega) | (as_aux_lemma => (simp only [LEN2]; first | done | omega)) | (as_aux_lemma => (simp only [LEN]; first | done | omega))) only [EV, TT, w, w0, fz, FX_mark, FX_str, FX_el_Cell, FX_el_Object, FX_node, FX_el_Shard, hg, hh, hli, Nat.reduceEqDiff, Nat.reduceBeqDiff, Nat.reduceAdd, Nat.reduceMul, Nat.reduceLeDiff, Nat.reduceLT, reduceCtorEq, Int.reduceEq, Int.reduceNeg, FIN, DP]; first | done | exact rfl)); try (focus (exact rfl)))
      | ((with_reducible apply CalH.mk); intro hd; first | exact c28 (hd := hd) (hq := by first | assumption | omega | with_reducible rfl)  (hk := by omega) | exact c9 (hd := hd) (hl := by first | assumption | omega | with_reducible rfl) (hq := by first | assumption | omega | with_reducible rfl) (hcs := by first | assumption | omega | with_reducible rfl) (hns := by first | assumption | omega | with_reducible rfl) (hqs := by first | assumption | omega | with_reducible rfl)  (hk := by omega) | exact c50 (hd := hd) (hkk := by first | assumption | omega | with_reducible rfl) (hmm := by first | assumption | omega | with_reducible rfl) (hos := by first | assumption | omega | with_reducible rfl) (hon := by first | assumption | omega | with_reducible rfl) (hl := by first | assumption | omega | with_reducible rfl) (hcs := by first | assumption | omega | with_reducible rfl) (hds := by first | assumption | omega | with_reducible rfl)  (hk := by omega))
      | (with_reducible (first | rintro r S' ⟨rfl, rfl⟩); refine ⟨_, rfl, ?_⟩)
      | with_reducible refine Ev.seq ?_
      | ((with_reducible refine Ev.regionH ?_); intro H)
      | with_reducible refine EvO.nil ?_
      | ((with_reducible apply regH_k); (focus (exact KIs.mk rfl)); (focus ((with_reducible apply EnvIs.mk); simp only [SE, Nat.reduceEqDiff, Nat.reduceAdd, reduceCtorEq]; first | done | exact rfl)); clear H)
      | exact KIs.mk rfl
      | with_reducible first | refine Ev.skip ?_ | refine Ev.ret ?_ | refine Ev.exit ?_ | refine Ev.block ?_ | refine thenQ_n ?_ | refine thenQ_x ?_ | refine thenQ_r ?_ | refine blockQ_n ?_ | refine blockQ_r ?_ | refine blockQ_x0 ?_ | refine roundQ_x ?_ | refine roundQ_r ?_
      | ((with_reducible refine endQ_r (vs := ?_) (vs' := ?_) (S₂ := ?_) ?_ ?_ ?_); rotate_left 3)
      | ((with_reducible refine blockQ_x1 ?_ ?_); exact rfl)
      | ((with_reducible refine Ev.drawnH ?_ ?_); (focus kernel_rfl); intro H)
      | ((with_reducible refine EvT.nil ?_); refine ⟨drawn_mk (hs := [(1, 11), (3, 11)]) (by repeat' (first | exact trivial | refine ⟨.inl rfl, ?_⟩ | refine ⟨.inr rfl, ?_⟩ | (refine ⟨.inr ?_, ?_⟩; (focus (simp only [app_app, List.cons_append, List.nil_append, len_app, List.length_cons, List.length_nil, len_lit, Nat.zero_add, Nat.reduceAdd]; done))))) (by kernel_rfl) ?_, ?_⟩)
      | with_reducible exact List.forall_mem_nil _
      | with_reducible refine List.forall_mem_cons.2 ⟨?_, ?_⟩
      | ((with_reducible apply stab_off); (focus (exact rfl)); (focus (exact rfl)))
      | ((with_reducible apply stab_mk); (focus (exact rfl)); (focus (exact rfl)); (focus (exact rfl)); (focus (exact rfl)))
      | (intro c' hc; cases c' <;> first | (cases hc; done) | (try simp only [HC, inB_it, inB_if] at hc))
      | (intro hc; first | (cases hc; done) | (try simp only [HC, inB_it, inB_if] at hc))
      | fail)
    all_goals first | (exfalso; omega) | (refine ⟨?_, rfl⟩; rw [hv]; rfl)
theorem c22 {k : Nat} {md : Md} {S : Store} {vs : List A} {D : List Nat} {kk mm : Int} {l : List (List Cell)} {q : List Object} {s : ByteArray} (hd : dpArgs S [] vs = some ([.ag [(.v (.int .i64 (kk))), (.v (.int .i64 (mm))), .ro 1 (l.map nodeC), .ro 2 (q.map Object.c)], (.v (.string (s)))], D)) (hl : l.length ≤ 1048576) (hq : q.length ≤ 1048576) (hcs : ∀ c ∈ l, c.length ≤ 1048576) (hns : ∀ c ∈ l, ∀ x ∈ c, x.name.size ≤ 1048576) (hqs : ∀ o ∈ q, o.name.size ≤ 1048576) (hk : 13 ≤ k) :
    Cal (run k) md 22 vs S (fun r S' => r = .tu [(.v (.int .i64 ((lostP kk mm l q s).1))), (.v (.bool ((lostP kk mm l q s).2)))] ∧ S' = S) := by
  obtain ⟨k, rfl⟩ : ∃ j, k = j + 1 := ⟨k - 1, by omega⟩
  refine Cal.fn (n := 33) (rs := [.tmp 4, .tmp 5]) (ids := []) (D := D) (Xof_none rfl) g22 (by delta Tryd.f22; exact rfl) (by delta Tryd.f22; exact rfl) (by delta Tryd.f22; exact rfl) hd (by first | rfl | simp [idsV, idsC]) (by simp) (by simp) ?_
  intro md' ow; have w := ow.w; have w0 := ow.w0; have fz : md'.fz = false := ow.fz
  have hqs2 : ∀ o ∈ q, o.name.size ≤ 9223372036854775807 := fun o ho => by have := hqs o ho; omega
  by_cases hG : GoodP kk mm l q
  rotate_left
  · have hg := goodC_f hG
    have hv : lostP kk mm l q s = (0, false) := by unfold lostP; rw [hg]; rfl
    repeat' (first
      | ((with_reducible apply EvO.off); (focus (exact rfl)); (focus (exact rfl))) | ((with_reducible apply EvT.off); (focus (exact rfl)); (focus (exact rfl)))
      | ((first | ((with_reducible apply EvO.call (vs := ?_)); (focus (exact rfl)); (focus (exact rfl))) | ((with_reducible apply EvT.call (vs := ?_)); (focus (exact rfl)); (focus (exact rfl))) | (with_reducible apply Cal.hd (ms := []) (p := ?_)) | ((with_reducible refine EvO.c1 (a := ?_) (S' := ?_) ?_ ?_ ?_); rotate_left 2; (focus (exact rfl))) | ((with_reducible refine EvO.c0 (a := ?_) (S' := ?_) ?_ ?_); rotate_left 2) | ((with_reducible apply EvO.cons); (focus (exact rfl))) | ((with_reducible refine EvT.c1 (a := ?_) (S' := ?_) ?_ ?_ ?_ ?_); rotate_left 2; (focus (exact rfl)); (focus (exact rfl))) | ((with_reducible refine EvT.c0 (a := ?_) (S' := ?_) ?_ ?_ ?_); rotate_left 2; (focus (exact rfl))) | ((with_reducible apply EvT.cons); (focus (exact rfl)); (focus (exact rfl))) | ((with_reducible apply EvO.guard); (focus (exact rfl)); (focus (exact rfl))) | ((with_reducible apply EvT.guard); (focus (exact rfl)); (focus (exact rfl))) | ((with_reducible refine Ev.cond (t := ?_) ?_ ?_ ?_); rotate_left) | skip); (focus ((with_reducible refine Eq.trans ?_ rfl); simp (disch := first | (intros; contradiction) | (as_aux_lemma => omega) | (as_aux_lemma => (simp only [LEN2]; first | done | omega)) | (as_aux_lemma => (simp only [LEN]; first | done | omega))) only [EV, TT, w, w0, fz, FX_mark, FX_str, FX_el_Cell, FX_el_Object, FX_node, FX_el_Shard, hg, Nat.reduceEqDiff, Nat.reduceBeqDiff, Nat.reduceAdd, Nat.reduceMul, Nat.reduceLeDiff, Nat.reduceLT, reduceCtorEq, Int.reduceEq, Int.reduceNeg, FIN, DP]; first | done | exact rfl)); try (focus (exact rfl)))
      | ((with_reducible apply CalH.mk); intro hd; first | exact c11 (hd := hd) (hl := by first | assumption | omega | with_reducible rfl) (hq := by first | assumption | omega | with_reducible rfl) (hcs := by first | assumption | omega | with_reducible rfl) (hns := by first | assumption | omega | with_reducible rfl) (hqs := by first | assumption | omega | with_reducible rfl)  (hk := by omega) | exact c36 (hd := hd) (hq := by first | assumption | omega | with_reducible rfl) (hs := by first | assumption | omega | with_reducible rfl)  (hk := by omega) | exact c51 (hd := hd) (hkk := by first | assumption | omega | with_reducible rfl) (hos := by first | assumption | omega | with_reducible rfl) (hl := by first | assumption | omega | with_reducible rfl) (hcs := by first | assumption | omega | with_reducible rfl) (hds := by first | assumption | omega | with_reducible rfl) (h12 := by first | assumption | omega | with_reducible rfl)  (hk := by omega))
      | (with_reducible (first | rintro r S' ⟨rfl, rfl⟩ | rintro r S' ⟨l', hl', rfl, rfl⟩); refine ⟨_, rfl, ?_⟩)
      | with_reducible refine Ev.seq ?_
      | ((with_reducible refine Ev.regionH ?_); intro H)
      | with_reducible refine EvO.nil ?_
      | ((with_reducible apply regH_k); (focus (exact KIs.mk rfl)); (focus ((with_reducible apply EnvIs.mk); simp only [SE, Nat.reduceEqDiff, Nat.reduceAdd, reduceCtorEq]; first | done | exact rfl)); clear H)
      | exact KIs.mk rfl
      | with_reducible first | refine Ev.skip ?_ | refine Ev.ret ?_ | refine Ev.exit ?_ | refine Ev.block ?_ | refine thenQ_n ?_ | refine thenQ_x ?_ | refine thenQ_r ?_ | refine blockQ_n ?_ | refine blockQ_r ?_ | refine blockQ_x0 ?_ | refine roundQ_x ?_ | refine roundQ_r ?_
      | ((with_reducible refine endQ_r (vs := ?_) (vs' := ?_) (S₂ := ?_) ?_ ?_ ?_); rotate_left 3)
      | ((with_reducible refine blockQ_x1 ?_ ?_); exact rfl)
      | ((with_reducible refine Ev.drawnH ?_ ?_); (focus kernel_rfl); intro H)
      | ((with_reducible refine EvT.nil ?_); refine ⟨drawn_mk (hs := [(1, 11), (3, 11)]) (by repeat' (first | exact trivial | refine ⟨.inl rfl, ?_⟩ | refine ⟨.inr rfl, ?_⟩ | (refine ⟨.inr ?_, ?_⟩; (focus (simp only [app_app, List.cons_append, List.nil_append, len_app, List.length_cons, List.length_nil, len_lit, Nat.zero_add, Nat.reduceAdd]; done))))) (by kernel_rfl) ?_, ?_⟩)
      | with_reducible exact List.forall_mem_nil _
      | with_reducible refine List.forall_mem_cons.2 ⟨?_, ?_⟩
      | ((with_reducible apply stab_off); (focus (exact rfl)); (focus (exact rfl)))
      | ((with_reducible apply stab_mk); (focus (exact rfl)); (focus (exact rfl)); (focus (exact rfl)); (focus (exact rfl)))
      | (intro c' hc; cases c' <;> first | (cases hc; done) | (try simp only [HC, inB_it, inB_if] at hc))
      | (intro hc; first | (cases hc; done) | (try simp only [HC, inB_it, inB_if] at hc))
      | fail)
    all_goals first | (exfalso; omega) | (refine ⟨?_, rfl⟩; rw [hv]; rfl)
  have hg := goodC_t hG
  have hsr : srt q := fun a b hab hb => sorted hG.ob hab hb
  cases hh : hasB q s with
  | false =>
    have hv : lostP kk mm l q s = (0, false) := by unfold lostP; rw [hg, hh]; rfl
    repeat' (first
      | ((with_reducible apply EvO.off); (focus (exact rfl)); (focus (exact rfl))) | ((with_reducible apply EvT.off); (focus (exact rfl)); (focus (exact rfl)))
      | ((first | ((with_reducible apply EvO.call (vs := ?_)); (focus (exact rfl)); (focus (exact rfl))) | ((with_reducible apply EvT.call (vs := ?_)); (focus (exact rfl)); (focus (exact rfl))) | (with_reducible apply Cal.hd (ms := []) (p := ?_)) | ((with_reducible refine EvO.c1 (a := ?_) (S' := ?_) ?_ ?_ ?_); rotate_left 2; (focus (exact rfl))) | ((with_reducible refine EvO.c0 (a := ?_) (S' := ?_) ?_ ?_); rotate_left 2) | ((with_reducible apply EvO.cons); (focus (exact rfl))) | ((with_reducible refine EvT.c1 (a := ?_) (S' := ?_) ?_ ?_ ?_ ?_); rotate_left 2; (focus (exact rfl)); (focus (exact rfl))) | ((with_reducible refine EvT.c0 (a := ?_) (S' := ?_) ?_ ?_ ?_); rotate_left 2; (focus (exact rfl))) | ((with_reducible apply EvT.cons); (focus (exact rfl)); (focus (exact rfl))) | ((with_reducible apply EvO.guard); (focus (exact rfl)); (focus (exact rfl))) | ((with_reducible apply EvT.guard); (focus (exact rfl)); (focus (exact rfl))) | ((with_reducible refine Ev.cond (t := ?_) ?_ ?_ ?_); rotate_left) | skip); (focus ((with_reducible refine Eq.trans ?_ rfl); simp (disch := first | (intros; contradiction) | (as_aux_lemma => omega) | (as_aux_lemma => (simp only [LEN2]; first | done | omega)) | (as_aux_lemma => (simp only [LEN]; first | done | omega))) only [EV, TT, w, w0, fz, FX_mark, FX_str, FX_el_Cell, FX_el_Object, FX_node, FX_el_Shard, hg, hh, Nat.reduceEqDiff, Nat.reduceBeqDiff, Nat.reduceAdd, Nat.reduceMul, Nat.reduceLeDiff, Nat.reduceLT, reduceCtorEq, Int.reduceEq, Int.reduceNeg, FIN, DP]; first | done | exact rfl)); try (focus (exact rfl)))
      | ((with_reducible apply CalH.mk); intro hd; first | exact c11 (hd := hd) (hl := by first | assumption | omega | with_reducible rfl) (hq := by first | assumption | omega | with_reducible rfl) (hcs := by first | assumption | omega | with_reducible rfl) (hns := by first | assumption | omega | with_reducible rfl) (hqs := by first | assumption | omega | with_reducible rfl)  (hk := by omega) | exact c36 (hd := hd) (hq := by first | assumption | omega | with_reducible rfl) (hs := by first | assumption | omega | with_reducible rfl)  (hk := by omega) | exact c51 (hd := hd) (hkk := by first | assumption | omega | with_reducible rfl) (hos := by first | assumption | omega | with_reducible rfl) (hl := by first | assumption | omega | with_reducible rfl) (hcs := by first | assumption | omega | with_reducible rfl) (hds := by first | assumption | omega | with_reducible rfl) (h12 := by first | assumption | omega | with_reducible rfl)  (hk := by omega))
      | (with_reducible (first | rintro r S' ⟨rfl, rfl⟩ | rintro r S' ⟨l', hl', rfl, rfl⟩); refine ⟨_, rfl, ?_⟩)
      | with_reducible refine Ev.seq ?_
      | ((with_reducible refine Ev.regionH ?_); intro H)
      | with_reducible refine EvO.nil ?_
      | ((with_reducible apply regH_k); (focus (exact KIs.mk rfl)); (focus ((with_reducible apply EnvIs.mk); simp only [SE, Nat.reduceEqDiff, Nat.reduceAdd, reduceCtorEq]; first | done | exact rfl)); clear H)
      | exact KIs.mk rfl
      | with_reducible first | refine Ev.skip ?_ | refine Ev.ret ?_ | refine Ev.exit ?_ | refine Ev.block ?_ | refine thenQ_n ?_ | refine thenQ_x ?_ | refine thenQ_r ?_ | refine blockQ_n ?_ | refine blockQ_r ?_ | refine blockQ_x0 ?_ | refine roundQ_x ?_ | refine roundQ_r ?_
      | ((with_reducible refine endQ_r (vs := ?_) (vs' := ?_) (S₂ := ?_) ?_ ?_ ?_); rotate_left 3)
      | ((with_reducible refine blockQ_x1 ?_ ?_); exact rfl)
      | ((with_reducible refine Ev.drawnH ?_ ?_); (focus kernel_rfl); intro H)
      | ((with_reducible refine EvT.nil ?_); refine ⟨drawn_mk (hs := [(1, 11), (3, 11)]) (by repeat' (first | exact trivial | refine ⟨.inl rfl, ?_⟩ | refine ⟨.inr rfl, ?_⟩ | (refine ⟨.inr ?_, ?_⟩; (focus (simp only [app_app, List.cons_append, List.nil_append, len_app, List.length_cons, List.length_nil, len_lit, Nat.zero_add, Nat.reduceAdd]; done))))) (by kernel_rfl) ?_, ?_⟩)
      | with_reducible exact List.forall_mem_nil _
      | with_reducible refine List.forall_mem_cons.2 ⟨?_, ?_⟩
      | ((with_reducible apply stab_off); (focus (exact rfl)); (focus (exact rfl)))
      | ((with_reducible apply stab_mk); (focus (exact rfl)); (focus (exact rfl)); (focus (exact rfl)); (focus (exact rfl)))
      | (intro c' hc; cases c' <;> first | (cases hc; done) | (try simp only [HC, inB_it, inB_if] at hc))
      | (intro hc; first | (cases hc; done) | (try simp only [HC, inB_it, inB_if] at hc))
      | fail)
    all_goals first | (exfalso; omega) | (refine ⟨?_, rfl⟩; rw [hv]; rfl)
  | true =>
    have hlq : posQ q s < q.length := Classical.byContradiction fun e => by rw [has_no e] at hh; cases hh
    have hli : (posQ q s : Int) < (q.length : Int) := by omega
    have hv : lostP kk mm l q s = (kk + mm - ((wholeL kk l q[posQ q s] (kk + mm).toNat).length : Int), true) := by unfold lostP; rw [hg, hh, List.getElem?_eq_getElem hlq]; rfl
    have hb := shp_bd2 hG.shape
    have hnd := hG.nodes
    have hob := hG.ob _ hlq
    have hos := hob.s
    have hon := hqs q[posQ q s] (by simp)
    have hcs2 : ∀ c ∈ l, c.length ≤ 60 := fun c hc => by
      obtain ⟨a, ha, rfl⟩ := List.getElem_of_mem hc
      exact hG.few a ha
    have hds : ∀ c ∈ l, ∀ x ∈ c, x.data.size ≤ 1048576 := fun c hc x hx => by
      obtain ⟨a, ha, rfl⟩ := List.getElem_of_mem hc
      obtain ⟨i, hi, rfl⟩ := List.getElem_of_mem hx
      have := (hG.ce a ha i hi).dt
      omega
    have hle := whole_le hG q[posQ q s]
    have hwl := whole_len hG q[posQ q s]
    have h12 : (intactL kk q[posQ q s] l).length ≤ 12 := by omega
    rw [← hwl] at hv
    repeat' (first
      | ((with_reducible apply EvO.off); (focus (exact rfl)); (focus (exact rfl))) | ((with_reducible apply EvT.off); (focus (exact rfl)); (focus (exact rfl)))
      | ((first | ((with_reducible apply EvO.call (vs := ?_)); (focus (exact rfl)); (focus (exact rfl))) | ((with_reducible apply EvT.call (vs := ?_)); (focus (exact rfl)); (focus (exact rfl))) | (with_reducible apply Cal.hd (ms := []) (p := ?_)) | ((with_reducible refine EvO.c1 (a := ?_) (S' := ?_) ?_ ?_ ?_); rotate_left 2; (focus (exact rfl))) | ((with_reducible refine EvO.c0 (a := ?_) (S' := ?_) ?_ ?_); rotate_left 2) | ((with_reducible apply EvO.cons); (focus (exact rfl))) | ((with_reducible refine EvT.c1 (a := ?_) (S' := ?_) ?_ ?_ ?_ ?_); rotate_left 2; (focus (exact rfl)); (focus (exact rfl))) | ((with_reducible refine EvT.c0 (a := ?_) (S' := ?_) ?_ ?_ ?_); rotate_left 2; (focus (exact rfl))) | ((with_reducible apply EvT.cons); (focus (exact rfl)); (focus (exact rfl))) | ((with_reducible apply EvO.guard); (focus (exact rfl)); (focus (exact rfl))) | ((with_reducible apply EvT.guard); (focus (exact rfl)); (focus (exact rfl))) | ((with_reducible refine Ev.cond (t := ?_) ?_ ?_ ?_); rotate_left) | skip); (focus ((with_reducible refine Eq.trans ?_ rfl); simp (disch := first | (intros; contradiction) | (as_aux_lemma => omega) | (as_aux_lemma => (simp only [LEN2]; first | done | omega)) | (as_aux_lemma => (simp only [LEN]; first | done | omega))) only [EV, TT, w, w0, fz, FX_mark, FX_str, FX_el_Cell, FX_el_Object, FX_node, FX_el_Shard, hg, hh, hli, Nat.reduceEqDiff, Nat.reduceBeqDiff, Nat.reduceAdd, Nat.reduceMul, Nat.reduceLeDiff, Nat.reduceLT, reduceCtorEq, Int.reduceEq, Int.reduceNeg, FIN, DP]; first | done | exact rfl)); try (focus (exact rfl)))
      | ((with_reducible apply CalH.mk); intro hd; first | exact c11 (hd := hd) (hl := by first | assumption | omega | with_reducible rfl) (hq := by first | assumption | omega | with_reducible rfl) (hcs := by first | assumption | omega | with_reducible rfl) (hns := by first | assumption | omega | with_reducible rfl) (hqs := by first | assumption | omega | with_reducible rfl)  (hk := by omega) | exact c36 (hd := hd) (hq := by first | assumption | omega | with_reducible rfl) (hs := by first | assumption | omega | with_reducible rfl)  (hk := by omega) | exact c51 (hd := hd) (hkk := by first | assumption | omega | with_reducible rfl) (hos := by first | assumption | omega | with_reducible rfl) (hl := by first | assumption | omega | with_reducible rfl) (hcs := by first | assumption | omega | with_reducible rfl) (hds := by first | assumption | omega | with_reducible rfl) (h12 := by first | assumption | omega | with_reducible rfl)  (hk := by omega))
      | (with_reducible (first | rintro r S' ⟨rfl, rfl⟩ | rintro r S' ⟨l', hl', rfl, rfl⟩); refine ⟨_, rfl, ?_⟩)
      | with_reducible refine Ev.seq ?_
      | ((with_reducible refine Ev.regionH ?_); intro H)
      | with_reducible refine EvO.nil ?_
      | ((with_reducible apply regH_k); (focus (exact KIs.mk rfl)); (focus ((with_reducible apply EnvIs.mk); simp only [SE, Nat.reduceEqDiff, Nat.reduceAdd, reduceCtorEq]; first | done | exact rfl)); clear H)
      | exact KIs.mk rfl
      | with_reducible first | refine Ev.skip ?_ | refine Ev.ret ?_ | refine Ev.exit ?_ | refine Ev.block ?_ | refine thenQ_n ?_ | refine thenQ_x ?_ | refine thenQ_r ?_ | refine blockQ_n ?_ | refine blockQ_r ?_ | refine blockQ_x0 ?_ | refine roundQ_x ?_ | refine roundQ_r ?_
      | ((with_reducible refine endQ_r (vs := ?_) (vs' := ?_) (S₂ := ?_) ?_ ?_ ?_); rotate_left 3)
      | ((with_reducible refine blockQ_x1 ?_ ?_); exact rfl)
      | ((with_reducible refine Ev.drawnH ?_ ?_); (focus kernel_rfl); intro H)
      | ((with_reducible refine EvT.nil ?_); refine ⟨drawn_mk (hs := [(1, 11), (3, 11)]) (by repeat' (first | exact trivial | refine ⟨.inl rfl, ?_⟩ | refine ⟨.inr rfl, ?_⟩ | (refine ⟨.inr ?_, ?_⟩; (focus (simp only [app_app, List.cons_append, List.nil_append, len_app, List.length_cons, List.length_nil, len_lit, Nat.zero_add, Nat.reduceAdd]; done))))) (by kernel_rfl) ?_, ?_⟩)
      | with_reducible exact List.forall_mem_nil _
      | with_reducible refine List.forall_mem_cons.2 ⟨?_, ?_⟩
      | ((with_reducible apply stab_off); (focus (exact rfl)); (focus (exact rfl)))
      | ((with_reducible apply stab_mk); (focus (exact rfl)); (focus (exact rfl)); (focus (exact rfl)); (focus (exact rfl)))
      | (intro c' hc; cases c' <;> first | (cases hc; done) | (try simp only [HC, inB_it, inB_if] at hc))
      | (intro hc; first | (cases hc; done) | (try simp only [HC, inB_it, inB_if] at hc))
      | fail)
    all_goals first | (exfalso; omega) | (refine ⟨?_, rfl⟩; rw [hv]; rfl)
end Go.Proofs.YtdpaijnbikclgaaDoorB

/- Part of the evaluator's contracts: lost2. -/
import Derived.Test.YtdpaijnbikclgaaDoorFlost1
import Derived.Test.YtdpaijnbikclgaaDoorFplace
namespace Go.Proofs.YtdpaijnbikclgaaDoorB
open Go Go.Proofs.YtdpaijnbikclgaaDoorE
set_option linter.unusedVariables false
set_option linter.unusedSectionVars false
set_option linter.unusedSimpArgs false
set_option maxHeartbeats 4000000
set_option maxRecDepth 20000
theorem plc_bd (s : ByteArray) (no n : Int) (h0 : 0 ≤ no) (hn : 1 ≤ n) : 0 ≤ plc s no n ∧ plc s no n < n := by
  have := accB_le s no s.size
  unfold plc
  exact ⟨Int.emod_nonneg _ (by omega), Int.emod_lt_of_pos _ (by omega)⟩
structure MatchP (kk : Int) (o : Object) (x : Cell) : Prop where
  nm : (x.name.toList == o.name.toList) = true
  sz : (x.data.size : Int) = (o.size + kk - 1) / kk
  sm : sumS x.data = x.sum
open Classical in
noncomputable def pickI (kk : Int) (o : Object) (x : Cell) : Option Shard := if MatchP kk o x then some ⟨x.no, x.data⟩ else none
open Classical in
noncomputable def pickS (kk : Int) (o : Object) (b : Nat) (x : Cell) : Option Shard := if MatchP kk o x ∧ x.no = (b : Int) then some ⟨x.no, x.data⟩ else none
theorem fm_step {α β : Type} (f : α → Option β) (l : List α) {i : Nat} (h : i < l.length) : (l.take (i + 1)).filterMap f = (l.take i).filterMap f ++ (f l[i]).toList := by
  rw [List.take_add_one, List.filterMap_append, List.getElem?_eq_getElem h]
  cases hf : f l[i] <;> simp [hf]
noncomputable def nodeSh (kk : Int) (l : List (List Cell)) (o : Object) (b : Nat) : List Shard := (l.getD (plc o.name (b : Int) l.length).toNat []).filterMap (pickS kk o b)
noncomputable def wholeL (kk : Int) (l : List (List Cell)) (o : Object) (n : Nat) : List Shard := (List.range n).flatMap (nodeSh kk l o)
theorem wholeL_s (kk : Int) (l : List (List Cell)) (o : Object) (n : Nat) : wholeL kk l o (n + 1) = wholeL kk l o n ++ nodeSh kk l o n := by simp [wholeL, List.range_succ]
theorem sh_app (a b : List Shard) : a.map Shard.c ++ b.map Shard.c = (a ++ b).map Shard.c := by simp
theorem k50_4 (e : Env) : lpE (FI.K ⟨[], false, [(4, [2, 3, 5, 6, 7]), (7, [2, 3, 5, 6, 7, 39, 40, 41]), (1000, [2, 3]), (1001, [2, 3, 5]), (1002, [2, 3, 5, 6]), (1003, [2, 3, 5, 6, 7]), (1004, [2, 3, 5, 6, 7, 25]), (1005, [2, 3, 5, 6, 7]), (1006, [2, 3, 5, 6, 7, 39, 40, 41]), (1007, [2, 3, 5, 6, 7, 39, 40, 41, 42]), (1008, [2, 3, 5, 6, 7, 9, 39, 40, 41]), (1009, [2, 3, 5, 6, 7, 9, 39, 40, 41, 70]), (1010, [2, 3, 5, 6, 7, 39, 40, 41]), (1011, [2, 3, 5, 6, 7, 39, 40, 41]), (1012, [4])]⟩ 4) e = mkE [(2, e 2), (3, e 3), (5, e 5), (6, e 6), (7, e 7)] := rfl
theorem k50_7 (e : Env) : lpE (FI.K ⟨[], false, [(4, [2, 3, 5, 6, 7]), (7, [2, 3, 5, 6, 7, 39, 40, 41]), (1000, [2, 3]), (1001, [2, 3, 5]), (1002, [2, 3, 5, 6]), (1003, [2, 3, 5, 6, 7]), (1004, [2, 3, 5, 6, 7, 25]), (1005, [2, 3, 5, 6, 7]), (1006, [2, 3, 5, 6, 7, 39, 40, 41]), (1007, [2, 3, 5, 6, 7, 39, 40, 41, 42]), (1008, [2, 3, 5, 6, 7, 9, 39, 40, 41]), (1009, [2, 3, 5, 6, 7, 9, 39, 40, 41, 70]), (1010, [2, 3, 5, 6, 7, 39, 40, 41]), (1011, [2, 3, 5, 6, 7, 39, 40, 41]), (1012, [4])]⟩ 7) e = mkE [(2, e 2), (3, e 3), (5, e 5), (6, e 6), (7, e 7), (39, e 39), (40, e 40), (41, e 41)] := rfl
theorem c50 {k : Nat} {md : Md} {S : Store} {vs : List A} {D : List Nat} {kk mm : Int} {l : List (List Cell)} {q : List Object} {o : Object} (hd : dpArgs S [] vs = some ([.ag [(.v (.int .i64 (kk))), (.v (.int .i64 (mm))), .ro 1 (l.map nodeC), .ro 2 (q.map Object.c)], .ag [(.v (.string (o.name))), (.v (.int .i64 (o.size)))]], D)) (hkk : 1 ≤ kk ∧ kk ≤ 8) (hmm : 1 ≤ mm ∧ mm ≤ 6) (hos : 0 ≤ o.size ∧ o.size ≤ 60) (hon : o.name.size ≤ 1048576) (hl : 1 ≤ l.length ∧ l.length ≤ 12) (hcs : ∀ c ∈ l, c.length ≤ 60) (hds : ∀ c ∈ l, ∀ x ∈ c, x.data.size ≤ 1048576) (hk : 2 ≤ k) :
    Cal (run k) md 50 vs S (fun r S' => r = .sl S.length 0 (wholeL kk l o (kk + mm).toNat).length (wholeL kk l o (kk + mm).toNat).length ∧ S' = S ++ [⟨2, (wholeL kk l o (kk + mm).toNat).map Shard.c, 0, false⟩]) := by
  obtain ⟨k, rfl⟩ : ∃ j, k = j + 1 := ⟨k - 1, by omega⟩
  refine Cal.fn (n := 80) (rs := [.tmp 4]) (ids := []) (D := D) (Xof_none rfl) g50 (by delta Tryd.f50; exact rfl) (by delta Tryd.f50; exact rfl) (by delta Tryd.f50; exact rfl) hd (by first | rfl | simp [idsV, idsC]) (by simp) (by simp) ?_
  intro md' ow; have w := ow.w; have w0 := ow.w0; have fz : md'.fz = false := ow.fz
  have hq0 : 0 ≤ (o.size + kk - 1) / kk ∧ (o.size + kk - 1) / kk ≤ 1048576 := by
    refine ⟨Int.ediv_nonneg (by omega) (by omega), ?_⟩
    have := Int.ediv_le_self (a := o.size + kk - 1) kk (by omega)
    omega
  repeat' (first
    | ((with_reducible apply EvO.off); (focus (exact rfl)); (focus (exact rfl))) | ((with_reducible apply EvT.off); (focus (exact rfl)); (focus (exact rfl)))
    | ((first | ((with_reducible apply EvO.call (vs := ?_)); (focus (exact rfl)); (focus (exact rfl))) | ((with_reducible apply EvT.call (vs := ?_)); (focus (exact rfl)); (focus (exact rfl))) | (with_reducible apply Cal.hd (ms := []) (p := ?_)) | ((with_reducible refine EvO.c1 (a := ?_) (S' := ?_) ?_ ?_ ?_); rotate_left 2; (focus (exact rfl))) | ((with_reducible refine EvO.c0 (a := ?_) (S' := ?_) ?_ ?_); rotate_left 2) | ((with_reducible apply EvO.cons); (focus (exact rfl))) | ((with_reducible refine EvT.c1 (a := ?_) (S' := ?_) ?_ ?_ ?_ ?_); rotate_left 2; (focus (exact rfl)); (focus (exact rfl))) | ((with_reducible refine EvT.c0 (a := ?_) (S' := ?_) ?_ ?_ ?_); rotate_left 2; (focus (exact rfl))) | ((with_reducible apply EvT.cons); (focus (exact rfl)); (focus (exact rfl))) | ((with_reducible apply EvO.guard); (focus (exact rfl)); (focus (exact rfl))) | ((with_reducible apply EvT.guard); (focus (exact rfl)); (focus (exact rfl))) | ((with_reducible refine Ev.cond (t := ?_) ?_ ?_ ?_); rotate_left) | skip); (focus ((with_reducible refine Eq.trans ?_ rfl); simp (disch := first | (intros; contradiction) | (as_aux_lemma => omega) | (as_aux_lemma => (simp only [LEN2]; first | done | omega)) | (as_aux_lemma => (simp only [LEN]; first | done | omega))) only [EV, TT, w, w0, fz, FX_mark, FX_str, FX_el_Cell, FX_el_Object, FX_node, FX_el_Shard, Nat.reduceEqDiff, Nat.reduceBeqDiff, Nat.reduceAdd, Nat.reduceMul, Nat.reduceLeDiff, Nat.reduceLT, reduceCtorEq, Int.reduceEq, Int.reduceNeg, FIN, DP]; first | done | exact rfl)); try (focus (exact rfl)))
    | ((with_reducible apply CalH.mk); intro hd; first | exact c29 (hd := hd) (hs := by first | assumption | omega | with_reducible rfl) (hno := by first | assumption | omega | with_reducible rfl) (hn := by first | assumption | omega | with_reducible rfl)  (hk := by omega) | exact c71 (hd := hd) (hs := by first | assumption | omega | with_reducible rfl)  (hk := by omega))
    | (with_reducible (first | rintro r S' ⟨rfl, rfl⟩); refine ⟨_, rfl, ?_⟩)
    | with_reducible refine Ev.seq ?_
    | ((with_reducible refine Ev.regionH ?_); intro H)
    | with_reducible refine EvO.nil ?_
    | ((with_reducible apply regH_k); (focus (exact KIs.mk rfl)); (focus ((with_reducible apply EnvIs.mk); simp only [SE, Nat.reduceEqDiff, Nat.reduceAdd, reduceCtorEq]; first | done | exact rfl)); clear H)
    | exact KIs.mk rfl
    | with_reducible first | refine Ev.skip ?_ | refine Ev.ret ?_ | refine Ev.exit ?_ | refine Ev.block ?_ | refine thenQ_n ?_ | refine thenQ_x ?_ | refine thenQ_r ?_ | refine blockQ_n ?_ | refine blockQ_r ?_ | refine blockQ_x0 ?_ | refine roundQ_x ?_ | refine roundQ_r ?_
    | ((with_reducible refine endQ_r (vs := ?_) (vs' := ?_) (S₂ := ?_) ?_ ?_ ?_); rotate_left 3)
    | ((with_reducible refine blockQ_x1 ?_ ?_); exact rfl)
    | ((with_reducible refine Ev.drawnH ?_ ?_); (focus kernel_rfl); intro H)
    | ((with_reducible refine EvT.nil ?_); refine ⟨drawn_mkN 14 rfl (hs := [(1, 8)]) (by repeat' (first | exact trivial | refine ⟨.inl rfl, ?_⟩ | refine ⟨.inr rfl, ?_⟩ | (refine ⟨.inr ?_, ?_⟩; (focus (simp only [app_app, List.cons_append, List.nil_append, len_app, List.length_cons, List.length_nil, len_lit, Nat.zero_add, Nat.reduceAdd]; done))))) (by kernel_rfl) ?_, ?_⟩)
    | ((with_reducible refine EvT.nil ?_); refine ⟨drawn_mkN 26 rfl (hs := [(23, 21)]) (by repeat' (first | exact trivial | refine ⟨.inl rfl, ?_⟩ | refine ⟨.inr rfl, ?_⟩ | (refine ⟨.inr ?_, ?_⟩; (focus (simp only [app_app, List.cons_append, List.nil_append, len_app, List.length_cons, List.length_nil, len_lit, Nat.zero_add, Nat.reduceAdd]; done))))) (by kernel_rfl) ?_, ?_⟩)
    | with_reducible exact List.forall_mem_nil _
    | with_reducible refine List.forall_mem_cons.2 ⟨?_, ?_⟩
    | ((with_reducible apply stab_off); (focus (exact rfl)); (focus (exact rfl)))
    | ((with_reducible apply stab_mk); (focus (exact rfl)); (focus (exact rfl)); (focus (exact rfl)); (focus (exact rfl)))
    | (intro c' hc; cases c' <;> first | (cases hc; done) | (try simp only [HC, inB_it, inB_if] at hc))
    | (intro hc; first | (cases hc; done) | (try simp only [HC, inB_it, inB_if] at hc))
    | fail)
  apply Ev.loop (fun j e S' => ∃ b : Nat, ∃ w0_ : Nat, e = mkE [(2, .pt S.length 0 0 1), (3, .pt (S.length + 1) 0 0 1), (5, (.v (.int .i64 ((o.size + kk - 1) / kk)))), (6, .sl (S.length + 3) 0 w0_ w0_), (7, (.v (.int .i64 ((b : Int)))))] ∧ S' = S ++ [⟨4, [[(.v (.int .i64 (kk))), (.v (.int .i64 (mm))), .ro 1 (l.map nodeC), .ro 2 (q.map Object.c)]], 0, true⟩, ⟨2, [[(.v (.string (o.name))), (.v (.int .i64 (o.size)))]], 0, true⟩, ⟨2, [], 0, false⟩, ⟨2, (wholeL kk l o b).map Shard.c, 0, false⟩] ∧ j = (kk + mm).toNat - b ∧ ((b : Int) ≤ kk + mm) ∧ (w0_ = (wholeL kk l o b).length) ∧ ((wholeL kk l o b).length ≤ 60 * b))
  · exact ⟨0, 0, (k50_4 _).trans (by simp (disch := first | (intros; contradiction) | (as_aux_lemma => omega) | (as_aux_lemma => (simp only [LEN2]; first | done | omega)) | (as_aux_lemma => (simp only [LEN]; first | done | omega))) only [EV, TT, w, w0, fz, FX_mark, FX_str, FX_el_Cell, FX_el_Object, FX_node, FX_el_Shard, Nat.reduceEqDiff, Nat.reduceBeqDiff, Nat.reduceAdd, Nat.reduceMul, Nat.reduceLeDiff, Nat.reduceLT, reduceCtorEq, Int.reduceEq, Int.reduceNeg]; first | done | rfl | (congr <;> omega)), (by first | rfl | (simp only [app_app, List.cons_append, List.nil_append]; done)), rfl, (by omega), (by (simp [wholeL])), (by (simp [wholeL]))⟩
  rintro j e S' ⟨b, w0_, rfl, rfl, hj, hb, hw, hlen⟩
  by_cases hlb : (b : Int) < kk + mm
  rotate_left
  · obtain rfl : b = (kk + mm).toNat := by omega
    subst hw
    repeat' (first
      | ((with_reducible apply EvO.off); (focus (exact rfl)); (focus (exact rfl))) | ((with_reducible apply EvT.off); (focus (exact rfl)); (focus (exact rfl)))
      | ((first | ((with_reducible apply EvO.call (vs := ?_)); (focus (exact rfl)); (focus (exact rfl))) | ((with_reducible apply EvT.call (vs := ?_)); (focus (exact rfl)); (focus (exact rfl))) | (with_reducible apply Cal.hd (ms := []) (p := ?_)) | ((with_reducible refine EvO.c1 (a := ?_) (S' := ?_) ?_ ?_ ?_); rotate_left 2; (focus (exact rfl))) | ((with_reducible refine EvO.c0 (a := ?_) (S' := ?_) ?_ ?_); rotate_left 2) | ((with_reducible apply EvO.cons); (focus (exact rfl))) | ((with_reducible refine EvT.c1 (a := ?_) (S' := ?_) ?_ ?_ ?_ ?_); rotate_left 2; (focus (exact rfl)); (focus (exact rfl))) | ((with_reducible refine EvT.c0 (a := ?_) (S' := ?_) ?_ ?_ ?_); rotate_left 2; (focus (exact rfl))) | ((with_reducible apply EvT.cons); (focus (exact rfl)); (focus (exact rfl))) | ((with_reducible apply EvO.guard); (focus (exact rfl)); (focus (exact rfl))) | ((with_reducible apply EvT.guard); (focus (exact rfl)); (focus (exact rfl))) | ((with_reducible refine Ev.cond (t := ?_) ?_ ?_ ?_); rotate_left) | skip); (focus ((with_reducible refine Eq.trans ?_ rfl); simp (disch := first | (intros; contradiction) | (as_aux_lemma => omega) | (as_aux_lemma => (simp only [LEN2]; first | done | omega)) | (as_aux_lemma => (simp only [LEN]; first | done | omega))) only [EV, TT, w, w0, fz, FX_mark, FX_str, FX_el_Cell, FX_el_Object, FX_node, FX_el_Shard, hlb, Nat.reduceEqDiff, Nat.reduceBeqDiff, Nat.reduceAdd, Nat.reduceMul, Nat.reduceLeDiff, Nat.reduceLT, reduceCtorEq, Int.reduceEq, Int.reduceNeg, FIN, DP]; first | done | exact rfl)); try (focus (exact rfl)))
      | ((with_reducible apply CalH.mk); intro hd; first | exact c29 (hd := hd) (hs := by first | assumption | omega | with_reducible rfl) (hno := by first | assumption | omega | with_reducible rfl) (hn := by first | assumption | omega | with_reducible rfl)  (hk := by omega) | exact c71 (hd := hd) (hs := by first | assumption | omega | with_reducible rfl)  (hk := by omega))
      | (with_reducible (first | rintro r S' ⟨rfl, rfl⟩); refine ⟨_, rfl, ?_⟩)
      | with_reducible refine Ev.seq ?_
      | ((with_reducible refine Ev.regionH ?_); intro H)
      | with_reducible refine EvO.nil ?_
      | ((with_reducible apply regH_k); (focus (exact KIs.mk rfl)); (focus ((with_reducible apply EnvIs.mk); simp only [SE, Nat.reduceEqDiff, Nat.reduceAdd, reduceCtorEq]; first | done | exact rfl)); clear H)
      | exact KIs.mk rfl
      | with_reducible first | refine Ev.skip ?_ | refine Ev.ret ?_ | refine Ev.exit ?_ | refine Ev.block ?_ | refine thenQ_n ?_ | refine thenQ_x ?_ | refine thenQ_r ?_ | refine blockQ_n ?_ | refine blockQ_r ?_ | refine blockQ_x0 ?_ | refine roundQ_x ?_ | refine roundQ_r ?_
      | ((with_reducible refine endQ_r (vs := ?_) (vs' := ?_) (S₂ := ?_) ?_ ?_ ?_); rotate_left 3)
      | ((with_reducible refine blockQ_x1 ?_ ?_); exact rfl)
      | ((with_reducible refine Ev.drawnH ?_ ?_); (focus kernel_rfl); intro H)
      | ((with_reducible refine EvT.nil ?_); refine ⟨drawn_mkN 14 rfl (hs := [(1, 8)]) (by repeat' (first | exact trivial | refine ⟨.inl rfl, ?_⟩ | refine ⟨.inr rfl, ?_⟩ | (refine ⟨.inr ?_, ?_⟩; (focus (simp only [app_app, List.cons_append, List.nil_append, len_app, List.length_cons, List.length_nil, len_lit, Nat.zero_add, Nat.reduceAdd]; done))))) (by kernel_rfl) ?_, ?_⟩)
      | ((with_reducible refine EvT.nil ?_); refine ⟨drawn_mkN 26 rfl (hs := [(23, 21)]) (by repeat' (first | exact trivial | refine ⟨.inl rfl, ?_⟩ | refine ⟨.inr rfl, ?_⟩ | (refine ⟨.inr ?_, ?_⟩; (focus (simp only [app_app, List.cons_append, List.nil_append, len_app, List.length_cons, List.length_nil, len_lit, Nat.zero_add, Nat.reduceAdd]; done))))) (by kernel_rfl) ?_, ?_⟩)
      | with_reducible exact List.forall_mem_nil _
      | with_reducible refine List.forall_mem_cons.2 ⟨?_, ?_⟩
      | ((with_reducible apply stab_off); (focus (exact rfl)); (focus (exact rfl)))
      | ((with_reducible apply stab_mk); (focus (exact rfl)); (focus (exact rfl)); (focus (exact rfl)); (focus (exact rfl)))
      | (intro c' hc; cases c' <;> first | (cases hc; done) | (try simp only [HC, inB_it, inB_if] at hc))
      | (intro hc; first | (cases hc; done) | (try simp only [HC, inB_it, inB_if] at hc))
      | fail)
    all_goals exact ⟨rfl, rfl⟩
  subst hw
  have hpb := plc_bd o.name (b : Int) (l.length : Int) (by omega) (by omega)
  obtain ⟨p, hp⟩ : ∃ p : Nat, plc o.name (b : Int) (l.length : Int) = (p : Int) := ⟨(plc o.name (b : Int) (l.length : Int)).toNat, by omega⟩
  have hpl : p < l.length := by omega
  have hc1 := hcs l[p] (by simp)
  have hd1 := hds l[p] (by simp)
  have hnode : nodeSh kk l o b = l[p].filterMap (pickS kk o b) := by
    unfold nodeSh; rw [hp, Int.toNat_natCast, List.getD_eq_getElem?_getD, List.getElem?_eq_getElem hpl]; rfl
  have hws := wholeL_s kk l o b
  rw [hnode] at hws
  generalize hW : wholeL kk l o b = W at *
  repeat' (first
    | ((with_reducible apply EvO.off); (focus (exact rfl)); (focus (exact rfl))) | ((with_reducible apply EvT.off); (focus (exact rfl)); (focus (exact rfl)))
    | ((first | ((with_reducible apply EvO.call (vs := ?_)); (focus (exact rfl)); (focus (exact rfl))) | ((with_reducible apply EvT.call (vs := ?_)); (focus (exact rfl)); (focus (exact rfl))) | (with_reducible apply Cal.hd (ms := []) (p := ?_)) | ((with_reducible refine EvO.c1 (a := ?_) (S' := ?_) ?_ ?_ ?_); rotate_left 2; (focus (exact rfl))) | ((with_reducible refine EvO.c0 (a := ?_) (S' := ?_) ?_ ?_); rotate_left 2) | ((with_reducible apply EvO.cons); (focus (exact rfl))) | ((with_reducible refine EvT.c1 (a := ?_) (S' := ?_) ?_ ?_ ?_ ?_); rotate_left 2; (focus (exact rfl)); (focus (exact rfl))) | ((with_reducible refine EvT.c0 (a := ?_) (S' := ?_) ?_ ?_ ?_); rotate_left 2; (focus (exact rfl))) | ((with_reducible apply EvT.cons); (focus (exact rfl)); (focus (exact rfl))) | ((with_reducible apply EvO.guard); (focus (exact rfl)); (focus (exact rfl))) | ((with_reducible apply EvT.guard); (focus (exact rfl)); (focus (exact rfl))) | ((with_reducible refine Ev.cond (t := ?_) ?_ ?_ ?_); rotate_left) | skip); (focus ((with_reducible refine Eq.trans ?_ rfl); simp (disch := first | (intros; contradiction) | (as_aux_lemma => omega) | (as_aux_lemma => (simp only [LEN2]; first | done | omega)) | (as_aux_lemma => (simp only [LEN]; first | done | omega))) only [EV, TT, w, w0, fz, FX_mark, FX_str, FX_el_Cell, FX_el_Object, FX_node, FX_el_Shard, hlb, hp, Nat.reduceEqDiff, Nat.reduceBeqDiff, Nat.reduceAdd, Nat.reduceMul, Nat.reduceLeDiff, Nat.reduceLT, reduceCtorEq, Int.reduceEq, Int.reduceNeg, FIN, DP]; first | done | exact rfl)); try (focus (exact rfl)))
    | ((with_reducible apply CalH.mk); intro hd; first | exact c29 (hd := hd) (hs := by first | assumption | omega | with_reducible rfl) (hno := by first | assumption | omega | with_reducible rfl) (hn := by first | assumption | omega | with_reducible rfl)  (hk := by omega) | exact c71 (hd := hd) (hs := by first | assumption | omega | with_reducible rfl)  (hk := by omega))
    | (with_reducible (first | rintro r S' ⟨rfl, rfl⟩); refine ⟨_, rfl, ?_⟩)
    | with_reducible refine Ev.seq ?_
    | ((with_reducible refine Ev.regionH ?_); intro H)
    | with_reducible refine EvO.nil ?_
    | ((with_reducible apply regH_k); (focus (exact KIs.mk rfl)); (focus ((with_reducible apply EnvIs.mk); simp only [SE, Nat.reduceEqDiff, Nat.reduceAdd, reduceCtorEq]; first | done | exact rfl)); clear H)
    | exact KIs.mk rfl
    | with_reducible first | refine Ev.skip ?_ | refine Ev.ret ?_ | refine Ev.exit ?_ | refine Ev.block ?_ | refine thenQ_n ?_ | refine thenQ_x ?_ | refine thenQ_r ?_ | refine blockQ_n ?_ | refine blockQ_r ?_ | refine blockQ_x0 ?_ | refine roundQ_x ?_ | refine roundQ_r ?_
    | ((with_reducible refine endQ_r (vs := ?_) (vs' := ?_) (S₂ := ?_) ?_ ?_ ?_); rotate_left 3)
    | ((with_reducible refine blockQ_x1 ?_ ?_); exact rfl)
    | ((with_reducible refine Ev.drawnH ?_ ?_); (focus kernel_rfl); intro H)
    | ((with_reducible refine EvT.nil ?_); refine ⟨drawn_mkN 14 rfl (hs := [(1, 8)]) (by repeat' (first | exact trivial | refine ⟨.inl rfl, ?_⟩ | refine ⟨.inr rfl, ?_⟩ | (refine ⟨.inr ?_, ?_⟩; (focus (simp only [app_app, List.cons_append, List.nil_append, len_app, List.length_cons, List.length_nil, len_lit, Nat.zero_add, Nat.reduceAdd]; done))))) (by kernel_rfl) ?_, ?_⟩)
    | ((with_reducible refine EvT.nil ?_); refine ⟨drawn_mkN 26 rfl (hs := [(23, 21)]) (by repeat' (first | exact trivial | refine ⟨.inl rfl, ?_⟩ | refine ⟨.inr rfl, ?_⟩ | (refine ⟨.inr ?_, ?_⟩; (focus (simp only [app_app, List.cons_append, List.nil_append, len_app, List.length_cons, List.length_nil, len_lit, Nat.zero_add, Nat.reduceAdd]; done))))) (by kernel_rfl) ?_, ?_⟩)
    | with_reducible exact List.forall_mem_nil _
    | with_reducible refine List.forall_mem_cons.2 ⟨?_, ?_⟩
    | ((with_reducible apply stab_off); (focus (exact rfl)); (focus (exact rfl)))
    | ((with_reducible apply stab_mk); (focus (exact rfl)); (focus (exact rfl)); (focus (exact rfl)); (focus (exact rfl)))
    | (intro c' hc; cases c' <;> first | (cases hc; done) | (try simp only [HC, inB_it, inB_if] at hc))
    | (intro hc; first | (cases hc; done) | (try simp only [HC, inB_it, inB_if] at hc))
    | fail)
  all_goals first | (exfalso; omega) | skip
  apply Ev.loop (fun j e S' => ∃ i : Nat, ∃ acc : List Shard, e = mkE [(2, .pt S.length 0 0 1), (3, .pt (S.length + 1) 0 0 1), (5, (.v (.int .i64 ((o.size + kk - 1) / kk)))), (6, .sl (S.length + 3) 0 acc.length acc.length), (7, (.v (.int .i64 ((b : Int))))), (39, .ro 4 (l[p].map Cell.c)), (40, (.v (.int .i64 ((l[p].length : Int))))), (41, (.v (.int .i64 ((i : Int)))))] ∧ S' = S ++ [⟨4, [[(.v (.int .i64 (kk))), (.v (.int .i64 (mm))), .ro 1 (l.map nodeC), .ro 2 (q.map Object.c)]], 0, true⟩, ⟨2, [[(.v (.string (o.name))), (.v (.int .i64 (o.size)))]], 0, true⟩, ⟨2, [], 0, false⟩, ⟨2, acc.map Shard.c, 0, false⟩] ∧ j = l[p].length - i ∧ (i ≤ l[p].length) ∧ (acc = W ++ (l[p].take i).filterMap (pickS kk o b)) ∧ (acc.length ≤ 60 * b + i))
  · exact ⟨0, W, (k50_7 _).trans (by simp (disch := first | (intros; contradiction) | (as_aux_lemma => omega) | (as_aux_lemma => (simp only [LEN2]; first | done | omega)) | (as_aux_lemma => (simp only [LEN]; first | done | omega))) only [EV, TT, w, w0, fz, FX_mark, FX_str, FX_el_Cell, FX_el_Object, FX_node, FX_el_Shard, Nat.reduceEqDiff, Nat.reduceBeqDiff, Nat.reduceAdd, Nat.reduceMul, Nat.reduceLeDiff, Nat.reduceLT, reduceCtorEq, Int.reduceEq, Int.reduceNeg]; first | done | rfl | (congr <;> omega)), (by first | rfl | (simp only [app_app, List.cons_append, List.nil_append]; done)), rfl, (by omega), (by (simp)), (by omega)⟩
  rintro j e S' ⟨i, acc, rfl, rfl, hj, hi, hA, hAl⟩
  by_cases hli2 : (i : Int) < (l[p].length : Int)
  rotate_left
  · obtain rfl : i = l[p].length := by omega
    rw [List.take_length, ← hws] at hA
    subst hA
    repeat' (first
      | ((with_reducible apply EvO.off); (focus (exact rfl)); (focus (exact rfl))) | ((with_reducible apply EvT.off); (focus (exact rfl)); (focus (exact rfl)))
      | ((first | ((with_reducible apply EvO.call (vs := ?_)); (focus (exact rfl)); (focus (exact rfl))) | ((with_reducible apply EvT.call (vs := ?_)); (focus (exact rfl)); (focus (exact rfl))) | (with_reducible apply Cal.hd (ms := []) (p := ?_)) | ((with_reducible refine EvO.c1 (a := ?_) (S' := ?_) ?_ ?_ ?_); rotate_left 2; (focus (exact rfl))) | ((with_reducible refine EvO.c0 (a := ?_) (S' := ?_) ?_ ?_); rotate_left 2) | ((with_reducible apply EvO.cons); (focus (exact rfl))) | ((with_reducible refine EvT.c1 (a := ?_) (S' := ?_) ?_ ?_ ?_ ?_); rotate_left 2; (focus (exact rfl)); (focus (exact rfl))) | ((with_reducible refine EvT.c0 (a := ?_) (S' := ?_) ?_ ?_ ?_); rotate_left 2; (focus (exact rfl))) | ((with_reducible apply EvT.cons); (focus (exact rfl)); (focus (exact rfl))) | ((with_reducible apply EvO.guard); (focus (exact rfl)); (focus (exact rfl))) | ((with_reducible apply EvT.guard); (focus (exact rfl)); (focus (exact rfl))) | ((with_reducible refine Ev.cond (t := ?_) ?_ ?_ ?_); rotate_left) | skip); (focus ((with_reducible refine Eq.trans ?_ rfl); simp (disch := first | (intros; contradiction) | (as_aux_lemma => omega) | (as_aux_lemma => (simp only [LEN2]; first | done | omega)) | (as_aux_lemma => (simp only [LEN]; first | done | omega))) only [EV, TT, w, w0, fz, FX_mark, FX_str, FX_el_Cell, FX_el_Object, FX_node, FX_el_Shard, hli2, Nat.reduceEqDiff, Nat.reduceBeqDiff, Nat.reduceAdd, Nat.reduceMul, Nat.reduceLeDiff, Nat.reduceLT, reduceCtorEq, Int.reduceEq, Int.reduceNeg, FIN, DP]; first | done | exact rfl)); try (focus (exact rfl)))
      | ((with_reducible apply CalH.mk); intro hd; first | exact c29 (hd := hd) (hs := by first | assumption | omega | with_reducible rfl) (hno := by first | assumption | omega | with_reducible rfl) (hn := by first | assumption | omega | with_reducible rfl)  (hk := by omega) | exact c71 (hd := hd) (hs := by first | assumption | omega | with_reducible rfl)  (hk := by omega))
      | (with_reducible (first | rintro r S' ⟨rfl, rfl⟩); refine ⟨_, rfl, ?_⟩)
      | with_reducible refine Ev.seq ?_
      | ((with_reducible refine Ev.regionH ?_); intro H)
      | with_reducible refine EvO.nil ?_
      | ((with_reducible apply regH_k); (focus (exact KIs.mk rfl)); (focus ((with_reducible apply EnvIs.mk); simp only [SE, Nat.reduceEqDiff, Nat.reduceAdd, reduceCtorEq]; first | done | exact rfl)); clear H)
      | exact KIs.mk rfl
      | with_reducible first | refine Ev.skip ?_ | refine Ev.ret ?_ | refine Ev.exit ?_ | refine Ev.block ?_ | refine thenQ_n ?_ | refine thenQ_x ?_ | refine thenQ_r ?_ | refine blockQ_n ?_ | refine blockQ_r ?_ | refine blockQ_x0 ?_ | refine roundQ_x ?_ | refine roundQ_r ?_
      | ((with_reducible refine endQ_r (vs := ?_) (vs' := ?_) (S₂ := ?_) ?_ ?_ ?_); rotate_left 3)
      | ((with_reducible refine blockQ_x1 ?_ ?_); exact rfl)
      | ((with_reducible refine Ev.drawnH ?_ ?_); (focus kernel_rfl); intro H)
      | ((with_reducible refine EvT.nil ?_); refine ⟨drawn_mkN 14 rfl (hs := [(1, 8)]) (by repeat' (first | exact trivial | refine ⟨.inl rfl, ?_⟩ | refine ⟨.inr rfl, ?_⟩ | (refine ⟨.inr ?_, ?_⟩; (focus (simp only [app_app, List.cons_append, List.nil_append, len_app, List.length_cons, List.length_nil, len_lit, Nat.zero_add, Nat.reduceAdd]; done))))) (by kernel_rfl) ?_, ?_⟩)
      | ((with_reducible refine EvT.nil ?_); refine ⟨drawn_mkN 26 rfl (hs := [(23, 21)]) (by repeat' (first | exact trivial | refine ⟨.inl rfl, ?_⟩ | refine ⟨.inr rfl, ?_⟩ | (refine ⟨.inr ?_, ?_⟩; (focus (simp only [app_app, List.cons_append, List.nil_append, len_app, List.length_cons, List.length_nil, len_lit, Nat.zero_add, Nat.reduceAdd]; done))))) (by kernel_rfl) ?_, ?_⟩)
      | with_reducible exact List.forall_mem_nil _
      | with_reducible refine List.forall_mem_cons.2 ⟨?_, ?_⟩
      | ((with_reducible apply stab_off); (focus (exact rfl)); (focus (exact rfl)))
      | ((with_reducible apply stab_mk); (focus (exact rfl)); (focus (exact rfl)); (focus (exact rfl)); (focus (exact rfl)))
      | (intro c' hc; cases c' <;> first | (cases hc; done) | (try simp only [HC, inB_it, inB_if] at hc))
      | (intro hc; first | (cases hc; done) | (try simp only [HC, inB_it, inB_if] at hc))
      | fail)
    all_goals first | (exfalso; omega) | skip
    all_goals
      apply roundQ_m; refine ⟨_, ⟨b + 1, _, (k50_4 _).trans (by simp (disch := first | (intros; contradiction) | (as_aux_lemma => omega) | (as_aux_lemma => (simp only [LEN2]; first | done | omega)) | (as_aux_lemma => (simp only [LEN]; first | done | omega))) only [EV, TT, w, w0, fz, FX_mark, FX_str, FX_el_Cell, FX_el_Object, FX_node, FX_el_Shard, Nat.reduceEqDiff, Nat.reduceBeqDiff, Nat.reduceAdd, Nat.reduceMul, Nat.reduceLeDiff, Nat.reduceLT, reduceCtorEq, Int.reduceEq, Int.reduceNeg]; first | done | rfl | (congr <;> omega)), ?_, rfl, ?_, ?_, ?_⟩, ?_⟩
      · first | exact lpG_same | exact lpG_grow rfl | (refine (congrArg (fun K => lpG K _ _ _) (show _ = some _ from rfl)).trans (lpG_cut rfl ?_); simp [lowV, okC, mkE_at]; done) | (refine (congrArg (fun K => lpG K _ _ _) (show _ = some _ from rfl)).trans (lpG_mod rfl rfl ?_ ?_) <;> simp [lowV, okC, mkE_at, rowsAll_cons, rowsAll_nil, FX_mark, FX_str, FX_el_Cell, FX_el_Object, FX_node, FX_el_Shard]; done) | (refine (lpG_len ?_).trans ?_; (focus (simp only [len_app, List.length_cons, List.length_nil, List.length_set]; done)); first | rfl | (simp (disch := first | (intros; contradiction) | (as_aux_lemma => omega) | (as_aux_lemma => (simp only [LEN2]; first | done | omega)) | (as_aux_lemma => (simp only [LEN]; first | done | omega))) only [EV, TT, w, w0, fz, FX_mark, FX_str, FX_el_Cell, FX_el_Object, FX_node, FX_el_Shard, Nat.reduceEqDiff, Nat.reduceBeqDiff, Nat.reduceAdd, Nat.reduceMul, Nat.reduceLeDiff, Nat.reduceLT, reduceCtorEq, Int.reduceEq, Int.reduceNeg]; first | done | rfl)) | (refine (congrArg (fun K => lpG K _ _ _) (show _ = some _ from rfl)).trans (lpG_grow ?_); simp only [lowV, okC, EV, Nat.reduceEqDiff, Nat.reduceBeqDiff, Nat.reduceAdd, Nat.reduceMul, Nat.reduceLeDiff, Nat.reduceLT, reduceCtorEq, Int.reduceEq, Int.reduceNeg]; done)
      · omega
      · rfl
      · omega
      · omega
  have hlt2 : i < l[p].length := by omega
  have hdd := hd1 l[p][i] (by simp)
  have hst := fm_step (pickS kk o b) l[p] hlt2
  by_cases hM : MatchP kk o l[p][i] ∧ l[p][i].no = (b : Int)
  · have hpk : pickS kk o b l[p][i] = some ⟨l[p][i].no, l[p][i].data⟩ := by unfold pickS; rw [if_pos hM]
    rw [hpk] at hst
    obtain ⟨⟨m1, m2, m3⟩, m4⟩ := hM
    have e9 : acc.map Shard.c ++ [[(.v (.int .i64 ((b : Int)))), (.v (.string (l[p][i].data)))]] = (acc ++ [(⟨(b : Int), l[p][i].data⟩ : Shard)]).map Shard.c := by simp [Shard.c]
    have e8 : (acc ++ [(⟨(b : Int), l[p][i].data⟩ : Shard)]).length = acc.length + 1 := by simp
    repeat' (first
      | ((with_reducible apply EvO.off); (focus (exact rfl)); (focus (exact rfl))) | ((with_reducible apply EvT.off); (focus (exact rfl)); (focus (exact rfl)))
      | ((first | ((with_reducible apply EvO.call (vs := ?_)); (focus (exact rfl)); (focus (exact rfl))) | ((with_reducible apply EvT.call (vs := ?_)); (focus (exact rfl)); (focus (exact rfl))) | (with_reducible apply Cal.hd (ms := []) (p := ?_)) | ((with_reducible refine EvO.c1 (a := ?_) (S' := ?_) ?_ ?_ ?_); rotate_left 2; (focus (exact rfl))) | ((with_reducible refine EvO.c0 (a := ?_) (S' := ?_) ?_ ?_); rotate_left 2) | ((with_reducible apply EvO.cons); (focus (exact rfl))) | ((with_reducible refine EvT.c1 (a := ?_) (S' := ?_) ?_ ?_ ?_ ?_); rotate_left 2; (focus (exact rfl)); (focus (exact rfl))) | ((with_reducible refine EvT.c0 (a := ?_) (S' := ?_) ?_ ?_ ?_); rotate_left 2; (focus (exact rfl))) | ((with_reducible apply EvT.cons); (focus (exact rfl)); (focus (exact rfl))) | ((with_reducible apply EvO.guard); (focus (exact rfl)); (focus (exact rfl))) | ((with_reducible apply EvT.guard); (focus (exact rfl)); (focus (exact rfl))) | ((with_reducible refine Ev.cond (t := ?_) ?_ ?_ ?_); rotate_left) | skip); (focus ((with_reducible refine Eq.trans ?_ rfl); simp (disch := first | (intros; contradiction) | (as_aux_lemma => omega) | (as_aux_lemma => (simp only [LEN2]; first | done | omega)) | (as_aux_lemma => (simp only [LEN]; first | done | omega))) only [EV, TT, w, w0, fz, FX_mark, FX_str, FX_el_Cell, FX_el_Object, FX_node, FX_el_Shard, hli2, m1, m2, m3, m4, beq_self_eq_true, e9, Nat.reduceEqDiff, Nat.reduceBeqDiff, Nat.reduceAdd, Nat.reduceMul, Nat.reduceLeDiff, Nat.reduceLT, reduceCtorEq, Int.reduceEq, Int.reduceNeg, FIN, DP]; first | done | exact rfl)); try (focus (exact rfl)))
      | ((with_reducible apply CalH.mk); intro hd; first | exact c29 (hd := hd) (hs := by first | assumption | omega | with_reducible rfl) (hno := by first | assumption | omega | with_reducible rfl) (hn := by first | assumption | omega | with_reducible rfl)  (hk := by omega) | exact c71 (hd := hd) (hs := by first | assumption | omega | with_reducible rfl)  (hk := by omega))
      | (with_reducible (first | rintro r S' ⟨rfl, rfl⟩); refine ⟨_, rfl, ?_⟩)
      | with_reducible refine Ev.seq ?_
      | ((with_reducible refine Ev.regionH ?_); intro H)
      | with_reducible refine EvO.nil ?_
      | ((with_reducible apply regH_k); (focus (exact KIs.mk rfl)); (focus ((with_reducible apply EnvIs.mk); simp only [SE, Nat.reduceEqDiff, Nat.reduceAdd, reduceCtorEq]; first | done | exact rfl)); clear H)
      | exact KIs.mk rfl
      | with_reducible first | refine Ev.skip ?_ | refine Ev.ret ?_ | refine Ev.exit ?_ | refine Ev.block ?_ | refine thenQ_n ?_ | refine thenQ_x ?_ | refine thenQ_r ?_ | refine blockQ_n ?_ | refine blockQ_r ?_ | refine blockQ_x0 ?_ | refine roundQ_x ?_ | refine roundQ_r ?_
      | ((with_reducible refine endQ_r (vs := ?_) (vs' := ?_) (S₂ := ?_) ?_ ?_ ?_); rotate_left 3)
      | ((with_reducible refine blockQ_x1 ?_ ?_); exact rfl)
      | ((with_reducible refine Ev.drawnH ?_ ?_); (focus kernel_rfl); intro H)
      | ((with_reducible refine EvT.nil ?_); refine ⟨drawn_mkN 14 rfl (hs := [(1, 8)]) (by repeat' (first | exact trivial | refine ⟨.inl rfl, ?_⟩ | refine ⟨.inr rfl, ?_⟩ | (refine ⟨.inr ?_, ?_⟩; (focus (simp only [app_app, List.cons_append, List.nil_append, len_app, List.length_cons, List.length_nil, len_lit, Nat.zero_add, Nat.reduceAdd]; done))))) (by kernel_rfl) ?_, ?_⟩)
      | ((with_reducible refine EvT.nil ?_); refine ⟨drawn_mkN 26 rfl (hs := [(23, 21)]) (by repeat' (first | exact trivial | refine ⟨.inl rfl, ?_⟩ | refine ⟨.inr rfl, ?_⟩ | (refine ⟨.inr ?_, ?_⟩; (focus (simp only [app_app, List.cons_append, List.nil_append, len_app, List.length_cons, List.length_nil, len_lit, Nat.zero_add, Nat.reduceAdd]; done))))) (by kernel_rfl) ?_, ?_⟩)
      | with_reducible exact List.forall_mem_nil _
      | with_reducible refine List.forall_mem_cons.2 ⟨?_, ?_⟩
      | ((with_reducible apply stab_off); (focus (exact rfl)); (focus (exact rfl)))
      | ((with_reducible apply stab_mk); (focus (exact rfl)); (focus (exact rfl)); (focus (exact rfl)); (focus (exact rfl)))
      | (intro c' hc; cases c' <;> first | (cases hc; done) | (try simp only [HC, inB_it, inB_if] at hc))
      | (intro hc; first | (cases hc; done) | (try simp only [HC, inB_it, inB_if] at hc))
      | fail)
    all_goals first | (exfalso; omega) | skip
    all_goals
      apply roundQ_m; refine ⟨_, ⟨i + 1, acc ++ [(⟨(b : Int), l[p][i].data⟩ : Shard)], (k50_7 _).trans (by simp (disch := first | (intros; contradiction) | (as_aux_lemma => omega) | (as_aux_lemma => (simp only [LEN2]; first | done | omega)) | (as_aux_lemma => (simp only [LEN]; first | done | omega))) only [e8, EV, TT, w, w0, fz, FX_mark, FX_str, FX_el_Cell, FX_el_Object, FX_node, FX_el_Shard, Nat.reduceEqDiff, Nat.reduceBeqDiff, Nat.reduceAdd, Nat.reduceMul, Nat.reduceLeDiff, Nat.reduceLT, reduceCtorEq, Int.reduceEq, Int.reduceNeg]; first | done | rfl | (congr <;> omega)), ?_, rfl, ?_, ?_, ?_⟩, ?_⟩
      · (refine (congrArg (fun K => lpG K _ _ _) (show _ = some _ from rfl)).trans (lpG_mod rfl rfl ?_ ?_) <;> simp [lowV, okC, mkE_at, rowsAll_cons, rowsAll_nil, rowsAll_app, ok_Shard, Shard.c])
      · omega
      · (rw [hst, hA, m4]; simp)
      · (rw [e8]; omega)
      · omega
  · have hpk : pickS kk o b l[p][i] = none := by unfold pickS; rw [if_neg hM]
    rw [hpk] at hst
    repeat' (first
      | ((with_reducible apply EvO.off); (focus (exact rfl)); (focus (exact rfl))) | ((with_reducible apply EvT.off); (focus (exact rfl)); (focus (exact rfl)))
      | ((first | ((with_reducible apply EvO.call (vs := ?_)); (focus (exact rfl)); (focus (exact rfl))) | ((with_reducible apply EvT.call (vs := ?_)); (focus (exact rfl)); (focus (exact rfl))) | (with_reducible apply Cal.hd (ms := []) (p := ?_)) | ((with_reducible refine EvO.c1 (a := ?_) (S' := ?_) ?_ ?_ ?_); rotate_left 2; (focus (exact rfl))) | ((with_reducible refine EvO.c0 (a := ?_) (S' := ?_) ?_ ?_); rotate_left 2) | ((with_reducible apply EvO.cons); (focus (exact rfl))) | ((with_reducible refine EvT.c1 (a := ?_) (S' := ?_) ?_ ?_ ?_ ?_); rotate_left 2; (focus (exact rfl)); (focus (exact rfl))) | ((with_reducible refine EvT.c0 (a := ?_) (S' := ?_) ?_ ?_ ?_); rotate_left 2; (focus (exact rfl))) | ((with_reducible apply EvT.cons); (focus (exact rfl)); (focus (exact rfl))) | ((with_reducible apply EvO.guard); (focus (exact rfl)); (focus (exact rfl))) | ((with_reducible apply EvT.guard); (focus (exact rfl)); (focus (exact rfl))) | ((with_reducible refine Ev.cond (t := ?_) ?_ ?_ ?_); rotate_left) | skip); (focus ((with_reducible refine Eq.trans ?_ rfl); simp (disch := first | (intros; contradiction) | (as_aux_lemma => omega) | (as_aux_lemma => (simp only [LEN2]; first | done | omega)) | (as_aux_lemma => (simp only [LEN]; first | done | omega))) only [EV, TT, w, w0, fz, FX_mark, FX_str, FX_el_Cell, FX_el_Object, FX_node, FX_el_Shard, hli2, Nat.reduceEqDiff, Nat.reduceBeqDiff, Nat.reduceAdd, Nat.reduceMul, Nat.reduceLeDiff, Nat.reduceLT, reduceCtorEq, Int.reduceEq, Int.reduceNeg, FIN, DP]; first | done | exact rfl)); try (focus (exact rfl)))
      | ((with_reducible apply CalH.mk); intro hd; first | exact c29 (hd := hd) (hs := by first | assumption | omega | with_reducible rfl) (hno := by first | assumption | omega | with_reducible rfl) (hn := by first | assumption | omega | with_reducible rfl)  (hk := by omega) | exact c71 (hd := hd) (hs := by first | assumption | omega | with_reducible rfl)  (hk := by omega))
      | (with_reducible (first | rintro r S' ⟨rfl, rfl⟩); refine ⟨_, rfl, ?_⟩)
      | with_reducible refine Ev.seq ?_
      | ((with_reducible refine Ev.regionH ?_); intro H)
      | with_reducible refine EvO.nil ?_
      | ((with_reducible apply regH_k); (focus (exact KIs.mk rfl)); (focus ((with_reducible apply EnvIs.mk); simp only [SE, Nat.reduceEqDiff, Nat.reduceAdd, reduceCtorEq]; first | done | exact rfl)); clear H)
      | exact KIs.mk rfl
      | with_reducible first | refine Ev.skip ?_ | refine Ev.ret ?_ | refine Ev.exit ?_ | refine Ev.block ?_ | refine thenQ_n ?_ | refine thenQ_x ?_ | refine thenQ_r ?_ | refine blockQ_n ?_ | refine blockQ_r ?_ | refine blockQ_x0 ?_ | refine roundQ_x ?_ | refine roundQ_r ?_
      | ((with_reducible refine endQ_r (vs := ?_) (vs' := ?_) (S₂ := ?_) ?_ ?_ ?_); rotate_left 3)
      | ((with_reducible refine blockQ_x1 ?_ ?_); exact rfl)
      | ((with_reducible refine Ev.drawnH ?_ ?_); (focus kernel_rfl); intro H)
      | ((with_reducible refine EvT.nil ?_); refine ⟨drawn_mkN 14 rfl (hs := [(1, 8)]) (by repeat' (first | exact trivial | refine ⟨.inl rfl, ?_⟩ | refine ⟨.inr rfl, ?_⟩ | (refine ⟨.inr ?_, ?_⟩; (focus (simp only [app_app, List.cons_append, List.nil_append, len_app, List.length_cons, List.length_nil, len_lit, Nat.zero_add, Nat.reduceAdd]; done))))) (by kernel_rfl) ?_, ?_⟩)
      | ((with_reducible refine EvT.nil ?_); refine ⟨drawn_mkN 26 rfl (hs := [(23, 21)]) (by repeat' (first | exact trivial | refine ⟨.inl rfl, ?_⟩ | refine ⟨.inr rfl, ?_⟩ | (refine ⟨.inr ?_, ?_⟩; (focus (simp only [app_app, List.cons_append, List.nil_append, len_app, List.length_cons, List.length_nil, len_lit, Nat.zero_add, Nat.reduceAdd]; done))))) (by kernel_rfl) ?_, ?_⟩)
      | with_reducible exact List.forall_mem_nil _
      | with_reducible refine List.forall_mem_cons.2 ⟨?_, ?_⟩
      | ((with_reducible apply stab_off); (focus (exact rfl)); (focus (exact rfl)))
      | ((with_reducible apply stab_mk); (focus (exact rfl)); (focus (exact rfl)); (focus (exact rfl)); (focus (exact rfl)))
      | (intro c' hc; cases c' <;> first | (cases hc; done) | (try simp only [HC, inB_it, inB_if] at hc))
      | (intro hc; first | (cases hc; done) | (try simp only [HC, inB_it, inB_if] at hc))
      | fail)
    any_goals (exfalso; refine hM ⟨⟨?_, ?_, ?_⟩, ?_⟩; (focus (first | assumption | (rw [beq_iff_eq]; assumption))); (focus omega); (focus omega); (focus omega))
    all_goals
      apply roundQ_m; refine ⟨_, ⟨i + 1, acc, (k50_7 _).trans (by simp (disch := first | (intros; contradiction) | (as_aux_lemma => omega) | (as_aux_lemma => (simp only [LEN2]; first | done | omega)) | (as_aux_lemma => (simp only [LEN]; first | done | omega))) only [EV, TT, w, w0, fz, FX_mark, FX_str, FX_el_Cell, FX_el_Object, FX_node, FX_el_Shard, Nat.reduceEqDiff, Nat.reduceBeqDiff, Nat.reduceAdd, Nat.reduceMul, Nat.reduceLeDiff, Nat.reduceLT, reduceCtorEq, Int.reduceEq, Int.reduceNeg]; first | done | rfl | (congr <;> omega)), ?_, rfl, ?_, ?_, ?_⟩, ?_⟩
      · first | exact lpG_same | exact lpG_grow rfl | (refine (congrArg (fun K => lpG K _ _ _) (show _ = some _ from rfl)).trans (lpG_cut rfl ?_); simp [lowV, okC, mkE_at]; done) | (refine (congrArg (fun K => lpG K _ _ _) (show _ = some _ from rfl)).trans (lpG_mod rfl rfl ?_ ?_) <;> simp [lowV, okC, mkE_at, rowsAll_cons, rowsAll_nil, FX_mark, FX_str, FX_el_Cell, FX_el_Object, FX_node, FX_el_Shard]; done) | (refine (lpG_len ?_).trans ?_; (focus (simp only [len_app, List.length_cons, List.length_nil, List.length_set]; done)); first | rfl | (simp (disch := first | (intros; contradiction) | (as_aux_lemma => omega) | (as_aux_lemma => (simp only [LEN2]; first | done | omega)) | (as_aux_lemma => (simp only [LEN]; first | done | omega))) only [EV, TT, w, w0, fz, FX_mark, FX_str, FX_el_Cell, FX_el_Object, FX_node, FX_el_Shard, Nat.reduceEqDiff, Nat.reduceBeqDiff, Nat.reduceAdd, Nat.reduceMul, Nat.reduceLeDiff, Nat.reduceLT, reduceCtorEq, Int.reduceEq, Int.reduceNeg]; first | done | rfl)) | (refine (congrArg (fun K => lpG K _ _ _) (show _ = some _ from rfl)).trans (lpG_grow ?_); simp only [lowV, okC, EV, Nat.reduceEqDiff, Nat.reduceBeqDiff, Nat.reduceAdd, Nat.reduceMul, Nat.reduceLeDiff, Nat.reduceLT, reduceCtorEq, Int.reduceEq, Int.reduceNeg]; done)
      · omega
      · (rw [hst]; simpa using hA)
      · omega
      · omega
end Go.Proofs.YtdpaijnbikclgaaDoorB

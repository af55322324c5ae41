/- Part of the evaluator's contracts: lawDO. -/
import Derived.Test.YtdpaijnbikclgaaDoorFdel8
import Derived.Test.YtdpaijnbikclgaaDoorFnode0
import Derived.Test.YtdpaijnbikclgaaDoorFnodeO
import Derived.Test.YtdpaijnbikclgaaDoorFdel7
import Derived.Test.YtdpaijnbikclgaaDoorFfail1
import Derived.Test.YtdpaijnbikclgaaDoorFfail2
import Derived.Test.YtdpaijnbikclgaaDoorFdel4
namespace Go.Proofs.YtdpaijnbikclgaaDoorB
open Go Go.Proofs.YtdpaijnbikclgaaDoorE
set_option linter.unusedVariables false
set_option linter.unusedSectionVars false
set_option linter.unusedSimpArgs false
set_option maxHeartbeats 4000000
set_option maxRecDepth 20000
theorem szObj_le {q : List Object} {o : Object} (h : o ∈ q) : o.name.size ≤ szObject q := mem_le_sum (List.mem_map.2 ⟨o, h, rfl⟩)
theorem szCell_le2 {c : List Cell} {x : Cell} (h : x ∈ c) : x.name.size + x.data.size ≤ szCell c := mem_le_sum (List.mem_map.2 ⟨x, h, rfl⟩)
theorem szN_cell2 {l : List (List Cell)} {c : List Cell} (h : c ∈ l) : c.length + szCell c ≤ szN l := mem_le_sum (List.mem_map.2 ⟨c, h, rfl⟩)
theorem totN_sz (l : List (List Cell)) : totN l ≤ szN l := by
 induction l with
 | nil => exact Nat.le_refl _
 | cons c l ih => rw [totN_cons, show szN (c :: l) = (c.length + szCell c) + szN l by simp [szN]]; omega
theorem flt_mem {s : ByteArray} {l : List (List Cell)} {b : Nat} (h : ∀ c ∈ l, c.length ≤ b) : ∀ c ∈ l.map (flt s), c.length ≤ b := fun c hc => by
 obtain ⟨d, hd, rfl⟩ := List.mem_map.1 hc
 exact Nat.le_trans (flt_le s d) (h d hd)
theorem flt_tot (s : ByteArray) (l : List (List Cell)) : totN (l.map (flt s)) ≤ totN l := by
 induction l with
 | nil => simp
 | cons c l ih => rw [List.map_cons, totN_cons, totN_cons]; have := flt_le s c; omega
theorem mkObject_len2 (x : Int) (m : Nat) : (mkObject x m).length = m := by simp [mkObject]
theorem Clp.rdB {S : Store} {m id id2 n k v po : Nat} {ids : Nat → Option Nat} {l : List (List Cell)} {pd : Nat → Nat} {q : List Object} (h : Clp S m id id2 ids l pd q po) (hb : ∀ i, i < l.length → ids i ≠ none) (h0 : 0 < l.length) (hn : l.length = n) (hk : q.length = k) (hv : q.length + po = v) : ClpR S id id2 n k v (rowsB (fun _ => true) l) q := by
 rw [← rowsB_map]; exact h.rd hb h0 hn hk hv
theorem c6_bign {k : Nat} {md : Md} {S : Store} {vs : List A} {D : List Nat} {kk mm : Int} {l : List (List Cell)} {q : List Object} {s : ByteArray} (hd : dpArgs S [] vs = some ([.ag [(.v (.int .i64 (kk))), (.v (.int .i64 (mm))), .ro 1 (l.map nodeC), .ro 2 (q.map Object.c)], (.v (.string (s)))], D)) (hT : 1048576 < s.size := by first | assumption | omega | with_reducible rfl) (hD0 : D = [] := by first | assumption | omega | with_reducible rfl) (hk : 13 ≤ k := by omega) :
  Cal (run k) md 6 vs S (fun r S' => r = (.v (.bool (true)))) := by
 obtain ⟨k, rfl⟩ : ∃ j, k = j + 1 := ⟨k - 1, by omega⟩
 refine Cal.fnN (n := 104) (rs := [.tmp 4]) (D := D) (Xof_none rfl) g6 (by delta Tryd.f6; exact rfl) (by delta Tryd.f6; exact rfl) (by delta Tryd.f6; exact rfl) hd rfl (by first | exact .inr (by assumption) | exact .inl rfl | exact .inl (by simp [idsV, idsC])) (by simp) ?_
 intro md' ow; have w := ow.w; have w0 := ow.w0; have fz : md'.fz = false := ow.fz
 subst hD0
 (have F := an6 @yD @yF @yA @yB @yE @yC; (repeat' (first | refine' dA58 | ((with_reducible first | apply EvO.call (vs := ?_) | apply EvT.call (vs := ?_)); exact rfl; exact rfl; exact dE8; (first | (with_reducible apply Cal.hd (g := 15) (ms := [true]) (p := ?_)) | (with_reducible apply Cal.hd (ms := []) (p := ?_))); exact dE8) | exact dC14 | fail)); all_goals clear F)
 all_goals first | (exfalso; omega) | exact ⟨.inl rfl, fun S₂ hk => rfl⟩
theorem c6_big {k : Nat} {md : Md} {S : Store} {vs : List A} {D : List Nat} {kk mm : Int} {l : List (List Cell)} {q : List Object} {s : ByteArray} (hd : dpArgs S [] vs = some ([.ag [(.v (.int .i64 (kk))), (.v (.int .i64 (mm))), .ro 1 (l.map nodeC), .ro 2 (q.map Object.c)], (.v (.string (s)))], D)) (hsz : s.size ≤ 1048576 := by first | assumption | omega | with_reducible rfl) (hl : l.length ≤ 9223372036854775807 := by first | assumption | omega | with_reducible rfl) (hs : ∀ c ∈ l, c.length ≤ 9223372036854775807 ∧ ∀ x ∈ c, x.name.size ≤ 140737488351232 ∧ x.data.size ≤ 140737488351232 := by first | assumption | omega | with_reducible rfl) (hq : q.length ≤ 9223372036854775807 := by first | assumption | omega | with_reducible rfl) (hqs : ∀ o ∈ q, o.name.size ≤ 140737488351232 := by first | assumption | omega | with_reducible rfl) (hT : 1048576 < l.length + szN l + q.length + szObject q := by first | assumption | omega | with_reducible rfl) (hD0 : D = [] := by first | assumption | omega | with_reducible rfl) (hk : 13 ≤ k := by omega) :
  Cal (run k) md 6 vs S (fun r S' => r = (.v (.bool (true)))) := by
 obtain ⟨k, rfl⟩ : ∃ j, k = j + 1 := ⟨k - 1, by omega⟩
 refine Cal.fnN (n := 104) (rs := [.tmp 4]) (D := D) (Xof_none rfl) g6 (by delta Tryd.f6; exact rfl) (by delta Tryd.f6; exact rfl) (by delta Tryd.f6; exact rfl) hd rfl (by first | exact .inr (by assumption) | exact .inl rfl | exact .inl (by simp [idsV, idsC])) (by simp) ?_
 intro md' ow; have w := ow.w; have w0 := ow.w0; have fz : md'.fz = false := ow.fz
 subst hD0
 (have F := an6 @yD @yF @yA @yB @yE @yC; (repeat' (first | refine' dA58 | ((with_reducible first | apply EvO.call (vs := ?_) | apply EvT.call (vs := ?_)); exact rfl; exact rfl; exact dE8; (first | (with_reducible apply Cal.hd (g := 15) (ms := [true]) (p := ?_)) | (with_reducible apply Cal.hd (ms := []) (p := ?_))); exact dE8) | exact dC14 | fail)); all_goals clear F)
 all_goals first | (exfalso; omega) | exact ⟨.inl rfl, fun S₂ hk => rfl⟩
theorem c6_yes {k : Nat} {md : Md} {S : Store} {vs : List A} {D : List Nat} {kk mm : Int} {l : List (List Cell)} {q : List Object} {s : ByteArray} (hd : dpArgs S [] vs = some ([.ag [(.v (.int .i64 (kk))), (.v (.int .i64 (mm))), .ro 1 (l.map nodeC), .ro 2 (q.map Object.c)], (.v (.string (s)))], D)) (hsz : s.size ≤ 1048576 := by first | assumption | omega | with_reducible rfl) (hl : l.length ≤ 9223372036854775807 := by first | assumption | omega | with_reducible rfl) (hs : ∀ c ∈ l, c.length ≤ 9223372036854775807 ∧ ∀ x ∈ c, x.name.size ≤ 140737488351232 ∧ x.data.size ≤ 140737488351232 := by first | assumption | omega | with_reducible rfl) (hq : q.length ≤ 9223372036854775807 := by first | assumption | omega | with_reducible rfl) (hqs : ∀ o ∈ q, o.name.size ≤ 140737488351232 := by first | assumption | omega | with_reducible rfl) (hT : l.length + szN l + q.length + szObject q ≤ 1048576 := by first | assumption | omega | with_reducible rfl) (hgg : goodC kk mm l q = true := by first | assumption | omega | with_reducible rfl) (hh : hasB q s = true := by first | assumption | omega | with_reducible rfl) (hS : S.length = 0 := by first | assumption | omega | with_reducible rfl) (hD0 : D = [] := by first | assumption | omega | with_reducible rfl) (hk : 30 ≤ k := by omega) :
  Cal (run k) md 6 vs S (fun r S' => r = (.v (.bool (true)))) := by
 obtain ⟨k, rfl⟩ : ∃ j, k = j + 1 := ⟨k - 1, by omega⟩
 refine Cal.fnN (n := 104) (rs := [.tmp 4]) (D := D) (Xof_none rfl) g6 (by delta Tryd.f6; exact rfl) (by delta Tryd.f6; exact rfl) (by delta Tryd.f6; exact rfl) hd rfl (by first | exact .inr (by assumption) | exact .inl rfl | exact .inl (by simp [idsV, idsC])) (by simp) ?_
 intro md' ow; have w := ow.w; have w0 := ow.w0; have fz : md'.fz = false := ow.fz
 subst hD0
 have hcs : ∀ c ∈ l, c.length ≤ 1048576 := szN_le (by omega)
 have hns : ∀ c ∈ l, ∀ x ∈ c, x.name.size ≤ 1048576 := fun c hc x hx => by have := szCell_le2 hx; have := szN_cell2 hc; omega
 have hqs2 : ∀ o ∈ q, o.name.size ≤ 1048576 := fun o ho => by have := szObj_le ho; omega
 have hwr : ∀ k, md'.wr k = true := fun k => wr_of w (by omega)
 have htt := totN_sz l
 have hpl := has_lt hh
 have h0 := nodes_lt hgg
 have hn2 : (l.map (flt s)).length = l.length := by simp
 have hn3 : (l.map (flt s)).length ≤ 1048576 := by omega
 have hn4 : 0 < (l.map (flt s)).length := by omega
 have hcs2 := flt_mem (s := s) hcs
 have hq2 : (q.eraseIdx (posQ q s)).length = q.length - 1 := by rw [List.length_eraseIdx, if_pos hpl]
 have hq3 : (q.eraseIdx (posQ q s)).length ≤ 1048576 := by omega
 have hq4 : (q.eraseIdx (posQ q s)).length + 1 = q.length := by omega
 have ht2 : totN (l.map (flt s)) ≤ 1048576 := by have := flt_tot s l; omega
 have hpd : ∀ i (h : i < (l.map (flt s)).length), (l.map (flt s))[i].length + stP s l l.length i ≤ 1048576 := fun i h => by
  have hi : i < l.length := by omega
  have h1 := hcs l[i] (by simp)
  have h2 := flt_le s l[i]
  simp only [List.getElem_map, stP]
  have h3 : l.getD i [] = l[i] := by simp [hi]
  rw [if_pos hi, h3]; omega
 have hbT : ∀ i (h : i < (l.map (flt s)).length), true = false → (l.map (flt s))[i] = [] := fun i h e => by cases e
 have hi2 : ∀ {i : Nat}, i < (l.map (flt s)).length → i < l.length := fun h => by omega
 (have F := an7 @yD @yF @yA @yB @yE @yC @hwr; (repeat' (first | refine' dA58 | ((with_reducible first | apply EvO.call (vs := ?_) | apply EvT.call (vs := ?_)); exact rfl; exact rfl; exact dE8; (first | (with_reducible apply Cal.hd (g := 15) (ms := [true]) (p := ?_)) | (with_reducible apply Cal.hd (ms := []) (p := ?_))); exact dE8) | exact dC14 | fail)); all_goals clear F)
 ·exact ⟨.inl rfl, fun S₂ hk => rfl⟩
 ·exact ⟨.inl rfl, fun S₂ hk => rfl⟩
 have rA := hC.rdA hall rfl rfl
 have B2 := hold.b ((get_len0 S _).trans rfl)
 have d1 := rA.nd.e
 have d2 := rA.od.e
 (have F2 := an2 @d1 @d2; have F := an9 @yD @yF @yA @yB @yE @yC @hwr B2.1 B2.2; (repeat' (first | refine' dA59 | ((with_reducible first | apply EvO.call (vs := ?_) | apply EvT.call (vs := ?_)); exact rfl; exact rfl; exact dE13; (first | (with_reducible apply Cal.hd (g := 15) (ms := [true]) (p := ?_)) | (with_reducible apply Cal.hd (ms := []) (p := ?_))); exact dE13) | exact dC15 | fail)); all_goals clear F F2)
 have CW := hC
 have hbW := hall
 have LW := hC.lt
 have B2 := hold.b B2.1
 (have F := an9 @yD @yF @yA @yB @yE @yC @hwr B2.1 B2.2; (repeat' (first | refine' dA58 | ((with_reducible first | apply EvO.call (vs := ?_) | apply EvT.call (vs := ?_)); exact rfl; exact rfl; exact dE8; (first | (with_reducible apply Cal.hd (g := 15) (ms := [true]) (p := ?_)) | (with_reducible apply Cal.hd (ms := []) (p := ?_))); exact dE8) | exact dC14 | fail)); all_goals clear F)
 have L23 := hold.1
 simp only [List.length_append, List.length_cons, List.length_nil] at L23 hC
 have CX := hC
 have hallX := hall
 have LX := hC.lt
 have B6 := hold.b ((get_len0 _ _).trans rfl)
 have B2 := hold.b (B2.2 _)
 have CW := CW.keep ((Kept.app _ _).trans hold)
 have rX := hC.rdA hall rfl rfl
 have d1 := fun T => (rX.ndT T).e
 have d2 := fun T => (rX.odT T).e
 (have F2 := an2 @d1 @d2; have F := an11 @yD @yF @yA @yB @yE @yC @hwr B2.1 B2.2 B6.1 B6.2; (repeat' (first | refine' dA59 | ((with_reducible first | apply EvO.call (vs := ?_) | apply EvT.call (vs := ?_)); exact rfl; exact rfl; exact dE13; (first | (with_reducible apply Cal.hd (g := 15) (ms := [true]) (p := ?_)) | (with_reducible apply Cal.hd (ms := []) (p := ?_))); exact dE13) | exact dC15 | fail)); all_goals clear F F2)
 have L34 := hold.1
 simp only [List.length_append, List.length_cons, List.length_nil] at L34 hC
 have CG := hC
 have hbG := hall
 have LG := hC.lt
 have B8 := hold.b ((get_len0 _ _).trans rfl)
 have B6 := hold.b (B6.2 _)
 have B2 := hold.b (B2.2 _)
 have CW := CW.keep ((Kept.app _ _).trans hold)
 have CX := CX.keep ((Kept.app _ _).trans hold)
 have rG := CG.rd (fun i hil => hbG i (hi2 hil)) hn4 hn2 hq2 hq4
 have rW := CW.rdA (fun i hil => hbW i (hi2 hil)) hn2 hq2
 have d1 := fun T => (rG.ndT T).e
 have d2 := fun T => (rG.odT T).e
 have d3 := fun T => (rW.ndT T).e
 have d4 := fun T => (rW.odT T).e
 (have F2 := an4 @d1 @d2 @d3 @d4; have F := an14 @yD @yF @yA @yB @yE @yC @hwr B2.1 B2.2 B6.1 B6.2 B8.1 B8.2 @bne_self_eq_false.{0}; (repeat' (first | refine' dA59 | ((with_reducible first | apply EvO.call (vs := ?_) | apply EvT.call (vs := ?_)); exact rfl; exact rfl; exact dE13; (first | (with_reducible apply Cal.hd (g := 15) (ms := [true]) (p := ?_)) | (with_reducible apply Cal.hd (ms := []) (p := ?_))); exact dE13) | exact dC15 | fail)); all_goals clear F F2)
 have B9 := hold.b ((get_len0 _ _).trans rfl)
 have B8o := B8.2
 have B8 := hold.b (B8.2 _)
 have B6 := hold.b (B6.2 _)
 have B2 := hold.b (B2.2 _)
 have CW := CW.keep ((Kept.app _ _).trans hold)
 have CX := CX.keep ((Kept.app _ _).trans hold)
 have CG := CG.keep ((Kept.app _ _).trans hold)
 have rX := CX.rdA hallX rfl rfl
 have rN := hC.rdA hall rfl rfl
 have d1 := rX.nd.e
 have d2 := rX.od.e
 have d3 := rN.nd.e
 have d4 := rN.od.e
 have hx1 : (0 : Int) ≤ 1 ∧ (1 : Int) ≤ 1048576 := by decide
 (have F2 := an4 @d1 @d2 @d3 @d4; have F := an17 @yD @yF @yA @yB @yE @yC @hwr B2.1 B2.2 B6.1 B6.2 B8.1 B8.2 @B8o B9.1 B9.2 @bne_self_eq_false.{0}; (repeat' (first | refine' dA60 | ((with_reducible first | apply EvO.call (vs := ?_) | apply EvT.call (vs := ?_)); exact rfl; exact rfl; exact dE13; (first | (with_reducible apply Cal.hd (g := 15) (ms := [true]) (p := ?_)) | (with_reducible apply Cal.hd (ms := []) (p := ?_))); exact dE13) | exact dC13 | fail)); all_goals clear F F2)
 obtain ⟨hCm, hlenm, hkm⟩ := hold
 have KX := keptX_of CX LX hlenm hkm
 have B2 := KX.b B2.1 (.inl (by omega))
 have B6 := KX.b B6.1 (.inl (by omega))
 have B8 := KX.b B8.1 (.inr (by omega))
 have B9 := KX.b B9.1 (.inr (by omega))
 have CW := CW.keepX KX (.inr ⟨by have := LW.1; omega, by have := LW.2.1; omega, fun i k hi hk => by have := LW.2.2 i k hi hk; omega⟩)
 have CG := CG.keepX KX (.inl (by omega))
 have rG := CG.rd (fun i hil => hbG i (hi2 hil)) hn4 hn2 hq2 hq4
 have rW := CW.rdA (fun i hil => hbW i (hi2 hil)) hn2 hq2
 have d1 := rG.nd.e
 have d2 := rG.od.e
 have d3 := rW.nd.e
 have d4 := rW.od.e
 (have F2 := an4 @d1 @d2 @d3 @d4; have F := an12 @yD @yF @yA @yB @yE @yC @hwr B2.1 B6.1 B8.1 B9.1 @bne_self_eq_false.{0}; (repeat' (first | refine' dA61 | ((with_reducible first | apply EvO.call (vs := ?_) | apply EvT.call (vs := ?_)); exact rfl; exact rfl; exact dE13; (first | (with_reducible apply Cal.hd (g := 15) (ms := [true]) (p := ?_)) | (with_reducible apply Cal.hd (ms := []) (p := ?_))); exact dE13) | ((with_reducible apply CalH.mk); intro hd; first | exact c15_P (k := k) hd (hC := CG) (hln := hn2) (hq1 := hq2) (hqn := by omega) (hall := fun i hil => hbG i (hi2 hil)) (hw := fun _ _ _ _ => hwr _) (hwo := hwr _) | exact c8 hd | exact c10 hd | exact c19_no hd | exact c19_ok hd | exact c20_no hd | exact c20_ok hd | exact c12 hd | exact c12_B hd | exact c12_nn hd | exact c15_nil hd | exact c15_B hd (hwo := dH4) (hw := dH4) | exact c16_nil hd | exact c16_B hd) | fail)); all_goals clear F F2)
 obtain ⟨hCm, hlenm, hkm⟩ := hold
 have KX := keptX_ofP CG LG hlenm hkm
 have B2 := KX.b B2.1 (.inl (by omega))
 have B6 := KX.b B6.1 (.inl (by omega))
 have B9 := KX.b B9.1 (.inr (by omega))
 have CW := CW.keepX KX (.inr ⟨by have := LW.1; omega, by have := LW.2.1; omega, fun i k hi hk => by have := LW.2.2 i k hi hk; omega⟩)
 have CG := hCm
 have hnG : (mkN 1 (l.map (flt s))).length = l.length := by rw [mkN_len]; exact hn2
 have hnG4 : 0 < (mkN 1 (l.map (flt s))).length := by omega
 have hqG := mkObject_len2 (1 + 4 * (totN (l.map (flt s)) : Int)) (q.eraseIdx (posQ q s)).length
 have hbG2 := fun (i : Nat) (hil : i < (mkN 1 (l.map (flt s))).length) => hbG i (by omega)
 have rG := CG.rdB hbG2 hnG4 hnG (hqG.trans hq2) ((congrArg (· + 1) hqG).trans hq4)
 have d1 := rG.nd.e
 have d2 := rG.od.e
 (have F2 := an2 @d1 @d2; have F := an11 @yD @yF @yA @yB @yE @yC @hwr B2.1 B6.1 B9.1 @bne_self_eq_false.{0}; (repeat' (first | refine' dA59 | ((with_reducible first | apply EvO.call (vs := ?_) | apply EvT.call (vs := ?_)); exact rfl; exact rfl; exact dE13; (first | (with_reducible apply Cal.hd (g := 15) (ms := [true]) (p := ?_)) | (with_reducible apply Cal.hd (ms := []) (p := ?_))); exact dE13) | exact dC15 | fail)); all_goals clear F F2)
 have B2 := hold.b B2.1
 have B6 := hold.b B6.1
 have B9 := hold.b B9.1
 have CW := CW.keep hold
 have CG := CG.keep hold
 have rN := hC.rdA hall rfl rfl
 have d1 := rN.nd.e
 have d2 := rN.od.e
 (have F2 := an2 @d1 @d2; have F := an11 @yD @yF @yA @yB @yE @yC @hwr B2.1 B6.1 B9.1 @bne_self_eq_false.{0}; (repeat' (first | refine' dA59 | ((with_reducible first | apply EvO.call (vs := ?_) | apply EvT.call (vs := ?_)); exact rfl; exact rfl; exact dE13; (first | (with_reducible apply Cal.hd (g := 15) (ms := [true]) (p := ?_)) | (with_reducible apply Cal.hd (ms := []) (p := ?_))); exact dE13) | exact dC15 | fail)); all_goals clear F F2)
 have B6 := hold.b B6.1
 have B9 := hold.b B9.1
 have CW := CW.keep hold
 have CG := CG.keep hold
 have rG := CG.rdB hbG2 hnG4 hnG (hqG.trans hq2) ((congrArg (· + 1) hqG).trans hq4)
 have rW := CW.rdA (fun i hil => hbW i (hi2 hil)) hn2 hq2
 have rH := hC.rd (fun i hil => hall i (hi2 hil)) hn4 hn2 hq2 hq4
 have d1 := fun T => (rG.ndT T).e
 have d2 := fun T => (rG.odT T).e
 have d3 := fun T => (rW.ndT T).e
 have d4 := fun T => (rW.odT T).e
 have d5 := fun T => (rH.ndT T).e
 have d6 := fun T => (rH.odT T).e
 (have F2 := an6 @d1 @d2 @d3 @d4 @d5 @d6; have F := an12 @yD @yF @yA @yB @yE @yC @hwr B6.1 B6.2 B9.1 B9.2 @bne_self_eq_false.{0}; (repeat' (first | refine' dA59 | ((with_reducible first | apply EvO.call (vs := ?_) | apply EvT.call (vs := ?_)); exact rfl; exact rfl; exact dE13; (first | (with_reducible apply Cal.hd (g := 15) (ms := [true]) (p := ?_)) | (with_reducible apply Cal.hd (ms := []) (p := ?_))); exact dE13) | exact dC15 | fail)); all_goals clear F F2)
 exact ⟨.inl rfl, fun S₂ hk => rfl⟩
theorem c6_no {k : Nat} {md : Md} {S : Store} {vs : List A} {D : List Nat} {kk mm : Int} {l : List (List Cell)} {q : List Object} {s : ByteArray} (hd : dpArgs S [] vs = some ([.ag [(.v (.int .i64 (kk))), (.v (.int .i64 (mm))), .ro 1 (l.map nodeC), .ro 2 (q.map Object.c)], (.v (.string (s)))], D)) (hsz : s.size ≤ 1048576 := by first | assumption | omega | with_reducible rfl) (hl : l.length ≤ 9223372036854775807 := by first | assumption | omega | with_reducible rfl) (hs : ∀ c ∈ l, c.length ≤ 9223372036854775807 ∧ ∀ x ∈ c, x.name.size ≤ 140737488351232 ∧ x.data.size ≤ 140737488351232 := by first | assumption | omega | with_reducible rfl) (hq : q.length ≤ 9223372036854775807 := by first | assumption | omega | with_reducible rfl) (hqs : ∀ o ∈ q, o.name.size ≤ 140737488351232 := by first | assumption | omega | with_reducible rfl) (hT : l.length + szN l + q.length + szObject q ≤ 1048576 := by first | assumption | omega | with_reducible rfl) (hg : (goodC kk mm l q && hasB q s) = false := by first | assumption | omega | with_reducible rfl) (hS : S.length = 0 := by first | assumption | omega | with_reducible rfl) (hD0 : D = [] := by first | assumption | omega | with_reducible rfl) (hk : 30 ≤ k := by omega) :
  Cal (run k) md 6 vs S (fun r S' => r = (.v (.bool (true)))) := by
 obtain ⟨k, rfl⟩ : ∃ j, k = j + 1 := ⟨k - 1, by omega⟩
 refine Cal.fnN (n := 104) (rs := [.tmp 4]) (D := D) (Xof_none rfl) g6 (by delta Tryd.f6; exact rfl) (by delta Tryd.f6; exact rfl) (by delta Tryd.f6; exact rfl) hd rfl (by first | exact .inr (by assumption) | exact .inl rfl | exact .inl (by simp [idsV, idsC])) (by simp) ?_
 intro md' ow; have w := ow.w; have w0 := ow.w0; have fz : md'.fz = false := ow.fz
 subst hD0
 have hcs : ∀ c ∈ l, c.length ≤ 1048576 := szN_le (by omega)
 have hns : ∀ c ∈ l, ∀ x ∈ c, x.name.size ≤ 1048576 := fun c hc x hx => by have := szCell_le2 hx; have := szN_cell2 hc; omega
 have hqs2 : ∀ o ∈ q, o.name.size ≤ 1048576 := fun o ho => by have := szObj_le ho; omega
 have hwr : ∀ k, md'.wr k = true := fun k => wr_of w (by omega)
 have htt := totN_sz l
 (have F := an7 @yD @yF @yA @yB @yE @yC @hwr; (repeat' (first | refine' dA58 | ((with_reducible first | apply EvO.call (vs := ?_) | apply EvT.call (vs := ?_)); exact rfl; exact rfl; exact dE8; (first | (with_reducible apply Cal.hd (g := 15) (ms := [true]) (p := ?_)) | (with_reducible apply Cal.hd (ms := []) (p := ?_))); exact dE8) | exact dC14 | fail)); all_goals clear F)
 ·exact ⟨.inl rfl, fun S₂ hk => rfl⟩
 ·exact ⟨.inl rfl, fun S₂ hk => rfl⟩
 have rA := hC.rdA hall rfl rfl
 have B2 := hold.b ((get_len0 S _).trans rfl)
 have d1 := rA.nd.e
 have d2 := rA.od.e
 (have F2 := an2 @d1 @d2; have F := an9 @yD @yF @yA @yB @yE @yC @hwr B2.1 B2.2; (repeat' (first | refine' dA59 | ((with_reducible first | apply EvO.call (vs := ?_) | apply EvT.call (vs := ?_)); exact rfl; exact rfl; exact dE13; (first | (with_reducible apply Cal.hd (g := 15) (ms := [true]) (p := ?_)) | (with_reducible apply Cal.hd (ms := []) (p := ?_))); exact dE13) | exact dC15 | fail)); all_goals clear F F2)
 have B2 := hold.b B2.1
 (have F := an9 @yD @yF @yA @yB @yE @yC @hwr B2.1 B2.2; (repeat' (first | refine' dA58 | ((with_reducible first | apply EvO.call (vs := ?_) | apply EvT.call (vs := ?_)); exact rfl; exact rfl; exact dE8; (first | (with_reducible apply Cal.hd (g := 15) (ms := [true]) (p := ?_)) | (with_reducible apply Cal.hd (ms := []) (p := ?_))); exact dE8) | exact dC14 | fail)); all_goals clear F)
 have L23 := hold.1
 simp only [List.length_append, List.length_cons, List.length_nil] at L23 hC
 have CX := hC
 have hallX := hall
 have LX := hC.lt
 have B6 := hold.b ((get_len0 _ _).trans rfl)
 have B2 := hold.b (B2.2 _)
 have rX := hC.rdA hall rfl rfl
 have d1 := fun T => (rX.ndT T).e
 have d2 := fun T => (rX.odT T).e
 (have F2 := an2 @d1 @d2; have F := an11 @yD @yF @yA @yB @yE @yC @hwr B2.1 B2.2 B6.1 B6.2; (repeat' (first | refine' dA59 | ((with_reducible first | apply EvO.call (vs := ?_) | apply EvT.call (vs := ?_)); exact rfl; exact rfl; exact dE13; (first | (with_reducible apply Cal.hd (g := 15) (ms := [true]) (p := ?_)) | (with_reducible apply Cal.hd (ms := []) (p := ?_))); exact dE13) | exact dC15 | fail)); all_goals clear F F2)
 have L34 := hold.1
 simp only [List.length_append, List.length_cons, List.length_nil] at L34
 have B8 := hold.b ((get_len0 _ _).trans rfl)
 have B6 := hold.b (B6.2 _)
 have B2 := hold.b (B2.2 _)
 have CX := CX.keep ((Kept.app _ _).trans hold)
 (have F := an14 @yD @yF @yA @yB @yE @yC @hwr B2.1 B2.2 B6.1 B6.2 B8.1 B8.2 @bne_self_eq_false.{0}; (repeat' (first | refine' dA58 | ((with_reducible first | apply EvO.call (vs := ?_) | apply EvT.call (vs := ?_)); exact rfl; exact rfl; exact dE8; (first | (with_reducible apply Cal.hd (g := 15) (ms := [true]) (p := ?_)) | (with_reducible apply Cal.hd (ms := []) (p := ?_))); exact dE8) | exact dC14 | fail)); all_goals clear F)
 have B9 := hold.b ((get_len0 _ _).trans rfl)
 have B8o := B8.2
 have B8 := hold.b (B8.2 _)
 have B6 := hold.b (B6.2 _)
 have B2 := hold.b (B2.2 _)
 have CX := CX.keep ((Kept.app _ _).trans hold)
 have rX := CX.rdA hallX rfl rfl
 have rN := hC.rdA hall rfl rfl
 have d1 := rX.nd.e
 have d2 := rX.od.e
 have d3 := rN.nd.e
 have d4 := rN.od.e
 have hx1 : (0 : Int) ≤ 1 ∧ (1 : Int) ≤ 1048576 := by decide
 have hx2 : (0 : Int) ≤ 1 ∧ (1 : Int) ≤ 16777216 := by decide
 (have F2 := an4 @d1 @d2 @d3 @d4; have F := an17 @yD @yF @yA @yB @yE @yC @hwr B2.1 B2.2 B6.1 B6.2 B8.1 B8.2 @B8o B9.1 B9.2 @bne_self_eq_false.{0}; (repeat' (first | refine' dA60 | ((with_reducible first | apply EvO.call (vs := ?_) | apply EvT.call (vs := ?_)); exact rfl; exact rfl; exact dE13; (first | (with_reducible apply Cal.hd (g := 15) (ms := [true]) (p := ?_)) | (with_reducible apply Cal.hd (ms := []) (p := ?_))); exact dE13) | exact dC13 | fail)); all_goals clear F F2)
 obtain ⟨hCm, hlenm, hkm⟩ := hold
 have KX := keptX_of CX LX hlenm hkm
 have B2 := KX.b B2.1 (.inl (by omega))
 have B6 := KX.b B6.1 (.inl (by omega))
 have B9 := KX.b B9.1 (.inr (by omega))
 (have F := an11 @yD @yF @yA @yB @yE @yC @hwr B2.1 B6.1 B9.1 @bne_self_eq_false.{0}; (repeat' (first | refine' dA58 | ((with_reducible first | apply EvO.call (vs := ?_) | apply EvT.call (vs := ?_)); exact rfl; exact rfl; exact dE8; (first | (with_reducible apply Cal.hd (g := 15) (ms := [true]) (p := ?_)) | (with_reducible apply Cal.hd (ms := []) (p := ?_))); exact dE8) | exact dC14 | fail)); all_goals clear F)
 have B2 := hold.b B2.1
 have B6 := hold.b B6.1
 have B9 := hold.b B9.1
 (have F := an11 @yD @yF @yA @yB @yE @yC @hwr B2.1 B6.1 B9.1 @bne_self_eq_false.{0}; (repeat' (first | refine' dA58 | ((with_reducible first | apply EvO.call (vs := ?_) | apply EvT.call (vs := ?_)); exact rfl; exact rfl; exact dE8; (first | (with_reducible apply Cal.hd (g := 15) (ms := [true]) (p := ?_)) | (with_reducible apply Cal.hd (ms := []) (p := ?_))); exact dE8) | exact dC14 | fail)); all_goals clear F)
 have B2 := hold.b B2.1
 have B6 := hold.b B6.1
 have B9 := hold.b B9.1
 have rN := hC.rdA hall rfl rfl
 have d1 := rN.nd.e
 have d2 := rN.od.e
 (have F2 := an2 @d1 @d2; have F := an11 @yD @yF @yA @yB @yE @yC @hwr B2.1 B6.1 B9.1 @bne_self_eq_false.{0}; (repeat' (first | refine' dA59 | ((with_reducible first | apply EvO.call (vs := ?_) | apply EvT.call (vs := ?_)); exact rfl; exact rfl; exact dE13; (first | (with_reducible apply Cal.hd (g := 15) (ms := [true]) (p := ?_)) | (with_reducible apply Cal.hd (ms := []) (p := ?_))); exact dE13) | exact dC15 | fail)); all_goals clear F F2)
 have B6 := hold.b B6.1
 have B9 := hold.b B9.1
 (have F := an12 @yD @yF @yA @yB @yE @yC @hwr B6.1 B6.2 B9.1 B9.2 @bne_self_eq_false.{0}; (repeat' (first | refine' dA58 | ((with_reducible first | apply EvO.call (vs := ?_) | apply EvT.call (vs := ?_)); exact rfl; exact rfl; exact dE8; (first | (with_reducible apply Cal.hd (g := 15) (ms := [true]) (p := ?_)) | (with_reducible apply Cal.hd (ms := []) (p := ?_))); exact dE8) | exact dC14 | fail)); all_goals clear F)
 exact ⟨.inl rfl, fun S₂ hk => rfl⟩
theorem law_FnExactDelObject (kk mm : Int) (l : List (List Cell)) (q : List Object) (s : ByteArray) (hl : l.length ≤ 9223372036854775807) (hs : ∀ c ∈ l, c.length ≤ 9223372036854775807 ∧ ∀ x ∈ c, x.name.size ≤ 140737488351232 ∧ x.data.size ≤ 140737488351232) (hq : q.length ≤ 9223372036854775807) (hqs : ∀ o ∈ q, o.name.size ≤ 140737488351232) :
  Cal (run 60) ⟨fun _ => true, 0, false⟩ 6 [.ag [(.v (.int .i64 (kk))), (.v (.int .i64 (mm))), .ro 1 (l.map nodeC), .ro 2 (q.map Object.c)], (.v (.string (s)))] [] (fun r S' => r = .v (.bool true)) := by
 rcases Nat.lt_or_ge 1048576 s.size with hz | hz
 ·exact c6_bign (k := 60) (md := ⟨fun _ => true, 0, false⟩) (S := []) (vs := [.ag [(.v (.int .i64 (kk))), (.v (.int .i64 (mm))), .ro 1 (l.map nodeC), .ro 2 (q.map Object.c)], (.v (.string (s)))]) (D := []) (kk := kk) (mm := mm) (l := l) (q := q) (s := s) rfl hz rfl (by omega)
 rcases Nat.lt_or_ge 1048576 (l.length + szN l + q.length + szObject q) with hT | hT
 ·exact c6_big (k := 60) (md := ⟨fun _ => true, 0, false⟩) (S := []) (vs := [.ag [(.v (.int .i64 (kk))), (.v (.int .i64 (mm))), .ro 1 (l.map nodeC), .ro 2 (q.map Object.c)], (.v (.string (s)))]) (D := []) (kk := kk) (mm := mm) (l := l) (q := q) (s := s) rfl hz hl hs hq hqs hT rfl (by omega)
 ·cases hg : goodC kk mm l q && hasB q s with
  | false => exact c6_no (k := 60) (md := ⟨fun _ => true, 0, false⟩) (S := []) (vs := [.ag [(.v (.int .i64 (kk))), (.v (.int .i64 (mm))), .ro 1 (l.map nodeC), .ro 2 (q.map Object.c)], (.v (.string (s)))]) (D := []) (kk := kk) (mm := mm) (l := l) (q := q) (s := s) rfl hz hl hs hq hqs hT hg rfl rfl (by omega)
  | true =>
   rw [Bool.and_eq_true] at hg
   exact c6_yes (k := 60) (md := ⟨fun _ => true, 0, false⟩) (S := []) (vs := [.ag [(.v (.int .i64 (kk))), (.v (.int .i64 (mm))), .ro 1 (l.map nodeC), .ro 2 (q.map Object.c)], (.v (.string (s)))]) (D := []) (kk := kk) (mm := mm) (l := l) (q := q) (s := s) rfl hz hl hs hq hqs hT hg.1 hg.2 rfl rfl (by omega)
end Go.Proofs.YtdpaijnbikclgaaDoorB

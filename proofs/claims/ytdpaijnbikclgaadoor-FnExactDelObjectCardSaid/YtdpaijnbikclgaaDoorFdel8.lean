/- Part of the evaluator's contracts: del8. -/
import Derived.Test.YtdpaijnbikclgaaDoorFdel7
import Derived.Test.YtdpaijnbikclgaaDoorFclu2
import Derived.Test.YtdpaijnbikclgaaDoorFclu4
import Derived.Test.YtdpaijnbikclgaaDoorFfail3
import Derived.Test.YtdpaijnbikclgaaDoorFdel5
import Derived.Test.YtdpaijnbikclgaaDoorFclu5
import Derived.Test.YtdpaijnbikclgaaDoorFnodeO
import Derived.Test.YtdpaijnbikclgaaDoorFclu3
import Derived.Test.YtdpaijnbikclgaaDoorFdel3
import Derived.Test.YtdpaijnbikclgaaDoorFdel2
namespace Go.Proofs.YtdpaijnbikclgaaDoorB
open Go Go.Proofs.YtdpaijnbikclgaaDoorE
set_option linter.unusedVariables false
set_option linter.unusedSectionVars false
set_option linter.unusedSimpArgs false
set_option maxHeartbeats 4000000
set_option maxRecDepth 20000
theorem has_lt {q : List Object} {s : ByteArray} (h : hasB q s = true) : posQ q s < q.length := by
 by_cases e : posQ q s < q.length
 ·exact e
 ·rw [has_no e] at h; cases h
theorem c19_ok {k : Nat} {md : Md} {S : Store} {vs : List A} {D : List Nat} {kk mm : Int} {l : List (List Cell)} {q : List Object} {s : ByteArray} (hd : dpArgs S [] vs = some ([.ag [(.v (.int .i64 (kk))), (.v (.int .i64 (mm))), .ro 1 (l.map nodeC), .ro 2 (q.map Object.c)], (.v (.string (s)))], D)) (hgg : goodC kk mm l q = true := by first | assumption | omega | with_reducible rfl) (hh : hasB q s = true := by first | assumption | omega | with_reducible rfl) (hn : l.length ≤ 1048576 := by first | assumption | omega | with_reducible rfl) (hq : q.length ≤ 1048576 := by first | assumption | omega | with_reducible rfl) (hcs : ∀ c ∈ l, c.length ≤ 1048576 := by first | assumption | omega | with_reducible rfl) (hns : ∀ c ∈ l, ∀ x ∈ c, x.name.size ≤ 1048576 := by first | assumption | omega | with_reducible rfl) (hqs : ∀ o ∈ q, o.name.size ≤ 1048576 := by first | assumption | omega | with_reducible rfl) (hk : 4 ≤ k := by omega) :
  Cal (run k) md 19 vs S (fun r S' => ∃ id ids id2, r = .tu [.ag [(.v (.int .i64 (kk))), (.v (.int .i64 (mm))), .sl id 0 l.length l.length, .sl id2 0 (q.length - 1) (q.length - 1)], (.v (.bool (true)))] ∧ Clu S' S.length id id2 ids (l.map (flt s)) (q.eraseIdx (posQ q s)) ∧ (∀ i, i < l.length → ids i ≠ none) ∧ Kept S S') := by
 obtain ⟨k, rfl⟩ : ∃ j, k = j + 1 := ⟨k - 1, by omega⟩
 refine Cal.fnN (n := 41) (rs := [.cell 4 31, .tmp 5]) (D := D) (Xof_none rfl) g19 (by delta Tryd.f19; exact rfl) (by delta Tryd.f19; exact rfl) (by delta Tryd.f19; exact rfl) hd rfl (by first | exact .inr (by assumption) | exact .inl rfl | exact .inl (by simp [idsV, idsC])) (by simp) ?_
 intro md' ow; have w := ow.w; have w0 := ow.w0; have fz : md'.fz = false := ow.fz
 have hqs2 : ∀ o ∈ q, o.name.size ≤ 9223372036854775807 := fun o ho => by have := hqs o ho; omega
 have h0 := nodes_lt hgg
 have hpl := has_lt hh
 (have F := an8 @yD @yF @yA @yB @yE @yC @hgg @hh; (repeat' (first | refine' dA57 | ((with_reducible first | apply EvO.call (vs := ?_) | apply EvT.call (vs := ?_)); exact rfl; exact rfl; exact dE8; (first | (with_reducible apply Cal.hd (g := 47) (ms := [true]) (p := ?_)) | (with_reducible apply Cal.hd (ms := []) (p := ?_))); exact dE8) | ((with_reducible apply CalH.mk); intro hd; first | exact c47 (k := k) hd (hN := hC.n) (hwi := wr_of w (Nat.le_trans (by simp) hC.m.1)) | exact c28 hd | exact c9 hd | exact c41 hd) | fail)); all_goals clear F)
 have hKS := (Kept.app S _).trans hold
 have hm := hC.m
 simp only [List.length_append, List.length_cons, List.length_nil] at hm
 have hlt := hC.lt
 have b0 := hold.get ((get_len0 S _).trans rfl)
 have b1 := hold.get ((get_len S _ 1).trans rfl)
 have hsl := hold.1
 simp only [List.length_append, List.length_cons, List.length_nil] at hsl
 have c0 := (hkd S.length (by omega) (by omega)).trans b0
 have c1 := (hkd (S.length + 1) (by omega) (by omega)).trans b1
 have co := (hkd id2 hlt.2.1 hC.d).trans hC.o
 have w1 : ∀ k, md'.wr (S'.length + k) = true := fun k => wr_of w (by omega)
 have w2 : md'.wr S'.length = true := wr_of w (by omega)
 have hl2 : id2 < S'.length := by omega
 have hrl : (q.map Object.c).length = q.length := by simp
 have hnw : ∀ (o x : Ob), (S'.set S.length o ++ [x])[S'.length]? = some x := fun o x => by rw [List.getElem?_append_right (by simp)]; simp
 have hst : ∀ (o x y : Ob), (S'.set S.length o ++ [x]).set S'.length y = S'.set S.length o ++ [y] := fun o x y => by rw [List.set_append, if_neg (by simp)]; simp
 have hlf1 : ∀ n, leafRows ((q.map Object.c).take n) = true := fun n => by rw [← List.map_take]; exact lf_Object _
 have hlf2 : ∀ n, leafRows ((q.map Object.c).drop n) = true := fun n => by rw [← List.map_drop]; exact lf_Object _
 (have F := an23 @yD @yF @yA @yB @yE @yC @c0 @c1 @co @w1 @w2 @hl2 @hrl @hnw @hst @hlf1 @hlf2 @List.getElem?_append_left.{0} @List.set_append_left.{0} @List.getElem?_set_self.{0} @List.getElem?_set_ne.{0} @List.set_set.{0} @List.length_set.{0}; (repeat' (first | refine' dA54 | ((with_reducible first | apply EvO.call (vs := ?_) | apply EvT.call (vs := ?_)); exact rfl; exact rfl; exact dE8; (first | (with_reducible apply Cal.hd (g := 47) (ms := [true]) (p := ?_)) | (with_reducible apply Cal.hd (ms := []) (p := ?_))); exact dE8) | exact dC12 | fail)); all_goals clear F)
 have hen : min (posQ q s) q.length + (q.length - ((posQ q s : Int) + 1).toNat) = q.length - 1 := by omega
 have her : List.take (posQ q s) (q.map Object.c) ++ List.drop ((posQ q s : Int) + 1).toNat (q.map Object.c) = (q.eraseIdx (posQ q s)).map Object.c := by rw [show ((posQ q s : Int) + 1).toNat = posQ q s + 1 by omega, List.eraseIdx_eq_take_drop_succ, List.map_append, List.map_take, List.map_drop]
 rw [hen, her]
 have hql : ∀ j, j < S'.length → j ≠ S.length → j ≠ S.length + 1 → ∀ o o' x, ((S'.set S.length o).set (S.length + 1) o' ++ x)[j]? = S'[j]? := fun j h0 h1 h2 o o' x => by rw [List.getElem?_append_left (by simpa using h0), List.getElem?_set_ne (Ne.symm h2), List.getElem?_set_ne (Ne.symm h1)]
 have hL : ∀ {i : Nat}, i < (l.map (flt s)).length → i < l.length := fun h => by simpa using h
 refine ⟨.inr rfl, fun S₂ hk => ⟨id, ids, S'.length, rfl, Clu.kp ⟨hNd.mono (hql _ hNd.id_lt (by omega) (by omega) _ _ _) (fun i k hi hk => hql _ (hNd.in_lt hi hk) (by have := hged i k (hL hi) hk; omega) (by have := hged i k (hL hi) hk; omega) _ _ _), ?_, by have := hNd.id_lt; omega, fun i k hi hk => by have := hNd.in_lt hi hk; omega, by omega, by omega, fun i k hi hk => by have := hged i k (hL hi) hk; omega⟩ hk, hald, Kp.kept hk ⟨by simp; omega, fun j hj => ((hql j (by omega) (by omega) (by omega) _ _ _).trans (hkd j (by omega) (by omega))).trans (hKS.2 j hj)⟩⟩⟩
 rw [List.getElem?_append_right (by simp)]; simp
theorem c20_ok {k : Nat} {md : Md} {S : Store} {vs : List A} {D : List Nat} {kk mm : Int} {l : List (List Cell)} {q : List Object} {s : ByteArray} (hd : dpArgs S [] vs = some ([.ag [(.v (.int .i64 (kk))), (.v (.int .i64 (mm))), .ro 1 (l.map nodeC), .ro 2 (q.map Object.c)], (.v (.string (s)))], D)) (hgg : goodC kk mm l q = true := by first | assumption | omega | with_reducible rfl) (hh : hasB q s = true := by first | assumption | omega | with_reducible rfl) (hn : l.length ≤ 1048576 := by first | assumption | omega | with_reducible rfl) (hq : q.length ≤ 1048576 := by first | assumption | omega | with_reducible rfl) (hcs : ∀ c ∈ l, c.length ≤ 1048576 := by first | assumption | omega | with_reducible rfl) (hns : ∀ c ∈ l, ∀ x ∈ c, x.name.size ≤ 1048576 := by first | assumption | omega | with_reducible rfl) (hqs : ∀ o ∈ q, o.name.size ≤ 1048576 := by first | assumption | omega | with_reducible rfl) (hk : 14 ≤ k := by omega) :
  Cal (run k) md 20 vs S (fun r S' => ∃ id ids id2, r = .tu [.ag [(.v (.int .i64 (kk))), (.v (.int .i64 (mm))), .sl id 0 l.length l.length, .sl id2 0 (q.length - 1) q.length], (.v (.bool (true)))] ∧ Clp S' S.length id id2 ids (l.map (flt s)) (stP s l l.length) (q.eraseIdx (posQ q s)) 1 ∧ (∀ i, i < l.length → ids i ≠ none) ∧ Kept S S') := by
 obtain ⟨k, rfl⟩ : ∃ j, k = j + 1 := ⟨k - 1, by omega⟩
 refine Cal.fnN (n := 35) (rs := [.cell 4 31, .tmp 5]) (D := D) (Xof_none rfl) g20 (by delta Tryd.f20; exact rfl) (by delta Tryd.f20; exact rfl) (by delta Tryd.f20; exact rfl) hd rfl (by first | exact .inr (by assumption) | exact .inl rfl | exact .inl (by simp [idsV, idsC])) (by simp) ?_
 intro md' ow; have w := ow.w; have w0 := ow.w0; have fz : md'.fz = false := ow.fz
 have hqs2 : ∀ o ∈ q, o.name.size ≤ 9223372036854775807 := fun o ho => by have := hqs o ho; omega
 have hpl := has_lt hh
 have hG : GoodP kk mm l q := by
  by_cases h : GoodP kk mm l q
  ·exact h
  ·rw [goodC_f h] at hgg; cases hgg
 have hsr : srt q := fun a b hab hb => sorted hG.ob hab hb
 have h0 := nodes_lt hgg
 (have F := an7 @yD @yF @yA @yB @yE @yC @hgg; (repeat' (first | refine' dA55 | ((with_reducible apply EvO.call (vs := ?_)); exact rfl; exact rfl; exact dE8; (first | (with_reducible apply Cal.hd (g := 48) (ms := [true]) (p := ?_)) | (with_reducible apply Cal.hd (g := 49) (ms := [true]) (p := ?_)) | (with_reducible apply Cal.hd (ms := []) (p := ?_))); exact dE8) | exact dC11 | fail)); all_goals clear F)
 have b0 := (hold.get ((get_len0 S _).trans rfl))
 have b1 := (hold.get ((get_len S _ 1).trans rfl))
 have hKS : Kept S S' := (Kept.app S _).trans hold
 have hlt := hC.lt
 have hm := hC.m
 simp only [List.length_append, List.length_cons, List.length_nil] at hm
 have w1 : ∀ k, md'.wr (S'.length + k) = true := fun k => wr_of w (by have := hlt.1; omega)
 have w2 : md'.wr S'.length = true := wr_of w (by have := hlt.1; omega)
 have rO := hC.rdA hall rfl rfl
 have d1 := fun T => (rO.ndT T).e
 have d2 := fun T => (rO.odT T).e
 have hw2 : md'.wr id2 = true := wr_of w (by omega)
 have co := hC.o
 have hl2 := hlt.2.1
 have hwi : md'.wr id = true := wr_of w (by omega)
 have hwk : ∀ i k, i < l.length → ids i = some k → md'.wr k = true := fun i k hi hk => wr_of w (by have := hm.2.2 i k hi hk; omega)
 have hNx : ∀ o b, Nst (S'.set id2 o ++ [b]) id ids l := fun o b => hC.n.mono (by rw [List.getElem?_append_left (by simpa using hlt.1), List.getElem?_set_ne hC.d]) fun i k hi hk => by rw [List.getElem?_append_left (by simpa using hC.n.in_lt hi hk), List.getElem?_set_ne (Ne.symm (hC.e i k hi hk))]
 have hT6 : ∀ o b, (S'.set id2 o ++ [b])[S'.length]? = some b := fun o b => by rw [List.getElem?_append_right (by simp)]; simp
 have hTj : ∀ j, j < S'.length → j ≠ id2 → ∀ o b, (S'.set id2 o ++ [b])[j]? = S'[j]? := fun j h1 h2 o b => by rw [List.getElem?_append_left (by simpa using h1), List.getElem?_set_ne (Ne.symm h2)]
 have hT2 : ∀ o b, (S'.set id2 o ++ [b])[id2]? = some o := fun o b => by rw [List.getElem?_append_left (by simpa using hl2), List.getElem?_set_self hl2]
 have hT1 := fun o b => (hTj (S.length + 1) (by omega) (by omega) o b).trans b1
 have hTl : ∀ (o b : Ob), (S'.set id2 o ++ [b]).length = S'.length + 1 := fun o b => by simp
 have hni : ∀ j, j < S.length + 2 → ∀ i, i < l.length → ids i ≠ some j := fun j h i hi e => by have := hm.2.2 i j hi e; omega
 have hnt : ∀ i, i < l.length → ids i ≠ some S'.length := fun i hi e => by have := hlt.2.2 i _ hi e; omega
 (have F2 := an2 @d1 @d2; have F := an16 @yD @yF @yA @yB @yE @yC @b0 @b1 @w1 @w2 @hw2 @co @hl2 @hh @List.getElem?_append_left.{0} @List.set_append_left.{0}; (repeat' (first | refine' dA56 | ((with_reducible apply EvO.call (vs := ?_)); exact rfl; exact rfl; exact dE13; (first | (with_reducible apply Cal.hd (g := 49) (ms := [true]) (p := ?_)) | (with_reducible apply Cal.hd (g := 48) (ms := [true]) (p := ?_)) | (with_reducible apply Cal.hd (ms := []) (p := ?_))); exact dE13) | ((with_reducible apply CalH.mk); intro hd; first | exact c49 (k := k) hd (hN := hNx _ _) (hw := hwk) (hwi := hwi) | exact c11 hd | exact c42 hd | exact c36 hd | exact c48_one hd (hid := dH4) (hw := dH4)) | fail)); all_goals clear F F2)
 simp only [hTl] at hlenp hkp
 have c1 := (hkp _ (by omega) (by omega) (hni _ (by omega))).trans (hT1 _ _)
 have c6 := (hkp _ (by omega) (by omega) hnt).trans (hT6 _ _)
 have c2 := (hkp _ (by omega) hC.d fun i hi e => hC.e i _ hi e rfl).trans (hT2 _ _)
 (have F := an10 @yD @yF @yA @yB @yE @yC @c1 @c6 @List.getElem?_cons_zero.{0} @List.getElem?_cons_succ.{0}; (repeat' (first | refine' dA55 | ((with_reducible apply EvO.call (vs := ?_)); exact rfl; exact rfl; exact dE8; (first | (with_reducible apply Cal.hd (g := 48) (ms := [true]) (p := ?_)) | (with_reducible apply Cal.hd (g := 49) (ms := [true]) (p := ?_)) | (with_reducible apply Cal.hd (ms := []) (p := ?_))); exact dE8) | exact dC11 | fail)); all_goals clear F)
 have hL : ∀ {i : Nat}, i < (l.map (flt s)).length → i < l.length := fun h => by simpa using h
 have hql : ∀ j, j ≠ S.length + 1 → ∀ o, (S'.set (S.length + 1) o)[j]? = S'[j]? := fun j h2 o => by rw [List.getElem?_set_ne (Ne.symm h2)]
 refine ⟨.inr rfl, fun S₂ hk => ⟨id, ids, id2, rfl, Clp.kp ⟨hNp.mono (hql _ (by omega) _) (fun i k hi hk => hql _ (by have := hm.2.2 i k (hL hi) hk; omega) _), (hql _ (by omega) _).trans c2, hC.d, fun i k hi hk => hC.e i k (hL hi) hk, by omega, by omega, fun i k hi hk => by have := hm.2.2 i k (hL hi) hk; omega⟩ hk, hall, Kp.kept hk ⟨by simp; omega, fun j hj => ((hql j (by omega) _).trans (hkp j (by omega) (by omega) (hni j (by omega)))).trans ((hTj j (by omega) (by omega) _ _).trans (hKS.2 j hj))⟩⟩⟩
end Go.Proofs.YtdpaijnbikclgaaDoorB

/- Part of the evaluator's contracts: mat3. -/
import Derived.Test.YtomklniddinhnaaFmat1
namespace Go.Proofs.YtomklniddinhnaaB
open Go Go.Proofs.YtomklniddinhnaaE
set_option linter.unusedVariables false
set_option linter.unusedSectionVars false
set_option linter.unusedSimpArgs false
set_option maxHeartbeats 4000000
set_option maxRecDepth 20000
def codM (kn mn : Nat) : List (List Nat) := idM kn ++ cauM mn kn
theorem codM_len (kn mn : Nat) : (codM kn mn).length = kn + mn := by simp [codM, idM, cauM]
theorem c69 {k : Nat} {md : Md} {S : Store} {vs : List A} {D : List Nat} {kn mn : Nat} (hd : dpArgs S [] vs = some ([(.v (.int .i64 ((kn : Int)))), (.v (.int .i64 ((mn : Int))))], D)) (hD0 : D = [] := by first | assumption | omega | with_reducible rfl) (h0 : 0 < kn := by first | assumption | omega | with_reducible rfl) (h1 : 0 < mn := by first | assumption | omega | with_reducible rfl) (hkm : kn + mn ≤ 256 := by first | assumption | omega | with_reducible rfl) (hk : 5 ≤ k := by omega) :
  Cal (run k) md 69 vs S (fun r S' => ∃ id ids, r = .ag [.sl id 0 (kn + mn) (kn + mn)] ∧ Mst S' id ids (codM kn mn) ∧ (∀ i, i < kn + mn → ids i ≠ none) ∧ S.length ≤ id ∧ (∀ i k, i < kn + mn → ids i = some k → S.length ≤ k) ∧ Kept S S') := by
 obtain ⟨k, rfl⟩ : ∃ j, k = j + 1 := ⟨k - 1, by omega⟩
 refine Cal.fnN (n := 17) (rs := [.cell 4 92]) (D := D) (Xof_none rfl) g69 (by delta Try.f69; exact rfl) (by delta Try.f69; exact rfl) (by delta Try.f69; exact rfl) hd rfl (by first | exact .inr (by assumption) | exact .inl rfl | exact .inl (by simp [idsV, idsC])) (by simp) ?_
 intro md' ow; have w := ow.w; have w0 := ow.w0; have fz : md'.fz = false := ow.fz
 subst hD0
 (have F := an2 @yD @yE; (repeat' (first | refine' dA69 | ((with_reducible first | apply EvO.call (vs := ?_) | apply EvT.call (vs := ?_)); exact rfl; exact rfl; exact dE7; (with_reducible apply Cal.hd (ms := []) (p := ?_)); exact dE7) | ((with_reducible apply CalH.mk); intro hd; first | exact c91 hd | exact c92 hd) | fail)); all_goals clear F)
 generalize hTT : S' = T at *
 generalize hII : id = iA at *
 generalize hJJ : ids = jA at *
 have hN1 := hN
 have hall1 := hall
 have hTl := hN.id_lt
 simp only [List.length_append, List.length_cons, List.length_nil] at hid hge
 have hge1 := hge
 have b0 := hold.get (get_len0 S _)
 have w1 : md'.wr T.length = true := wr_of w (by omega)
 have w2 : ∀ k, md'.wr (T.length + k) = true := fun k => wr_of w (by omega)
 have hKS : Kept S T := (Kept.app S _).trans hold
 have hwA : md'.wr iA = true := wr_of w (by omega)
 (have F := an5 @yD @yE @b0 @List.getElem?_append_left.{0} @List.set_append_left.{0}; (repeat' (first | refine' dA70 | ((with_reducible first | apply EvO.call (vs := ?_) | apply EvT.call (vs := ?_)); exact rfl; exact rfl; exact dE20; (with_reducible apply Cal.hd (ms := []) (p := ?_)); exact dE20) | ((with_reducible apply CalH.mk); intro hd; first | exact c91 hd | exact c92 hd) | fail)); all_goals clear F)
 have hsl := hold.1
 simp only [List.length_append, List.length_cons, List.length_nil] at hid hge hsl
 have c0 := hold.get (app_get b0 _)
 have c5 := hold.get (get_len0 T _)
 have cA := hold.get (app_get hN1.ob _)
 have cB := hN.ob
 unfold mobK at cA cB
 have hrA := mrows_len jA (idM kn)
 rw [idM_len] at hrA
 have hrB := mrows_len ids (cauM mn kn)
 rw [cauM_len] at hrB
 have hlf := mrows_leaf ids (cauM mn kn)
 have htk : List.take mn (mrows ids (cauM mn kn)) = mrows ids (cauM mn kn) := List.take_of_length_le (by omega)
 have hBl := hN.id_lt
 have hAl : iA < S'.length := by omega
 have hab : iA ≠ id := by omega
 have v1 : md'.wr S'.length = true := wr_of w (by omega)
 (have F := an13 @yD @yE @c0 @c5 @cA @cB @hrA @hrB @hlf @hAl @List.getElem?_set_self.{0} @List.getElem?_set_ne.{0} @List.length_set.{0}; (repeat' (first | refine' dA71 | ((with_reducible first | apply EvO.call (vs := ?_) | apply EvT.call (vs := ?_)); exact rfl; exact rfl; exact dE23; (with_reducible apply Cal.hd (ms := []) (p := ?_)); exact dE23) | ((with_reducible apply CalH.mk); intro hd; first | exact c91 hd | exact c92 hd) | fail)); all_goals clear F)
 refine ⟨.inl rfl, fun S₂ hk => ?_⟩
 rw [hk.nil]
 have hNA : Mst S' iA jA (idM kn) := (hN1.keep (Kept.app T _)).keep hold
 have hJ1 := hNA.join (S' := S'.set iA ⟨1, mrows jA (idM kn) ++ mrows ids (cauM mn kn), 0, false⟩) hN (fun i k hi hk => ⟨by have := hge i k (by simpa [cauM_len] using hi) hk; omega, fun j hj e => by have := hge i k (by simpa [cauM_len] using hi) hk; have := hN1.in_lt hj e; omega⟩) (by rw [List.getElem?_set_self hAl]) (fun k o hk ho => by rw [List.getElem?_set_ne (Ne.symm hk)]; exact ho)
 rw [idM_len] at hJ1
 have hq : ∀ (U : Store) j, j ≠ S.length → j ≠ T.length → ∀ o o', ((U.set T.length o).set S.length o')[j]? = U[j]? := fun U j h1 h2 o o' => by rw [List.getElem?_set_ne (Ne.symm h1), List.getElem?_set_ne (Ne.symm h2)]
 have hfk : ∀ i k, i < kn + mn → (if i < kn then jA i else ids (i - kn)) = some k → S.length < k ∧ k ≠ T.length := fun i k hi hk => by
  by_cases c : i < kn
  ·rw [if_pos c] at hk
   have h1 := hge1 i k c hk
   have h2 := hN1.in_lt (by rw [idM_len]; exact c) hk
   omega
  ·rw [if_neg c] at hk
   have h1 := hge (i - kn) k (by omega) hk
   omega
 refine ⟨iA, _, rfl, hJ1.mono (hq _ _ (by omega) (by omega) _ _) (fun i k hi hk => ?_), fun i hi => ?_, by omega, fun i k hi hk => by have := hfk i k hi hk; omega, ⟨by simp; omega, fun j hj => ?_⟩⟩
 ·have := hfk i k (by simpa [idM_len, cauM_len] using hi) hk
  exact hq _ _ (by omega) (by omega) _ _
 ·by_cases c : i < kn
  ·rw [if_pos c]; exact hall1 i c
  ·rw [if_neg c]; exact hall (i - kn) (by omega)
 ·rw [hq _ _ (by omega) (by omega) _ _, List.getElem?_set_ne (by omega), hold.2 j (by simp; omega), List.getElem?_append_left (by omega)]
  exact hKS.2 j hj
end Go.Proofs.YtomklniddinhnaaB

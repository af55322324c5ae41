/- Part of the evaluator's contracts: mat4. -/
import Derived.Test.YtomklniddinhnaaFmat2
import Derived.Test.YtomklniddinhnaaFmat3
namespace Go.Proofs.YtomklniddinhnaaB
open Go Go.Proofs.YtomklniddinhnaaE
set_option linter.unusedVariables false
set_option linter.unusedSectionVars false
set_option linter.unusedSimpArgs false
set_option maxHeartbeats 4000000
set_option maxRecDepth 20000
theorem c74 {k : Nat} {md : Md} {S : Store} {vs : List A} {D : List Nat} {kn mn : Nat} (hd : dpArgs S [] vs = some ([(.v (.int .i64 ((kn : Int)))), (.v (.int .i64 ((mn : Int))))], D)) (hD0 : D = [] := by first | assumption | omega | with_reducible rfl) (h0 : 0 < kn := by first | assumption | omega | with_reducible rfl) (h1 : 0 < mn := by first | assumption | omega | with_reducible rfl) (hkm : kn + mn ≤ 256 := by first | assumption | omega | with_reducible rfl) (hk : 16 ≤ k := by omega) :
  Cal (run k) md 74 vs S (fun r S' => ∃ id ids, r = .sl id 0 (kn + mn) (kn + mn) ∧ Mst S' id ids (codM kn mn) ∧ (∀ i, i < kn + mn → ids i ≠ none) ∧ S.length ≤ id ∧ (∀ i k, i < kn + mn → ids i = some k → S.length ≤ k) ∧ Kept S S') := by
 obtain ⟨k, rfl⟩ : ∃ j, k = j + 1 := ⟨k - 1, by omega⟩
 refine Cal.fnN (n := 11) (rs := [.tmp 4]) (D := D) (Xof_none rfl) g74 (by delta Try.f74; exact rfl) (by delta Try.f74; exact rfl) (by delta Try.f74; exact rfl) hd rfl (by first | exact .inr (by assumption) | exact .inl rfl | exact .inl (by simp [idsV, idsC])) (by simp) ?_
 intro md' ow; have w := ow.w; have w0 := ow.w0; have fz : md'.fz = false := ow.fz
 subst hD0
 (have F := an2 @yD @yE; (repeat' (first | refine' dA68 | ((with_reducible apply EvO.call (vs := ?_)); exact rfl; exact rfl; exact dE7; (with_reducible apply Cal.hd (ms := []) (p := ?_)); exact dE7) | ((with_reducible apply CalH.mk); intro hd; first | exact c97 hd | exact c98 hd) | fail)); all_goals clear F)
 rename_i T iA jA hN1 hall1 hid1 hge1 hold1
 simp only [List.length_append, List.length_cons, List.length_nil] at hid1 hge1
 have hKS : Kept S T := (Kept.app S _).trans hold1
 have hsl := hold.1
 have hTl := hN1.id_lt
 have cA := hold.get hN1.ob
 have cB := hN.ob
 unfold mobK at cA cB
 have hrA := mrows_len jA (idM kn)
 rw [idM_len] at hrA
 have hrB := mrows_len ids (cauM mn kn)
 rw [cauM_len] at hrB
 have hlf := mrows_leaf ids (cauM mn kn)
 have htk : List.take mn (mrows ids (cauM mn kn)) = mrows ids (cauM mn kn) := List.take_of_length_le (by omega)
 have hAl : iA < S'.length := by omega
 have hab : iA ≠ id := by omega
 have hwA : md'.wr iA = true := wr_of w (by omega)
 have v1 : md'.wr S'.length = true := wr_of w (by omega)
 (have F := an8 @yD @yE @cA @cB @hrA @hrB @hlf @hAl; (repeat' (first | refine' dA72 | ((with_reducible apply EvO.call (vs := ?_)); exact rfl; exact rfl; exact dE24; (with_reducible apply Cal.hd (ms := []) (p := ?_)); exact dE24) | ((with_reducible apply CalH.mk); intro hd; first | exact c97 hd | exact c98 hd) | fail)); all_goals clear F)
 refine ⟨.inl rfl, fun S₂ hk => ?_⟩
 rw [hk.nil]
 have hNA : Mst S' iA jA (idM kn) := hN1.keep hold
 have hJ1 := hNA.join (S' := S'.set iA ⟨1, mrows jA (idM kn) ++ mrows ids (cauM mn kn), 0, false⟩) hN (fun i k hi hk => ⟨by have := hge i k (by simpa [cauM_len] using hi) hk; omega, fun j hj e => by have := hge i k (by simpa [cauM_len] using hi) hk; have := hN1.in_lt hj e; omega⟩) (by rw [List.getElem?_set_self hAl]) (fun k o hk ho => by rw [List.getElem?_set_ne (Ne.symm hk)]; exact ho)
 rw [idM_len] at hJ1
 refine ⟨iA, _, rfl, hJ1, fun i hi => ?_, by omega, fun i k hi hk => ?_, ⟨by simp; have := hKS.1; omega, fun j hj => ?_⟩⟩
 ·by_cases c : i < kn
  ·rw [if_pos c]; exact hall1 i c
  ·rw [if_neg c]; exact hall (i - kn) (by omega)
 ·by_cases c : i < kn
  ·rw [if_pos c] at hk; have := hge1 i k c hk; omega
  ·rw [if_neg c] at hk; have := hge (i - kn) k (by omega) hk; have := hKS.1; omega
 ·rw [List.getElem?_set_ne (by omega), hold.2 j (by have := hKS.1; omega)]
  exact hKS.2 j hj
end Go.Proofs.YtomklniddinhnaaB

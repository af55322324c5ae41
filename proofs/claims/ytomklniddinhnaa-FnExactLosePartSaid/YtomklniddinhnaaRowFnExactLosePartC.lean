/- The row of the law FnExactLosePart: called with any arguments that can be read it returns true, and each argument reads as before. No condition. -/
import Derived.Test.YtomklniddinhnaaRows
import Derived.Test.YtomklniddinhnaaFlawLP
import Derived.Test.YtomklniddinhnaaERow
import Derived.WalkKit
import Derived.ProofKit
import Derived.OpenShut
import Derived.ShutString
import Derived.ChangeOld
import Derived.Below
import Derived.SizedLaws
namespace Go.Proofs.Ytomklniddinhnaa.fnExactLosePart
open Go.ChangeShapes Go.WideShapes Go.ChangeAt Go.RowKit Go.Proofs.YtomklniddinhnaaE Go.Proofs.YtomklniddinhnaaB
open Go.ChangeMaps (open_string shut_string)
set_option linter.unusedVariables false
set_option linter.unusedSectionVars false
set_option linter.unusedSimpArgs false
theorem own : ownKnob Try.prog.godebug = none := by kernel_rfl
theorem laidOut : laidOutB Try.prog = true := by kernel_rfl
set_option maxRecDepth 100000 in
set_option maxHeartbeats 1000000 in
theorem lifted (os : Os) (started : os.Started) (H : Type) (enc : TypeId × Value → H) :
    ReturnsInHanded {} Try.checked os 3 .any (Rows.fnExactLosePartSpec.pre6 enc Try.prog Try.f3 Rows.fnExactLosePartRow.domain false) (Rows.fnExactLosePartSpec.post enc Try.prog Try.f3 false true false false) := by
  refine returnsInHanded_of_change_sized (C := Try.checked) own started (by kernel_rfl) Try.func3
    (ChangeSpec.witness6 (enc := enc) (C := Try.checked) false ⟨#[], #[.agg #[.slice none 0 0, .slice none 0 0], .int .i64 0], []⟩ 8 (by kernel_rfl) (by kernel_rfl) (by kernel_rfl) (by kernel_rfl)) ?_
  intro W base args ds gs before hval0 hW hcnd hsz0 _
  have hsz : (DataW.weightsEach Try.prog (Try.f3.params.toList ++ Rows.fnExactLosePartSpec.plain.varTypes Try.prog) (ds ++ gs)).all (· ≤ reachBytes) = true := hsz0
  have hval : ∀ (j : Nat) t v, Try.f3.params[j]? = some t → args[j]? = some v → Value.okWide Try.prog W .any base t v := hval0
  have hW' := hW
  obtain ⟨p, q, hA0, hV, rfl, hfz, hnd⟩ := hW
  have hA : DataW.TrodAll enc Try.prog W 0 (fun _ => true) true Try.f3.params.toList args.toList ds p := hA0
  rw [Try.params3] at hA hval hsz
  obtain ⟨v0, vs0, d0, ds0, p0, q0, hargs, rfl, rfl, h0, r0⟩ := trodAll_cons hA
  obtain ⟨v1, vs1, d1, ds1, p1, q1, rfl, rfl, rfl, h1, r1⟩ := trodAll_cons r0
  obtain ⟨rfl, rfl, rfl⟩ := trodAll_nil r1
  obtain rfl : args = #[v0, v1] := by cases args; simp_all
  obtain ⟨rfl, rfl⟩ := trodVars_none hV
  have o3 := opensA_int (k := .i64) Try.underlying3
  have o9 := opensA_string Try.underlying9
  have s73 := opensA_struct (sz := 3) Try.underlying73 (by kernel_rfl) (fieldsA_cons (s1 := 1) (s2 := 2) rfl (by kernel_rfl) o3 (fieldsA_cons (s1 := 1) (s2 := 1) rfl (by kernel_rfl) o3 (fieldsA_last (sz := 1) rfl (by kernel_rfl) o9)))
  have o73 := opensA_iso (fun (v : Int × Int × ByteArray) => (⟨v.1, v.2.1, v.2.2⟩ : YtomklniddinhnaaB.Part)) (row' := YtomklniddinhnaaB.Part.c) (Fit' := fun x => (Lit.int .i64 (x.gen)).wf = true ∧ (Lit.int .i64 (x.no)).wf = true ∧ x.data.size ≤ 140737488351232) (fun v => rfl) (fun v h => h) s73
  have o22 := opensA_slice (sz := 3) Try.underlying22 (by kernel_rfl) (by omega) o73
  have s79 := opensA_struct (sz := 2) Try.underlying79 (by kernel_rfl) (fieldsA_cons (s1 := 1) (s2 := 1) rfl (by kernel_rfl) o3 (fieldsA_last (sz := 1) rfl (by kernel_rfl) o3))
  have o79 := opensA_iso (fun (v : Int × Int) => (⟨v.1, v.2⟩ : YtomklniddinhnaaB.Kept)) (row' := YtomklniddinhnaaB.Kept.c) (Fit' := fun x => (Lit.int .i64 (x.tier)).wf = true ∧ (Lit.int .i64 (x.size)).wf = true) (fun v => rfl) (fun v h => h) s79
  have o23 := opensA_slice (sz := 2) Try.underlying23 (by kernel_rfl) (by omega) o79
  have o25t := opensA_struct (sz := 2) Try.underlying25 (by kernel_rfl) (fieldsA_cons (s1 := 1) (s2 := 1) rfl (by kernel_rfl) o22 (fieldsA_last (sz := 1) rfl (by kernel_rfl) o23))
  have k0 := h0
  have lt0 : ∀ x ∈ p0, x.block < W.heap.size := by obtain ⟨m, hm⟩ := k0; exact DataW.trod_lt m _ _ _ hm
  obtain ⟨⟨cs0⟩, rfl, _⟩ := okWide_struct Try.underlying25 (hval 0 25 v0 rfl rfl)
  obtain ⟨⟨l0_0, l0_1⟩, L0, Z0, R0, F0⟩ := opensA_arg o25t hsz (j := 0) (t := 25) rfl rfl h0
  obtain ⟨a1, rfl, rfl, rfl, w1⟩ := open_int Try.underlying3 (hval 1 3 v1 rfl rfl) h1
  clear hA0 hval0 hsz0 hsz
  have hlaw := law_FnExactLosePart l0_0 l0_1 a1 F0.1.1 F0.2.1 (fun p hp => (F0.1.2.2 p hp).2.2)
  refine (bridge Try.checked.mixed (Xof_ok xt_ok) hlaw rfl ?_).mono fun e W' hh => ?_
  · intro j hj
    obtain _ | j := j
    · exact arg_agg L0 Z0 R0
    obtain _ | j := j
    · exact .v _
    · exact absurd hj (by simp only [List.length_cons, List.length_nil]; omega)
  obtain ⟨he, bel⟩ := hh
  subst he
  exact ⟨_, rfl, _, _, _, [], _, [], hW', trodAll_mk1 (shut_bool Try.underlying4 _), (trodAll_cons_mk (Below.trod laidOut (by kernel_rfl) (of_decide_eq_true (by kernel_rfl)) k0 bel lt0) (trodAll_cons_mk (shut_int Try.underlying3 w1) trodAll_mk0)), rfl, bel.frame _, fun h => by cases h⟩
theorem over : Rows.fnExactLosePartRow.holds Try.pinned (OpenSpec.ofChange Rows.fnExactLosePartSpec) :=
  OpenClaim.holds_of_wide 3 Try.f3 rfl rfl rfl rfl rfl rfl rfl ⟨rfl, rfl, rfl, rfl, rfl⟩ rfl rfl rfl rfl rfl (by kernel_rfl) Try.func3 (by kernel_rfl)
    (of_decide_eq_true (by kernel_rfl)) (by unfold Func.isWrapper; first | (rw [if_pos (by decide +kernel)]; kernel_rfl) | (rw [if_neg (by decide +kernel)]; exact ⟨rfl, rfl⟩))
    (fun os started H enc _ => lifted os started H enc)
theorem proved : Rows.FnExactLosePartSaid := over
#print axioms proved
end Go.Proofs.Ytomklniddinhnaa.fnExactLosePart
namespace Go.Proofs.Ytomklniddinhnaa
/-- The row, under a short name, for the claim. -/
theorem fnExactLosePart_holds : Rows.FnExactLosePartSaid := fnExactLosePart.proved
end Go.Proofs.Ytomklniddinhnaa
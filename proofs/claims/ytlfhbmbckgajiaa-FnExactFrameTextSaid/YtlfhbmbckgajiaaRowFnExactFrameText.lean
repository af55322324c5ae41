/- The row of the law FnExactFrameText: called with any arguments that can be read it returns true, and each argument reads as before. No condition. -/
import Derived.Test.YtlfhbmbckgajiaaRows
import Derived.Test.YtlfhbmbckgajiaaPFnExactFrameTextx1
import Derived.Test.YtlfhbmbckgajiaaPureFnExactFrameText
import Derived.Test.YtlfhbmbckgajiaaRw
import Derived.WalkKit
import Derived.ProofKit
import Derived.OpenShut
import Derived.ShutString
import Derived.ChangeOld
import Derived.Below
import Derived.SizedLaws
namespace Go.Proofs.Ytlfhbmbckgajiaa.fnExactFrameText
open Go.ChangeShapes Go.WideShapes Go.ChangeAt Go.RowKit Go.Proofs.YtlfhbmbckgajiaaW.PrintWords Go.Proofs.Ytlfhbmbckgajiaa.PFnExactFrameText
open Go.ChangeMaps (open_string shut_string)
set_option linter.unusedVariables false
set_option linter.unusedSimpArgs false
theorem own : ownKnob Try.prog.godebug = none := by kernel_rfl
theorem laidOut : laidOutB Try.prog = true := by kernel_rfl
set_option maxRecDepth 100000 in
set_option maxHeartbeats 1000000 in
theorem lifted (os : Os) (started : os.Started) (H : Type) (enc : TypeId × Value → H) :
    ReturnsInHanded {} Try.checked os 4 .any (Rows.fnExactFrameTextSpec.pre6 enc Try.prog Try.f4 Rows.fnExactFrameTextRow.domain false) (Rows.fnExactFrameTextSpec.post enc Try.prog Try.f4 false true false false) := by
  refine returnsInHanded_of_change_sized (C := Try.checked) own started (by kernel_rfl) Try.func4
    (ChangeSpec.witness6 (enc := enc) (C := Try.checked) false ⟨#[], #[.agg #[.int .i64 0, .int .i64 0, .int .i64 0, .string ByteArray.empty, .int .i64 0]], []⟩ 8 (by kernel_rfl) (by kernel_rfl) (by kernel_rfl) (by kernel_rfl)) ?_
  intro W base args ds gs before hval0 hW hcnd hsz0 _
  have hsz : (DataW.weightsEach Try.prog (Try.f4.params.toList ++ Rows.fnExactFrameTextSpec.plain.varTypes Try.prog) (ds ++ gs)).all (· ≤ reachBytes) = true := hsz0
  have hval : ∀ (j : Nat) t v, Try.f4.params[j]? = some t → args[j]? = some v → Value.okWide Try.prog W .any base t v := hval0
  have hW' := hW
  obtain ⟨p, q, hA0, hV, rfl, hfz, hnd⟩ := hW
  have hA : DataW.TrodAll enc Try.prog W 0 (fun _ => true) true Try.f4.params.toList args.toList ds p := hA0
  rw [Try.params4] at hA hval hsz
  obtain ⟨v0, vs0, d0, ds0, p0, q0, hargs, rfl, rfl, h0, r0⟩ := trodAll_cons hA
  obtain ⟨rfl, rfl, rfl⟩ := trodAll_nil r0
  obtain rfl : args = #[v0] := by cases args; simp_all
  obtain ⟨rfl, rfl⟩ := trodVars_none hV
  have o3 := Rw.opens_int (k := .i64) Try.underlying3
  have o9 := Rw.opens_string Try.underlying9
  have o25t := Rw.opens_struct (d := (Kd.pair (Kd.int .i64) (Kd.pair (Kd.int .i64) (Kd.pair (Kd.int .i64) (Kd.pair Kd.string (Kd.int .i64)))))) Try.underlying25 (by kernel_rfl) (Rw.fields_cons rfl (by kernel_rfl) o3 (Rw.fields_cons rfl (by kernel_rfl) o3 (Rw.fields_cons rfl (by kernel_rfl) o3 (Rw.fields_cons rfl (by kernel_rfl) o9 (Rw.fields_last rfl (by kernel_rfl) o3)))))
  have k0 := h0
  have lt0 : ∀ x ∈ p0, x.block < W.heap.size := by obtain ⟨m, hm⟩ := k0; exact DataW.trod_lt m _ _ _ hm
  obtain ⟨⟨cs0⟩, rfl, _⟩ := okWide_struct Try.underlying25 (hval 0 25 v0 rfl rfl)
  obtain ⟨⟨a0_0, a0_1, a0_2, a0_3, a0_4⟩, K0, F0⟩ := Rw.opens_arg o25t hsz (j := 0) (t := 25) rfl rfl h0
  obtain ⟨_, _, e0, rfl, ⟨_, _, rfl, rfl, ⟨_, _, rfl, rfl, ⟨_, _, rfl, rfl, rfl⟩⟩⟩⟩ := K0
  simp only [Value.cells, List.cons_append, List.nil_append] at e0
  subst e0
  clear hA0 hval0 hsz0 hsz
  have h := Pure.FnExactFrameText a0_0 a0_1 a0_2 a0_3 a0_4 F0
  refine (laws_FnExactFrameText.calls a0_0 a0_1 a0_2 a0_3 a0_4 true W  h).mono fun e W' hh => ?_
  obtain ⟨he, bel⟩ := hh
  subst he
  exact ⟨_, rfl, _, _, _, [], _, [], hW', trodAll_mk1 (shut_bool Try.underlying4 _), (trodAll_cons_mk (Below.trod laidOut (by kernel_rfl) (of_decide_eq_true (by kernel_rfl)) k0 bel lt0) trodAll_mk0), rfl, bel.frame _, fun h => by cases h⟩
theorem over : Rows.fnExactFrameTextRow.holds Try.pinned (OpenSpec.ofChange Rows.fnExactFrameTextSpec) :=
  OpenClaim.holds_of_wide 4 Try.f4 rfl rfl rfl rfl rfl rfl rfl ⟨rfl, rfl, rfl, rfl, rfl⟩ rfl rfl rfl rfl rfl (by kernel_rfl) Try.func4 (by kernel_rfl)
    (of_decide_eq_true (by kernel_rfl)) (by unfold Func.isWrapper; first | (rw [if_pos (by decide +kernel)]; kernel_rfl) | (rw [if_neg (by decide +kernel)]; exact ⟨rfl, rfl⟩))
    (fun os started H enc _ => lifted os started H enc)
theorem proved : Rows.FnExactFrameTextSaid := over
#print axioms proved
end Go.Proofs.Ytlfhbmbckgajiaa.fnExactFrameText
namespace Go.Proofs.Ytlfhbmbckgajiaa
/-- The row, under a short name, for the claim. -/
theorem fnExactFrameText_holds : Rows.FnExactFrameTextSaid := fnExactFrameText.proved
end Go.Proofs.Ytlfhbmbckgajiaa

/- The row of the law FnExactTierOf: called with any arguments that can be read it returns true, and each argument reads as before. No condition. -/
import Derived.Test.YtppgkkejddjacaaRows
import Derived.Test.YtppgkkejddjacaaPFnExactTierOfx7
import Derived.Test.YtppgkkejddjacaaPureFnExactTierOf
import Derived.Test.YtppgkkejddjacaaRw
import Derived.WalkKit
import Derived.ProofKit
import Derived.OpenShut
import Derived.ShutString
import Derived.ChangeOld
import Derived.Below
import Derived.SizedLaws
namespace Go.Proofs.Ytppgkkejddjacaa.fnExactTierOf
open Go.ChangeShapes Go.WideShapes Go.ChangeAt Go.RowKit Go.Proofs.YtppgkkejddjacaaW.PrintWords Go.Proofs.Ytppgkkejddjacaa.PFnExactTierOf
open Go.ChangeMaps (open_string shut_string)
set_option linter.unusedVariables false
set_option linter.unusedSimpArgs false
theorem own : ownKnob Try.prog.godebug = none := by kernel_rfl
theorem laidOut : laidOutB Try.prog = true := by kernel_rfl
set_option maxRecDepth 100000 in
set_option maxHeartbeats 1000000 in
theorem lifted (os : Os) (started : os.Started) (H : Type) (enc : TypeId × Value → H) :
    ReturnsInHanded {} Try.checked os 10 .any (Rows.fnExactTierOfSpec.pre6 enc Try.prog Try.f10 Rows.fnExactTierOfRow.domain false) (Rows.fnExactTierOfSpec.post enc Try.prog Try.f10 false true false false) := by
  refine returnsInHanded_of_change_sized (C := Try.checked) own started (by kernel_rfl) Try.func10
    (ChangeSpec.witness6 (enc := enc) (C := Try.checked) false ⟨#[], #[.agg #[.slice none 0 0, .slice none 0 0]], []⟩ 8 (by kernel_rfl) (by kernel_rfl) (by kernel_rfl) (by kernel_rfl)) ?_
  intro W base args ds gs before hval0 hW hcnd hsz0 _
  have hsz : (DataW.weightsEach Try.prog (Try.f10.params.toList ++ Rows.fnExactTierOfSpec.plain.varTypes Try.prog) (ds ++ gs)).all (· ≤ reachBytes) = true := hsz0
  have hval : ∀ (j : Nat) t v, Try.f10.params[j]? = some t → args[j]? = some v → Value.okWide Try.prog W .any base t v := hval0
  have hW' := hW
  obtain ⟨p, q, hA0, hV, rfl, hfz, hnd⟩ := hW
  have hA : DataW.TrodAll enc Try.prog W 0 (fun _ => true) true Try.f10.params.toList args.toList ds p := hA0
  rw [Try.params10] at hA hval hsz
  obtain ⟨v0, vs0, d0, ds0, p0, q0, hargs, rfl, rfl, h0, r0⟩ := trodAll_cons hA
  obtain ⟨rfl, rfl, rfl⟩ := trodAll_nil r0
  obtain rfl : args = #[v0] := by cases args; simp_all
  obtain ⟨rfl, rfl⟩ := trodVars_none hV
  have o3 := Rw.opens_int (k := .i64) Try.underlying3
  have o9 := Rw.opens_string Try.underlying9
  have o134 := Rw.opens_iso (f := fun x : S134 => (x.f0, x.f1, x.f2)) (fun v => ⟨v.1, v.2.1, v.2.2⟩) (fun v => rfl) (Rw.opens_struct (d := (Kd.pair (Kd.int .i64) (Kd.pair (Kd.int .i64) Kd.string))) Try.underlying134 (by kernel_rfl) (Rw.fields_cons rfl (by kernel_rfl) o3 (Rw.fields_cons rfl (by kernel_rfl) o3 (Rw.fields_last rfl (by kernel_rfl) o9))))
  have o55 := Rw.opens_slice (d := k134) 134 32 Try.underlying55 (by kernel_rfl) (by kernel_rfl) o134
  have o137 := Rw.opens_iso (f := fun x : S137 => (x.f0, x.f1)) (fun v => ⟨v.1, v.2⟩) (fun v => rfl) (Rw.opens_struct (d := (Kd.pair (Kd.int .i64) (Kd.int .i64))) Try.underlying137 (by kernel_rfl) (Rw.fields_cons rfl (by kernel_rfl) o3 (Rw.fields_last rfl (by kernel_rfl) o3)))
  have o56 := Rw.opens_slice (d := k137) 137 16 Try.underlying56 (by kernel_rfl) (by kernel_rfl) o137
  have o58t := Rw.opens_struct (d := (Kd.pair (Kd.slice 134 k134) (Kd.slice 137 k137))) Try.underlying58 (by kernel_rfl) (Rw.fields_cons rfl (by kernel_rfl) o55 (Rw.fields_last rfl (by kernel_rfl) o56))
  have k0 := h0
  have lt0 : ∀ x ∈ p0, x.block < W.heap.size := by obtain ⟨m, hm⟩ := k0; exact DataW.trod_lt m _ _ _ hm
  obtain ⟨⟨cs0⟩, rfl, _⟩ := okWide_struct Try.underlying58 (hval 0 58 v0 rfl rfl)
  obtain ⟨⟨l0_0, l0_1⟩, K0, F0⟩ := Rw.opens_arg o58t hsz (j := 0) (t := 58) rfl rfl h0
  obtain ⟨_, _, e0, ⟨A0_0, c0_0, rfl, hc0_0, hr0_0⟩, ⟨A0_1, c0_1, rfl, hc0_1, hr0_1⟩⟩ := K0
  simp only [Value.cells, List.cons_append, List.nil_append] at e0
  subst e0
  clear hA0 hval0 hsz0 hsz
  obtain ⟨k, h⟩ := Pure.FnExactTierOf l0_0 l0_1 F0
  refine (laws_FnExactTierOf.calls k _ _ l0_0 _ _ l0_1 true W hr0_0 hc0_0 hr0_1 hc0_1 h).mono fun e W' hh => ?_
  obtain ⟨he, bel⟩ := hh
  subst he
  exact ⟨_, rfl, _, _, _, [], _, [], hW', trodAll_mk1 (shut_bool Try.underlying4 _), (trodAll_cons_mk (Below.trod laidOut (by kernel_rfl) (of_decide_eq_true (by kernel_rfl)) k0 bel lt0) trodAll_mk0), rfl, bel.frame _, fun h => by cases h⟩
theorem over : Rows.fnExactTierOfRow.holds Try.pinned (OpenSpec.ofChange Rows.fnExactTierOfSpec) :=
  OpenClaim.holds_of_wide 10 Try.f10 rfl rfl rfl rfl rfl rfl rfl ⟨rfl, rfl, rfl, rfl, rfl⟩ rfl rfl rfl rfl rfl (by kernel_rfl) Try.func10 (by kernel_rfl)
    (of_decide_eq_true (by kernel_rfl)) (by unfold Func.isWrapper; first | (rw [if_pos (by decide +kernel)]; kernel_rfl) | (rw [if_neg (by decide +kernel)]; exact ⟨rfl, rfl⟩))
    (fun os started H enc _ => lifted os started H enc)
theorem proved : Rows.FnExactTierOfSaid := over
#print axioms proved
end Go.Proofs.Ytppgkkejddjacaa.fnExactTierOf
namespace Go.Proofs.Ytppgkkejddjacaa
/-- The row, under a short name, for the claim. -/
theorem fnExactTierOf_holds : Rows.FnExactTierOfSaid := fnExactTierOf.proved
end Go.Proofs.Ytppgkkejddjacaa

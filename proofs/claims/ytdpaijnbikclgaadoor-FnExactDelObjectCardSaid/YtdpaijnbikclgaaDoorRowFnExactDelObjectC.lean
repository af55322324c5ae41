/- The row of the law FnExactDelObject: called with any arguments that can be read it returns true, and each argument reads as before. No condition. -/
import Derived.WalkKit
import Derived.ProofKit
import Derived.OpenShut
import Derived.ShutString
import Derived.ChangeOld
import Derived.Below
import Derived.SizedLaws
import Derived.LaidMore
import Derived.Lay
import Derived.SevenTiedAt
import Derived.Stop.Joined
import Derived.MakeChecks
import Derived.Test.YtdpaijnbikclgaaDoorRows
import Derived.Test.YtdpaijnbikclgaaDoorFlawDO
import Derived.Test.YtdpaijnbikclgaaDoorERow
import Derived.Test.YtdpaijnbikclgaaDoorCards
import Derived.Test.YtdpaijnbikclgaaDoorTie
namespace Go.Proofs.YtdpaijnbikclgaaDoor.fnExactDelObject
open Go.ChangeShapes Go.WideShapes Go.ChangeAt Go.RowKit Go.Proofs.YtdpaijnbikclgaaDoorE Go.Proofs.YtdpaijnbikclgaaDoorB
open Go.ChangeMaps (open_string shut_string)
set_option linter.unusedVariables false
set_option linter.unusedSectionVars false
set_option linter.unusedSimpArgs false
theorem own : ownKnob Tryd.prog.godebug = none := by kernel_rfl
theorem laidOut : laidOutB Tryd.prog = true := by kernel_rfl
set_option maxRecDepth 100000 in
set_option maxHeartbeats 1000000 in
theorem lifted (os : Os) (started : os.Started) (H : Type) (enc : TypeId × Value → H) :
  ReturnsInHanded {} Tryd.checked os 6 .any (fun w args => (Rows.fnExactDelObjectSpec.pre enc Tryd.prog Tryd.f6 Rows.fnExactDelObjectRow.domain false w args ∧ laidMetH Tryd.prog Rows.fnExactDelObjectRow.laid w) ∧ sizedMet enc Tryd.prog Tryd.f6 (OpenSpec.ofChange Rows.fnExactDelObjectSpec) false w args) (Rows.fnExactDelObjectSpec.post enc Tryd.prog Tryd.f6 false true false false) := by
 refine returnsInHanded_of_change_and (C := Tryd.checked) (X := fun w _ => laidMetH Tryd.prog Rows.fnExactDelObjectRow.laid w) (fun _ _ _ hh h => h.of_heap hh) own started (by kernel_rfl) Tryd.func6
  (ChangeSpec.witness_shaped (enc := enc) (C := Tryd.checked) (os := os) (X := fun w _ => laidMetH Tryd.prog Rows.fnExactDelObjectRow.laid w) false (World.laidAll Tryd.prog os Rows.fnExactDelObjectRow.laid) #[.agg #[.int .i64 0, .int .i64 0, .slice none 0 0, .slice none 0 0], .string ByteArray.empty] 8 (World.laidAll_os _ _ _)
   (World.shaped_of_ZipB (by kernel_rfl) (by kernel_rfl)) (by kernel_rfl) (by kernel_rfl) (by kernel_rfl) (by rw [MakeChecks.laidMetH_plain _ _ _ (by kernel_rfl)]; exact laidMet_laidAll _ (by kernel_rfl) (by kernel_rfl))) ?_
 intro W base args ds gs before hval0 hW hcnd hsz0 hL _
 have hsz : (DataW.weightsEach Tryd.prog (Tryd.f6.params.toList ++ Rows.fnExactDelObjectSpec.plain.varTypes Tryd.prog) (ds ++ gs)).all (· ≤ reachBytes) = true := hsz0
 have hval : ∀ (j : Nat) t v, Tryd.f6.params[j]? = some t → args[j]? = some v → Value.okWide Tryd.prog W .any base t v := hval0
 have hW' := hW
 obtain ⟨p, q, hA0, hV, rfl, hfz, hnd⟩ := hW
 have hA : DataW.TrodAll enc Tryd.prog W 0 (fun _ => true) true Tryd.f6.params.toList args.toList ds p := hA0
 rw [Tryd.params6] at hA hval hsz
 obtain ⟨v0, vs0, d0, ds0, p0, q0, hargs, rfl, rfl, h0, r0⟩ := trodAll_cons hA
 obtain ⟨v1, vs1, d1, ds1, p1, q1, rfl, rfl, rfl, h1, r1⟩ := trodAll_cons r0
 obtain ⟨rfl, rfl, rfl⟩ := trodAll_nil r1
 obtain rfl : args = #[v0, v1] := by cases args; simp_all
 obtain ⟨rfl, rfl⟩ := trodVars_none hV
 have o3 := opensA_int (k := .i64) Tryd.underlying3
 have o9 := opensA_string Tryd.underlying9
 have s121 := opensA_struct (sz := 4) Tryd.underlying121 (by kernel_rfl) (fieldsA_cons (s1 := 1) (s2 := 3) rfl (by kernel_rfl) o9 (fieldsA_cons (s1 := 1) (s2 := 2) rfl (by kernel_rfl) o3 (fieldsA_cons (s1 := 1) (s2 := 1) rfl (by kernel_rfl) o9 (fieldsA_last (sz := 1) rfl (by kernel_rfl) o3))))
 have o121 := opensA_iso (fun (v : ByteArray × Int × ByteArray × Int) => (⟨v.1, v.2.1, v.2.2.1, v.2.2.2⟩ : YtdpaijnbikclgaaDoorB.Cell)) (row' := YtdpaijnbikclgaaDoorB.Cell.c) (Fit' := fun x => x.name.size ≤ 140737488351232 ∧ (Lit.int .i64 (x.no)).wf = true ∧ x.data.size ≤ 140737488351232 ∧ (Lit.int .i64 (x.sum)).wf = true) (fun v => rfl) (fun v h => h) s121
 have o78 := opensA_slice (sz := 4) Tryd.underlying78 (by kernel_rfl) (by omega) o121
 have s80 := opensA_struct (sz := 1) Tryd.underlying80 (by kernel_rfl) (fieldsA_last (sz := 1) rfl (by kernel_rfl) o78)
 have o80 := opensA_iso (fun (v : List YtdpaijnbikclgaaDoorB.Cell) => v) (row' := YtdpaijnbikclgaaDoorB.nodeC) (Fit' := _) (fun v => rfl) (fun v h => h) s80
 have o22 := opensA_slice (sz := 1) Tryd.underlying22 (by kernel_rfl) (by omega) o80
 have s82 := opensA_struct (sz := 2) Tryd.underlying82 (by kernel_rfl) (fieldsA_cons (s1 := 1) (s2 := 1) rfl (by kernel_rfl) o9 (fieldsA_last (sz := 1) rfl (by kernel_rfl) o3))
 have o82 := opensA_iso (fun (v : ByteArray × Int) => (⟨v.1, v.2⟩ : YtdpaijnbikclgaaDoorB.Object)) (row' := YtdpaijnbikclgaaDoorB.Object.c) (Fit' := fun x => x.name.size ≤ 140737488351232 ∧ (Lit.int .i64 (x.size)).wf = true) (fun v => rfl) (fun v h => h) s82
 have o23 := opensA_slice (sz := 2) Tryd.underlying23 (by kernel_rfl) (by omega) o82
 have o25t := opensA_struct (sz := 4) Tryd.underlying25 (by kernel_rfl) (fieldsA_cons (s1 := 1) (s2 := 3) rfl (by kernel_rfl) o3 (fieldsA_cons (s1 := 1) (s2 := 2) rfl (by kernel_rfl) o3 (fieldsA_cons (s1 := 1) (s2 := 1) rfl (by kernel_rfl) o22 (fieldsA_last (sz := 1) rfl (by kernel_rfl) o23))))
 have k0 := h0
 have lt0 : ∀ x ∈ p0, x.block < W.heap.size := by obtain ⟨m, hm⟩ := k0; exact DataW.trod_lt m _ _ _ hm
 obtain ⟨⟨cs0⟩, rfl, _⟩ := okWide_struct Tryd.underlying25 (hval 0 25 v0 rfl rfl)
 obtain ⟨⟨l0_0, l0_1, l0_2, l0_3⟩, L0, Z0, R0, F0⟩ := opensA_arg o25t hsz (j := 0) (t := 25) rfl rfl h0
 obtain ⟨a1, rfl, rfl, rfl, y1⟩ := open_string Tryd.underlying9 (hval 1 9 v1 rfl rfl) h1
 have w1 : a1.size ≤ 140737488351232 := by
  have z := sized_string hsz (j := 1) (t := 9) rfl rfl
  rw [Array.length_toList] at z
  exact z
 clear hA0 hval0 hsz0 hsz
 have hlaw := law_FnExactDelObject l0_0 l0_1 l0_2 l0_3 a1 F0.2.2.1.1 (fun c hc => ⟨(F0.2.2.1.2.2 c hc).1, fun x hx => ⟨((F0.2.2.1.2.2 c hc).2.2 x hx).1, ((F0.2.2.1.2.2 c hc).2.2 x hx).2.2.1⟩⟩) F0.2.2.2.1 (fun o ho => (F0.2.2.2.2.2 o ho).1)
 refine (bridge Tryd.checked.mixed (Xof_ok xt_ok) hlaw rfl ?_).mono fun e W' hh => ?_
 ·intro j hj
  obtain _ | j := j
  ·exact arg_agg L0 Z0 R0
  obtain _ | j := j
  ·exact .v _
  ·exact absurd hj (by simp only [List.length_cons, List.length_nil]; omega)
 obtain ⟨he, bel⟩ := hh
 subst he
 exact ⟨_, rfl, _, _, _, [], _, [], hW', trodAll_mk1 (shut_bool Tryd.underlying4 _), (trodAll_cons_mk (Below.trod laidOut (by kernel_rfl) (of_decide_eq_true (by kernel_rfl)) k0 bel lt0) (trodAll_cons_mk (shut_string Tryd.underlying9 y1) trodAll_mk0)), rfl, bel.frame _, fun h => by cases h⟩
theorem over : Rows.fnExactDelObjectRow.holds Tryd.pinned (OpenSpec.ofChange Rows.fnExactDelObjectSpec) :=
 OpenClaim.holds_of_wide 6 Tryd.f6 rfl rfl rfl rfl rfl rfl rfl ⟨rfl, rfl, rfl, rfl, rfl⟩ rfl rfl rfl rfl rfl (by kernel_rfl) Tryd.func6 (by kernel_rfl)
  (of_decide_eq_true (by kernel_rfl)) (by unfold Func.isWrapper; first | (rw [if_pos (by decide +kernel)]; kernel_rfl) | (rw [if_neg (by decide +kernel)]; exact ⟨rfl, rfl⟩))
  (fun os started H enc _ => lifted os started H enc)
theorem proved : Rows.FnExactDelObjectCardSaid :=
 Claim7.holds_tied_plain_at .later [] [.data, .pinned] true (true, "7bfcbde955d71af29d44a6b5bcba32a00026699cf36227672673c3c5a63935a3") false over (fun _ h => by cases h) (by kernel_rfl) (fun _ h => by cases h) fnExactDelObject_row_tie rfl ⟨rfl, rfl⟩ (by kernel_rfl) rfl
  (fun f fn hf hfn => by
   obtain rfl : f = 6 := Option.some.inj ((show Tryd.prog.funcNamed "loop.example/g00294/laws.FnExactDelObject" = some 6 by kernel_rfl).symm.trans hf) |>.symm
   obtain rfl : fn = Tryd.f6 := (Option.some.inj (Tryd.func6.symm.trans hfn)).symm
   exact ⟨by kernel_rfl, fun j t ht => by
    rw [Tryd.params6] at ht
    have hm : t ∈ [25, 9] := by simpa using Array.mem_of_getElem? ht
    have hall : ([25, 9].all fun u => !Tryd.prog.wantsStandIn u) = true := by kernel_rfl
    exact (show Tryd.prog.wantsStandIn t = false by simpa using List.all_eq_true.1 hall t hm)⟩)
  (by kernel_rfl)
#print axioms proved
end Go.Proofs.YtdpaijnbikclgaaDoor.fnExactDelObject
namespace Go.Proofs.YtdpaijnbikclgaaDoor
theorem fnExactDelObject_holds : Rows.FnExactDelObjectCardSaid := fnExactDelObject.proved
end Go.Proofs.YtdpaijnbikclgaaDoor
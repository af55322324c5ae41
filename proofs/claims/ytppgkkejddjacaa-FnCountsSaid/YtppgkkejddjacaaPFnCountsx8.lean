-- This text was written by the session's own program wip/tools/xprint.py, over the kit's print; Lean checks it.
import Derived.Test.YtppgkkejddjacaaPFnCountsx0
import Derived.Test.YtppgkkejddjacaaPFnCountsx1
import Derived.Test.YtppgkkejddjacaaPFnCountsx2
import Derived.Test.YtppgkkejddjacaaPFnCountsx3
import Derived.Test.YtppgkkejddjacaaPFnCountsx5
import Derived.Test.YtppgkkejddjacaaPFnCountsx6
import Derived.Test.YtppgkkejddjacaaPFnCountsx7
namespace Go.Proofs.Ytppgkkejddjacaa.PFnCounts
open Go.RowKit Go.Proofs.YtppgkkejddjacaaW.PrintWords Go.Proofs.YtppgkkejddjacaaW.PrintLast Go.Proofs.YtppgkkejddjacaaW.PrintMore
attribute [local go_sem] max2_int min2_int max_two min_two max_three min_three max_four min_four   -- for this text's walks alone
set_option linter.unusedVariables false
set_option linter.unusedSimpArgs false

/-! ### laws_FnCounts: function 11 -/
mutual
def laws_FnCounts.j0 : Nat → List Int → List Int → List Int → Bool → Bool → Option (Bool)
  | 0, _, _, _, _, _ => none
  | k + 1, x1, x5, x6, x7, x58 => if x58 = true then (some false) else (if x7 = true then (if 0 ≤ (x5.length : Int) then (if ((x5.length : Int) : Int).toNat ≤ 35184372088832 then (laws_FnCounts.l0 k x1 x5 x6 (List.replicate ((x5.length : Int) : Int).toNat 0) 0) else (none)) else (none)) else (laws_FnCounts.j2 k x1))
def laws_FnCounts.j2 : Nat → List Int → Option (Bool)
  | 0, _ => none
  | k + 1, x1 => (spec_DrawCountsFor.f k x1).bind fun bt361 => ((impl_CountsFor.f k bt361.1 bt361.2).bind fun bt365 => ((spec_CountsFor.f k bt361.1 bt361.2).bind fun bt369 => (if (bt365.2 != bt369.2) = true then (laws_FnCounts.j3 k bt361.1 bt365.1 bt365.2 true) else ((laws_sameInts.f k bt365.1 bt369.1).bind fun t373 => (laws_FnCounts.j3 k bt361.1 bt365.1 bt365.2 (!t373))))))
def laws_FnCounts.j3 : Nat → List Int → List Int → Bool → Bool → Option (Bool)
  | 0, _, _, _, _ => none
  | k + 1, x14, x16, x17, x141 => if x141 = true then (some false) else (if x17 = true then (laws_FnCounts.l1 k x14 x16 x16 (x16.length : Int) 0) else (some ((x16.length : Int) == 0)))
def laws_FnCounts.l1 : Nat → List Int → List Int → List Int → Int → Int → Option (Bool)
  | 0, _, _, _, _, _ => none
  | k + 1, x14, x16, x147, x148, x149 => if x149 < x148 then (if 0 ≤ x149 then (if x149 < (x147.length : Int) then (if (rd x147 x149) < 1 then (some false) else (laws_FnCounts.l1 k x14 x16 x147 x148 (wrap64 (x149 + 1)))) else (none)) else (none)) else ((impl_CodeSymbols.f k x16 x14).bind fun bt375 => ((impl_DecodeSymbols.f k x16 bt375.1 bt375.2.1 (x14.length : Int)).bind fun bt381 => ((impl_GoodCounts.f k x16).bind fun t385 => (if t385 = true then (if bt375.2.2 = true then (if bt381.2 = true then ((laws_sameInts.f k bt381.1 x14).bind fun t386 => (some t386)) else (some false)) else (some false)) else (some false)))))
def laws_FnCounts.l0 : Nat → List Int → List Int → List Int → List Int → Int → Option (Bool)
  | 0, _, _, _, _, _ => none
  | k + 1, x1, x5, x6, x10, x11 => if x11 < 64 then ((impl_SymbolAt.f k x5 x11).bind fun bt353 => (if bt353.2 = true then (if bt353.1 < 0 then (some false) else (if bt353.1 ≥ (x5.length : Int) then (some false) else (if 0 ≤ bt353.1 then (if bt353.1 < (x6.length : Int) then (if x11 < (rd x6 bt353.1) then (some false) else (if bt353.1 < (x5.length : Int) then (if x11 ≥ (wrap64 ((rd x6 bt353.1) + (rd x5 bt353.1))) then (some false) else (if bt353.1 < (x10.length : Int) then (laws_FnCounts.l0 k x1 x5 x6 (x10.set (bt353.1 : Int).toNat (wrap64 ((rd x10 bt353.1) + 1))) (wrap64 (x11 + 1))) else (none))) else (none))) else (none)) else (none)))) else (some false))) else ((laws_sameInts.f k x10 x5).bind fun t360 => (if t360 = true then (laws_FnCounts.j2 k x1) else (some false)))
end
def laws_FnCounts.f (k : Nat) (l0 : List Int) (l1 : List Int) : Option (Bool) := if (wrap64 ((l0.length : Int) + (l1.length : Int))) > 1048576 then (some true) else ((spec_DrawStartsOf.f k l0).bind fun t337 => ((impl_StartsOf.f k t337).bind fun bt340 => ((spec_StartsOf.f k t337).bind fun bt344 => (if (bt340.2 != bt344.2) = true then (laws_FnCounts.j0 k l1 t337 bt340.1 bt340.2 true) else ((laws_sameInts.f k bt340.1 bt344.1).bind fun t348 => (if t348 = true then ((impl_GoodCounts.f k t337).bind fun t349 => (laws_FnCounts.j0 k l1 t337 bt340.1 bt340.2 (t349 != bt344.2))) else (laws_FnCounts.j0 k l1 t337 bt340.1 bt340.2 true)))))))
theorem laws_FnCounts.mono_l : ∀ k, (∀ y0 y1 y2 y3 y4, LeO (laws_FnCounts.j0 k y0 y1 y2 y3 y4) (laws_FnCounts.j0 (k + 1) y0 y1 y2 y3 y4)) ∧ (∀ y0, LeO (laws_FnCounts.j2 k y0) (laws_FnCounts.j2 (k + 1) y0)) ∧ (∀ y0 y1 y2 y3, LeO (laws_FnCounts.j3 k y0 y1 y2 y3) (laws_FnCounts.j3 (k + 1) y0 y1 y2 y3)) ∧ (∀ y0 y1 y2 y3 y4, LeO (laws_FnCounts.l1 k y0 y1 y2 y3 y4) (laws_FnCounts.l1 (k + 1) y0 y1 y2 y3 y4)) ∧ (∀ y0 y1 y2 y3 y4, LeO (laws_FnCounts.l0 k y0 y1 y2 y3 y4) (laws_FnCounts.l0 (k + 1) y0 y1 y2 y3 y4))
  | 0 => ⟨fun _ _ _ _ _ r h => by simp [laws_FnCounts.j0] at h, fun _ r h => by simp [laws_FnCounts.j2] at h, fun _ _ _ _ r h => by simp [laws_FnCounts.j3] at h, fun _ _ _ _ _ r h => by simp [laws_FnCounts.l1] at h, fun _ _ _ _ _ r h => by simp [laws_FnCounts.l0] at h⟩
  | k + 1 => by
   obtain ⟨ih0, ih1, ih2, ih3, ih4⟩ := laws_FnCounts.mono_l k
   refine ⟨?_, ?_, ?_, ?_, ?_⟩
   ·intro y0 y1 y2 y3 y4
    unfold laws_FnCounts.j0
    repeat' first
    | (with_reducible exact ih0 _ _ _ _ _)
    | (with_reducible exact ih1 _)
    | (with_reducible exact ih2 _ _ _ _)
    | (with_reducible exact ih3 _ _ _ _ _)
    | (with_reducible exact ih4 _ _ _ _ _)
    | (with_reducible exact impl_CodeSymbols.mono _ _ _)
    | (with_reducible exact impl_CountsFor.mono _ _ _)
    | (with_reducible exact impl_DecodeSymbols.mono _ _ _ _ _)
    | (with_reducible exact impl_GoodCounts.mono _ _)
    | (with_reducible exact impl_StartsOf.mono _ _)
    | (with_reducible exact impl_SymbolAt.mono _ _ _)
    | (with_reducible exact laws_sameInts.mono _ _ _)
    | (with_reducible exact spec_CountsFor.mono _ _ _)
    | (with_reducible exact spec_DrawCountsFor.mono _ _)
    | (with_reducible exact spec_DrawStartsOf.mono _ _)
    | (with_reducible exact spec_StartsOf.mono _ _)
    | (with_reducible exact LeO.refl _)
    | (with_reducible exact LeO.none _)
    | (with_reducible refine LeO.ite ?_ ?_)
    | (with_reducible refine LeO.bind ?_ (fun _ => ?_))
    | exact ih0 _ _ _ _ _
    | exact ih1 _
    | exact ih2 _ _ _ _
    | exact ih3 _ _ _ _ _
    | exact ih4 _ _ _ _ _
    | exact impl_CodeSymbols.mono _ _ _
    | exact impl_CountsFor.mono _ _ _
    | exact impl_DecodeSymbols.mono _ _ _ _ _
    | exact impl_GoodCounts.mono _ _
    | exact impl_StartsOf.mono _ _
    | exact impl_SymbolAt.mono _ _ _
    | exact laws_sameInts.mono _ _ _
    | exact spec_CountsFor.mono _ _ _
    | exact spec_DrawCountsFor.mono _ _
    | exact spec_DrawStartsOf.mono _ _
    | exact spec_StartsOf.mono _ _
    | exact LeO.none _
    | refine LeO.ite ?_ ?_
    | refine LeO.bind ?_ (fun _ => ?_)
   ·intro y0
    unfold laws_FnCounts.j2
    repeat' first
    | (with_reducible exact ih0 _ _ _ _ _)
    | (with_reducible exact ih1 _)
    | (with_reducible exact ih2 _ _ _ _)
    | (with_reducible exact ih3 _ _ _ _ _)
    | (with_reducible exact ih4 _ _ _ _ _)
    | (with_reducible exact impl_CodeSymbols.mono _ _ _)
    | (with_reducible exact impl_CountsFor.mono _ _ _)
    | (with_reducible exact impl_DecodeSymbols.mono _ _ _ _ _)
    | (with_reducible exact impl_GoodCounts.mono _ _)
    | (with_reducible exact impl_StartsOf.mono _ _)
    | (with_reducible exact impl_SymbolAt.mono _ _ _)
    | (with_reducible exact laws_sameInts.mono _ _ _)
    | (with_reducible exact spec_CountsFor.mono _ _ _)
    | (with_reducible exact spec_DrawCountsFor.mono _ _)
    | (with_reducible exact spec_DrawStartsOf.mono _ _)
    | (with_reducible exact spec_StartsOf.mono _ _)
    | (with_reducible exact LeO.refl _)
    | (with_reducible exact LeO.none _)
    | (with_reducible refine LeO.ite ?_ ?_)
    | (with_reducible refine LeO.bind ?_ (fun _ => ?_))
    | exact ih0 _ _ _ _ _
    | exact ih1 _
    | exact ih2 _ _ _ _
    | exact ih3 _ _ _ _ _
    | exact ih4 _ _ _ _ _
    | exact impl_CodeSymbols.mono _ _ _
    | exact impl_CountsFor.mono _ _ _
    | exact impl_DecodeSymbols.mono _ _ _ _ _
    | exact impl_GoodCounts.mono _ _
    | exact impl_StartsOf.mono _ _
    | exact impl_SymbolAt.mono _ _ _
    | exact laws_sameInts.mono _ _ _
    | exact spec_CountsFor.mono _ _ _
    | exact spec_DrawCountsFor.mono _ _
    | exact spec_DrawStartsOf.mono _ _
    | exact spec_StartsOf.mono _ _
    | exact LeO.none _
    | refine LeO.ite ?_ ?_
    | refine LeO.bind ?_ (fun _ => ?_)
   ·intro y0 y1 y2 y3
    unfold laws_FnCounts.j3
    repeat' first
    | (with_reducible exact ih0 _ _ _ _ _)
    | (with_reducible exact ih1 _)
    | (with_reducible exact ih2 _ _ _ _)
    | (with_reducible exact ih3 _ _ _ _ _)
    | (with_reducible exact ih4 _ _ _ _ _)
    | (with_reducible exact impl_CodeSymbols.mono _ _ _)
    | (with_reducible exact impl_CountsFor.mono _ _ _)
    | (with_reducible exact impl_DecodeSymbols.mono _ _ _ _ _)
    | (with_reducible exact impl_GoodCounts.mono _ _)
    | (with_reducible exact impl_StartsOf.mono _ _)
    | (with_reducible exact impl_SymbolAt.mono _ _ _)
    | (with_reducible exact laws_sameInts.mono _ _ _)
    | (with_reducible exact spec_CountsFor.mono _ _ _)
    | (with_reducible exact spec_DrawCountsFor.mono _ _)
    | (with_reducible exact spec_DrawStartsOf.mono _ _)
    | (with_reducible exact spec_StartsOf.mono _ _)
    | (with_reducible exact LeO.refl _)
    | (with_reducible exact LeO.none _)
    | (with_reducible refine LeO.ite ?_ ?_)
    | (with_reducible refine LeO.bind ?_ (fun _ => ?_))
    | exact ih0 _ _ _ _ _
    | exact ih1 _
    | exact ih2 _ _ _ _
    | exact ih3 _ _ _ _ _
    | exact ih4 _ _ _ _ _
    | exact impl_CodeSymbols.mono _ _ _
    | exact impl_CountsFor.mono _ _ _
    | exact impl_DecodeSymbols.mono _ _ _ _ _
    | exact impl_GoodCounts.mono _ _
    | exact impl_StartsOf.mono _ _
    | exact impl_SymbolAt.mono _ _ _
    | exact laws_sameInts.mono _ _ _
    | exact spec_CountsFor.mono _ _ _
    | exact spec_DrawCountsFor.mono _ _
    | exact spec_DrawStartsOf.mono _ _
    | exact spec_StartsOf.mono _ _
    | exact LeO.none _
    | refine LeO.ite ?_ ?_
    | refine LeO.bind ?_ (fun _ => ?_)
   ·intro y0 y1 y2 y3 y4
    unfold laws_FnCounts.l1
    repeat' first
    | (with_reducible exact ih0 _ _ _ _ _)
    | (with_reducible exact ih1 _)
    | (with_reducible exact ih2 _ _ _ _)
    | (with_reducible exact ih3 _ _ _ _ _)
    | (with_reducible exact ih4 _ _ _ _ _)
    | (with_reducible exact impl_CodeSymbols.mono _ _ _)
    | (with_reducible exact impl_CountsFor.mono _ _ _)
    | (with_reducible exact impl_DecodeSymbols.mono _ _ _ _ _)
    | (with_reducible exact impl_GoodCounts.mono _ _)
    | (with_reducible exact impl_StartsOf.mono _ _)
    | (with_reducible exact impl_SymbolAt.mono _ _ _)
    | (with_reducible exact laws_sameInts.mono _ _ _)
    | (with_reducible exact spec_CountsFor.mono _ _ _)
    | (with_reducible exact spec_DrawCountsFor.mono _ _)
    | (with_reducible exact spec_DrawStartsOf.mono _ _)
    | (with_reducible exact spec_StartsOf.mono _ _)
    | (with_reducible exact LeO.refl _)
    | (with_reducible exact LeO.none _)
    | (with_reducible refine LeO.ite ?_ ?_)
    | (with_reducible refine LeO.bind ?_ (fun _ => ?_))
    | exact ih0 _ _ _ _ _
    | exact ih1 _
    | exact ih2 _ _ _ _
    | exact ih3 _ _ _ _ _
    | exact ih4 _ _ _ _ _
    | exact impl_CodeSymbols.mono _ _ _
    | exact impl_CountsFor.mono _ _ _
    | exact impl_DecodeSymbols.mono _ _ _ _ _
    | exact impl_GoodCounts.mono _ _
    | exact impl_StartsOf.mono _ _
    | exact impl_SymbolAt.mono _ _ _
    | exact laws_sameInts.mono _ _ _
    | exact spec_CountsFor.mono _ _ _
    | exact spec_DrawCountsFor.mono _ _
    | exact spec_DrawStartsOf.mono _ _
    | exact spec_StartsOf.mono _ _
    | exact LeO.none _
    | refine LeO.ite ?_ ?_
    | refine LeO.bind ?_ (fun _ => ?_)
   ·intro y0 y1 y2 y3 y4
    unfold laws_FnCounts.l0
    repeat' first
    | (with_reducible exact ih0 _ _ _ _ _)
    | (with_reducible exact ih1 _)
    | (with_reducible exact ih2 _ _ _ _)
    | (with_reducible exact ih3 _ _ _ _ _)
    | (with_reducible exact ih4 _ _ _ _ _)
    | (with_reducible exact impl_CodeSymbols.mono _ _ _)
    | (with_reducible exact impl_CountsFor.mono _ _ _)
    | (with_reducible exact impl_DecodeSymbols.mono _ _ _ _ _)
    | (with_reducible exact impl_GoodCounts.mono _ _)
    | (with_reducible exact impl_StartsOf.mono _ _)
    | (with_reducible exact impl_SymbolAt.mono _ _ _)
    | (with_reducible exact laws_sameInts.mono _ _ _)
    | (with_reducible exact spec_CountsFor.mono _ _ _)
    | (with_reducible exact spec_DrawCountsFor.mono _ _)
    | (with_reducible exact spec_DrawStartsOf.mono _ _)
    | (with_reducible exact spec_StartsOf.mono _ _)
    | (with_reducible exact LeO.refl _)
    | (with_reducible exact LeO.none _)
    | (with_reducible refine LeO.ite ?_ ?_)
    | (with_reducible refine LeO.bind ?_ (fun _ => ?_))
    | exact ih0 _ _ _ _ _
    | exact ih1 _
    | exact ih2 _ _ _ _
    | exact ih3 _ _ _ _ _
    | exact ih4 _ _ _ _ _
    | exact impl_CodeSymbols.mono _ _ _
    | exact impl_CountsFor.mono _ _ _
    | exact impl_DecodeSymbols.mono _ _ _ _ _
    | exact impl_GoodCounts.mono _ _
    | exact impl_StartsOf.mono _ _
    | exact impl_SymbolAt.mono _ _ _
    | exact laws_sameInts.mono _ _ _
    | exact spec_CountsFor.mono _ _ _
    | exact spec_DrawCountsFor.mono _ _
    | exact spec_DrawStartsOf.mono _ _
    | exact spec_StartsOf.mono _ _
    | exact LeO.none _
    | refine LeO.ite ?_ ?_
    | refine LeO.bind ?_ (fun _ => ?_)
theorem laws_FnCounts.mono : ∀ a0 a1 k, LeO (laws_FnCounts.f k a0 a1) (laws_FnCounts.f (k + 1) a0 a1) := by
  intro a0 a1 k
  obtain ⟨ih0, ih1, ih2, ih3, ih4⟩ := laws_FnCounts.mono_l k
  unfold laws_FnCounts.f
  repeat' first
    | (with_reducible exact ih0 _ _ _ _ _)
    | (with_reducible exact ih1 _)
    | (with_reducible exact ih2 _ _ _ _)
    | (with_reducible exact ih3 _ _ _ _ _)
    | (with_reducible exact ih4 _ _ _ _ _)
    | (with_reducible exact impl_CodeSymbols.mono _ _ _)
    | (with_reducible exact impl_CountsFor.mono _ _ _)
    | (with_reducible exact impl_DecodeSymbols.mono _ _ _ _ _)
    | (with_reducible exact impl_GoodCounts.mono _ _)
    | (with_reducible exact impl_StartsOf.mono _ _)
    | (with_reducible exact impl_SymbolAt.mono _ _ _)
    | (with_reducible exact laws_sameInts.mono _ _ _)
    | (with_reducible exact spec_CountsFor.mono _ _ _)
    | (with_reducible exact spec_DrawCountsFor.mono _ _)
    | (with_reducible exact spec_DrawStartsOf.mono _ _)
    | (with_reducible exact spec_StartsOf.mono _ _)
    | (with_reducible exact LeO.refl _)
    | (with_reducible exact LeO.none _)
    | (with_reducible refine LeO.ite ?_ ?_)
    | (with_reducible refine LeO.bind ?_ (fun _ => ?_))
    | exact ih0 _ _ _ _ _
    | exact ih1 _
    | exact ih2 _ _ _ _
    | exact ih3 _ _ _ _ _
    | exact ih4 _ _ _ _ _
    | exact impl_CodeSymbols.mono _ _ _
    | exact impl_CountsFor.mono _ _ _
    | exact impl_DecodeSymbols.mono _ _ _ _ _
    | exact impl_GoodCounts.mono _ _
    | exact impl_StartsOf.mono _ _
    | exact impl_SymbolAt.mono _ _ _
    | exact laws_sameInts.mono _ _ _
    | exact spec_CountsFor.mono _ _ _
    | exact spec_DrawCountsFor.mono _ _
    | exact spec_DrawStartsOf.mono _ _
    | exact spec_StartsOf.mono _ _
    | exact LeO.none _
    | refine LeO.ite ?_ ?_
    | refine LeO.bind ?_ (fun _ => ?_)
set_option maxHeartbeats 8000000 in
set_option maxRecDepth 100000 in
theorem laws_FnCounts.calls (k : Nat) (A0 : Option Addr) (c0 : Nat) (l0 : List Int) (A1 : Option Addr) (c1 : Nat) (l1 : List Int) (r : Bool) (w : World) (hr0 : Kd.C (Kd.int .u8) w A0 l0.length l0) (hc0 : l0.length ≤ c0) (hr1 : Kd.C (Kd.int .u8) w A1 l1.length l1) (hc1 : l1.length ≤ c1) (h : laws_FnCounts.f k l0 l1 = some r) :
   Calls Try.prog 11 #[.slice A0 l0.length c0, .slice A1 l1.length c1] w fun e w' => e = .returned (.bool r) ∧ Below w.heap.size w w' := by
  have hu33 := Try.underlying33
  have HR0 := Aside0.mk hr0
  have HC0 := Aside0.mk hc0
  clear hr0 hc0
  have HR1 := Aside0.mk hr1
  have HC1 := Aside0.mk hc1
  clear hr1 hc1
  have HB := xM (Below.refl w.heap.size w)
  have H : (if (wrap64 ((l0.length : Int) + (l1.length : Int))) > 1048576 then (some true) else ((spec_DrawStartsOf.f k l0).bind fun t337 => ((impl_StartsOf.f k t337).bind fun bt340 => ((spec_StartsOf.f k t337).bind fun bt344 => (if (bt340.2 != bt344.2) = true then (laws_FnCounts.j0 k l1 t337 bt340.1 bt340.2 true) else ((laws_sameInts.f k bt340.1 bt344.1).bind fun t348 => (if t348 = true then ((impl_GoodCounts.f k t337).bind fun t349 => (laws_FnCounts.j0 k l1 t337 bt340.1 bt340.2 (t349 != bt344.2))) else (laws_FnCounts.j0 k l1 t337 bt340.1 bt340.2 true)))))))) = some r := h
  clear h
  by_cases c3 : (wrap64 ((l0.length : Int) + (l1.length : Int))) > 1048576
  ·rw [if_pos c3] at H
   have c3b0 : decide (1048576 < (wrap64 ((l0.length : Int) + (l1.length : Int)))) = true := decide_eq_true c3
   clear c3
   obtain rfl := Option.some.inj H
   go_enter Try.func11, Try.ntmps11
   go_wp2
   repeat (go_quiet (fail); try go_wp2)
   go_ret
   exact ⟨by first | rfl | (simp [errW_none, errW_some] <;> rfl) | (simp [*, errW_none, errW_some] <;> rfl), by repeat (first | (with_reducible first | exact HB.out | apply xa | apply xn | apply xd) | exact HB.out)⟩
  ·rw [if_neg c3] at H
   have c3b0 : decide (1048576 < (wrap64 ((l0.length : Int) + (l1.length : Int)))) = false := decide_eq_false c3
   clear c3
   replace H := Option.bind_eq_some_iff.mp H
   obtain ⟨t337, A40, H⟩ := H
   replace H : ((impl_StartsOf.f k t337).bind fun bt340 => ((spec_StartsOf.f k t337).bind fun bt344 => (if (bt340.2 != bt344.2) = true then (laws_FnCounts.j0 k l1 t337 bt340.1 bt340.2 true) else ((laws_sameInts.f k bt340.1 bt344.1).bind fun t348 => (if t348 = true then ((impl_GoodCounts.f k t337).bind fun t349 => (laws_FnCounts.j0 k l1 t337 bt340.1 bt340.2 (t349 != bt344.2))) else (laws_FnCounts.j0 k l1 t337 bt340.1 bt340.2 true)))))) = some r := H
   have A4 := Aside0.mk A40
   clear A40
   replace H := Option.bind_eq_some_iff.mp H
   obtain ⟨⟨t340, t341⟩, A50, H⟩ := H
   replace H : ((spec_StartsOf.f k t337).bind fun bt344 => (if (t341 != bt344.2) = true then (laws_FnCounts.j0 k l1 t337 t340 t341 true) else ((laws_sameInts.f k t340 bt344.1).bind fun t348 => (if t348 = true then ((impl_GoodCounts.f k t337).bind fun t349 => (laws_FnCounts.j0 k l1 t337 t340 t341 (t349 != bt344.2))) else (laws_FnCounts.j0 k l1 t337 t340 t341 true))))) = some r := H
   have A5 := Aside0.mk A50
   clear A50
   replace H := Option.bind_eq_some_iff.mp H
   obtain ⟨⟨t344, t345⟩, A60, H⟩ := H
   replace H : (if (t341 != t345) = true then (laws_FnCounts.j0 k l1 t337 t340 t341 true) else ((laws_sameInts.f k t340 t344).bind fun t348 => (if t348 = true then ((impl_GoodCounts.f k t337).bind fun t349 => (laws_FnCounts.j0 k l1 t337 t340 t341 (t349 != t345))) else (laws_FnCounts.j0 k l1 t337 t340 t341 true)))) = some r := H
   have A6 := Aside0.mk A60
   clear A60
   have HC7 := Aside0.mk H
   clear H
   go_enter Try.func11, Try.ntmps11
   go_upto_region 6 with (first | (go_at_call 44; (with_reducible refine (spec_DrawStartsOf.calls k _ _ l0 t337 _ ?side1 ?side2 A4.out).mono ?_); (case side1 => repeat (first | exact HR0.out | (with_reducible refine Kd.C_alloc ?_ _) | (with_reducible refine Kd.C_drewN ?_ _) | (with_reducible refine Kd.C_drew ?_))); (case side2 => exact HC0.out); rintro e w8 ⟨v338, rfl, ho0, hb⟩; have HO339 := xM (Kd.R_lower ho0 (below_size (yh HB))); replace HB := xM (below_step (yh HB) hb); (try clear hb); (try clear ho0); obtain ⟨Ao9, co9, eo9⟩ := Kd.R_slice HO339.out; subst eo9) | (go_at_call 45; (with_reducible refine (impl_StartsOf.calls k _ _ t337 t340 t341 _ ?side1 ?side2 A5.out).mono ?_); (case side1 => repeat (first | exact (Kd.R_reads' HO339.out).2.2 | (with_reducible refine Kd.C_alloc ?_ _) | (with_reducible refine Kd.C_drewN ?_ _) | (with_reducible refine Kd.C_drew ?_))); (case side2 => exact (Kd.R_reads' HO339.out).2.1); rintro e w10 ⟨v342, rfl, ho0, hb⟩; have HO343 := xM (Kd.R_lower (Kd.R_new' ho0 (xL (yR HO339))) (below_size (yh HB))); replace HO339 := xM (Kd.R_elder' (yR HO339) (Kd.R_base ho0) hb); replace HB := xM (below_step (yh HB) hb); (try clear hb); (try clear ho0)) | (go_at_call 46; (with_reducible refine (spec_StartsOf.calls k _ _ t337 t344 t345 _ ?side1 ?side2 A6.out).mono ?_); (case side1 => repeat (first | exact (Kd.R_reads' HO339.out).2.2 | (with_reducible refine Kd.C_alloc ?_ _) | (with_reducible refine Kd.C_drewN ?_ _) | (with_reducible refine Kd.C_drew ?_))); (case side2 => exact (Kd.R_reads' HO339.out).2.1); rintro e w11 ⟨v346, rfl, ho0, hb⟩; have HO347 := xM (Kd.R_lower (Kd.R_new' (Kd.R_new' ho0 (xL (yR HO339))) (xL (yR HO343))) (below_size (yh HB))); replace HO339 := xM (Kd.R_elder' (yR HO339) (Kd.R_base ho0) hb); replace HO343 := xM (Kd.R_elder' (yR HO343) (Kd.R_base ho0) hb); replace HB := xM (below_step (yh HB) hb); (try clear hb); (try clear ho0)))
   repeat (go_quiet (first | (go_at_call 44; (with_reducible refine (spec_DrawStartsOf.calls k _ _ l0 t337 _ ?side1 ?side2 A4.out).mono ?_); (case side1 => repeat (first | exact HR0.out | (with_reducible refine Kd.C_alloc ?_ _) | (with_reducible refine Kd.C_drewN ?_ _) | (with_reducible refine Kd.C_drew ?_))); (case side2 => exact HC0.out); rintro e w8 ⟨v338, rfl, ho0, hb⟩; have HO339 := xM (Kd.R_lower ho0 (below_size (yh HB))); replace HB := xM (below_step (yh HB) hb); (try clear hb); (try clear ho0); obtain ⟨Ao9, co9, eo9⟩ := Kd.R_slice HO339.out; subst eo9) | (go_at_call 45; (with_reducible refine (impl_StartsOf.calls k _ _ t337 t340 t341 _ ?side1 ?side2 A5.out).mono ?_); (case side1 => repeat (first | exact (Kd.R_reads' HO339.out).2.2 | (with_reducible refine Kd.C_alloc ?_ _) | (with_reducible refine Kd.C_drewN ?_ _) | (with_reducible refine Kd.C_drew ?_))); (case side2 => exact (Kd.R_reads' HO339.out).2.1); rintro e w10 ⟨v342, rfl, ho0, hb⟩; have HO343 := xM (Kd.R_lower (Kd.R_new' ho0 (xL (yR HO339))) (below_size (yh HB))); replace HO339 := xM (Kd.R_elder' (yR HO339) (Kd.R_base ho0) hb); replace HB := xM (below_step (yh HB) hb); (try clear hb); (try clear ho0)) | (go_at_call 46; (with_reducible refine (spec_StartsOf.calls k _ _ t337 t344 t345 _ ?side1 ?side2 A6.out).mono ?_); (case side1 => repeat (first | exact (Kd.R_reads' HO339.out).2.2 | (with_reducible refine Kd.C_alloc ?_ _) | (with_reducible refine Kd.C_drewN ?_ _) | (with_reducible refine Kd.C_drew ?_))); (case side2 => exact (Kd.R_reads' HO339.out).2.1); rintro e w11 ⟨v346, rfl, ho0, hb⟩; have HO347 := xM (Kd.R_lower (Kd.R_new' (Kd.R_new' ho0 (xL (yR HO339))) (xL (yR HO343))) (below_size (yh HB))); replace HO339 := xM (Kd.R_elder' (yR HO339) (Kd.R_base ho0) hb); replace HO343 := xM (Kd.R_elder' (yR HO343) (Kd.R_base ho0) hb); replace HB := xM (below_step (yh HB) hb); (try clear hb); (try clear ho0))); go_upto_region 6 with (first | (go_at_call 44; (with_reducible refine (spec_DrawStartsOf.calls k _ _ l0 t337 _ ?side1 ?side2 A4.out).mono ?_); (case side1 => repeat (first | exact HR0.out | (with_reducible refine Kd.C_alloc ?_ _) | (with_reducible refine Kd.C_drewN ?_ _) | (with_reducible refine Kd.C_drew ?_))); (case side2 => exact HC0.out); rintro e w8 ⟨v338, rfl, ho0, hb⟩; have HO339 := xM (Kd.R_lower ho0 (below_size (yh HB))); replace HB := xM (below_step (yh HB) hb); (try clear hb); (try clear ho0); obtain ⟨Ao9, co9, eo9⟩ := Kd.R_slice HO339.out; subst eo9) | (go_at_call 45; (with_reducible refine (impl_StartsOf.calls k _ _ t337 t340 t341 _ ?side1 ?side2 A5.out).mono ?_); (case side1 => repeat (first | exact (Kd.R_reads' HO339.out).2.2 | (with_reducible refine Kd.C_alloc ?_ _) | (with_reducible refine Kd.C_drewN ?_ _) | (with_reducible refine Kd.C_drew ?_))); (case side2 => exact (Kd.R_reads' HO339.out).2.1); rintro e w10 ⟨v342, rfl, ho0, hb⟩; have HO343 := xM (Kd.R_lower (Kd.R_new' ho0 (xL (yR HO339))) (below_size (yh HB))); replace HO339 := xM (Kd.R_elder' (yR HO339) (Kd.R_base ho0) hb); replace HB := xM (below_step (yh HB) hb); (try clear hb); (try clear ho0)) | (go_at_call 46; (with_reducible refine (spec_StartsOf.calls k _ _ t337 t344 t345 _ ?side1 ?side2 A6.out).mono ?_); (case side1 => repeat (first | exact (Kd.R_reads' HO339.out).2.2 | (with_reducible refine Kd.C_alloc ?_ _) | (with_reducible refine Kd.C_drewN ?_ _) | (with_reducible refine Kd.C_drew ?_))); (case side2 => exact (Kd.R_reads' HO339.out).2.1); rintro e w11 ⟨v346, rfl, ho0, hb⟩; have HO347 := xM (Kd.R_lower (Kd.R_new' (Kd.R_new' ho0 (xL (yR HO339))) (xL (yR HO343))) (below_size (yh HB))); replace HO339 := xM (Kd.R_elder' (yR HO339) (Kd.R_base ho0) hb); replace HO343 := xM (Kd.R_elder' (yR HO343) (Kd.R_base ho0) hb); replace HB := xM (below_step (yh HB) hb); (try clear hb); (try clear ho0))))
   (try simp only [Act.put, List.setIfInBounds_toArray, List.set_cons_zero, List.set_cons_succ])
   go_cut [58] (fun v58 wc => ∃ (kq : Nat) (x58_6 : Bool), v58 = .bool x58_6 ∧ Aside0 (laws_FnCounts.j0 kq l1 t337 t340 t341 x58_6 = some r) ∧ Aside0 (kq ≤ k) ∧ Aside0 (Kd.R (Kd.int .i64) 3 wc w.heap.size (fun k_ => some k_ ≠ (v342 : Value).ownBlock) (.slice Ao9 t337.length co9) t337) ∧ Aside0 (Kd.R (Kd.int .i64) 3 wc w.heap.size (fun k_ => some k_ ≠ ((.slice Ao9 t337.length co9) : Value).ownBlock) v342 t340) ∧ Aside0 (Below w.heap.size w wc))
   case first =>
    have H := HC7.out
    clear HC7
    by_cases c12 : (t341 != t345) = true
    ·rw [if_pos c12] at H
     have c12b0 : (t341 != t345) = true := c12
     (try (have c12b1 : decide (t341 = t345) = false := by simpa using c12))
     (try (have c12b2 : (t341 == t345) = false := by simpa using c12))
     (try (have c12b3 : ¬ (t341 = t345) := by simpa using c12))
     clear c12
     (first | rw [c12b0] | (simp only [i64_w, i32_w]; rw [c12b0]) | skip)
     have H' := Aside0.mk H
     clear H
     go_wp2
     repeat (go_quiet (fail); try go_wp2)
     go_meet
     case rel => exact ⟨_, (true), (by first | rfl | (simp; done) | (simp [*]; done)), H', ⟨by first | omega | exact Nat.le_refl _⟩, ⟨by (with_reducible repeat (first | apply xRA | apply xRN | apply xRD)); exact Kd.R_mono HO339.out (fun _ hk => hk.1.2)⟩, ⟨by (with_reducible repeat (first | apply xRA | apply xRN | apply xRD)); exact Kd.R_mono HO343.out (fun _ hk => hk.1.2)⟩, ⟨yh HB⟩⟩
    ·rw [if_neg c12] at H
     have c12b0 : (t341 != t345) = false := by simpa using c12
     (try (have c12b1 : decide (t341 = t345) = true := by simpa using c12))
     (try (have c12b2 : (t341 == t345) = true := by simpa using c12))
     clear c12
     (first | rw [c12b0] | (simp only [i64_w, i32_w]; rw [c12b0]) | skip)
     replace H := Option.bind_eq_some_iff.mp H
     obtain ⟨t348, A130, H⟩ := H
     replace H : (if t348 = true then ((impl_GoodCounts.f k t337).bind fun t349 => (laws_FnCounts.j0 k l1 t337 t340 t341 (t349 != t345))) else (laws_FnCounts.j0 k l1 t337 t340 t341 true)) = some r := H
     have A13 := Aside0.mk A130
     clear A130
     by_cases c14 : t348 = true
     ·subst c14
      have H1 : ((impl_GoodCounts.f k t337).bind fun t349 => (laws_FnCounts.j0 k l1 t337 t340 t341 (t349 != t345))) = some r := by rw [if_pos rfl] at H; exact H
      clear H
      have H := H1
      clear H1
      replace H := Option.bind_eq_some_iff.mp H
      obtain ⟨t349, A150, H⟩ := H
      replace H : (laws_FnCounts.j0 k l1 t337 t340 t341 (t349 != t345)) = some r := H
      have A15 := Aside0.mk A150
      clear A150
      have H' := Aside0.mk H
      clear H
      obtain ⟨Ao16, co16, eo16⟩ := Kd.R_slice HO343.out
      subst eo16
      obtain ⟨Ao17, co17, eo17⟩ := Kd.R_slice HO347.out
      subst eo17
      go_wp2_with (first | (go_at_call 47; (with_reducible refine (laws_sameInts.calls k _ _ t340 _ _ t344 true _ ?side1 ?side2 ?side3 ?side4 A13.out).mono ?_); (case side1 => repeat (first | exact (Kd.R_reads' HO343.out).2.2 | (with_reducible refine Kd.C_alloc ?_ _) | (with_reducible refine Kd.C_drewN ?_ _) | (with_reducible refine Kd.C_drew ?_))); (case side2 => exact (Kd.R_reads' HO343.out).2.1); (case side3 => repeat (first | exact (Kd.R_reads' HO347.out).2.2 | (with_reducible refine Kd.C_alloc ?_ _) | (with_reducible refine Kd.C_drewN ?_ _) | (with_reducible refine Kd.C_drew ?_))); (case side4 => exact (Kd.R_reads' HO347.out).2.1); rintro e w' ⟨rfl, ⟨nd, rfl⟩⟩; (try first | exact ⟨rfl, _, World.drewN_drewN _ _ _⟩ | exact ⟨rfl, _, Eq.trans (World.drewN_drewN _ _ _) (congrArg (World.drewN _) (Nat.add_assoc _ _ _))⟩)) | (go_at_call 48; (with_reducible refine (impl_GoodCounts.calls k _ _ t337 t349 _ ?side1 ?side2 A15.out).mono ?_); (case side1 => repeat (first | exact (Kd.R_reads' HO339.out).2.2 | (with_reducible refine Kd.C_alloc ?_ _) | (with_reducible refine Kd.C_drewN ?_ _) | (with_reducible refine Kd.C_drew ?_))); (case side2 => exact (Kd.R_reads' HO339.out).2.1); rintro e w' ⟨rfl, ⟨nd, rfl⟩⟩; (try first | exact ⟨rfl, _, World.drewN_drewN _ _ _⟩ | exact ⟨rfl, _, Eq.trans (World.drewN_drewN _ _ _) (congrArg (World.drewN _) (Nat.add_assoc _ _ _))⟩)))
      repeat (go_quiet (first | (go_at_call 47; (with_reducible refine (laws_sameInts.calls k _ _ t340 _ _ t344 true _ ?side1 ?side2 ?side3 ?side4 A13.out).mono ?_); (case side1 => repeat (first | exact (Kd.R_reads' HO343.out).2.2 | (with_reducible refine Kd.C_alloc ?_ _) | (with_reducible refine Kd.C_drewN ?_ _) | (with_reducible refine Kd.C_drew ?_))); (case side2 => exact (Kd.R_reads' HO343.out).2.1); (case side3 => repeat (first | exact (Kd.R_reads' HO347.out).2.2 | (with_reducible refine Kd.C_alloc ?_ _) | (with_reducible refine Kd.C_drewN ?_ _) | (with_reducible refine Kd.C_drew ?_))); (case side4 => exact (Kd.R_reads' HO347.out).2.1); rintro e w' ⟨rfl, ⟨nd, rfl⟩⟩; (try first | exact ⟨rfl, _, World.drewN_drewN _ _ _⟩ | exact ⟨rfl, _, Eq.trans (World.drewN_drewN _ _ _) (congrArg (World.drewN _) (Nat.add_assoc _ _ _))⟩)) | (go_at_call 48; (with_reducible refine (impl_GoodCounts.calls k _ _ t337 t349 _ ?side1 ?side2 A15.out).mono ?_); (case side1 => repeat (first | exact (Kd.R_reads' HO339.out).2.2 | (with_reducible refine Kd.C_alloc ?_ _) | (with_reducible refine Kd.C_drewN ?_ _) | (with_reducible refine Kd.C_drew ?_))); (case side2 => exact (Kd.R_reads' HO339.out).2.1); rintro e w' ⟨rfl, ⟨nd, rfl⟩⟩; (try first | exact ⟨rfl, _, World.drewN_drewN _ _ _⟩ | exact ⟨rfl, _, Eq.trans (World.drewN_drewN _ _ _) (congrArg (World.drewN _) (Nat.add_assoc _ _ _))⟩))); try go_wp2_with (first | (go_at_call 47; (with_reducible refine (laws_sameInts.calls k _ _ t340 _ _ t344 true _ ?side1 ?side2 ?side3 ?side4 A13.out).mono ?_); (case side1 => repeat (first | exact (Kd.R_reads' HO343.out).2.2 | (with_reducible refine Kd.C_alloc ?_ _) | (with_reducible refine Kd.C_drewN ?_ _) | (with_reducible refine Kd.C_drew ?_))); (case side2 => exact (Kd.R_reads' HO343.out).2.1); (case side3 => repeat (first | exact (Kd.R_reads' HO347.out).2.2 | (with_reducible refine Kd.C_alloc ?_ _) | (with_reducible refine Kd.C_drewN ?_ _) | (with_reducible refine Kd.C_drew ?_))); (case side4 => exact (Kd.R_reads' HO347.out).2.1); rintro e w' ⟨rfl, ⟨nd, rfl⟩⟩; (try first | exact ⟨rfl, _, World.drewN_drewN _ _ _⟩ | exact ⟨rfl, _, Eq.trans (World.drewN_drewN _ _ _) (congrArg (World.drewN _) (Nat.add_assoc _ _ _))⟩)) | (go_at_call 48; (with_reducible refine (impl_GoodCounts.calls k _ _ t337 t349 _ ?side1 ?side2 A15.out).mono ?_); (case side1 => repeat (first | exact (Kd.R_reads' HO339.out).2.2 | (with_reducible refine Kd.C_alloc ?_ _) | (with_reducible refine Kd.C_drewN ?_ _) | (with_reducible refine Kd.C_drew ?_))); (case side2 => exact (Kd.R_reads' HO339.out).2.1); rintro e w' ⟨rfl, ⟨nd, rfl⟩⟩; (try first | exact ⟨rfl, _, World.drewN_drewN _ _ _⟩ | exact ⟨rfl, _, Eq.trans (World.drewN_drewN _ _ _) (congrArg (World.drewN _) (Nat.add_assoc _ _ _))⟩))))
      go_meet
      case rel => exact ⟨_, ((t349 != t345)), (by first | rfl | (simp; done) | (simp [*]; done)), H', ⟨by first | omega | exact Nat.le_refl _⟩, ⟨by (with_reducible repeat (first | apply xRA | apply xRN | apply xRD)); exact Kd.R_mono HO339.out (fun _ hk => hk.1.2)⟩, ⟨by (with_reducible repeat (first | apply xRA | apply xRN | apply xRD)); exact Kd.R_mono HO343.out (fun _ hk => hk.1.2)⟩, ⟨yh HB⟩⟩
     ·replace c14 := Bool.eq_false_iff.mpr c14
      subst c14
      have H1 : (laws_FnCounts.j0 k l1 t337 t340 t341 true) = some r := by rw [if_neg (show ¬ (false = true) by decide)] at H; exact H
      clear H
      have H := H1
      clear H1
      have H' := Aside0.mk H
      clear H
      obtain ⟨Ao18, co18, eo18⟩ := Kd.R_slice HO343.out
      subst eo18
      obtain ⟨Ao19, co19, eo19⟩ := Kd.R_slice HO347.out
      subst eo19
      go_wp2_with (first | (go_at_call 47; (with_reducible refine (laws_sameInts.calls k _ _ t340 _ _ t344 false _ ?side1 ?side2 ?side3 ?side4 A13.out).mono ?_); (case side1 => repeat (first | exact (Kd.R_reads' HO343.out).2.2 | (with_reducible refine Kd.C_alloc ?_ _) | (with_reducible refine Kd.C_drewN ?_ _) | (with_reducible refine Kd.C_drew ?_))); (case side2 => exact (Kd.R_reads' HO343.out).2.1); (case side3 => repeat (first | exact (Kd.R_reads' HO347.out).2.2 | (with_reducible refine Kd.C_alloc ?_ _) | (with_reducible refine Kd.C_drewN ?_ _) | (with_reducible refine Kd.C_drew ?_))); (case side4 => exact (Kd.R_reads' HO347.out).2.1); rintro e w' ⟨rfl, ⟨nd, rfl⟩⟩; (try first | exact ⟨rfl, _, World.drewN_drewN _ _ _⟩ | exact ⟨rfl, _, Eq.trans (World.drewN_drewN _ _ _) (congrArg (World.drewN _) (Nat.add_assoc _ _ _))⟩)))
      repeat (go_quiet (first | (go_at_call 47; (with_reducible refine (laws_sameInts.calls k _ _ t340 _ _ t344 false _ ?side1 ?side2 ?side3 ?side4 A13.out).mono ?_); (case side1 => repeat (first | exact (Kd.R_reads' HO343.out).2.2 | (with_reducible refine Kd.C_alloc ?_ _) | (with_reducible refine Kd.C_drewN ?_ _) | (with_reducible refine Kd.C_drew ?_))); (case side2 => exact (Kd.R_reads' HO343.out).2.1); (case side3 => repeat (first | exact (Kd.R_reads' HO347.out).2.2 | (with_reducible refine Kd.C_alloc ?_ _) | (with_reducible refine Kd.C_drewN ?_ _) | (with_reducible refine Kd.C_drew ?_))); (case side4 => exact (Kd.R_reads' HO347.out).2.1); rintro e w' ⟨rfl, ⟨nd, rfl⟩⟩; (try first | exact ⟨rfl, _, World.drewN_drewN _ _ _⟩ | exact ⟨rfl, _, Eq.trans (World.drewN_drewN _ _ _) (congrArg (World.drewN _) (Nat.add_assoc _ _ _))⟩))); try go_wp2_with (first | (go_at_call 47; (with_reducible refine (laws_sameInts.calls k _ _ t340 _ _ t344 false _ ?side1 ?side2 ?side3 ?side4 A13.out).mono ?_); (case side1 => repeat (first | exact (Kd.R_reads' HO343.out).2.2 | (with_reducible refine Kd.C_alloc ?_ _) | (with_reducible refine Kd.C_drewN ?_ _) | (with_reducible refine Kd.C_drew ?_))); (case side2 => exact (Kd.R_reads' HO343.out).2.1); (case side3 => repeat (first | exact (Kd.R_reads' HO347.out).2.2 | (with_reducible refine Kd.C_alloc ?_ _) | (with_reducible refine Kd.C_drewN ?_ _) | (with_reducible refine Kd.C_drew ?_))); (case side4 => exact (Kd.R_reads' HO347.out).2.1); rintro e w' ⟨rfl, ⟨nd, rfl⟩⟩; (try first | exact ⟨rfl, _, World.drewN_drewN _ _ _⟩ | exact ⟨rfl, _, Eq.trans (World.drewN_drewN _ _ _) (congrArg (World.drewN _) (Nat.add_assoc _ _ _))⟩))))
      go_meet
      case rel => exact ⟨_, (true), (by first | rfl | (simp; done) | (simp [*]; done)), H', ⟨by first | omega | exact Nat.le_refl _⟩, ⟨by (with_reducible repeat (first | apply xRA | apply xRN | apply xRD)); exact Kd.R_mono HO339.out (fun _ hk => hk.1.2)⟩, ⟨by (with_reducible repeat (first | apply xRA | apply xRN | apply xRD)); exact Kd.R_mono HO343.out (fun _ hk => hk.1.2)⟩, ⟨yh HB⟩⟩
   case rest =>
    clear HC7
    try clear c1
    try clear p2
    try clear c3
    try clear c3b0
    try clear p6
    try clear c11
    try clear c12
    try clear c12b0
    try clear c12b1
    try clear c12b2
    try clear c14
    obtain ⟨kq, x58_6, rfl, HA, HJ6, HO_5, HO_6, HB⟩ := hcut
    cases kq with
    | zero => exact absurd HA.out (by simp [laws_FnCounts.j0])
    | succ kj6 =>
     have H := HA.out
     clear HA
     simp only [laws_FnCounts.j0] at H
     by_cases c20 : x58_6 = true
     ·subst c20
      have H1 : (some false) = some r := by rw [if_pos rfl] at H; exact H
      clear H
      have H := H1
      clear H1
      obtain rfl := Option.some.inj H
      go_wp2
      repeat (go_quiet (fail); try go_wp2)
      go_ret
      exact ⟨by first | rfl | (simp [errW_none, errW_some] <;> rfl) | (simp [*, errW_none, errW_some] <;> rfl), by repeat (first | (with_reducible first | exact HB.out | apply xa | apply xn | apply xd) | exact HB.out)⟩
     ·replace c20 := Bool.eq_false_iff.mpr c20
      subst c20
      have H1 : (if t341 = true then (if 0 ≤ (t337.length : Int) then (if ((t337.length : Int) : Int).toNat ≤ 35184372088832 then (laws_FnCounts.l0 kj6 l1 t337 t340 (List.replicate ((t337.length : Int) : Int).toNat 0) 0) else (none)) else (none)) else (laws_FnCounts.j2 kj6 l1)) = some r := by rw [if_neg (show ¬ (false = true) by decide)] at H; exact H
      clear H
      have H := H1
      clear H1
      have HC21 := Aside0.mk H
      clear H
      go_upto_if 59 with (fail)
      repeat (go_quiet (fail); go_upto_if 59 with (fail))
      go_cut [] (fun wc => ∃ (kq : Nat), Aside0 (laws_FnCounts.j2 kq l1 = some r) ∧ Aside0 (kq ≤ kj6) ∧ Aside0 (Below w.heap.size w wc))
      case first =>
       have H := HC21.out
       clear HC21
       by_cases c22 : t341 = true
       ·subst c22
        have H1 : (if 0 ≤ (t337.length : Int) then (if ((t337.length : Int) : Int).toNat ≤ 35184372088832 then (laws_FnCounts.l0 kj6 l1 t337 t340 (List.replicate ((t337.length : Int) : Int).toNat 0) 0) else (none)) else (none)) = some r := by rw [if_pos rfl] at H; exact H
        clear H
        have H := H1
        clear H1
        by_cases c23 : 0 ≤ (t337.length : Int)
        ·rw [if_pos c23] at H
         have c23b0 := eq_true c23
         have c23b1 : decide (0 ≤ (t337.length : Int)) = true := decide_eq_true c23
         clear c23
         by_cases c24 : ((t337.length : Int) : Int).toNat ≤ 35184372088832
         ·rw [if_pos c24] at H
          have c24b0 := eq_true c24
          have c24b1 : decide (((t337.length : Int) : Int).toNat ≤ 35184372088832) = true := decide_eq_true c24
          clear c24
          obtain ⟨y350, hy350⟩ : ∃ y_ : List Int, y_ = (List.replicate ((t337.length : Int) : Int).toNat 0) := ⟨_, rfl⟩
          replace H : (laws_FnCounts.l0 kj6 l1 t337 t340 y350 0) = some r := by first | (rw [hy350]; with_reducible exact H) | (have H2_ := (Option.bind_some _ _).symm.trans H; rw [hy350]; with_reducible exact H2_) | (have H2_ := (Option.bind_some _ _).symm.trans H; with_reducible exact H2_) | with_reducible exact H | (rw [hy350]; exact H) | exact H
          have Ny350 := Aside0.mk hy350
          clear hy350
          have H' := Aside0.mk H
          clear H
          go_wp2_with (first | ((with_reducible refine gate_dst (N := 62) rfl ?_); (try (refine gate_guard (by rfl) ?_; dsimp only)); refine Kd.R_make (Kd.int .i64) _ 3 rfl (N := 62) rfl 22 _ _ rfl (t337.length : Int) rfl rfl Try.underlying22 (.int .i64 0) 8 info3 rfl (by decide) (by omega) 0 (ok := fun _ => True) (okp := fun _ => True) rfl (fun _ hk => hk) trivial (of_decide_eq_true (by first | (with_reducible assumption) | assumption)) (Nat.le_trans (Nat.mul_le_mul_right _ (of_decide_eq_true (by first | (with_reducible assumption) | assumption) : (t337.length : Int).toNat ≤ 35184372088832)) (by omega)) (Below.refl _ _) (Nat.le_refl _) ?_; intro v351 w25 ho26 hb hg_ hnew_; clear hg_ hnew_; (first | rw [← Ny350.out] at ho26 | (simp only [Int.reduceToNat] at ho26; rw [← Ny350.out] at ho26)); have HO352 := xM (Kd.R_lower (Kd.R_new' (Kd.R_new' ho26 (xL (yR HO_5))) (xL (yR HO_6))) (below_size (yh HB))); replace HO_5 := xM (Kd.R_elder' (yR HO_5) (Kd.R_base ho26) hb); replace HO_6 := xM (Kd.R_elder' (yR HO_6) (Kd.R_base ho26) hb); replace HB := xM (below_step (yh HB) hb); clear hb ho26))
          repeat (go_quiet (first | ((with_reducible refine gate_dst (N := 62) rfl ?_); (try (refine gate_guard (by rfl) ?_; dsimp only)); refine Kd.R_make (Kd.int .i64) _ 3 rfl (N := 62) rfl 22 _ _ rfl (t337.length : Int) rfl rfl Try.underlying22 (.int .i64 0) 8 info3 rfl (by decide) (by omega) 0 (ok := fun _ => True) (okp := fun _ => True) rfl (fun _ hk => hk) trivial (of_decide_eq_true (by first | (with_reducible assumption) | assumption)) (Nat.le_trans (Nat.mul_le_mul_right _ (of_decide_eq_true (by first | (with_reducible assumption) | assumption) : (t337.length : Int).toNat ≤ 35184372088832)) (by omega)) (Below.refl _ _) (Nat.le_refl _) ?_; intro v351 w25 ho26 hb hg_ hnew_; clear hg_ hnew_; (first | rw [← Ny350.out] at ho26 | (simp only [Int.reduceToNat] at ho26; rw [← Ny350.out] at ho26)); have HO352 := xM (Kd.R_lower (Kd.R_new' (Kd.R_new' ho26 (xL (yR HO_5))) (xL (yR HO_6))) (below_size (yh HB))); replace HO_5 := xM (Kd.R_elder' (yR HO_5) (Kd.R_base ho26) hb); replace HO_6 := xM (Kd.R_elder' (yR HO_6) (Kd.R_base ho26) hb); replace HB := xM (below_step (yh HB) hb); clear hb ho26)); try go_wp2_with (first | ((with_reducible refine gate_dst (N := 62) rfl ?_); (try (refine gate_guard (by rfl) ?_; dsimp only)); refine Kd.R_make (Kd.int .i64) _ 3 rfl (N := 62) rfl 22 _ _ rfl (t337.length : Int) rfl rfl Try.underlying22 (.int .i64 0) 8 info3 rfl (by decide) (by omega) 0 (ok := fun _ => True) (okp := fun _ => True) rfl (fun _ hk => hk) trivial (of_decide_eq_true (by first | (with_reducible assumption) | assumption)) (Nat.le_trans (Nat.mul_le_mul_right _ (of_decide_eq_true (by first | (with_reducible assumption) | assumption) : (t337.length : Int).toNat ≤ 35184372088832)) (by omega)) (Below.refl _ _) (Nat.le_refl _) ?_; intro v351 w25 ho26 hb hg_ hnew_; clear hg_ hnew_; (first | rw [← Ny350.out] at ho26 | (simp only [Int.reduceToNat] at ho26; rw [← Ny350.out] at ho26)); have HO352 := xM (Kd.R_lower (Kd.R_new' (Kd.R_new' ho26 (xL (yR HO_5))) (xL (yR HO_6))) (below_size (yh HB))); replace HO_5 := xM (Kd.R_elder' (yR HO_5) (Kd.R_base ho26) hb); replace HO_6 := xM (Kd.R_elder' (yR HO_6) (Kd.R_base ho26) hb); replace HB := xM (below_step (yh HB) hb); clear hb ho26)))
          go_loopg [11] kj6 (fun kq v11 w' => ∃ (x10_2 : List Int) (x11_2 : Int), v11 = .int .i64 x11_2 ∧ Aside0 (laws_FnCounts.l0 kq l1 t337 t340 x10_2 x11_2 = some r) ∧ Aside0 (kq ≤ kj6) ∧ Aside0 (Kd.R (Kd.int .i64) 3 w' w.heap.size (fun k_ => some k_ ≠ (v342 : Value).ownBlock ∧ some k_ ≠ (v351 : Value).ownBlock) (.slice Ao9 t337.length co9) t337) ∧ Aside0 (Kd.R (Kd.int .i64) 3 w' w.heap.size (fun k_ => some k_ ≠ ((.slice Ao9 t337.length co9) : Value).ownBlock ∧ some k_ ≠ (v351 : Value).ownBlock) v342 t340) ∧ Aside0 (Kd.R (Kd.int .i64) 3 w' w.heap.size (fun k_ => some k_ ≠ ((.slice Ao9 t337.length co9) : Value).ownBlock ∧ some k_ ≠ (v342 : Value).ownBlock) v351 x10_2) ∧ Aside0 (Below w.heap.size w w'))
          case atStart => exact ⟨(y350), (0), (by first | rfl | (simp; done) | (simp [*]; done)), H', ⟨Nat.le_refl _⟩, ⟨yR HO_5⟩, ⟨yR HO_6⟩, ⟨by (with_reducible repeat (first | apply xRA | apply xRN | apply xRD)); exact Kd.R_mono HO352.out (fun _ hk => ⟨hk.1.2, hk.2⟩)⟩, ⟨yh HB⟩⟩
          case round =>
           clear H'
           try clear c1
           try clear c2
           try clear p2
           try clear c3
           try clear c3b0
           try clear p6
           try clear c11
           try clear c12
           try clear c12b0
           try clear c12b1
           try clear c12b2
           try clear c14
           try clear c20
           try clear c22
           try clear c23
           try clear c23b0
           try clear c23b1
           try clear c24
           try clear c24b0
           try clear c24b1
           try clear p2
           try clear p6
           obtain ⟨x10_2, x11_2, rfl, HA, HK2, HO_5, HO_6, HO_10, HB⟩ := hrel
           cases gk with
           | zero => exact absurd HA.out (by simp [laws_FnCounts.l0])
           | succ k2 =>
            have H := HA.out
            clear HA
            simp only [laws_FnCounts.l0] at H
            by_cases c27 : x11_2 < 64
            ·rw [if_pos c27] at H
             have c27b0 : decide (x11_2 < 64) = true := decide_eq_true c27
             clear c27
             (first | rw [c27b0] | (simp only [i64_w, i32_w]; rw [c27b0]) | skip)
             replace H := Option.bind_eq_some_iff.mp H
             obtain ⟨⟨t353, t354⟩, A280, H⟩ := H
             replace H : (if t354 = true then (if t353 < 0 then (some false) else (if t353 ≥ (t337.length : Int) then (some false) else (if 0 ≤ t353 then (if t353 < (t340.length : Int) then (if x11_2 < (rd t340 t353) then (some false) else (if t353 < (t337.length : Int) then (if x11_2 ≥ (wrap64 ((rd t340 t353) + (rd t337 t353))) then (some false) else (if t353 < (x10_2.length : Int) then (laws_FnCounts.l0 k2 l1 t337 t340 (x10_2.set (t353 : Int).toNat (wrap64 ((rd x10_2 t353) + 1))) (wrap64 (x11_2 + 1))) else (none))) else (none))) else (none)) else (none)))) else (some false)) = some r := H
             have A28 := Aside0.mk A280
             clear A280
             by_cases c29 : t354 = true
             ·subst c29
              have H1 : (if t353 < 0 then (some false) else (if t353 ≥ (t337.length : Int) then (some false) else (if 0 ≤ t353 then (if t353 < (t340.length : Int) then (if x11_2 < (rd t340 t353) then (some false) else (if t353 < (t337.length : Int) then (if x11_2 ≥ (wrap64 ((rd t340 t353) + (rd t337 t353))) then (some false) else (if t353 < (x10_2.length : Int) then (laws_FnCounts.l0 k2 l1 t337 t340 (x10_2.set (t353 : Int).toNat (wrap64 ((rd x10_2 t353) + 1))) (wrap64 (x11_2 + 1))) else (none))) else (none))) else (none)) else (none)))) = some r := by rw [if_pos rfl] at H; exact H
              clear H
              have H := H1
              clear H1
              by_cases c30 : t353 < 0
              ·rw [if_pos c30] at H
               have c30b0 : decide (t353 < 0) = true := decide_eq_true c30
               clear c30
               obtain rfl := Option.some.inj H
               go_wp2_with (first | (go_at_call 49; (with_reducible refine (impl_SymbolAt.calls k2 _ _ t337 x11_2 t353 true _ ?side1 ?side2 A28.out).mono ?_); (case side1 => repeat (first | exact (Kd.R_reads' HO_5.out).2.2 | (with_reducible refine Kd.C_alloc ?_ _) | (with_reducible refine Kd.C_drewN ?_ _) | (with_reducible refine Kd.C_drew ?_))); (case side2 => exact (Kd.R_reads' HO_5.out).2.1); rintro e w' ⟨rfl, ⟨nd, rfl⟩⟩; (try first | exact ⟨rfl, _, World.drewN_drewN _ _ _⟩ | exact ⟨rfl, _, Eq.trans (World.drewN_drewN _ _ _) (congrArg (World.drewN _) (Nat.add_assoc _ _ _))⟩)))
               repeat (go_quiet (first | (go_at_call 49; (with_reducible refine (impl_SymbolAt.calls k2 _ _ t337 x11_2 t353 true _ ?side1 ?side2 A28.out).mono ?_); (case side1 => repeat (first | exact (Kd.R_reads' HO_5.out).2.2 | (with_reducible refine Kd.C_alloc ?_ _) | (with_reducible refine Kd.C_drewN ?_ _) | (with_reducible refine Kd.C_drew ?_))); (case side2 => exact (Kd.R_reads' HO_5.out).2.1); rintro e w' ⟨rfl, ⟨nd, rfl⟩⟩; (try first | exact ⟨rfl, _, World.drewN_drewN _ _ _⟩ | exact ⟨rfl, _, Eq.trans (World.drewN_drewN _ _ _) (congrArg (World.drewN _) (Nat.add_assoc _ _ _))⟩))); try go_wp2_with (first | (go_at_call 49; (with_reducible refine (impl_SymbolAt.calls k2 _ _ t337 x11_2 t353 true _ ?side1 ?side2 A28.out).mono ?_); (case side1 => repeat (first | exact (Kd.R_reads' HO_5.out).2.2 | (with_reducible refine Kd.C_alloc ?_ _) | (with_reducible refine Kd.C_drewN ?_ _) | (with_reducible refine Kd.C_drew ?_))); (case side2 => exact (Kd.R_reads' HO_5.out).2.1); rintro e w' ⟨rfl, ⟨nd, rfl⟩⟩; (try first | exact ⟨rfl, _, World.drewN_drewN _ _ _⟩ | exact ⟨rfl, _, Eq.trans (World.drewN_drewN _ _ _) (congrArg (World.drewN _) (Nat.add_assoc _ _ _))⟩))))
               go_ret
               exact ⟨by first | rfl | (simp [errW_none, errW_some] <;> rfl) | (simp [*, errW_none, errW_some] <;> rfl), by repeat (first | (with_reducible first | exact HB.out | apply xa | apply xn | apply xd) | exact HB.out)⟩
              ·rw [if_neg c30] at H
               have c30b0 : decide (t353 < 0) = false := decide_eq_false c30
               clear c30
               by_cases c31 : t353 ≥ (t337.length : Int)
               ·rw [if_pos c31] at H
                have c31b0 : decide ((t337.length : Int) ≤ t353) = true := decide_eq_true c31
                clear c31
                obtain rfl := Option.some.inj H
                go_wp2_with (first | (go_at_call 49; (with_reducible refine (impl_SymbolAt.calls k2 _ _ t337 x11_2 t353 true _ ?side1 ?side2 A28.out).mono ?_); (case side1 => repeat (first | exact (Kd.R_reads' HO_5.out).2.2 | (with_reducible refine Kd.C_alloc ?_ _) | (with_reducible refine Kd.C_drewN ?_ _) | (with_reducible refine Kd.C_drew ?_))); (case side2 => exact (Kd.R_reads' HO_5.out).2.1); rintro e w' ⟨rfl, ⟨nd, rfl⟩⟩; (try first | exact ⟨rfl, _, World.drewN_drewN _ _ _⟩ | exact ⟨rfl, _, Eq.trans (World.drewN_drewN _ _ _) (congrArg (World.drewN _) (Nat.add_assoc _ _ _))⟩)))
                repeat (go_quiet (first | (go_at_call 49; (with_reducible refine (impl_SymbolAt.calls k2 _ _ t337 x11_2 t353 true _ ?side1 ?side2 A28.out).mono ?_); (case side1 => repeat (first | exact (Kd.R_reads' HO_5.out).2.2 | (with_reducible refine Kd.C_alloc ?_ _) | (with_reducible refine Kd.C_drewN ?_ _) | (with_reducible refine Kd.C_drew ?_))); (case side2 => exact (Kd.R_reads' HO_5.out).2.1); rintro e w' ⟨rfl, ⟨nd, rfl⟩⟩; (try first | exact ⟨rfl, _, World.drewN_drewN _ _ _⟩ | exact ⟨rfl, _, Eq.trans (World.drewN_drewN _ _ _) (congrArg (World.drewN _) (Nat.add_assoc _ _ _))⟩))); try go_wp2_with (first | (go_at_call 49; (with_reducible refine (impl_SymbolAt.calls k2 _ _ t337 x11_2 t353 true _ ?side1 ?side2 A28.out).mono ?_); (case side1 => repeat (first | exact (Kd.R_reads' HO_5.out).2.2 | (with_reducible refine Kd.C_alloc ?_ _) | (with_reducible refine Kd.C_drewN ?_ _) | (with_reducible refine Kd.C_drew ?_))); (case side2 => exact (Kd.R_reads' HO_5.out).2.1); rintro e w' ⟨rfl, ⟨nd, rfl⟩⟩; (try first | exact ⟨rfl, _, World.drewN_drewN _ _ _⟩ | exact ⟨rfl, _, Eq.trans (World.drewN_drewN _ _ _) (congrArg (World.drewN _) (Nat.add_assoc _ _ _))⟩))))
                go_ret
                exact ⟨by first | rfl | (simp [errW_none, errW_some] <;> rfl) | (simp [*, errW_none, errW_some] <;> rfl), by repeat (first | (with_reducible first | exact HB.out | apply xa | apply xn | apply xd) | exact HB.out)⟩
               ·rw [if_neg c31] at H
                have c31b0 : decide ((t337.length : Int) ≤ t353) = false := decide_eq_false c31
                clear c31
                by_cases c32 : 0 ≤ t353
                ·rw [if_pos c32] at H
                 have c32b0 : decide (0 ≤ t353) = true := decide_eq_true c32
                 clear c32
                 by_cases c33 : t353 < (t340.length : Int)
                 ·rw [if_pos c33] at H
                  have c33b0 : decide (t353 < (t340.length : Int)) = true := decide_eq_true c33
                  clear c33
                  by_cases c34 : x11_2 < (rd t340 t353)
                  ·rw [if_pos c34] at H
                   have c34b0 : decide (x11_2 < (rd t340 t353)) = true := decide_eq_true c34
                   clear c34
                   obtain rfl := Option.some.inj H
                   go_wp2_with (first | (go_at_call 49; (with_reducible refine (impl_SymbolAt.calls k2 _ _ t337 x11_2 t353 true _ ?side1 ?side2 A28.out).mono ?_); (case side1 => repeat (first | exact (Kd.R_reads' HO_5.out).2.2 | (with_reducible refine Kd.C_alloc ?_ _) | (with_reducible refine Kd.C_drewN ?_ _) | (with_reducible refine Kd.C_drew ?_))); (case side2 => exact (Kd.R_reads' HO_5.out).2.1); rintro e w' ⟨rfl, ⟨nd, rfl⟩⟩; (try first | exact ⟨rfl, _, World.drewN_drewN _ _ _⟩ | exact ⟨rfl, _, Eq.trans (World.drewN_drewN _ _ _) (congrArg (World.drewN _) (Nat.add_assoc _ _ _))⟩); obtain ⟨Ao35, co35, eo35⟩ := Kd.R_slice HO_6.out; subst eo35; have p355 : 0 ≤ (t353 : Int) := of_decide_eq_true (by first | (with_reducible assumption) | assumption); have q355 : t353 < (t340.length : Int) := of_decide_eq_true (by first | (with_reducible assumption) | assumption); obtain ⟨ad355, e355, hx355_0⟩ := Kd.at_int (Kd.R_reads' HO_6.out).2.2 t353 p355 q355; cases e355; replace p355 := eq_true p355; replace q355 := eq_true q355))
                   repeat (go_quiet (first | (go_at_call 49; (with_reducible refine (impl_SymbolAt.calls k2 _ _ t337 x11_2 t353 true _ ?side1 ?side2 A28.out).mono ?_); (case side1 => repeat (first | exact (Kd.R_reads' HO_5.out).2.2 | (with_reducible refine Kd.C_alloc ?_ _) | (with_reducible refine Kd.C_drewN ?_ _) | (with_reducible refine Kd.C_drew ?_))); (case side2 => exact (Kd.R_reads' HO_5.out).2.1); rintro e w' ⟨rfl, ⟨nd, rfl⟩⟩; (try first | exact ⟨rfl, _, World.drewN_drewN _ _ _⟩ | exact ⟨rfl, _, Eq.trans (World.drewN_drewN _ _ _) (congrArg (World.drewN _) (Nat.add_assoc _ _ _))⟩); obtain ⟨Ao35, co35, eo35⟩ := Kd.R_slice HO_6.out; subst eo35; have p355 : 0 ≤ (t353 : Int) := of_decide_eq_true (by first | (with_reducible assumption) | assumption); have q355 : t353 < (t340.length : Int) := of_decide_eq_true (by first | (with_reducible assumption) | assumption); obtain ⟨ad355, e355, hx355_0⟩ := Kd.at_int (Kd.R_reads' HO_6.out).2.2 t353 p355 q355; cases e355; replace p355 := eq_true p355; replace q355 := eq_true q355)); try go_wp2_with (first | (go_at_call 49; (with_reducible refine (impl_SymbolAt.calls k2 _ _ t337 x11_2 t353 true _ ?side1 ?side2 A28.out).mono ?_); (case side1 => repeat (first | exact (Kd.R_reads' HO_5.out).2.2 | (with_reducible refine Kd.C_alloc ?_ _) | (with_reducible refine Kd.C_drewN ?_ _) | (with_reducible refine Kd.C_drew ?_))); (case side2 => exact (Kd.R_reads' HO_5.out).2.1); rintro e w' ⟨rfl, ⟨nd, rfl⟩⟩; (try first | exact ⟨rfl, _, World.drewN_drewN _ _ _⟩ | exact ⟨rfl, _, Eq.trans (World.drewN_drewN _ _ _) (congrArg (World.drewN _) (Nat.add_assoc _ _ _))⟩); obtain ⟨Ao35, co35, eo35⟩ := Kd.R_slice HO_6.out; subst eo35; have p355 : 0 ≤ (t353 : Int) := of_decide_eq_true (by first | (with_reducible assumption) | assumption); have q355 : t353 < (t340.length : Int) := of_decide_eq_true (by first | (with_reducible assumption) | assumption); obtain ⟨ad355, e355, hx355_0⟩ := Kd.at_int (Kd.R_reads' HO_6.out).2.2 t353 p355 q355; cases e355; replace p355 := eq_true p355; replace q355 := eq_true q355)))
                   go_ret
                   exact ⟨by first | rfl | (simp [errW_none, errW_some] <;> rfl) | (simp [*, errW_none, errW_some] <;> rfl), by repeat (first | (with_reducible first | exact HB.out | apply xa | apply xn | apply xd) | exact HB.out)⟩
                  ·rw [if_neg c34] at H
                   have c34b0 : decide (x11_2 < (rd t340 t353)) = false := decide_eq_false c34
                   clear c34
                   by_cases c36 : t353 < (t337.length : Int)
                   ·rw [if_pos c36] at H
                    have c36b0 : decide (t353 < (t337.length : Int)) = true := decide_eq_true c36
                    clear c36
                    by_cases c37 : x11_2 ≥ (wrap64 ((rd t340 t353) + (rd t337 t353)))
                    ·rw [if_pos c37] at H
                     have c37b0 : decide ((wrap64 ((rd t340 t353) + (rd t337 t353))) ≤ x11_2) = true := decide_eq_true c37
                     clear c37
                     obtain rfl := Option.some.inj H
                     go_wp2_with (first | (go_at_call 49; (with_reducible refine (impl_SymbolAt.calls k2 _ _ t337 x11_2 t353 true _ ?side1 ?side2 A28.out).mono ?_); (case side1 => repeat (first | exact (Kd.R_reads' HO_5.out).2.2 | (with_reducible refine Kd.C_alloc ?_ _) | (with_reducible refine Kd.C_drewN ?_ _) | (with_reducible refine Kd.C_drew ?_))); (case side2 => exact (Kd.R_reads' HO_5.out).2.1); rintro e w' ⟨rfl, ⟨nd, rfl⟩⟩; (try first | exact ⟨rfl, _, World.drewN_drewN _ _ _⟩ | exact ⟨rfl, _, Eq.trans (World.drewN_drewN _ _ _) (congrArg (World.drewN _) (Nat.add_assoc _ _ _))⟩); obtain ⟨Ao38, co38, eo38⟩ := Kd.R_slice HO_6.out; subst eo38; have p355 : 0 ≤ (t353 : Int) := of_decide_eq_true (by first | (with_reducible assumption) | assumption); have q355 : t353 < (t340.length : Int) := of_decide_eq_true (by first | (with_reducible assumption) | assumption); obtain ⟨ad355, e355, hx355_0⟩ := Kd.at_int (Kd.R_reads' HO_6.out).2.2 t353 p355 q355; cases e355; replace p355 := eq_true p355; replace q355 := eq_true q355; have p356 : 0 ≤ (t353 : Int) := of_decide_eq_true (by first | (with_reducible assumption) | assumption); have q356 : t353 < (t340.length : Int) := of_decide_eq_true (by first | (with_reducible assumption) | assumption); obtain ⟨ad356, e356, hx356_0⟩ := Kd.at_int (Kd.R_reads' HO_6.out).2.2 t353 p356 q356; obtain rfl : ad355 = ad356 := (by injection e356); replace p356 := eq_true p356; replace q356 := eq_true q356; have p357 : 0 ≤ (t353 : Int) := of_decide_eq_true (by first | (with_reducible assumption) | assumption); have q357 : t353 < (t337.length : Int) := of_decide_eq_true (by first | (with_reducible assumption) | assumption); obtain ⟨ad357, e357, hx357_0⟩ := Kd.at_int (Kd.R_reads' HO_5.out).2.2 t353 p357 q357; cases e357; replace p357 := eq_true p357; replace q357 := eq_true q357))
                     repeat (go_quiet (first | (go_at_call 49; (with_reducible refine (impl_SymbolAt.calls k2 _ _ t337 x11_2 t353 true _ ?side1 ?side2 A28.out).mono ?_); (case side1 => repeat (first | exact (Kd.R_reads' HO_5.out).2.2 | (with_reducible refine Kd.C_alloc ?_ _) | (with_reducible refine Kd.C_drewN ?_ _) | (with_reducible refine Kd.C_drew ?_))); (case side2 => exact (Kd.R_reads' HO_5.out).2.1); rintro e w' ⟨rfl, ⟨nd, rfl⟩⟩; (try first | exact ⟨rfl, _, World.drewN_drewN _ _ _⟩ | exact ⟨rfl, _, Eq.trans (World.drewN_drewN _ _ _) (congrArg (World.drewN _) (Nat.add_assoc _ _ _))⟩); obtain ⟨Ao38, co38, eo38⟩ := Kd.R_slice HO_6.out; subst eo38; have p355 : 0 ≤ (t353 : Int) := of_decide_eq_true (by first | (with_reducible assumption) | assumption); have q355 : t353 < (t340.length : Int) := of_decide_eq_true (by first | (with_reducible assumption) | assumption); obtain ⟨ad355, e355, hx355_0⟩ := Kd.at_int (Kd.R_reads' HO_6.out).2.2 t353 p355 q355; cases e355; replace p355 := eq_true p355; replace q355 := eq_true q355; have p356 : 0 ≤ (t353 : Int) := of_decide_eq_true (by first | (with_reducible assumption) | assumption); have q356 : t353 < (t340.length : Int) := of_decide_eq_true (by first | (with_reducible assumption) | assumption); obtain ⟨ad356, e356, hx356_0⟩ := Kd.at_int (Kd.R_reads' HO_6.out).2.2 t353 p356 q356; obtain rfl : ad355 = ad356 := (by injection e356); replace p356 := eq_true p356; replace q356 := eq_true q356; have p357 : 0 ≤ (t353 : Int) := of_decide_eq_true (by first | (with_reducible assumption) | assumption); have q357 : t353 < (t337.length : Int) := of_decide_eq_true (by first | (with_reducible assumption) | assumption); obtain ⟨ad357, e357, hx357_0⟩ := Kd.at_int (Kd.R_reads' HO_5.out).2.2 t353 p357 q357; cases e357; replace p357 := eq_true p357; replace q357 := eq_true q357)); try go_wp2_with (first | (go_at_call 49; (with_reducible refine (impl_SymbolAt.calls k2 _ _ t337 x11_2 t353 true _ ?side1 ?side2 A28.out).mono ?_); (case side1 => repeat (first | exact (Kd.R_reads' HO_5.out).2.2 | (with_reducible refine Kd.C_alloc ?_ _) | (with_reducible refine Kd.C_drewN ?_ _) | (with_reducible refine Kd.C_drew ?_))); (case side2 => exact (Kd.R_reads' HO_5.out).2.1); rintro e w' ⟨rfl, ⟨nd, rfl⟩⟩; (try first | exact ⟨rfl, _, World.drewN_drewN _ _ _⟩ | exact ⟨rfl, _, Eq.trans (World.drewN_drewN _ _ _) (congrArg (World.drewN _) (Nat.add_assoc _ _ _))⟩); obtain ⟨Ao38, co38, eo38⟩ := Kd.R_slice HO_6.out; subst eo38; have p355 : 0 ≤ (t353 : Int) := of_decide_eq_true (by first | (with_reducible assumption) | assumption); have q355 : t353 < (t340.length : Int) := of_decide_eq_true (by first | (with_reducible assumption) | assumption); obtain ⟨ad355, e355, hx355_0⟩ := Kd.at_int (Kd.R_reads' HO_6.out).2.2 t353 p355 q355; cases e355; replace p355 := eq_true p355; replace q355 := eq_true q355; have p356 : 0 ≤ (t353 : Int) := of_decide_eq_true (by first | (with_reducible assumption) | assumption); have q356 : t353 < (t340.length : Int) := of_decide_eq_true (by first | (with_reducible assumption) | assumption); obtain ⟨ad356, e356, hx356_0⟩ := Kd.at_int (Kd.R_reads' HO_6.out).2.2 t353 p356 q356; obtain rfl : ad355 = ad356 := (by injection e356); replace p356 := eq_true p356; replace q356 := eq_true q356; have p357 : 0 ≤ (t353 : Int) := of_decide_eq_true (by first | (with_reducible assumption) | assumption); have q357 : t353 < (t337.length : Int) := of_decide_eq_true (by first | (with_reducible assumption) | assumption); obtain ⟨ad357, e357, hx357_0⟩ := Kd.at_int (Kd.R_reads' HO_5.out).2.2 t353 p357 q357; cases e357; replace p357 := eq_true p357; replace q357 := eq_true q357)))
                     go_ret
                     exact ⟨by first | rfl | (simp [errW_none, errW_some] <;> rfl) | (simp [*, errW_none, errW_some] <;> rfl), by repeat (first | (with_reducible first | exact HB.out | apply xa | apply xn | apply xd) | exact HB.out)⟩
                    ·rw [if_neg c37] at H
                     have c37b0 : decide ((wrap64 ((rd t340 t353) + (rd t337 t353))) ≤ x11_2) = false := decide_eq_false c37
                     clear c37
                     by_cases c39 : t353 < (x10_2.length : Int)
                     ·rw [if_pos c39] at H
                      have c39b0 : decide (t353 < (x10_2.length : Int)) = true := decide_eq_true c39
                      clear c39
                      obtain ⟨y359, hy359⟩ : ∃ y_ : List Int, y_ = (x10_2.set (t353 : Int).toNat (wrap64 ((rd x10_2 t353) + 1))) := ⟨_, rfl⟩
                      replace H : (laws_FnCounts.l0 k2 l1 t337 t340 y359 (wrap64 (x11_2 + 1))) = some r := by first | (rw [hy359]; with_reducible exact H) | (have H2_ := (Option.bind_some _ _).symm.trans H; rw [hy359]; with_reducible exact H2_) | (have H2_ := (Option.bind_some _ _).symm.trans H; with_reducible exact H2_) | with_reducible exact H | (rw [hy359]; exact H) | exact H
                      have Ny359 := Aside0.mk hy359
                      clear hy359
                      have H' := Aside0.mk H
                      clear H
                      go_wp2_with (first | (go_at_call 49; (with_reducible refine (impl_SymbolAt.calls k2 _ _ t337 x11_2 t353 true _ ?side1 ?side2 A28.out).mono ?_); (case side1 => repeat (first | exact (Kd.R_reads' HO_5.out).2.2 | (with_reducible refine Kd.C_alloc ?_ _) | (with_reducible refine Kd.C_drewN ?_ _) | (with_reducible refine Kd.C_drew ?_))); (case side2 => exact (Kd.R_reads' HO_5.out).2.1); rintro e w' ⟨rfl, ⟨nd, rfl⟩⟩; (try first | exact ⟨rfl, _, World.drewN_drewN _ _ _⟩ | exact ⟨rfl, _, Eq.trans (World.drewN_drewN _ _ _) (congrArg (World.drewN _) (Nat.add_assoc _ _ _))⟩); obtain ⟨Ao41, co41, eo41⟩ := Kd.R_slice HO_6.out; subst eo41; have p355 : 0 ≤ (t353 : Int) := of_decide_eq_true (by first | (with_reducible assumption) | assumption); have q355 : t353 < (t340.length : Int) := of_decide_eq_true (by first | (with_reducible assumption) | assumption); obtain ⟨ad355, e355, hx355_0⟩ := Kd.at_int (Kd.R_reads' HO_6.out).2.2 t353 p355 q355; cases e355; replace p355 := eq_true p355; replace q355 := eq_true q355; have p356 : 0 ≤ (t353 : Int) := of_decide_eq_true (by first | (with_reducible assumption) | assumption); have q356 : t353 < (t340.length : Int) := of_decide_eq_true (by first | (with_reducible assumption) | assumption); obtain ⟨ad356, e356, hx356_0⟩ := Kd.at_int (Kd.R_reads' HO_6.out).2.2 t353 p356 q356; obtain rfl : ad355 = ad356 := (by injection e356); replace p356 := eq_true p356; replace q356 := eq_true q356; have p357 : 0 ≤ (t353 : Int) := of_decide_eq_true (by first | (with_reducible assumption) | assumption); have q357 : t353 < (t337.length : Int) := of_decide_eq_true (by first | (with_reducible assumption) | assumption); obtain ⟨ad357, e357, hx357_0⟩ := Kd.at_int (Kd.R_reads' HO_5.out).2.2 t353 p357 q357; cases e357; replace p357 := eq_true p357; replace q357 := eq_true q357; obtain ⟨Ao42, co42, eo42⟩ := Kd.R_slice HO_10.out; subst eo42; have p358 : 0 ≤ (t353 : Int) := of_decide_eq_true (by first | (with_reducible assumption) | assumption); have q358 : t353 < (x10_2.length : Int) := of_decide_eq_true (by first | (with_reducible assumption) | assumption); obtain ⟨ad358, e358, hx358_0⟩ := Kd.at_int (Kd.R_reads' HO_10.out).2.2 t353 p358 q358; cases e358; replace p358 := eq_true p358; replace q358 := eq_true q358; have p40 : 0 ≤ (t353 : Int) := of_decide_eq_true (by first | (with_reducible assumption) | assumption); have q40 : (t353 : Int) < ((x10_2.length : Int) : Int) := of_decide_eq_true (by first | (with_reducible assumption) | assumption); obtain ⟨go40, co40, eo40, gb40, gl40, cl40, HG40⟩ := Kd.R_form HO_10.out (by omega); (first | cases eo40 | (injection eo40 with ea_ en_ ec_; (first | subst ea_ | (injection ea_ with ea_; subst ea_)); subst ec_; clear en_)); have GB40 := Aside0.mk gb40; have GG40 := Aside0.mk HG40; clear gb40 gl40 HG40; (first | simp only [add_plain] at hx358_0 | skip); obtain ⟨hx40_0, hf40_0⟩ := Kd.R_celln 0 HO_10.out (t353 : Int) p40 q40; replace p40 := eq_true p40; replace q40 := eq_true q40; obtain ⟨hy43_, hz43_⟩ := Kd.R_celln 0 HO_10.out (t353 : Int) (of_decide_eq_true (by first | (with_reducible assumption) | assumption)) (of_decide_eq_true (by first | (with_reducible assumption) | assumption)); have HP43 := Kd.R_putg HO_10.out (t353 : Int) (wrap64 ((rd x10_2 t353) + 1))) | ((with_reducible refine gate_store (t := 3) (p := 111) rfl ?_); (try (rw [drewN_self wr]; generalize hq_ : World.drewN wr _ = wr; have n0_ := xM (Kd.R_at hq_ HO_5.out); have n1_ := xM (Kd.R_at hq_ HO_6.out); have n2_ := xM (Kd.R_at hq_ HO_10.out); have n3_ := xM (below_at hq_ HB.out); clear hq_ HO_5 HO_6 HO_10 HB; have HO_5 := n0_; have HO_6 := n1_; have HO_10 := n2_; have HB := n3_; clear n0_ n1_ n2_ n3_; (try (obtain ⟨hy43_, hz43_⟩ := Kd.R_celln 0 HO_10.out (t353 : Int) (of_decide_eq_true (by first | (with_reducible assumption) | assumption)) (of_decide_eq_true (by first | (with_reducible assumption) | assumption)))); (try (have HP43 := Kd.R_putg HO_10.out (t353 : Int) (wrap64 ((rd x10_2 t353) + 1)))))); refine store_event (t := 3) (p := 111) (v := ?vo_w44) (w1 := (wr.setCell ⟨go40, (t353 : Int).toNat, none⟩ (.int .i64 (wrap64 ((rd x10_2 t353) + 1))))) ?hg ?ho ?hn ?hr ?_; (case ho => rfl); (case hg => rfl); (case hn => rfl); (case hr => first | (go_simp; done) | (go_simp; rfl)); intro w44 hw; have hg : wr.grownBy w44 (some go40) := (by rw [hw]; exact HP43.2); have hp_ : Kd.R (Kd.int .i64) 3 w44 w.heap.size (fun k_ => some k_ ≠ (.slice (some ad357) t337.length co9 : Value).ownBlock ∧ some k_ ≠ (.slice (some ad355) t340.length co41 : Value).ownBlock) (.slice (some ⟨go40, 0, none⟩) x10_2.length co42) y359 := (by rw [hw, Ny359.out]; exact HP43.1); clear HP43; replace HO_5 := xM (Kd.R_after (v := (.slice (some ⟨go40, 0, none⟩) x10_2.length co42)) (v1 := (.slice (some ⟨go40, 0, none⟩) x10_2.length co42)) (ok := (fun k_ => some k_ ≠ (.slice (some ad355) t340.length co41 : Value).ownBlock)) (yR HO_5) hg (.inl rfl)); replace HO_6 := xM (Kd.R_after (v := (.slice (some ⟨go40, 0, none⟩) x10_2.length co42)) (v1 := (.slice (some ⟨go40, 0, none⟩) x10_2.length co42)) (ok := (fun k_ => some k_ ≠ (.slice (some ad357) t337.length co9 : Value).ownBlock)) (yR HO_6) hg (.inl rfl)); replace HO_10 := xM (hp_); replace HB := xM ((by rw [hw]; exact below_set (HB.out) GB40.out : Below w.heap.size w w44)); clear hg hw hp_))
                      repeat (go_quiet (first | (go_at_call 49; (with_reducible refine (impl_SymbolAt.calls k2 _ _ t337 x11_2 t353 true _ ?side1 ?side2 A28.out).mono ?_); (case side1 => repeat (first | exact (Kd.R_reads' HO_5.out).2.2 | (with_reducible refine Kd.C_alloc ?_ _) | (with_reducible refine Kd.C_drewN ?_ _) | (with_reducible refine Kd.C_drew ?_))); (case side2 => exact (Kd.R_reads' HO_5.out).2.1); rintro e w' ⟨rfl, ⟨nd, rfl⟩⟩; (try first | exact ⟨rfl, _, World.drewN_drewN _ _ _⟩ | exact ⟨rfl, _, Eq.trans (World.drewN_drewN _ _ _) (congrArg (World.drewN _) (Nat.add_assoc _ _ _))⟩); obtain ⟨Ao41, co41, eo41⟩ := Kd.R_slice HO_6.out; subst eo41; have p355 : 0 ≤ (t353 : Int) := of_decide_eq_true (by first | (with_reducible assumption) | assumption); have q355 : t353 < (t340.length : Int) := of_decide_eq_true (by first | (with_reducible assumption) | assumption); obtain ⟨ad355, e355, hx355_0⟩ := Kd.at_int (Kd.R_reads' HO_6.out).2.2 t353 p355 q355; cases e355; replace p355 := eq_true p355; replace q355 := eq_true q355; have p356 : 0 ≤ (t353 : Int) := of_decide_eq_true (by first | (with_reducible assumption) | assumption); have q356 : t353 < (t340.length : Int) := of_decide_eq_true (by first | (with_reducible assumption) | assumption); obtain ⟨ad356, e356, hx356_0⟩ := Kd.at_int (Kd.R_reads' HO_6.out).2.2 t353 p356 q356; obtain rfl : ad355 = ad356 := (by injection e356); replace p356 := eq_true p356; replace q356 := eq_true q356; have p357 : 0 ≤ (t353 : Int) := of_decide_eq_true (by first | (with_reducible assumption) | assumption); have q357 : t353 < (t337.length : Int) := of_decide_eq_true (by first | (with_reducible assumption) | assumption); obtain ⟨ad357, e357, hx357_0⟩ := Kd.at_int (Kd.R_reads' HO_5.out).2.2 t353 p357 q357; cases e357; replace p357 := eq_true p357; replace q357 := eq_true q357; obtain ⟨Ao42, co42, eo42⟩ := Kd.R_slice HO_10.out; subst eo42; have p358 : 0 ≤ (t353 : Int) := of_decide_eq_true (by first | (with_reducible assumption) | assumption); have q358 : t353 < (x10_2.length : Int) := of_decide_eq_true (by first | (with_reducible assumption) | assumption); obtain ⟨ad358, e358, hx358_0⟩ := Kd.at_int (Kd.R_reads' HO_10.out).2.2 t353 p358 q358; cases e358; replace p358 := eq_true p358; replace q358 := eq_true q358; have p40 : 0 ≤ (t353 : Int) := of_decide_eq_true (by first | (with_reducible assumption) | assumption); have q40 : (t353 : Int) < ((x10_2.length : Int) : Int) := of_decide_eq_true (by first | (with_reducible assumption) | assumption); obtain ⟨go40, co40, eo40, gb40, gl40, cl40, HG40⟩ := Kd.R_form HO_10.out (by omega); (first | cases eo40 | (injection eo40 with ea_ en_ ec_; (first | subst ea_ | (injection ea_ with ea_; subst ea_)); subst ec_; clear en_)); have GB40 := Aside0.mk gb40; have GG40 := Aside0.mk HG40; clear gb40 gl40 HG40; (first | simp only [add_plain] at hx358_0 | skip); obtain ⟨hx40_0, hf40_0⟩ := Kd.R_celln 0 HO_10.out (t353 : Int) p40 q40; replace p40 := eq_true p40; replace q40 := eq_true q40; obtain ⟨hy43_, hz43_⟩ := Kd.R_celln 0 HO_10.out (t353 : Int) (of_decide_eq_true (by first | (with_reducible assumption) | assumption)) (of_decide_eq_true (by first | (with_reducible assumption) | assumption)); have HP43 := Kd.R_putg HO_10.out (t353 : Int) (wrap64 ((rd x10_2 t353) + 1))) | ((with_reducible refine gate_store (t := 3) (p := 111) rfl ?_); (try (rw [drewN_self wr]; generalize hq_ : World.drewN wr _ = wr; have n0_ := xM (Kd.R_at hq_ HO_5.out); have n1_ := xM (Kd.R_at hq_ HO_6.out); have n2_ := xM (Kd.R_at hq_ HO_10.out); have n3_ := xM (below_at hq_ HB.out); clear hq_ HO_5 HO_6 HO_10 HB; have HO_5 := n0_; have HO_6 := n1_; have HO_10 := n2_; have HB := n3_; clear n0_ n1_ n2_ n3_; (try (obtain ⟨hy43_, hz43_⟩ := Kd.R_celln 0 HO_10.out (t353 : Int) (of_decide_eq_true (by first | (with_reducible assumption) | assumption)) (of_decide_eq_true (by first | (with_reducible assumption) | assumption)))); (try (have HP43 := Kd.R_putg HO_10.out (t353 : Int) (wrap64 ((rd x10_2 t353) + 1)))))); refine store_event (t := 3) (p := 111) (v := ?vo_w44) (w1 := (wr.setCell ⟨go40, (t353 : Int).toNat, none⟩ (.int .i64 (wrap64 ((rd x10_2 t353) + 1))))) ?hg ?ho ?hn ?hr ?_; (case ho => rfl); (case hg => rfl); (case hn => rfl); (case hr => first | (go_simp; done) | (go_simp; rfl)); intro w44 hw; have hg : wr.grownBy w44 (some go40) := (by rw [hw]; exact HP43.2); have hp_ : Kd.R (Kd.int .i64) 3 w44 w.heap.size (fun k_ => some k_ ≠ (.slice (some ad357) t337.length co9 : Value).ownBlock ∧ some k_ ≠ (.slice (some ad355) t340.length co41 : Value).ownBlock) (.slice (some ⟨go40, 0, none⟩) x10_2.length co42) y359 := (by rw [hw, Ny359.out]; exact HP43.1); clear HP43; replace HO_5 := xM (Kd.R_after (v := (.slice (some ⟨go40, 0, none⟩) x10_2.length co42)) (v1 := (.slice (some ⟨go40, 0, none⟩) x10_2.length co42)) (ok := (fun k_ => some k_ ≠ (.slice (some ad355) t340.length co41 : Value).ownBlock)) (yR HO_5) hg (.inl rfl)); replace HO_6 := xM (Kd.R_after (v := (.slice (some ⟨go40, 0, none⟩) x10_2.length co42)) (v1 := (.slice (some ⟨go40, 0, none⟩) x10_2.length co42)) (ok := (fun k_ => some k_ ≠ (.slice (some ad357) t337.length co9 : Value).ownBlock)) (yR HO_6) hg (.inl rfl)); replace HO_10 := xM (hp_); replace HB := xM ((by rw [hw]; exact below_set (HB.out) GB40.out : Below w.heap.size w w44)); clear hg hw hp_)); try go_wp2_with (first | (go_at_call 49; (with_reducible refine (impl_SymbolAt.calls k2 _ _ t337 x11_2 t353 true _ ?side1 ?side2 A28.out).mono ?_); (case side1 => repeat (first | exact (Kd.R_reads' HO_5.out).2.2 | (with_reducible refine Kd.C_alloc ?_ _) | (with_reducible refine Kd.C_drewN ?_ _) | (with_reducible refine Kd.C_drew ?_))); (case side2 => exact (Kd.R_reads' HO_5.out).2.1); rintro e w' ⟨rfl, ⟨nd, rfl⟩⟩; (try first | exact ⟨rfl, _, World.drewN_drewN _ _ _⟩ | exact ⟨rfl, _, Eq.trans (World.drewN_drewN _ _ _) (congrArg (World.drewN _) (Nat.add_assoc _ _ _))⟩); obtain ⟨Ao41, co41, eo41⟩ := Kd.R_slice HO_6.out; subst eo41; have p355 : 0 ≤ (t353 : Int) := of_decide_eq_true (by first | (with_reducible assumption) | assumption); have q355 : t353 < (t340.length : Int) := of_decide_eq_true (by first | (with_reducible assumption) | assumption); obtain ⟨ad355, e355, hx355_0⟩ := Kd.at_int (Kd.R_reads' HO_6.out).2.2 t353 p355 q355; cases e355; replace p355 := eq_true p355; replace q355 := eq_true q355; have p356 : 0 ≤ (t353 : Int) := of_decide_eq_true (by first | (with_reducible assumption) | assumption); have q356 : t353 < (t340.length : Int) := of_decide_eq_true (by first | (with_reducible assumption) | assumption); obtain ⟨ad356, e356, hx356_0⟩ := Kd.at_int (Kd.R_reads' HO_6.out).2.2 t353 p356 q356; obtain rfl : ad355 = ad356 := (by injection e356); replace p356 := eq_true p356; replace q356 := eq_true q356; have p357 : 0 ≤ (t353 : Int) := of_decide_eq_true (by first | (with_reducible assumption) | assumption); have q357 : t353 < (t337.length : Int) := of_decide_eq_true (by first | (with_reducible assumption) | assumption); obtain ⟨ad357, e357, hx357_0⟩ := Kd.at_int (Kd.R_reads' HO_5.out).2.2 t353 p357 q357; cases e357; replace p357 := eq_true p357; replace q357 := eq_true q357; obtain ⟨Ao42, co42, eo42⟩ := Kd.R_slice HO_10.out; subst eo42; have p358 : 0 ≤ (t353 : Int) := of_decide_eq_true (by first | (with_reducible assumption) | assumption); have q358 : t353 < (x10_2.length : Int) := of_decide_eq_true (by first | (with_reducible assumption) | assumption); obtain ⟨ad358, e358, hx358_0⟩ := Kd.at_int (Kd.R_reads' HO_10.out).2.2 t353 p358 q358; cases e358; replace p358 := eq_true p358; replace q358 := eq_true q358; have p40 : 0 ≤ (t353 : Int) := of_decide_eq_true (by first | (with_reducible assumption) | assumption); have q40 : (t353 : Int) < ((x10_2.length : Int) : Int) := of_decide_eq_true (by first | (with_reducible assumption) | assumption); obtain ⟨go40, co40, eo40, gb40, gl40, cl40, HG40⟩ := Kd.R_form HO_10.out (by omega); (first | cases eo40 | (injection eo40 with ea_ en_ ec_; (first | subst ea_ | (injection ea_ with ea_; subst ea_)); subst ec_; clear en_)); have GB40 := Aside0.mk gb40; have GG40 := Aside0.mk HG40; clear gb40 gl40 HG40; (first | simp only [add_plain] at hx358_0 | skip); obtain ⟨hx40_0, hf40_0⟩ := Kd.R_celln 0 HO_10.out (t353 : Int) p40 q40; replace p40 := eq_true p40; replace q40 := eq_true q40; obtain ⟨hy43_, hz43_⟩ := Kd.R_celln 0 HO_10.out (t353 : Int) (of_decide_eq_true (by first | (with_reducible assumption) | assumption)) (of_decide_eq_true (by first | (with_reducible assumption) | assumption)); have HP43 := Kd.R_putg HO_10.out (t353 : Int) (wrap64 ((rd x10_2 t353) + 1))) | ((with_reducible refine gate_store (t := 3) (p := 111) rfl ?_); (try (rw [drewN_self wr]; generalize hq_ : World.drewN wr _ = wr; have n0_ := xM (Kd.R_at hq_ HO_5.out); have n1_ := xM (Kd.R_at hq_ HO_6.out); have n2_ := xM (Kd.R_at hq_ HO_10.out); have n3_ := xM (below_at hq_ HB.out); clear hq_ HO_5 HO_6 HO_10 HB; have HO_5 := n0_; have HO_6 := n1_; have HO_10 := n2_; have HB := n3_; clear n0_ n1_ n2_ n3_; (try (obtain ⟨hy43_, hz43_⟩ := Kd.R_celln 0 HO_10.out (t353 : Int) (of_decide_eq_true (by first | (with_reducible assumption) | assumption)) (of_decide_eq_true (by first | (with_reducible assumption) | assumption)))); (try (have HP43 := Kd.R_putg HO_10.out (t353 : Int) (wrap64 ((rd x10_2 t353) + 1)))))); refine store_event (t := 3) (p := 111) (v := ?vo_w44) (w1 := (wr.setCell ⟨go40, (t353 : Int).toNat, none⟩ (.int .i64 (wrap64 ((rd x10_2 t353) + 1))))) ?hg ?ho ?hn ?hr ?_; (case ho => rfl); (case hg => rfl); (case hn => rfl); (case hr => first | (go_simp; done) | (go_simp; rfl)); intro w44 hw; have hg : wr.grownBy w44 (some go40) := (by rw [hw]; exact HP43.2); have hp_ : Kd.R (Kd.int .i64) 3 w44 w.heap.size (fun k_ => some k_ ≠ (.slice (some ad357) t337.length co9 : Value).ownBlock ∧ some k_ ≠ (.slice (some ad355) t340.length co41 : Value).ownBlock) (.slice (some ⟨go40, 0, none⟩) x10_2.length co42) y359 := (by rw [hw, Ny359.out]; exact HP43.1); clear HP43; replace HO_5 := xM (Kd.R_after (v := (.slice (some ⟨go40, 0, none⟩) x10_2.length co42)) (v1 := (.slice (some ⟨go40, 0, none⟩) x10_2.length co42)) (ok := (fun k_ => some k_ ≠ (.slice (some ad355) t340.length co41 : Value).ownBlock)) (yR HO_5) hg (.inl rfl)); replace HO_6 := xM (Kd.R_after (v := (.slice (some ⟨go40, 0, none⟩) x10_2.length co42)) (v1 := (.slice (some ⟨go40, 0, none⟩) x10_2.length co42)) (ok := (fun k_ => some k_ ≠ (.slice (some ad357) t337.length co9 : Value).ownBlock)) (yR HO_6) hg (.inl rfl)); replace HO_10 := xM (hp_); replace HB := xM ((by rw [hw]; exact below_set (HB.out) GB40.out : Below w.heap.size w w44)); clear hg hw hp_)))
                      go_roundg k2
                      case measure => have := HJ6.out; have := HK2.out; omega
                      case rel => exact ⟨(y359), (wrap64 (x11_2 + 1)), (by first | rfl | (simp; done) | (simp [*]; done)), H', ⟨by have := HJ6.out; have := HK2.out; omega⟩, ⟨yR HO_5⟩, ⟨yR HO_6⟩, ⟨yR HO_10⟩, ⟨yh HB⟩⟩
                     ·rw [if_neg c39] at H
                      exact absurd H (by simp)
                   ·rw [if_neg c36] at H
                    exact absurd H (by simp)
                 ·rw [if_neg c33] at H
                  exact absurd H (by simp)
                ·rw [if_neg c32] at H
                 exact absurd H (by simp)
             ·replace c29 := Bool.eq_false_iff.mpr c29
              subst c29
              have H1 : (some false) = some r := by rw [if_neg (show ¬ (false = true) by decide)] at H; exact H
              clear H
              have H := H1
              clear H1
              obtain rfl := Option.some.inj H
              go_wp2_with (first | (go_at_call 49; (with_reducible refine (impl_SymbolAt.calls k2 _ _ t337 x11_2 t353 false _ ?side1 ?side2 A28.out).mono ?_); (case side1 => repeat (first | exact (Kd.R_reads' HO_5.out).2.2 | (with_reducible refine Kd.C_alloc ?_ _) | (with_reducible refine Kd.C_drewN ?_ _) | (with_reducible refine Kd.C_drew ?_))); (case side2 => exact (Kd.R_reads' HO_5.out).2.1); rintro e w' ⟨rfl, ⟨nd, rfl⟩⟩; (try first | exact ⟨rfl, _, World.drewN_drewN _ _ _⟩ | exact ⟨rfl, _, Eq.trans (World.drewN_drewN _ _ _) (congrArg (World.drewN _) (Nat.add_assoc _ _ _))⟩)))
              repeat (go_quiet (first | (go_at_call 49; (with_reducible refine (impl_SymbolAt.calls k2 _ _ t337 x11_2 t353 false _ ?side1 ?side2 A28.out).mono ?_); (case side1 => repeat (first | exact (Kd.R_reads' HO_5.out).2.2 | (with_reducible refine Kd.C_alloc ?_ _) | (with_reducible refine Kd.C_drewN ?_ _) | (with_reducible refine Kd.C_drew ?_))); (case side2 => exact (Kd.R_reads' HO_5.out).2.1); rintro e w' ⟨rfl, ⟨nd, rfl⟩⟩; (try first | exact ⟨rfl, _, World.drewN_drewN _ _ _⟩ | exact ⟨rfl, _, Eq.trans (World.drewN_drewN _ _ _) (congrArg (World.drewN _) (Nat.add_assoc _ _ _))⟩))); try go_wp2_with (first | (go_at_call 49; (with_reducible refine (impl_SymbolAt.calls k2 _ _ t337 x11_2 t353 false _ ?side1 ?side2 A28.out).mono ?_); (case side1 => repeat (first | exact (Kd.R_reads' HO_5.out).2.2 | (with_reducible refine Kd.C_alloc ?_ _) | (with_reducible refine Kd.C_drewN ?_ _) | (with_reducible refine Kd.C_drew ?_))); (case side2 => exact (Kd.R_reads' HO_5.out).2.1); rintro e w' ⟨rfl, ⟨nd, rfl⟩⟩; (try first | exact ⟨rfl, _, World.drewN_drewN _ _ _⟩ | exact ⟨rfl, _, Eq.trans (World.drewN_drewN _ _ _) (congrArg (World.drewN _) (Nat.add_assoc _ _ _))⟩))))
              go_ret
              exact ⟨by first | rfl | (simp [errW_none, errW_some] <;> rfl) | (simp [*, errW_none, errW_some] <;> rfl), by repeat (first | (with_reducible first | exact HB.out | apply xa | apply xn | apply xd) | exact HB.out)⟩
            ·rw [if_neg c27] at H
             have c27b0 : decide (x11_2 < 64) = false := decide_eq_false c27
             clear c27
             (first | rw [c27b0] | (simp only [i64_w, i32_w]; rw [c27b0]) | skip)
             replace H := Option.bind_eq_some_iff.mp H
             obtain ⟨t360, A450, H⟩ := H
             replace H : (if t360 = true then (laws_FnCounts.j2 k2 l1) else (some false)) = some r := H
             have A45 := Aside0.mk A450
             clear A450
             by_cases c46 : t360 = true
             ·subst c46
              have H1 : (laws_FnCounts.j2 k2 l1) = some r := by rw [if_pos rfl] at H; exact H
              clear H
              have H := H1
              clear H1
              have H' := Aside0.mk H
              clear H
              obtain ⟨Ao47, co47, eo47⟩ := Kd.R_slice HO_10.out
              subst eo47
              go_wp2_with (first | (go_at_call 47; (with_reducible refine (laws_sameInts.calls k2 _ _ x10_2 _ _ t337 true _ ?side1 ?side2 ?side3 ?side4 A45.out).mono ?_); (case side1 => repeat (first | exact (Kd.R_reads' HO_10.out).2.2 | (with_reducible refine Kd.C_alloc ?_ _) | (with_reducible refine Kd.C_drewN ?_ _) | (with_reducible refine Kd.C_drew ?_))); (case side2 => exact (Kd.R_reads' HO_10.out).2.1); (case side3 => repeat (first | exact (Kd.R_reads' HO_5.out).2.2 | (with_reducible refine Kd.C_alloc ?_ _) | (with_reducible refine Kd.C_drewN ?_ _) | (with_reducible refine Kd.C_drew ?_))); (case side4 => exact (Kd.R_reads' HO_5.out).2.1); rintro e w' ⟨rfl, ⟨nd, rfl⟩⟩; (try first | exact ⟨rfl, _, World.drewN_drewN _ _ _⟩ | exact ⟨rfl, _, Eq.trans (World.drewN_drewN _ _ _) (congrArg (World.drewN _) (Nat.add_assoc _ _ _))⟩)))
              repeat (go_quiet (first | (go_at_call 47; (with_reducible refine (laws_sameInts.calls k2 _ _ x10_2 _ _ t337 true _ ?side1 ?side2 ?side3 ?side4 A45.out).mono ?_); (case side1 => repeat (first | exact (Kd.R_reads' HO_10.out).2.2 | (with_reducible refine Kd.C_alloc ?_ _) | (with_reducible refine Kd.C_drewN ?_ _) | (with_reducible refine Kd.C_drew ?_))); (case side2 => exact (Kd.R_reads' HO_10.out).2.1); (case side3 => repeat (first | exact (Kd.R_reads' HO_5.out).2.2 | (with_reducible refine Kd.C_alloc ?_ _) | (with_reducible refine Kd.C_drewN ?_ _) | (with_reducible refine Kd.C_drew ?_))); (case side4 => exact (Kd.R_reads' HO_5.out).2.1); rintro e w' ⟨rfl, ⟨nd, rfl⟩⟩; (try first | exact ⟨rfl, _, World.drewN_drewN _ _ _⟩ | exact ⟨rfl, _, Eq.trans (World.drewN_drewN _ _ _) (congrArg (World.drewN _) (Nat.add_assoc _ _ _))⟩))); try go_wp2_with (first | (go_at_call 47; (with_reducible refine (laws_sameInts.calls k2 _ _ x10_2 _ _ t337 true _ ?side1 ?side2 ?side3 ?side4 A45.out).mono ?_); (case side1 => repeat (first | exact (Kd.R_reads' HO_10.out).2.2 | (with_reducible refine Kd.C_alloc ?_ _) | (with_reducible refine Kd.C_drewN ?_ _) | (with_reducible refine Kd.C_drew ?_))); (case side2 => exact (Kd.R_reads' HO_10.out).2.1); (case side3 => repeat (first | exact (Kd.R_reads' HO_5.out).2.2 | (with_reducible refine Kd.C_alloc ?_ _) | (with_reducible refine Kd.C_drewN ?_ _) | (with_reducible refine Kd.C_drew ?_))); (case side4 => exact (Kd.R_reads' HO_5.out).2.1); rintro e w' ⟨rfl, ⟨nd, rfl⟩⟩; (try first | exact ⟨rfl, _, World.drewN_drewN _ _ _⟩ | exact ⟨rfl, _, Eq.trans (World.drewN_drewN _ _ _) (congrArg (World.drewN _) (Nat.add_assoc _ _ _))⟩))))
              go_meet
              case rel => exact ⟨_, H', ⟨by have := HJ6.out; have := HK2.out; first | omega | exact Nat.le_refl _⟩, ⟨yh HB⟩⟩
             ·replace c46 := Bool.eq_false_iff.mpr c46
              subst c46
              have H1 : (some false) = some r := by rw [if_neg (show ¬ (false = true) by decide)] at H; exact H
              clear H
              have H := H1
              clear H1
              obtain rfl := Option.some.inj H
              obtain ⟨Ao48, co48, eo48⟩ := Kd.R_slice HO_10.out
              subst eo48
              go_wp2_with (first | (go_at_call 47; (with_reducible refine (laws_sameInts.calls k2 _ _ x10_2 _ _ t337 false _ ?side1 ?side2 ?side3 ?side4 A45.out).mono ?_); (case side1 => repeat (first | exact (Kd.R_reads' HO_10.out).2.2 | (with_reducible refine Kd.C_alloc ?_ _) | (with_reducible refine Kd.C_drewN ?_ _) | (with_reducible refine Kd.C_drew ?_))); (case side2 => exact (Kd.R_reads' HO_10.out).2.1); (case side3 => repeat (first | exact (Kd.R_reads' HO_5.out).2.2 | (with_reducible refine Kd.C_alloc ?_ _) | (with_reducible refine Kd.C_drewN ?_ _) | (with_reducible refine Kd.C_drew ?_))); (case side4 => exact (Kd.R_reads' HO_5.out).2.1); rintro e w' ⟨rfl, ⟨nd, rfl⟩⟩; (try first | exact ⟨rfl, _, World.drewN_drewN _ _ _⟩ | exact ⟨rfl, _, Eq.trans (World.drewN_drewN _ _ _) (congrArg (World.drewN _) (Nat.add_assoc _ _ _))⟩)))
              repeat (go_quiet (first | (go_at_call 47; (with_reducible refine (laws_sameInts.calls k2 _ _ x10_2 _ _ t337 false _ ?side1 ?side2 ?side3 ?side4 A45.out).mono ?_); (case side1 => repeat (first | exact (Kd.R_reads' HO_10.out).2.2 | (with_reducible refine Kd.C_alloc ?_ _) | (with_reducible refine Kd.C_drewN ?_ _) | (with_reducible refine Kd.C_drew ?_))); (case side2 => exact (Kd.R_reads' HO_10.out).2.1); (case side3 => repeat (first | exact (Kd.R_reads' HO_5.out).2.2 | (with_reducible refine Kd.C_alloc ?_ _) | (with_reducible refine Kd.C_drewN ?_ _) | (with_reducible refine Kd.C_drew ?_))); (case side4 => exact (Kd.R_reads' HO_5.out).2.1); rintro e w' ⟨rfl, ⟨nd, rfl⟩⟩; (try first | exact ⟨rfl, _, World.drewN_drewN _ _ _⟩ | exact ⟨rfl, _, Eq.trans (World.drewN_drewN _ _ _) (congrArg (World.drewN _) (Nat.add_assoc _ _ _))⟩))); try go_wp2_with (first | (go_at_call 47; (with_reducible refine (laws_sameInts.calls k2 _ _ x10_2 _ _ t337 false _ ?side1 ?side2 ?side3 ?side4 A45.out).mono ?_); (case side1 => repeat (first | exact (Kd.R_reads' HO_10.out).2.2 | (with_reducible refine Kd.C_alloc ?_ _) | (with_reducible refine Kd.C_drewN ?_ _) | (with_reducible refine Kd.C_drew ?_))); (case side2 => exact (Kd.R_reads' HO_10.out).2.1); (case side3 => repeat (first | exact (Kd.R_reads' HO_5.out).2.2 | (with_reducible refine Kd.C_alloc ?_ _) | (with_reducible refine Kd.C_drewN ?_ _) | (with_reducible refine Kd.C_drew ?_))); (case side4 => exact (Kd.R_reads' HO_5.out).2.1); rintro e w' ⟨rfl, ⟨nd, rfl⟩⟩; (try first | exact ⟨rfl, _, World.drewN_drewN _ _ _⟩ | exact ⟨rfl, _, Eq.trans (World.drewN_drewN _ _ _) (congrArg (World.drewN _) (Nat.add_assoc _ _ _))⟩))))
              go_ret
              exact ⟨by first | rfl | (simp [errW_none, errW_some] <;> rfl) | (simp [*, errW_none, errW_some] <;> rfl), by repeat (first | (with_reducible first | exact HB.out | apply xa | apply xn | apply xd) | exact HB.out)⟩
         ·rw [if_neg c24] at H
          exact absurd H (by simp)
        ·rw [if_neg c23] at H
         exact absurd H (by simp)
       ·replace c22 := Bool.eq_false_iff.mpr c22
        subst c22
        have H1 : (laws_FnCounts.j2 kj6 l1) = some r := by rw [if_neg (show ¬ (false = true) by decide)] at H; exact H
        clear H
        have H := H1
        clear H1
        have H' := Aside0.mk H
        clear H
        go_wp2
        repeat (go_quiet (fail); try go_wp2)
        go_meet
        case rel => exact ⟨_, H', ⟨by have := HJ6.out; first | omega | exact Nat.le_refl _⟩, ⟨yh HB⟩⟩
      case rest =>
       clear HC21
       try clear c1
       try clear c2
       try clear p2
       try clear c3
       try clear c3b0
       try clear p3
       try clear q3
       try clear hx3
       try clear c4
       try clear p4
       try clear q4
       try clear hx4
       try clear hf4
       try clear p6
       try clear c11
       try clear c12
       try clear c12b0
       try clear c12b1
       try clear c12b2
       try clear c14
       try clear c20
       try clear c22
       try clear c23
       try clear c23b0
       try clear c23b1
       try clear c24
       try clear c24b0
       try clear c24b1
       try clear c27
       try clear c27b0
       try clear c29
       try clear c30
       try clear c30b0
       try clear c31
       try clear c31b0
       try clear c32
       try clear c32b0
       try clear c33
       try clear c33b0
       try clear c34
       try clear c34b0
       try clear p35
       try clear q35
       try clear hx35
       try clear c36
       try clear c36b0
       try clear c37
       try clear c37b0
       try clear c39
       try clear c39b0
       try clear p40
       try clear q40
       try clear hx40
       try clear hf40
       try clear c46
       try clear hx355_0
       try clear hx356_0
       try clear hx357_0
       try clear hx358_0
       try clear hx40_0
       try clear p2
       try clear p355
       try clear p356
       try clear p357
       try clear p358
       try clear p40
       try clear p6
       try clear q355
       try clear q356
       try clear q357
       try clear q358
       try clear q40
       obtain ⟨kq, HA, HJ20, HB⟩ := hcut
       cases kq with
       | zero => exact absurd HA.out (by simp [laws_FnCounts.j2])
       | succ kj20 =>
        have H := HA.out
        clear HA
        simp only [laws_FnCounts.j2] at H
        replace H := Option.bind_eq_some_iff.mp H
        obtain ⟨⟨t361, t362⟩, A490, H⟩ := H
        replace H : ((impl_CountsFor.f kj20 t361 t362).bind fun bt365 => ((spec_CountsFor.f kj20 t361 t362).bind fun bt369 => (if (bt365.2 != bt369.2) = true then (laws_FnCounts.j3 kj20 t361 bt365.1 bt365.2 true) else ((laws_sameInts.f kj20 bt365.1 bt369.1).bind fun t373 => (laws_FnCounts.j3 kj20 t361 bt365.1 bt365.2 (!t373)))))) = some r := H
        have A49 := Aside0.mk A490
        clear A490
        replace H := Option.bind_eq_some_iff.mp H
        obtain ⟨⟨t365, t366⟩, A500, H⟩ := H
        replace H : ((spec_CountsFor.f kj20 t361 t362).bind fun bt369 => (if (t366 != bt369.2) = true then (laws_FnCounts.j3 kj20 t361 t365 t366 true) else ((laws_sameInts.f kj20 t365 bt369.1).bind fun t373 => (laws_FnCounts.j3 kj20 t361 t365 t366 (!t373))))) = some r := H
        have A50 := Aside0.mk A500
        clear A500
        replace H := Option.bind_eq_some_iff.mp H
        obtain ⟨⟨t369, t370⟩, A510, H⟩ := H
        replace H : (if (t366 != t370) = true then (laws_FnCounts.j3 kj20 t361 t365 t366 true) else ((laws_sameInts.f kj20 t365 t369).bind fun t373 => (laws_FnCounts.j3 kj20 t361 t365 t366 (!t373)))) = some r := H
        have A51 := Aside0.mk A510
        clear A510
        have HC52 := Aside0.mk H
        clear H
        go_upto_region 22 with (first | (go_at_call 50; (with_reducible refine (spec_DrawCountsFor.calls kj20 _ _ l1 t361 t362 _ ?side1 ?side2 A49.out).mono ?_); (case side1 => repeat (first | exact (Kd.C_below HR1.out HB.out) | (with_reducible refine Kd.C_alloc ?_ _) | (with_reducible refine Kd.C_drewN ?_ _) | (with_reducible refine Kd.C_drew ?_))); (case side2 => exact HC1.out); rintro e w53 ⟨v363, rfl, ho0, hb⟩; have HO364 := xM (Kd.R_lower ho0 (below_size (yh HB))); replace HB := xM (below_step (yh HB) hb); (try clear hb); (try clear ho0); obtain ⟨Ao54, co54, eo54⟩ := Kd.R_slice HO364.out; subst eo54) | (go_at_call 15; (with_reducible refine (impl_CountsFor.calls kj20 _ _ t361 t362 t365 t366 _ ?side1 ?side2 A50.out).mono ?_); (case side1 => repeat (first | exact (Kd.R_reads' HO364.out).2.2 | (with_reducible refine Kd.C_alloc ?_ _) | (with_reducible refine Kd.C_drewN ?_ _) | (with_reducible refine Kd.C_drew ?_))); (case side2 => exact (Kd.R_reads' HO364.out).2.1); rintro e w55 ⟨v367, rfl, ho0, hb⟩; have HO368 := xM (Kd.R_lower (Kd.R_new' ho0 (xL (yR HO364))) (below_size (yh HB))); replace HO364 := xM (Kd.R_elder' (yR HO364) (Kd.R_base ho0) hb); replace HB := xM (below_step (yh HB) hb); (try clear hb); (try clear ho0)) | (go_at_call 13; (with_reducible refine (spec_CountsFor.calls kj20 _ _ t361 t362 t369 t370 _ ?side1 ?side2 A51.out).mono ?_); (case side1 => repeat (first | exact (Kd.R_reads' HO364.out).2.2 | (with_reducible refine Kd.C_alloc ?_ _) | (with_reducible refine Kd.C_drewN ?_ _) | (with_reducible refine Kd.C_drew ?_))); (case side2 => exact (Kd.R_reads' HO364.out).2.1); rintro e w56 ⟨v371, rfl, ho0, hb⟩; have HO372 := xM (Kd.R_lower (Kd.R_new' (Kd.R_new' ho0 (xL (yR HO364))) (xL (yR HO368))) (below_size (yh HB))); replace HO364 := xM (Kd.R_elder' (yR HO364) (Kd.R_base ho0) hb); replace HO368 := xM (Kd.R_elder' (yR HO368) (Kd.R_base ho0) hb); replace HB := xM (below_step (yh HB) hb); (try clear hb); (try clear ho0)))
        repeat (go_quiet (first | (go_at_call 50; (with_reducible refine (spec_DrawCountsFor.calls kj20 _ _ l1 t361 t362 _ ?side1 ?side2 A49.out).mono ?_); (case side1 => repeat (first | exact (Kd.C_below HR1.out HB.out) | (with_reducible refine Kd.C_alloc ?_ _) | (with_reducible refine Kd.C_drewN ?_ _) | (with_reducible refine Kd.C_drew ?_))); (case side2 => exact HC1.out); rintro e w53 ⟨v363, rfl, ho0, hb⟩; have HO364 := xM (Kd.R_lower ho0 (below_size (yh HB))); replace HB := xM (below_step (yh HB) hb); (try clear hb); (try clear ho0); obtain ⟨Ao54, co54, eo54⟩ := Kd.R_slice HO364.out; subst eo54) | (go_at_call 15; (with_reducible refine (impl_CountsFor.calls kj20 _ _ t361 t362 t365 t366 _ ?side1 ?side2 A50.out).mono ?_); (case side1 => repeat (first | exact (Kd.R_reads' HO364.out).2.2 | (with_reducible refine Kd.C_alloc ?_ _) | (with_reducible refine Kd.C_drewN ?_ _) | (with_reducible refine Kd.C_drew ?_))); (case side2 => exact (Kd.R_reads' HO364.out).2.1); rintro e w55 ⟨v367, rfl, ho0, hb⟩; have HO368 := xM (Kd.R_lower (Kd.R_new' ho0 (xL (yR HO364))) (below_size (yh HB))); replace HO364 := xM (Kd.R_elder' (yR HO364) (Kd.R_base ho0) hb); replace HB := xM (below_step (yh HB) hb); (try clear hb); (try clear ho0)) | (go_at_call 13; (with_reducible refine (spec_CountsFor.calls kj20 _ _ t361 t362 t369 t370 _ ?side1 ?side2 A51.out).mono ?_); (case side1 => repeat (first | exact (Kd.R_reads' HO364.out).2.2 | (with_reducible refine Kd.C_alloc ?_ _) | (with_reducible refine Kd.C_drewN ?_ _) | (with_reducible refine Kd.C_drew ?_))); (case side2 => exact (Kd.R_reads' HO364.out).2.1); rintro e w56 ⟨v371, rfl, ho0, hb⟩; have HO372 := xM (Kd.R_lower (Kd.R_new' (Kd.R_new' ho0 (xL (yR HO364))) (xL (yR HO368))) (below_size (yh HB))); replace HO364 := xM (Kd.R_elder' (yR HO364) (Kd.R_base ho0) hb); replace HO368 := xM (Kd.R_elder' (yR HO368) (Kd.R_base ho0) hb); replace HB := xM (below_step (yh HB) hb); (try clear hb); (try clear ho0))); go_upto_region 22 with (first | (go_at_call 50; (with_reducible refine (spec_DrawCountsFor.calls kj20 _ _ l1 t361 t362 _ ?side1 ?side2 A49.out).mono ?_); (case side1 => repeat (first | exact (Kd.C_below HR1.out HB.out) | (with_reducible refine Kd.C_alloc ?_ _) | (with_reducible refine Kd.C_drewN ?_ _) | (with_reducible refine Kd.C_drew ?_))); (case side2 => exact HC1.out); rintro e w53 ⟨v363, rfl, ho0, hb⟩; have HO364 := xM (Kd.R_lower ho0 (below_size (yh HB))); replace HB := xM (below_step (yh HB) hb); (try clear hb); (try clear ho0); obtain ⟨Ao54, co54, eo54⟩ := Kd.R_slice HO364.out; subst eo54) | (go_at_call 15; (with_reducible refine (impl_CountsFor.calls kj20 _ _ t361 t362 t365 t366 _ ?side1 ?side2 A50.out).mono ?_); (case side1 => repeat (first | exact (Kd.R_reads' HO364.out).2.2 | (with_reducible refine Kd.C_alloc ?_ _) | (with_reducible refine Kd.C_drewN ?_ _) | (with_reducible refine Kd.C_drew ?_))); (case side2 => exact (Kd.R_reads' HO364.out).2.1); rintro e w55 ⟨v367, rfl, ho0, hb⟩; have HO368 := xM (Kd.R_lower (Kd.R_new' ho0 (xL (yR HO364))) (below_size (yh HB))); replace HO364 := xM (Kd.R_elder' (yR HO364) (Kd.R_base ho0) hb); replace HB := xM (below_step (yh HB) hb); (try clear hb); (try clear ho0)) | (go_at_call 13; (with_reducible refine (spec_CountsFor.calls kj20 _ _ t361 t362 t369 t370 _ ?side1 ?side2 A51.out).mono ?_); (case side1 => repeat (first | exact (Kd.R_reads' HO364.out).2.2 | (with_reducible refine Kd.C_alloc ?_ _) | (with_reducible refine Kd.C_drewN ?_ _) | (with_reducible refine Kd.C_drew ?_))); (case side2 => exact (Kd.R_reads' HO364.out).2.1); rintro e w56 ⟨v371, rfl, ho0, hb⟩; have HO372 := xM (Kd.R_lower (Kd.R_new' (Kd.R_new' ho0 (xL (yR HO364))) (xL (yR HO368))) (below_size (yh HB))); replace HO364 := xM (Kd.R_elder' (yR HO364) (Kd.R_base ho0) hb); replace HO368 := xM (Kd.R_elder' (yR HO368) (Kd.R_base ho0) hb); replace HB := xM (below_step (yh HB) hb); (try clear hb); (try clear ho0))))
        (try simp only [Act.put, List.setIfInBounds_toArray, List.set_cons_zero, List.set_cons_succ])
        go_cut [141] (fun v141 wc => ∃ (kq : Nat) (x141_51 : Bool), v141 = .bool x141_51 ∧ Aside0 (laws_FnCounts.j3 kq t361 t365 t366 x141_51 = some r) ∧ Aside0 (kq ≤ kj20) ∧ Aside0 (Kd.R (Kd.int .i64) 3 wc w.heap.size (fun k_ => some k_ ≠ (v367 : Value).ownBlock) (.slice Ao54 t361.length co54) t361) ∧ Aside0 (Kd.R (Kd.int .i64) 3 wc w.heap.size (fun k_ => some k_ ≠ ((.slice Ao54 t361.length co54) : Value).ownBlock) v367 t365) ∧ Aside0 (Below w.heap.size w wc))
        case first =>
         have H := HC52.out
         clear HC52
         by_cases c57 : (t366 != t370) = true
         ·rw [if_pos c57] at H
          have c57b0 : (t366 != t370) = true := c57
          (try (have c57b1 : decide (t366 = t370) = false := by simpa using c57))
          (try (have c57b2 : (t366 == t370) = false := by simpa using c57))
          (try (have c57b3 : ¬ (t366 = t370) := by simpa using c57))
          clear c57
          (first | rw [c57b0] | (simp only [i64_w, i32_w]; rw [c57b0]) | skip)
          have H' := Aside0.mk H
          clear H
          go_wp2
          repeat (go_quiet (fail); try go_wp2)
          go_meet
          case rel => exact ⟨_, (true), (by first | rfl | (simp; done) | (simp [*]; done)), H', ⟨by have := HJ6.out; have := HJ20.out; first | omega | exact Nat.le_refl _⟩, ⟨by (with_reducible repeat (first | apply xRA | apply xRN | apply xRD)); exact Kd.R_mono HO364.out (fun _ hk => hk.1.2)⟩, ⟨by (with_reducible repeat (first | apply xRA | apply xRN | apply xRD)); exact Kd.R_mono HO368.out (fun _ hk => hk.1.2)⟩, ⟨yh HB⟩⟩
         ·rw [if_neg c57] at H
          have c57b0 : (t366 != t370) = false := by simpa using c57
          (try (have c57b1 : decide (t366 = t370) = true := by simpa using c57))
          (try (have c57b2 : (t366 == t370) = true := by simpa using c57))
          clear c57
          (first | rw [c57b0] | (simp only [i64_w, i32_w]; rw [c57b0]) | skip)
          replace H := Option.bind_eq_some_iff.mp H
          obtain ⟨t373, A580, H⟩ := H
          replace H : (laws_FnCounts.j3 kj20 t361 t365 t366 (!t373)) = some r := H
          have A58 := Aside0.mk A580
          clear A580
          have H' := Aside0.mk H
          clear H
          obtain ⟨Ao59, co59, eo59⟩ := Kd.R_slice HO368.out
          subst eo59
          obtain ⟨Ao60, co60, eo60⟩ := Kd.R_slice HO372.out
          subst eo60
          go_wp2_with (first | (go_at_call 47; (with_reducible refine (laws_sameInts.calls kj20 _ _ t365 _ _ t369 t373 _ ?side1 ?side2 ?side3 ?side4 A58.out).mono ?_); (case side1 => repeat (first | exact (Kd.R_reads' HO368.out).2.2 | (with_reducible refine Kd.C_alloc ?_ _) | (with_reducible refine Kd.C_drewN ?_ _) | (with_reducible refine Kd.C_drew ?_))); (case side2 => exact (Kd.R_reads' HO368.out).2.1); (case side3 => repeat (first | exact (Kd.R_reads' HO372.out).2.2 | (with_reducible refine Kd.C_alloc ?_ _) | (with_reducible refine Kd.C_drewN ?_ _) | (with_reducible refine Kd.C_drew ?_))); (case side4 => exact (Kd.R_reads' HO372.out).2.1); rintro e w' ⟨rfl, ⟨nd, rfl⟩⟩; (try first | exact ⟨rfl, _, World.drewN_drewN _ _ _⟩ | exact ⟨rfl, _, Eq.trans (World.drewN_drewN _ _ _) (congrArg (World.drewN _) (Nat.add_assoc _ _ _))⟩)))
          repeat (go_quiet (first | (go_at_call 47; (with_reducible refine (laws_sameInts.calls kj20 _ _ t365 _ _ t369 t373 _ ?side1 ?side2 ?side3 ?side4 A58.out).mono ?_); (case side1 => repeat (first | exact (Kd.R_reads' HO368.out).2.2 | (with_reducible refine Kd.C_alloc ?_ _) | (with_reducible refine Kd.C_drewN ?_ _) | (with_reducible refine Kd.C_drew ?_))); (case side2 => exact (Kd.R_reads' HO368.out).2.1); (case side3 => repeat (first | exact (Kd.R_reads' HO372.out).2.2 | (with_reducible refine Kd.C_alloc ?_ _) | (with_reducible refine Kd.C_drewN ?_ _) | (with_reducible refine Kd.C_drew ?_))); (case side4 => exact (Kd.R_reads' HO372.out).2.1); rintro e w' ⟨rfl, ⟨nd, rfl⟩⟩; (try first | exact ⟨rfl, _, World.drewN_drewN _ _ _⟩ | exact ⟨rfl, _, Eq.trans (World.drewN_drewN _ _ _) (congrArg (World.drewN _) (Nat.add_assoc _ _ _))⟩))); try go_wp2_with (first | (go_at_call 47; (with_reducible refine (laws_sameInts.calls kj20 _ _ t365 _ _ t369 t373 _ ?side1 ?side2 ?side3 ?side4 A58.out).mono ?_); (case side1 => repeat (first | exact (Kd.R_reads' HO368.out).2.2 | (with_reducible refine Kd.C_alloc ?_ _) | (with_reducible refine Kd.C_drewN ?_ _) | (with_reducible refine Kd.C_drew ?_))); (case side2 => exact (Kd.R_reads' HO368.out).2.1); (case side3 => repeat (first | exact (Kd.R_reads' HO372.out).2.2 | (with_reducible refine Kd.C_alloc ?_ _) | (with_reducible refine Kd.C_drewN ?_ _) | (with_reducible refine Kd.C_drew ?_))); (case side4 => exact (Kd.R_reads' HO372.out).2.1); rintro e w' ⟨rfl, ⟨nd, rfl⟩⟩; (try first | exact ⟨rfl, _, World.drewN_drewN _ _ _⟩ | exact ⟨rfl, _, Eq.trans (World.drewN_drewN _ _ _) (congrArg (World.drewN _) (Nat.add_assoc _ _ _))⟩))))
          go_meet
          case rel => exact ⟨_, (!t373), (by first | rfl | (simp; done) | (simp [*]; done)), H', ⟨by have := HJ6.out; have := HJ20.out; first | omega | exact Nat.le_refl _⟩, ⟨by (with_reducible repeat (first | apply xRA | apply xRN | apply xRD)); exact Kd.R_mono HO364.out (fun _ hk => hk.1.2)⟩, ⟨by (with_reducible repeat (first | apply xRA | apply xRN | apply xRD)); exact Kd.R_mono HO368.out (fun _ hk => hk.1.2)⟩, ⟨yh HB⟩⟩
        case rest =>
         clear HC52
         try clear c1
         try clear c2
         try clear p2
         try clear c3
         try clear c3b0
         try clear p3
         try clear q3
         try clear hx3
         try clear c4
         try clear p4
         try clear q4
         try clear hx4
         try clear hf4
         try clear c5
         try clear p6
         try clear c11
         try clear c12
         try clear c12b0
         try clear c12b1
         try clear c12b2
         try clear c14
         try clear c20
         try clear c22
         try clear c23
         try clear c23b0
         try clear c23b1
         try clear c24
         try clear c24b0
         try clear c24b1
         try clear c27
         try clear c27b0
         try clear c29
         try clear c30
         try clear c30b0
         try clear c31
         try clear c31b0
         try clear c32
         try clear c32b0
         try clear c33
         try clear c33b0
         try clear c34
         try clear c34b0
         try clear p35
         try clear q35
         try clear hx35
         try clear c36
         try clear c36b0
         try clear c37
         try clear c37b0
         try clear c39
         try clear c39b0
         try clear p40
         try clear q40
         try clear hx40
         try clear hf40
         try clear c46
         try clear c57
         try clear c57b0
         try clear c57b1
         try clear c57b2
         try clear hx355_0
         try clear hx356_0
         try clear hx357_0
         try clear hx358_0
         try clear hx40_0
         try clear p2
         try clear p3
         try clear p35
         try clear p355
         try clear p356
         try clear p357
         try clear p358
         try clear p4
         try clear p40
         try clear p6
         try clear q3
         try clear q35
         try clear q355
         try clear q356
         try clear q357
         try clear q358
         try clear q4
         try clear q40
         obtain ⟨kq, x141_51, rfl, HA, HJ51, HO_14, HO_16, HB⟩ := hcut
         cases kq with
         | zero => exact absurd HA.out (by simp [laws_FnCounts.j3])
         | succ kj51 =>
          have H := HA.out
          clear HA
          simp only [laws_FnCounts.j3] at H
          by_cases c61 : x141_51 = true
          ·subst c61
           have H1 : (some false) = some r := by rw [if_pos rfl] at H; exact H
           clear H
           have H := H1
           clear H1
           obtain rfl := Option.some.inj H
           go_wp2
           repeat (go_quiet (fail); try go_wp2)
           go_ret
           exact ⟨by first | rfl | (simp [errW_none, errW_some] <;> rfl) | (simp [*, errW_none, errW_some] <;> rfl), by repeat (first | (with_reducible first | exact HB.out | apply xa | apply xn | apply xd) | exact HB.out)⟩
          ·replace c61 := Bool.eq_false_iff.mpr c61
           subst c61
           have H1 : (if t366 = true then (laws_FnCounts.l1 kj51 t361 t365 t365 (t365.length : Int) 0) else (some ((t365.length : Int) == 0))) = some r := by rw [if_neg (show ¬ (false = true) by decide)] at H; exact H
           clear H
           have H := H1
           clear H1
           by_cases c62 : t366 = true
           ·subst c62
            have H1 : (laws_FnCounts.l1 kj51 t361 t365 t365 (t365.length : Int) 0) = some r := by rw [if_pos rfl] at H; exact H
            clear H
            have H := H1
            clear H1
            have H' := Aside0.mk H
            clear H
            obtain ⟨Ao63, co63, eo63⟩ := Kd.R_slice HO_16.out
            subst eo63
            go_wp2
            repeat (go_quiet (fail); try go_wp2)
            go_loopg [149] kj51 (fun kq v149 w' => ∃ (x149_4 : Int), v149 = .int .i64 x149_4 ∧ Aside0 (laws_FnCounts.l1 kq t361 t365 t365 (t365.length : Int) x149_4 = some r) ∧ Aside0 (kq ≤ kj51) ∧ Aside0 (Kd.R (Kd.int .i64) 3 w' w.heap.size (fun k_ => some k_ ≠ ((.slice Ao63 t365.length co63) : Value).ownBlock ∧ some k_ ≠ ((.slice Ao63 t365.length co63) : Value).ownBlock) (.slice Ao54 t361.length co54) t361) ∧ Aside0 (Kd.R (Kd.int .i64) 3 w' w.heap.size (fun k_ => some k_ ≠ ((.slice Ao54 t361.length co54) : Value).ownBlock) (.slice Ao63 t365.length co63) t365) ∧ Aside0 (Kd.R (Kd.int .i64) 3 w' w.heap.size (fun k_ => some k_ ≠ ((.slice Ao54 t361.length co54) : Value).ownBlock) (.slice Ao63 t365.length co63) t365) ∧ Aside0 (Below w.heap.size w w'))
            case atStart => exact ⟨(0), (by first | rfl | (simp; done) | (simp [*]; done)), H', ⟨Nat.le_refl _⟩, ⟨by (with_reducible repeat (first | apply xRA | apply xRN | apply xRD)); exact Kd.R_mono HO_14.out (fun _ hk => ⟨hk, hk⟩)⟩, ⟨yR HO_16⟩, ⟨yR HO_16⟩, ⟨yh HB⟩⟩
            case round =>
             clear H'
             try clear c1
             try clear c2
             try clear p2
             try clear c3
             try clear c3b0
             try clear p3
             try clear q3
             try clear hx3
             try clear c4
             try clear p4
             try clear q4
             try clear hx4
             try clear hf4
             try clear c5
             try clear c6
             try clear p6
             try clear c11
             try clear c12
             try clear c12b0
             try clear c12b1
             try clear c12b2
             try clear c14
             try clear c20
             try clear c22
             try clear c23
             try clear c23b0
             try clear c23b1
             try clear c24
             try clear c24b0
             try clear c24b1
             try clear c27
             try clear c27b0
             try clear c29
             try clear c30
             try clear c30b0
             try clear c31
             try clear c31b0
             try clear c32
             try clear c32b0
             try clear c33
             try clear c33b0
             try clear c34
             try clear c34b0
             try clear p35
             try clear q35
             try clear hx35
             try clear c36
             try clear c36b0
             try clear c37
             try clear c37b0
             try clear c39
             try clear c39b0
             try clear p40
             try clear q40
             try clear hx40
             try clear hf40
             try clear c46
             try clear c57
             try clear c57b0
             try clear c57b1
             try clear c57b2
             try clear c61
             try clear c62
             try clear hx355_0
             try clear hx356_0
             try clear hx357_0
             try clear hx358_0
             try clear hx40_0
             try clear p2
             try clear p3
             try clear p35
             try clear p355
             try clear p356
             try clear p357
             try clear p358
             try clear p4
             try clear p40
             try clear p6
             try clear q3
             try clear q35
             try clear q355
             try clear q356
             try clear q357
             try clear q358
             try clear q4
             try clear q40
             obtain ⟨x149_4, rfl, HA, HK4, HO_14, HO_16, HO_147, HB⟩ := hrel
             cases gk with
             | zero => exact absurd HA.out (by simp [laws_FnCounts.l1])
             | succ k4 =>
              have H := HA.out
              clear HA
              simp only [laws_FnCounts.l1] at H
              by_cases c64 : x149_4 < (t365.length : Int)
              ·rw [if_pos c64] at H
               have c64b0 : decide (x149_4 < (t365.length : Int)) = true := decide_eq_true c64
               clear c64
               by_cases c65 : 0 ≤ x149_4
               ·rw [if_pos c65] at H
                have c65b0 : decide (0 ≤ x149_4) = true := decide_eq_true c65
                clear c65
                by_cases c66 : x149_4 < (t365.length : Int)
                ·rw [if_pos c66] at H
                 have c66b0 : decide (x149_4 < (t365.length : Int)) = true := decide_eq_true c66
                 clear c66
                 by_cases c67 : (rd t365 x149_4) < 1
                 ·rw [if_pos c67] at H
                  have c67b0 : decide ((rd t365 x149_4) < 1) = true := decide_eq_true c67
                  clear c67
                  obtain rfl := Option.some.inj H
                  have p374 : 0 ≤ (x149_4 : Int) := of_decide_eq_true (by first | (with_reducible assumption) | assumption)
                  have q374 : x149_4 < (t365.length : Int) := of_decide_eq_true (by first | (with_reducible assumption) | assumption)
                  obtain ⟨ad374, e374, hx374_0⟩ := Kd.at_int (Kd.R_reads' HO_147.out).2.2 x149_4 p374 q374
                  cases e374
                  replace p374 := eq_true p374
                  replace q374 := eq_true q374
                  go_wp2
                  repeat (go_quiet (fail); try go_wp2)
                  go_ret
                  exact ⟨by first | rfl | (simp [errW_none, errW_some] <;> rfl) | (simp [*, errW_none, errW_some] <;> rfl), by repeat (first | (with_reducible first | exact HB.out | apply xa | apply xn | apply xd) | exact HB.out)⟩
                 ·rw [if_neg c67] at H
                  have c67b0 : decide ((rd t365 x149_4) < 1) = false := decide_eq_false c67
                  clear c67
                  have H' := Aside0.mk H
                  clear H
                  have p374 : 0 ≤ (x149_4 : Int) := of_decide_eq_true (by first | (with_reducible assumption) | assumption)
                  have q374 : x149_4 < (t365.length : Int) := of_decide_eq_true (by first | (with_reducible assumption) | assumption)
                  obtain ⟨ad374, e374, hx374_0⟩ := Kd.at_int (Kd.R_reads' HO_147.out).2.2 x149_4 p374 q374
                  cases e374
                  replace p374 := eq_true p374
                  replace q374 := eq_true q374
                  go_wp2
                  repeat (go_quiet (fail); try go_wp2)
                  go_roundg k4
                  case measure => have := HJ6.out; have := HJ20.out; have := HJ51.out; have := HK4.out; omega
                  case rel => exact ⟨(wrap64 (x149_4 + 1)), (by first | rfl | (simp; done) | (simp [*]; done)), H', ⟨by have := HJ6.out; have := HJ20.out; have := HJ51.out; have := HK4.out; omega⟩, ⟨yR HO_14⟩, ⟨yR HO_16⟩, ⟨yR HO_147⟩, ⟨yh HB⟩⟩
                ·rw [if_neg c66] at H
                 exact absurd H (by simp)
               ·rw [if_neg c65] at H
                exact absurd H (by simp)
              ·rw [if_neg c64] at H
               have c64b0 : decide (x149_4 < (t365.length : Int)) = false := decide_eq_false c64
               clear c64
               replace H := Option.bind_eq_some_iff.mp H
               obtain ⟨⟨t375, t376, t379⟩, A680, H⟩ := H
               replace H : ((impl_DecodeSymbols.f k4 t365 t375 t376 (t361.length : Int)).bind fun bt381 => ((impl_GoodCounts.f k4 t365).bind fun t385 => (if t385 = true then (if t379 = true then (if bt381.2 = true then ((laws_sameInts.f k4 bt381.1 t361).bind fun t386 => (some t386)) else (some false)) else (some false)) else (some false)))) = some r := H
               have A68 := Aside0.mk A680
               clear A680
               replace H := Option.bind_eq_some_iff.mp H
               obtain ⟨⟨t381, t384⟩, A690, H⟩ := H
               replace H : ((impl_GoodCounts.f k4 t365).bind fun t385 => (if t385 = true then (if t379 = true then (if t384 = true then ((laws_sameInts.f k4 t381 t361).bind fun t386 => (some t386)) else (some false)) else (some false)) else (some false))) = some r := H
               have A69 := Aside0.mk A690
               clear A690
               replace H := Option.bind_eq_some_iff.mp H
               obtain ⟨t385, A700, H⟩ := H
               replace H : (if t385 = true then (if t379 = true then (if t384 = true then ((laws_sameInts.f k4 t381 t361).bind fun t386 => (some t386)) else (some false)) else (some false)) else (some false)) = some r := H
               have A70 := Aside0.mk A700
               clear A700
               by_cases c71 : t385 = true
               ·subst c71
                have H1 : (if t379 = true then (if t384 = true then ((laws_sameInts.f k4 t381 t361).bind fun t386 => (some t386)) else (some false)) else (some false)) = some r := by rw [if_pos rfl] at H; exact H
                clear H
                have H := H1
                clear H1
                by_cases c72 : t379 = true
                ·subst c72
                 have H1 : (if t384 = true then ((laws_sameInts.f k4 t381 t361).bind fun t386 => (some t386)) else (some false)) = some r := by rw [if_pos rfl] at H; exact H
                 clear H
                 have H := H1
                 clear H1
                 by_cases c73 : t384 = true
                 ·subst c73
                  have H1 : ((laws_sameInts.f k4 t381 t361).bind fun t386 => (some t386)) = some r := by rw [if_pos rfl] at H; exact H
                  clear H
                  have H := H1
                  clear H1
                  replace H := Option.bind_eq_some_iff.mp H
                  obtain ⟨t386, A740, H⟩ := H
                  replace H : (some t386) = some r := H
                  have A74 := Aside0.mk A740
                  clear A740
                  obtain rfl := Option.some.inj H
                  go_wp2_with (first | (go_at_call 22; (with_reducible refine (impl_CodeSymbols.calls k4 _ _ t365 _ _ t361 t375 t376 true _ ?side1 ?side2 ?side3 ?side4 A68.out).mono ?_); (case side1 => repeat (first | exact (Kd.R_reads' HO_16.out).2.2 | (with_reducible refine Kd.C_alloc ?_ _) | (with_reducible refine Kd.C_drewN ?_ _) | (with_reducible refine Kd.C_drew ?_))); (case side2 => exact (Kd.R_reads' HO_16.out).2.1); (case side3 => repeat (first | exact (Kd.R_reads' HO_14.out).2.2 | (with_reducible refine Kd.C_alloc ?_ _) | (with_reducible refine Kd.C_drewN ?_ _) | (with_reducible refine Kd.C_drew ?_))); (case side4 => exact (Kd.R_reads' HO_14.out).2.1); rintro e w75 ⟨v377, rfl, ho0, hb⟩; have HO378 := xM (Kd.R_lower (Kd.R_new' (Kd.R_new' (Kd.R_new' ho0 (xL (yR HO_14))) (xL (yR HO_16))) (xL (yR HO_147))) (below_size (yh HB))); replace HO_14 := xM (Kd.R_elder' (yR HO_14) (Kd.R_base ho0) hb); replace HO_16 := xM (Kd.R_elder' (yR HO_16) (Kd.R_base ho0) hb); replace HO_147 := xM (Kd.R_elder' (yR HO_147) (Kd.R_base ho0) hb); replace HB := xM (below_step (yh HB) hb); (try clear hb); (try clear ho0)) | ((with_reducible refine gate_dst (N := 22) rfl ?_); (try (refine gate_guard (by rfl) ?_; dsimp only)); refine box_event ?hg (N := 22) ?hd (cs := #[.int .i64 0, .slice none 0 0]) (t := 33) ?hr ?_; (case hd => rfl); (case hg => rfl); (case hr => first | (go_simp; done) | (go_simp; rfl)); intro gb380 hg w76 hbox hb; have BK380 := xM (hbox); have GW380 := xM ((by rw [hg]; exact (below_size (yh HB)) : w.heap.size ≤ gb380)); have GE380 := xM ((by rw [hg]; exact (below_size (yh HB)) : w.heap.size ≤ gb380)); replace HO_14 := xM (xW (yR HO_14) hb); replace HO_16 := xM (xW (yR HO_16) hb); replace HO_147 := xM (xW (yR HO_147) hb); replace HO378 := xM (xW (yR HO378) hb); replace HB := xM (below_step (yh HB) hb); clear hb hbox hg; have hcz77_0 : w76.cell? ⟨gb380, 0, none⟩ = some (.int .i64 0) := (blk_cell BK380.out 0).trans rfl; have hcz77_1 : w76.cell? ⟨gb380, 1, none⟩ = some (.slice none 0 0) := (blk_cell BK380.out 1).trans rfl; have hfz77_0 := blk_frozen BK380.out 0; have hfz77_1 := blk_frozen BK380.out 1; obtain ⟨Ao78, co78, eo78⟩ := Kd.R_slice HO378.out; subst eo78) | (go_at_call 36; (with_reducible refine (impl_DecodeSymbols.calls k4 _ _ t365 t375 _ _ t376 (t361.length : Int) t381 true _ ?side1 ?side2 ?side3 ?side4 A69.out).mono ?_); (case side1 => refine (Kd.R_reads' (e := 3) (base := w.heap.size) (ok := fun k_ => (some k_ ≠ (.slice Ao54 t361.length co54 : Value).ownBlock ∧ some k_ ≠ (.slice Ao78 t376.length co78 : Value).ownBlock)) (n := t365.length) (c := co63) ?_).2.2; exact (by (with_reducible repeat (first | apply xRA | apply xRN | apply xRD)); exact (xO (xF (p := ⟨gb380, 1, none⟩) (xF (p := ⟨gb380, 0, none⟩) (Kd.R_types HO_16.out BK380.out (by decide)) (fun _ hk => hk.2) (.int .i64 t375)) (fun _ hk => hk.2) (.slice Ao78 t376.length co78)) (fun _ h_ => h_.1)))); (case side2 => exact (Kd.R_reads' HO_16.out).2.1); (case side3 => refine (Kd.R_reads' (e := 3) (base := w.heap.size) (ok := fun k_ => (((True ∧ some k_ ≠ (.slice Ao54 t361.length co54 : Value).ownBlock) ∧ some k_ ≠ (.slice Ao63 t365.length co63 : Value).ownBlock) ∧ some k_ ≠ (.slice Ao63 t365.length co63 : Value).ownBlock)) (n := t376.length) (c := co78) ?_).2.2; exact (by (with_reducible repeat (first | apply xRA | apply xRN | apply xRD)); exact (xO (xF (p := ⟨gb380, 1, none⟩) (xF (p := ⟨gb380, 0, none⟩) (Kd.R_types HO378.out BK380.out (by decide)) (fun _ hk => hk.2) (.int .i64 t375)) (fun _ hk => hk.2) (.slice Ao78 t376.length co78)) (fun _ h_ => h_.1)))); (case side4 => exact (Kd.R_reads' HO378.out).2.1); rintro e w79 ⟨v382, rfl, ho0, hb⟩; have HO383 := xM (Kd.R_lower (Kd.R_new' (Kd.R_new' (Kd.R_new' (Kd.R_new' ho0 (xL (by (with_reducible repeat (first | apply xRA | apply xRN | apply xRD)); exact (xO (xF (p := ⟨gb380, 1, none⟩) (xF (p := ⟨gb380, 0, none⟩) (Kd.R_types HO_14.out BK380.out (by decide)) (fun _ hk => hk.2) (.int .i64 t375)) (fun _ hk => hk.2) (.slice Ao78 t376.length co78)) (fun _ h_ => h_.1))))) (xL (by (with_reducible repeat (first | apply xRA | apply xRN | apply xRD)); exact (xO (xF (p := ⟨gb380, 1, none⟩) (xF (p := ⟨gb380, 0, none⟩) (Kd.R_types HO_16.out BK380.out (by decide)) (fun _ hk => hk.2) (.int .i64 t375)) (fun _ hk => hk.2) (.slice Ao78 t376.length co78)) (fun _ h_ => h_.1))))) (xL (by (with_reducible repeat (first | apply xRA | apply xRN | apply xRD)); exact (xO (xF (p := ⟨gb380, 1, none⟩) (xF (p := ⟨gb380, 0, none⟩) (Kd.R_types HO_147.out BK380.out (by decide)) (fun _ hk => hk.2) (.int .i64 t375)) (fun _ hk => hk.2) (.slice Ao78 t376.length co78)) (fun _ h_ => h_.1))))) (xL (by (with_reducible repeat (first | apply xRA | apply xRN | apply xRD)); exact (xO (xF (p := ⟨gb380, 1, none⟩) (xF (p := ⟨gb380, 0, none⟩) (Kd.R_types HO378.out BK380.out (by decide)) (fun _ hk => hk.2) (.int .i64 t375)) (fun _ hk => hk.2) (.slice Ao78 t376.length co78)) (fun _ h_ => h_.1))))) (below_size (yh HB))); replace HO_14 := xM (Kd.R_elder' (by (with_reducible repeat (first | apply xRA | apply xRN | apply xRD)); exact (xO (xF (p := ⟨gb380, 1, none⟩) (xF (p := ⟨gb380, 0, none⟩) (Kd.R_types HO_14.out BK380.out (by decide)) (fun _ hk => hk.2) (.int .i64 t375)) (fun _ hk => hk.2) (.slice Ao78 t376.length co78)) (fun _ h_ => h_.1))) (Kd.R_base ho0) hb); replace HO_16 := xM (Kd.R_elder' (by (with_reducible repeat (first | apply xRA | apply xRN | apply xRD)); exact (xO (xF (p := ⟨gb380, 1, none⟩) (xF (p := ⟨gb380, 0, none⟩) (Kd.R_types HO_16.out BK380.out (by decide)) (fun _ hk => hk.2) (.int .i64 t375)) (fun _ hk => hk.2) (.slice Ao78 t376.length co78)) (fun _ h_ => h_.1))) (Kd.R_base ho0) hb); replace HO_147 := xM (Kd.R_elder' (by (with_reducible repeat (first | apply xRA | apply xRN | apply xRD)); exact (xO (xF (p := ⟨gb380, 1, none⟩) (xF (p := ⟨gb380, 0, none⟩) (Kd.R_types HO_147.out BK380.out (by decide)) (fun _ hk => hk.2) (.int .i64 t375)) (fun _ hk => hk.2) (.slice Ao78 t376.length co78)) (fun _ h_ => h_.1))) (Kd.R_base ho0) hb); replace HO378 := xM (Kd.R_elder' (by (with_reducible repeat (first | apply xRA | apply xRN | apply xRD)); exact (xO (xF (p := ⟨gb380, 1, none⟩) (xF (p := ⟨gb380, 0, none⟩) (Kd.R_types HO378.out BK380.out (by decide)) (fun _ hk => hk.2) (.int .i64 t375)) (fun _ hk => hk.2) (.slice Ao78 t376.length co78)) (fun _ h_ => h_.1))) (Kd.R_base ho0) hb); replace BK380 := xM (xB (g := gb380) (o := .cells #[.int .i64 t375, .slice Ao78 t376.length co78] 33 (0, 0)) (by (with_reducible repeat (first | apply xbN | apply xbD | apply xbA)); refine blk_put (cs := #[.int .i64 t375, .slice none 0 0]) ?_ 1 _ rfl; (with_reducible repeat (first | apply xbN | apply xbD | apply xbA)); refine blk_put (cs := #[.int .i64 0, .slice none 0 0]) ?_ 0 _ rfl; (with_reducible repeat (first | apply xbN | apply xbD | apply xbA)); exact BK380.out) hb); replace HB := xM (below_step (yh HB) hb); (try clear hb); (try clear ho0)) | (go_at_call 48; (with_reducible refine (impl_GoodCounts.calls k4 _ _ t365 true _ ?side1 ?side2 A70.out).mono ?_); (case side1 => repeat (first | exact (Kd.R_reads' HO_16.out).2.2 | (with_reducible refine Kd.C_alloc ?_ _) | (with_reducible refine Kd.C_drewN ?_ _) | (with_reducible refine Kd.C_drew ?_))); (case side2 => exact (Kd.R_reads' HO_16.out).2.1); rintro e w' ⟨rfl, ⟨nd, rfl⟩⟩; (try first | exact ⟨rfl, _, World.drewN_drewN _ _ _⟩ | exact ⟨rfl, _, Eq.trans (World.drewN_drewN _ _ _) (congrArg (World.drewN _) (Nat.add_assoc _ _ _))⟩); obtain ⟨Ao80, co80, eo80⟩ := Kd.R_slice HO383.out; subst eo80) | (go_at_call 47; (with_reducible refine (laws_sameInts.calls k4 _ _ t381 _ _ t361 t386 _ ?side1 ?side2 ?side3 ?side4 A74.out).mono ?_); (case side1 => repeat (first | exact (Kd.R_reads' HO383.out).2.2 | (with_reducible refine Kd.C_alloc ?_ _) | (with_reducible refine Kd.C_drewN ?_ _) | (with_reducible refine Kd.C_drew ?_))); (case side2 => exact (Kd.R_reads' HO383.out).2.1); (case side3 => repeat (first | exact (Kd.R_reads' HO_14.out).2.2 | (with_reducible refine Kd.C_alloc ?_ _) | (with_reducible refine Kd.C_drewN ?_ _) | (with_reducible refine Kd.C_drew ?_))); (case side4 => exact (Kd.R_reads' HO_14.out).2.1); rintro e w' ⟨rfl, ⟨nd, rfl⟩⟩; (try first | exact ⟨rfl, _, World.drewN_drewN _ _ _⟩ | exact ⟨rfl, _, Eq.trans (World.drewN_drewN _ _ _) (congrArg (World.drewN _) (Nat.add_assoc _ _ _))⟩)))
                  repeat (go_quiet (first | (go_at_call 22; (with_reducible refine (impl_CodeSymbols.calls k4 _ _ t365 _ _ t361 t375 t376 true _ ?side1 ?side2 ?side3 ?side4 A68.out).mono ?_); (case side1 => repeat (first | exact (Kd.R_reads' HO_16.out).2.2 | (with_reducible refine Kd.C_alloc ?_ _) | (with_reducible refine Kd.C_drewN ?_ _) | (with_reducible refine Kd.C_drew ?_))); (case side2 => exact (Kd.R_reads' HO_16.out).2.1); (case side3 => repeat (first | exact (Kd.R_reads' HO_14.out).2.2 | (with_reducible refine Kd.C_alloc ?_ _) | (with_reducible refine Kd.C_drewN ?_ _) | (with_reducible refine Kd.C_drew ?_))); (case side4 => exact (Kd.R_reads' HO_14.out).2.1); rintro e w75 ⟨v377, rfl, ho0, hb⟩; have HO378 := xM (Kd.R_lower (Kd.R_new' (Kd.R_new' (Kd.R_new' ho0 (xL (yR HO_14))) (xL (yR HO_16))) (xL (yR HO_147))) (below_size (yh HB))); replace HO_14 := xM (Kd.R_elder' (yR HO_14) (Kd.R_base ho0) hb); replace HO_16 := xM (Kd.R_elder' (yR HO_16) (Kd.R_base ho0) hb); replace HO_147 := xM (Kd.R_elder' (yR HO_147) (Kd.R_base ho0) hb); replace HB := xM (below_step (yh HB) hb); (try clear hb); (try clear ho0)) | ((with_reducible refine gate_dst (N := 22) rfl ?_); (try (refine gate_guard (by rfl) ?_; dsimp only)); refine box_event ?hg (N := 22) ?hd (cs := #[.int .i64 0, .slice none 0 0]) (t := 33) ?hr ?_; (case hd => rfl); (case hg => rfl); (case hr => first | (go_simp; done) | (go_simp; rfl)); intro gb380 hg w76 hbox hb; have BK380 := xM (hbox); have GW380 := xM ((by rw [hg]; exact (below_size (yh HB)) : w.heap.size ≤ gb380)); have GE380 := xM ((by rw [hg]; exact (below_size (yh HB)) : w.heap.size ≤ gb380)); replace HO_14 := xM (xW (yR HO_14) hb); replace HO_16 := xM (xW (yR HO_16) hb); replace HO_147 := xM (xW (yR HO_147) hb); replace HO378 := xM (xW (yR HO378) hb); replace HB := xM (below_step (yh HB) hb); clear hb hbox hg; have hcz77_0 : w76.cell? ⟨gb380, 0, none⟩ = some (.int .i64 0) := (blk_cell BK380.out 0).trans rfl; have hcz77_1 : w76.cell? ⟨gb380, 1, none⟩ = some (.slice none 0 0) := (blk_cell BK380.out 1).trans rfl; have hfz77_0 := blk_frozen BK380.out 0; have hfz77_1 := blk_frozen BK380.out 1; obtain ⟨Ao78, co78, eo78⟩ := Kd.R_slice HO378.out; subst eo78) | (go_at_call 36; (with_reducible refine (impl_DecodeSymbols.calls k4 _ _ t365 t375 _ _ t376 (t361.length : Int) t381 true _ ?side1 ?side2 ?side3 ?side4 A69.out).mono ?_); (case side1 => refine (Kd.R_reads' (e := 3) (base := w.heap.size) (ok := fun k_ => (some k_ ≠ (.slice Ao54 t361.length co54 : Value).ownBlock ∧ some k_ ≠ (.slice Ao78 t376.length co78 : Value).ownBlock)) (n := t365.length) (c := co63) ?_).2.2; exact (by (with_reducible repeat (first | apply xRA | apply xRN | apply xRD)); exact (xO (xF (p := ⟨gb380, 1, none⟩) (xF (p := ⟨gb380, 0, none⟩) (Kd.R_types HO_16.out BK380.out (by decide)) (fun _ hk => hk.2) (.int .i64 t375)) (fun _ hk => hk.2) (.slice Ao78 t376.length co78)) (fun _ h_ => h_.1)))); (case side2 => exact (Kd.R_reads' HO_16.out).2.1); (case side3 => refine (Kd.R_reads' (e := 3) (base := w.heap.size) (ok := fun k_ => (((True ∧ some k_ ≠ (.slice Ao54 t361.length co54 : Value).ownBlock) ∧ some k_ ≠ (.slice Ao63 t365.length co63 : Value).ownBlock) ∧ some k_ ≠ (.slice Ao63 t365.length co63 : Value).ownBlock)) (n := t376.length) (c := co78) ?_).2.2; exact (by (with_reducible repeat (first | apply xRA | apply xRN | apply xRD)); exact (xO (xF (p := ⟨gb380, 1, none⟩) (xF (p := ⟨gb380, 0, none⟩) (Kd.R_types HO378.out BK380.out (by decide)) (fun _ hk => hk.2) (.int .i64 t375)) (fun _ hk => hk.2) (.slice Ao78 t376.length co78)) (fun _ h_ => h_.1)))); (case side4 => exact (Kd.R_reads' HO378.out).2.1); rintro e w79 ⟨v382, rfl, ho0, hb⟩; have HO383 := xM (Kd.R_lower (Kd.R_new' (Kd.R_new' (Kd.R_new' (Kd.R_new' ho0 (xL (by (with_reducible repeat (first | apply xRA | apply xRN | apply xRD)); exact (xO (xF (p := ⟨gb380, 1, none⟩) (xF (p := ⟨gb380, 0, none⟩) (Kd.R_types HO_14.out BK380.out (by decide)) (fun _ hk => hk.2) (.int .i64 t375)) (fun _ hk => hk.2) (.slice Ao78 t376.length co78)) (fun _ h_ => h_.1))))) (xL (by (with_reducible repeat (first | apply xRA | apply xRN | apply xRD)); exact (xO (xF (p := ⟨gb380, 1, none⟩) (xF (p := ⟨gb380, 0, none⟩) (Kd.R_types HO_16.out BK380.out (by decide)) (fun _ hk => hk.2) (.int .i64 t375)) (fun _ hk => hk.2) (.slice Ao78 t376.length co78)) (fun _ h_ => h_.1))))) (xL (by (with_reducible repeat (first | apply xRA | apply xRN | apply xRD)); exact (xO (xF (p := ⟨gb380, 1, none⟩) (xF (p := ⟨gb380, 0, none⟩) (Kd.R_types HO_147.out BK380.out (by decide)) (fun _ hk => hk.2) (.int .i64 t375)) (fun _ hk => hk.2) (.slice Ao78 t376.length co78)) (fun _ h_ => h_.1))))) (xL (by (with_reducible repeat (first | apply xRA | apply xRN | apply xRD)); exact (xO (xF (p := ⟨gb380, 1, none⟩) (xF (p := ⟨gb380, 0, none⟩) (Kd.R_types HO378.out BK380.out (by decide)) (fun _ hk => hk.2) (.int .i64 t375)) (fun _ hk => hk.2) (.slice Ao78 t376.length co78)) (fun _ h_ => h_.1))))) (below_size (yh HB))); replace HO_14 := xM (Kd.R_elder' (by (with_reducible repeat (first | apply xRA | apply xRN | apply xRD)); exact (xO (xF (p := ⟨gb380, 1, none⟩) (xF (p := ⟨gb380, 0, none⟩) (Kd.R_types HO_14.out BK380.out (by decide)) (fun _ hk => hk.2) (.int .i64 t375)) (fun _ hk => hk.2) (.slice Ao78 t376.length co78)) (fun _ h_ => h_.1))) (Kd.R_base ho0) hb); replace HO_16 := xM (Kd.R_elder' (by (with_reducible repeat (first | apply xRA | apply xRN | apply xRD)); exact (xO (xF (p := ⟨gb380, 1, none⟩) (xF (p := ⟨gb380, 0, none⟩) (Kd.R_types HO_16.out BK380.out (by decide)) (fun _ hk => hk.2) (.int .i64 t375)) (fun _ hk => hk.2) (.slice Ao78 t376.length co78)) (fun _ h_ => h_.1))) (Kd.R_base ho0) hb); replace HO_147 := xM (Kd.R_elder' (by (with_reducible repeat (first | apply xRA | apply xRN | apply xRD)); exact (xO (xF (p := ⟨gb380, 1, none⟩) (xF (p := ⟨gb380, 0, none⟩) (Kd.R_types HO_147.out BK380.out (by decide)) (fun _ hk => hk.2) (.int .i64 t375)) (fun _ hk => hk.2) (.slice Ao78 t376.length co78)) (fun _ h_ => h_.1))) (Kd.R_base ho0) hb); replace HO378 := xM (Kd.R_elder' (by (with_reducible repeat (first | apply xRA | apply xRN | apply xRD)); exact (xO (xF (p := ⟨gb380, 1, none⟩) (xF (p := ⟨gb380, 0, none⟩) (Kd.R_types HO378.out BK380.out (by decide)) (fun _ hk => hk.2) (.int .i64 t375)) (fun _ hk => hk.2) (.slice Ao78 t376.length co78)) (fun _ h_ => h_.1))) (Kd.R_base ho0) hb); replace BK380 := xM (xB (g := gb380) (o := .cells #[.int .i64 t375, .slice Ao78 t376.length co78] 33 (0, 0)) (by (with_reducible repeat (first | apply xbN | apply xbD | apply xbA)); refine blk_put (cs := #[.int .i64 t375, .slice none 0 0]) ?_ 1 _ rfl; (with_reducible repeat (first | apply xbN | apply xbD | apply xbA)); refine blk_put (cs := #[.int .i64 0, .slice none 0 0]) ?_ 0 _ rfl; (with_reducible repeat (first | apply xbN | apply xbD | apply xbA)); exact BK380.out) hb); replace HB := xM (below_step (yh HB) hb); (try clear hb); (try clear ho0)) | (go_at_call 48; (with_reducible refine (impl_GoodCounts.calls k4 _ _ t365 true _ ?side1 ?side2 A70.out).mono ?_); (case side1 => repeat (first | exact (Kd.R_reads' HO_16.out).2.2 | (with_reducible refine Kd.C_alloc ?_ _) | (with_reducible refine Kd.C_drewN ?_ _) | (with_reducible refine Kd.C_drew ?_))); (case side2 => exact (Kd.R_reads' HO_16.out).2.1); rintro e w' ⟨rfl, ⟨nd, rfl⟩⟩; (try first | exact ⟨rfl, _, World.drewN_drewN _ _ _⟩ | exact ⟨rfl, _, Eq.trans (World.drewN_drewN _ _ _) (congrArg (World.drewN _) (Nat.add_assoc _ _ _))⟩); obtain ⟨Ao80, co80, eo80⟩ := Kd.R_slice HO383.out; subst eo80) | (go_at_call 47; (with_reducible refine (laws_sameInts.calls k4 _ _ t381 _ _ t361 t386 _ ?side1 ?side2 ?side3 ?side4 A74.out).mono ?_); (case side1 => repeat (first | exact (Kd.R_reads' HO383.out).2.2 | (with_reducible refine Kd.C_alloc ?_ _) | (with_reducible refine Kd.C_drewN ?_ _) | (with_reducible refine Kd.C_drew ?_))); (case side2 => exact (Kd.R_reads' HO383.out).2.1); (case side3 => repeat (first | exact (Kd.R_reads' HO_14.out).2.2 | (with_reducible refine Kd.C_alloc ?_ _) | (with_reducible refine Kd.C_drewN ?_ _) | (with_reducible refine Kd.C_drew ?_))); (case side4 => exact (Kd.R_reads' HO_14.out).2.1); rintro e w' ⟨rfl, ⟨nd, rfl⟩⟩; (try first | exact ⟨rfl, _, World.drewN_drewN _ _ _⟩ | exact ⟨rfl, _, Eq.trans (World.drewN_drewN _ _ _) (congrArg (World.drewN _) (Nat.add_assoc _ _ _))⟩))); try go_wp2_with (first | (go_at_call 22; (with_reducible refine (impl_CodeSymbols.calls k4 _ _ t365 _ _ t361 t375 t376 true _ ?side1 ?side2 ?side3 ?side4 A68.out).mono ?_); (case side1 => repeat (first | exact (Kd.R_reads' HO_16.out).2.2 | (with_reducible refine Kd.C_alloc ?_ _) | (with_reducible refine Kd.C_drewN ?_ _) | (with_reducible refine Kd.C_drew ?_))); (case side2 => exact (Kd.R_reads' HO_16.out).2.1); (case side3 => repeat (first | exact (Kd.R_reads' HO_14.out).2.2 | (with_reducible refine Kd.C_alloc ?_ _) | (with_reducible refine Kd.C_drewN ?_ _) | (with_reducible refine Kd.C_drew ?_))); (case side4 => exact (Kd.R_reads' HO_14.out).2.1); rintro e w75 ⟨v377, rfl, ho0, hb⟩; have HO378 := xM (Kd.R_lower (Kd.R_new' (Kd.R_new' (Kd.R_new' ho0 (xL (yR HO_14))) (xL (yR HO_16))) (xL (yR HO_147))) (below_size (yh HB))); replace HO_14 := xM (Kd.R_elder' (yR HO_14) (Kd.R_base ho0) hb); replace HO_16 := xM (Kd.R_elder' (yR HO_16) (Kd.R_base ho0) hb); replace HO_147 := xM (Kd.R_elder' (yR HO_147) (Kd.R_base ho0) hb); replace HB := xM (below_step (yh HB) hb); (try clear hb); (try clear ho0)) | ((with_reducible refine gate_dst (N := 22) rfl ?_); (try (refine gate_guard (by rfl) ?_; dsimp only)); refine box_event ?hg (N := 22) ?hd (cs := #[.int .i64 0, .slice none 0 0]) (t := 33) ?hr ?_; (case hd => rfl); (case hg => rfl); (case hr => first | (go_simp; done) | (go_simp; rfl)); intro gb380 hg w76 hbox hb; have BK380 := xM (hbox); have GW380 := xM ((by rw [hg]; exact (below_size (yh HB)) : w.heap.size ≤ gb380)); have GE380 := xM ((by rw [hg]; exact (below_size (yh HB)) : w.heap.size ≤ gb380)); replace HO_14 := xM (xW (yR HO_14) hb); replace HO_16 := xM (xW (yR HO_16) hb); replace HO_147 := xM (xW (yR HO_147) hb); replace HO378 := xM (xW (yR HO378) hb); replace HB := xM (below_step (yh HB) hb); clear hb hbox hg; have hcz77_0 : w76.cell? ⟨gb380, 0, none⟩ = some (.int .i64 0) := (blk_cell BK380.out 0).trans rfl; have hcz77_1 : w76.cell? ⟨gb380, 1, none⟩ = some (.slice none 0 0) := (blk_cell BK380.out 1).trans rfl; have hfz77_0 := blk_frozen BK380.out 0; have hfz77_1 := blk_frozen BK380.out 1; obtain ⟨Ao78, co78, eo78⟩ := Kd.R_slice HO378.out; subst eo78) | (go_at_call 36; (with_reducible refine (impl_DecodeSymbols.calls k4 _ _ t365 t375 _ _ t376 (t361.length : Int) t381 true _ ?side1 ?side2 ?side3 ?side4 A69.out).mono ?_); (case side1 => refine (Kd.R_reads' (e := 3) (base := w.heap.size) (ok := fun k_ => (some k_ ≠ (.slice Ao54 t361.length co54 : Value).ownBlock ∧ some k_ ≠ (.slice Ao78 t376.length co78 : Value).ownBlock)) (n := t365.length) (c := co63) ?_).2.2; exact (by (with_reducible repeat (first | apply xRA | apply xRN | apply xRD)); exact (xO (xF (p := ⟨gb380, 1, none⟩) (xF (p := ⟨gb380, 0, none⟩) (Kd.R_types HO_16.out BK380.out (by decide)) (fun _ hk => hk.2) (.int .i64 t375)) (fun _ hk => hk.2) (.slice Ao78 t376.length co78)) (fun _ h_ => h_.1)))); (case side2 => exact (Kd.R_reads' HO_16.out).2.1); (case side3 => refine (Kd.R_reads' (e := 3) (base := w.heap.size) (ok := fun k_ => (((True ∧ some k_ ≠ (.slice Ao54 t361.length co54 : Value).ownBlock) ∧ some k_ ≠ (.slice Ao63 t365.length co63 : Value).ownBlock) ∧ some k_ ≠ (.slice Ao63 t365.length co63 : Value).ownBlock)) (n := t376.length) (c := co78) ?_).2.2; exact (by (with_reducible repeat (first | apply xRA | apply xRN | apply xRD)); exact (xO (xF (p := ⟨gb380, 1, none⟩) (xF (p := ⟨gb380, 0, none⟩) (Kd.R_types HO378.out BK380.out (by decide)) (fun _ hk => hk.2) (.int .i64 t375)) (fun _ hk => hk.2) (.slice Ao78 t376.length co78)) (fun _ h_ => h_.1)))); (case side4 => exact (Kd.R_reads' HO378.out).2.1); rintro e w79 ⟨v382, rfl, ho0, hb⟩; have HO383 := xM (Kd.R_lower (Kd.R_new' (Kd.R_new' (Kd.R_new' (Kd.R_new' ho0 (xL (by (with_reducible repeat (first | apply xRA | apply xRN | apply xRD)); exact (xO (xF (p := ⟨gb380, 1, none⟩) (xF (p := ⟨gb380, 0, none⟩) (Kd.R_types HO_14.out BK380.out (by decide)) (fun _ hk => hk.2) (.int .i64 t375)) (fun _ hk => hk.2) (.slice Ao78 t376.length co78)) (fun _ h_ => h_.1))))) (xL (by (with_reducible repeat (first | apply xRA | apply xRN | apply xRD)); exact (xO (xF (p := ⟨gb380, 1, none⟩) (xF (p := ⟨gb380, 0, none⟩) (Kd.R_types HO_16.out BK380.out (by decide)) (fun _ hk => hk.2) (.int .i64 t375)) (fun _ hk => hk.2) (.slice Ao78 t376.length co78)) (fun _ h_ => h_.1))))) (xL (by (with_reducible repeat (first | apply xRA | apply xRN | apply xRD)); exact (xO (xF (p := ⟨gb380, 1, none⟩) (xF (p := ⟨gb380, 0, none⟩) (Kd.R_types HO_147.out BK380.out (by decide)) (fun _ hk => hk.2) (.int .i64 t375)) (fun _ hk => hk.2) (.slice Ao78 t376.length co78)) (fun _ h_ => h_.1))))) (xL (by (with_reducible repeat (first | apply xRA | apply xRN | apply xRD)); exact (xO (xF (p := ⟨gb380, 1, none⟩) (xF (p := ⟨gb380, 0, none⟩) (Kd.R_types HO378.out BK380.out (by decide)) (fun _ hk => hk.2) (.int .i64 t375)) (fun _ hk => hk.2) (.slice Ao78 t376.length co78)) (fun _ h_ => h_.1))))) (below_size (yh HB))); replace HO_14 := xM (Kd.R_elder' (by (with_reducible repeat (first | apply xRA | apply xRN | apply xRD)); exact (xO (xF (p := ⟨gb380, 1, none⟩) (xF (p := ⟨gb380, 0, none⟩) (Kd.R_types HO_14.out BK380.out (by decide)) (fun _ hk => hk.2) (.int .i64 t375)) (fun _ hk => hk.2) (.slice Ao78 t376.length co78)) (fun _ h_ => h_.1))) (Kd.R_base ho0) hb); replace HO_16 := xM (Kd.R_elder' (by (with_reducible repeat (first | apply xRA | apply xRN | apply xRD)); exact (xO (xF (p := ⟨gb380, 1, none⟩) (xF (p := ⟨gb380, 0, none⟩) (Kd.R_types HO_16.out BK380.out (by decide)) (fun _ hk => hk.2) (.int .i64 t375)) (fun _ hk => hk.2) (.slice Ao78 t376.length co78)) (fun _ h_ => h_.1))) (Kd.R_base ho0) hb); replace HO_147 := xM (Kd.R_elder' (by (with_reducible repeat (first | apply xRA | apply xRN | apply xRD)); exact (xO (xF (p := ⟨gb380, 1, none⟩) (xF (p := ⟨gb380, 0, none⟩) (Kd.R_types HO_147.out BK380.out (by decide)) (fun _ hk => hk.2) (.int .i64 t375)) (fun _ hk => hk.2) (.slice Ao78 t376.length co78)) (fun _ h_ => h_.1))) (Kd.R_base ho0) hb); replace HO378 := xM (Kd.R_elder' (by (with_reducible repeat (first | apply xRA | apply xRN | apply xRD)); exact (xO (xF (p := ⟨gb380, 1, none⟩) (xF (p := ⟨gb380, 0, none⟩) (Kd.R_types HO378.out BK380.out (by decide)) (fun _ hk => hk.2) (.int .i64 t375)) (fun _ hk => hk.2) (.slice Ao78 t376.length co78)) (fun _ h_ => h_.1))) (Kd.R_base ho0) hb); replace BK380 := xM (xB (g := gb380) (o := .cells #[.int .i64 t375, .slice Ao78 t376.length co78] 33 (0, 0)) (by (with_reducible repeat (first | apply xbN | apply xbD | apply xbA)); refine blk_put (cs := #[.int .i64 t375, .slice none 0 0]) ?_ 1 _ rfl; (with_reducible repeat (first | apply xbN | apply xbD | apply xbA)); refine blk_put (cs := #[.int .i64 0, .slice none 0 0]) ?_ 0 _ rfl; (with_reducible repeat (first | apply xbN | apply xbD | apply xbA)); exact BK380.out) hb); replace HB := xM (below_step (yh HB) hb); (try clear hb); (try clear ho0)) | (go_at_call 48; (with_reducible refine (impl_GoodCounts.calls k4 _ _ t365 true _ ?side1 ?side2 A70.out).mono ?_); (case side1 => repeat (first | exact (Kd.R_reads' HO_16.out).2.2 | (with_reducible refine Kd.C_alloc ?_ _) | (with_reducible refine Kd.C_drewN ?_ _) | (with_reducible refine Kd.C_drew ?_))); (case side2 => exact (Kd.R_reads' HO_16.out).2.1); rintro e w' ⟨rfl, ⟨nd, rfl⟩⟩; (try first | exact ⟨rfl, _, World.drewN_drewN _ _ _⟩ | exact ⟨rfl, _, Eq.trans (World.drewN_drewN _ _ _) (congrArg (World.drewN _) (Nat.add_assoc _ _ _))⟩); obtain ⟨Ao80, co80, eo80⟩ := Kd.R_slice HO383.out; subst eo80) | (go_at_call 47; (with_reducible refine (laws_sameInts.calls k4 _ _ t381 _ _ t361 t386 _ ?side1 ?side2 ?side3 ?side4 A74.out).mono ?_); (case side1 => repeat (first | exact (Kd.R_reads' HO383.out).2.2 | (with_reducible refine Kd.C_alloc ?_ _) | (with_reducible refine Kd.C_drewN ?_ _) | (with_reducible refine Kd.C_drew ?_))); (case side2 => exact (Kd.R_reads' HO383.out).2.1); (case side3 => repeat (first | exact (Kd.R_reads' HO_14.out).2.2 | (with_reducible refine Kd.C_alloc ?_ _) | (with_reducible refine Kd.C_drewN ?_ _) | (with_reducible refine Kd.C_drew ?_))); (case side4 => exact (Kd.R_reads' HO_14.out).2.1); rintro e w' ⟨rfl, ⟨nd, rfl⟩⟩; (try first | exact ⟨rfl, _, World.drewN_drewN _ _ _⟩ | exact ⟨rfl, _, Eq.trans (World.drewN_drewN _ _ _) (congrArg (World.drewN _) (Nat.add_assoc _ _ _))⟩))))
                  go_ret
                  exact ⟨by first | rfl | (simp [errW_none, errW_some] <;> rfl) | (simp [*, errW_none, errW_some] <;> rfl), by repeat (first | (with_reducible first | exact HB.out | apply xa | apply xn | apply xd | refine xs ?_ GE380.out) | exact HB.out)⟩
                 ·replace c73 := Bool.eq_false_iff.mpr c73
                  subst c73
                  have H1 : (some false) = some r := by rw [if_neg (show ¬ (false = true) by decide)] at H; exact H
                  clear H
                  have H := H1
                  clear H1
                  obtain rfl := Option.some.inj H
                  go_wp2_with (first | (go_at_call 22; (with_reducible refine (impl_CodeSymbols.calls k4 _ _ t365 _ _ t361 t375 t376 true _ ?side1 ?side2 ?side3 ?side4 A68.out).mono ?_); (case side1 => repeat (first | exact (Kd.R_reads' HO_16.out).2.2 | (with_reducible refine Kd.C_alloc ?_ _) | (with_reducible refine Kd.C_drewN ?_ _) | (with_reducible refine Kd.C_drew ?_))); (case side2 => exact (Kd.R_reads' HO_16.out).2.1); (case side3 => repeat (first | exact (Kd.R_reads' HO_14.out).2.2 | (with_reducible refine Kd.C_alloc ?_ _) | (with_reducible refine Kd.C_drewN ?_ _) | (with_reducible refine Kd.C_drew ?_))); (case side4 => exact (Kd.R_reads' HO_14.out).2.1); rintro e w81 ⟨v377, rfl, ho0, hb⟩; have HO378 := xM (Kd.R_lower (Kd.R_new' (Kd.R_new' (Kd.R_new' ho0 (xL (yR HO_14))) (xL (yR HO_16))) (xL (yR HO_147))) (below_size (yh HB))); replace HO_14 := xM (Kd.R_elder' (yR HO_14) (Kd.R_base ho0) hb); replace HO_16 := xM (Kd.R_elder' (yR HO_16) (Kd.R_base ho0) hb); replace HO_147 := xM (Kd.R_elder' (yR HO_147) (Kd.R_base ho0) hb); replace HB := xM (below_step (yh HB) hb); (try clear hb); (try clear ho0)) | ((with_reducible refine gate_dst (N := 22) rfl ?_); (try (refine gate_guard (by rfl) ?_; dsimp only)); refine box_event ?hg (N := 22) ?hd (cs := #[.int .i64 0, .slice none 0 0]) (t := 33) ?hr ?_; (case hd => rfl); (case hg => rfl); (case hr => first | (go_simp; done) | (go_simp; rfl)); intro gb380 hg w82 hbox hb; have BK380 := xM (hbox); have GW380 := xM ((by rw [hg]; exact (below_size (yh HB)) : w.heap.size ≤ gb380)); have GE380 := xM ((by rw [hg]; exact (below_size (yh HB)) : w.heap.size ≤ gb380)); replace HO_14 := xM (xW (yR HO_14) hb); replace HO_16 := xM (xW (yR HO_16) hb); replace HO_147 := xM (xW (yR HO_147) hb); replace HO378 := xM (xW (yR HO378) hb); replace HB := xM (below_step (yh HB) hb); clear hb hbox hg; have hcz83_0 : w82.cell? ⟨gb380, 0, none⟩ = some (.int .i64 0) := (blk_cell BK380.out 0).trans rfl; have hcz83_1 : w82.cell? ⟨gb380, 1, none⟩ = some (.slice none 0 0) := (blk_cell BK380.out 1).trans rfl; have hfz83_0 := blk_frozen BK380.out 0; have hfz83_1 := blk_frozen BK380.out 1; obtain ⟨Ao84, co84, eo84⟩ := Kd.R_slice HO378.out; subst eo84) | (go_at_call 36; (with_reducible refine (impl_DecodeSymbols.calls k4 _ _ t365 t375 _ _ t376 (t361.length : Int) t381 false _ ?side1 ?side2 ?side3 ?side4 A69.out).mono ?_); (case side1 => refine (Kd.R_reads' (e := 3) (base := w.heap.size) (ok := fun k_ => (some k_ ≠ (.slice Ao54 t361.length co54 : Value).ownBlock ∧ some k_ ≠ (.slice Ao84 t376.length co84 : Value).ownBlock)) (n := t365.length) (c := co63) ?_).2.2; exact (by (with_reducible repeat (first | apply xRA | apply xRN | apply xRD)); exact (xO (xF (p := ⟨gb380, 1, none⟩) (xF (p := ⟨gb380, 0, none⟩) (Kd.R_types HO_16.out BK380.out (by decide)) (fun _ hk => hk.2) (.int .i64 t375)) (fun _ hk => hk.2) (.slice Ao84 t376.length co84)) (fun _ h_ => h_.1)))); (case side2 => exact (Kd.R_reads' HO_16.out).2.1); (case side3 => refine (Kd.R_reads' (e := 3) (base := w.heap.size) (ok := fun k_ => (((True ∧ some k_ ≠ (.slice Ao54 t361.length co54 : Value).ownBlock) ∧ some k_ ≠ (.slice Ao63 t365.length co63 : Value).ownBlock) ∧ some k_ ≠ (.slice Ao63 t365.length co63 : Value).ownBlock)) (n := t376.length) (c := co84) ?_).2.2; exact (by (with_reducible repeat (first | apply xRA | apply xRN | apply xRD)); exact (xO (xF (p := ⟨gb380, 1, none⟩) (xF (p := ⟨gb380, 0, none⟩) (Kd.R_types HO378.out BK380.out (by decide)) (fun _ hk => hk.2) (.int .i64 t375)) (fun _ hk => hk.2) (.slice Ao84 t376.length co84)) (fun _ h_ => h_.1)))); (case side4 => exact (Kd.R_reads' HO378.out).2.1); rintro e w85 ⟨v382, rfl, ho0, hb⟩; have HO383 := xM (Kd.R_lower (Kd.R_new' (Kd.R_new' (Kd.R_new' (Kd.R_new' ho0 (xL (by (with_reducible repeat (first | apply xRA | apply xRN | apply xRD)); exact (xO (xF (p := ⟨gb380, 1, none⟩) (xF (p := ⟨gb380, 0, none⟩) (Kd.R_types HO_14.out BK380.out (by decide)) (fun _ hk => hk.2) (.int .i64 t375)) (fun _ hk => hk.2) (.slice Ao84 t376.length co84)) (fun _ h_ => h_.1))))) (xL (by (with_reducible repeat (first | apply xRA | apply xRN | apply xRD)); exact (xO (xF (p := ⟨gb380, 1, none⟩) (xF (p := ⟨gb380, 0, none⟩) (Kd.R_types HO_16.out BK380.out (by decide)) (fun _ hk => hk.2) (.int .i64 t375)) (fun _ hk => hk.2) (.slice Ao84 t376.length co84)) (fun _ h_ => h_.1))))) (xL (by (with_reducible repeat (first | apply xRA | apply xRN | apply xRD)); exact (xO (xF (p := ⟨gb380, 1, none⟩) (xF (p := ⟨gb380, 0, none⟩) (Kd.R_types HO_147.out BK380.out (by decide)) (fun _ hk => hk.2) (.int .i64 t375)) (fun _ hk => hk.2) (.slice Ao84 t376.length co84)) (fun _ h_ => h_.1))))) (xL (by (with_reducible repeat (first | apply xRA | apply xRN | apply xRD)); exact (xO (xF (p := ⟨gb380, 1, none⟩) (xF (p := ⟨gb380, 0, none⟩) (Kd.R_types HO378.out BK380.out (by decide)) (fun _ hk => hk.2) (.int .i64 t375)) (fun _ hk => hk.2) (.slice Ao84 t376.length co84)) (fun _ h_ => h_.1))))) (below_size (yh HB))); replace HO_14 := xM (Kd.R_elder' (by (with_reducible repeat (first | apply xRA | apply xRN | apply xRD)); exact (xO (xF (p := ⟨gb380, 1, none⟩) (xF (p := ⟨gb380, 0, none⟩) (Kd.R_types HO_14.out BK380.out (by decide)) (fun _ hk => hk.2) (.int .i64 t375)) (fun _ hk => hk.2) (.slice Ao84 t376.length co84)) (fun _ h_ => h_.1))) (Kd.R_base ho0) hb); replace HO_16 := xM (Kd.R_elder' (by (with_reducible repeat (first | apply xRA | apply xRN | apply xRD)); exact (xO (xF (p := ⟨gb380, 1, none⟩) (xF (p := ⟨gb380, 0, none⟩) (Kd.R_types HO_16.out BK380.out (by decide)) (fun _ hk => hk.2) (.int .i64 t375)) (fun _ hk => hk.2) (.slice Ao84 t376.length co84)) (fun _ h_ => h_.1))) (Kd.R_base ho0) hb); replace HO_147 := xM (Kd.R_elder' (by (with_reducible repeat (first | apply xRA | apply xRN | apply xRD)); exact (xO (xF (p := ⟨gb380, 1, none⟩) (xF (p := ⟨gb380, 0, none⟩) (Kd.R_types HO_147.out BK380.out (by decide)) (fun _ hk => hk.2) (.int .i64 t375)) (fun _ hk => hk.2) (.slice Ao84 t376.length co84)) (fun _ h_ => h_.1))) (Kd.R_base ho0) hb); replace HO378 := xM (Kd.R_elder' (by (with_reducible repeat (first | apply xRA | apply xRN | apply xRD)); exact (xO (xF (p := ⟨gb380, 1, none⟩) (xF (p := ⟨gb380, 0, none⟩) (Kd.R_types HO378.out BK380.out (by decide)) (fun _ hk => hk.2) (.int .i64 t375)) (fun _ hk => hk.2) (.slice Ao84 t376.length co84)) (fun _ h_ => h_.1))) (Kd.R_base ho0) hb); replace BK380 := xM (xB (g := gb380) (o := .cells #[.int .i64 t375, .slice Ao84 t376.length co84] 33 (0, 0)) (by (with_reducible repeat (first | apply xbN | apply xbD | apply xbA)); refine blk_put (cs := #[.int .i64 t375, .slice none 0 0]) ?_ 1 _ rfl; (with_reducible repeat (first | apply xbN | apply xbD | apply xbA)); refine blk_put (cs := #[.int .i64 0, .slice none 0 0]) ?_ 0 _ rfl; (with_reducible repeat (first | apply xbN | apply xbD | apply xbA)); exact BK380.out) hb); replace HB := xM (below_step (yh HB) hb); (try clear hb); (try clear ho0)) | (go_at_call 48; (with_reducible refine (impl_GoodCounts.calls k4 _ _ t365 true _ ?side1 ?side2 A70.out).mono ?_); (case side1 => repeat (first | exact (Kd.R_reads' HO_16.out).2.2 | (with_reducible refine Kd.C_alloc ?_ _) | (with_reducible refine Kd.C_drewN ?_ _) | (with_reducible refine Kd.C_drew ?_))); (case side2 => exact (Kd.R_reads' HO_16.out).2.1); rintro e w' ⟨rfl, ⟨nd, rfl⟩⟩; (try first | exact ⟨rfl, _, World.drewN_drewN _ _ _⟩ | exact ⟨rfl, _, Eq.trans (World.drewN_drewN _ _ _) (congrArg (World.drewN _) (Nat.add_assoc _ _ _))⟩)))
                  repeat (go_quiet (first | (go_at_call 22; (with_reducible refine (impl_CodeSymbols.calls k4 _ _ t365 _ _ t361 t375 t376 true _ ?side1 ?side2 ?side3 ?side4 A68.out).mono ?_); (case side1 => repeat (first | exact (Kd.R_reads' HO_16.out).2.2 | (with_reducible refine Kd.C_alloc ?_ _) | (with_reducible refine Kd.C_drewN ?_ _) | (with_reducible refine Kd.C_drew ?_))); (case side2 => exact (Kd.R_reads' HO_16.out).2.1); (case side3 => repeat (first | exact (Kd.R_reads' HO_14.out).2.2 | (with_reducible refine Kd.C_alloc ?_ _) | (with_reducible refine Kd.C_drewN ?_ _) | (with_reducible refine Kd.C_drew ?_))); (case side4 => exact (Kd.R_reads' HO_14.out).2.1); rintro e w81 ⟨v377, rfl, ho0, hb⟩; have HO378 := xM (Kd.R_lower (Kd.R_new' (Kd.R_new' (Kd.R_new' ho0 (xL (yR HO_14))) (xL (yR HO_16))) (xL (yR HO_147))) (below_size (yh HB))); replace HO_14 := xM (Kd.R_elder' (yR HO_14) (Kd.R_base ho0) hb); replace HO_16 := xM (Kd.R_elder' (yR HO_16) (Kd.R_base ho0) hb); replace HO_147 := xM (Kd.R_elder' (yR HO_147) (Kd.R_base ho0) hb); replace HB := xM (below_step (yh HB) hb); (try clear hb); (try clear ho0)) | ((with_reducible refine gate_dst (N := 22) rfl ?_); (try (refine gate_guard (by rfl) ?_; dsimp only)); refine box_event ?hg (N := 22) ?hd (cs := #[.int .i64 0, .slice none 0 0]) (t := 33) ?hr ?_; (case hd => rfl); (case hg => rfl); (case hr => first | (go_simp; done) | (go_simp; rfl)); intro gb380 hg w82 hbox hb; have BK380 := xM (hbox); have GW380 := xM ((by rw [hg]; exact (below_size (yh HB)) : w.heap.size ≤ gb380)); have GE380 := xM ((by rw [hg]; exact (below_size (yh HB)) : w.heap.size ≤ gb380)); replace HO_14 := xM (xW (yR HO_14) hb); replace HO_16 := xM (xW (yR HO_16) hb); replace HO_147 := xM (xW (yR HO_147) hb); replace HO378 := xM (xW (yR HO378) hb); replace HB := xM (below_step (yh HB) hb); clear hb hbox hg; have hcz83_0 : w82.cell? ⟨gb380, 0, none⟩ = some (.int .i64 0) := (blk_cell BK380.out 0).trans rfl; have hcz83_1 : w82.cell? ⟨gb380, 1, none⟩ = some (.slice none 0 0) := (blk_cell BK380.out 1).trans rfl; have hfz83_0 := blk_frozen BK380.out 0; have hfz83_1 := blk_frozen BK380.out 1; obtain ⟨Ao84, co84, eo84⟩ := Kd.R_slice HO378.out; subst eo84) | (go_at_call 36; (with_reducible refine (impl_DecodeSymbols.calls k4 _ _ t365 t375 _ _ t376 (t361.length : Int) t381 false _ ?side1 ?side2 ?side3 ?side4 A69.out).mono ?_); (case side1 => refine (Kd.R_reads' (e := 3) (base := w.heap.size) (ok := fun k_ => (some k_ ≠ (.slice Ao54 t361.length co54 : Value).ownBlock ∧ some k_ ≠ (.slice Ao84 t376.length co84 : Value).ownBlock)) (n := t365.length) (c := co63) ?_).2.2; exact (by (with_reducible repeat (first | apply xRA | apply xRN | apply xRD)); exact (xO (xF (p := ⟨gb380, 1, none⟩) (xF (p := ⟨gb380, 0, none⟩) (Kd.R_types HO_16.out BK380.out (by decide)) (fun _ hk => hk.2) (.int .i64 t375)) (fun _ hk => hk.2) (.slice Ao84 t376.length co84)) (fun _ h_ => h_.1)))); (case side2 => exact (Kd.R_reads' HO_16.out).2.1); (case side3 => refine (Kd.R_reads' (e := 3) (base := w.heap.size) (ok := fun k_ => (((True ∧ some k_ ≠ (.slice Ao54 t361.length co54 : Value).ownBlock) ∧ some k_ ≠ (.slice Ao63 t365.length co63 : Value).ownBlock) ∧ some k_ ≠ (.slice Ao63 t365.length co63 : Value).ownBlock)) (n := t376.length) (c := co84) ?_).2.2; exact (by (with_reducible repeat (first | apply xRA | apply xRN | apply xRD)); exact (xO (xF (p := ⟨gb380, 1, none⟩) (xF (p := ⟨gb380, 0, none⟩) (Kd.R_types HO378.out BK380.out (by decide)) (fun _ hk => hk.2) (.int .i64 t375)) (fun _ hk => hk.2) (.slice Ao84 t376.length co84)) (fun _ h_ => h_.1)))); (case side4 => exact (Kd.R_reads' HO378.out).2.1); rintro e w85 ⟨v382, rfl, ho0, hb⟩; have HO383 := xM (Kd.R_lower (Kd.R_new' (Kd.R_new' (Kd.R_new' (Kd.R_new' ho0 (xL (by (with_reducible repeat (first | apply xRA | apply xRN | apply xRD)); exact (xO (xF (p := ⟨gb380, 1, none⟩) (xF (p := ⟨gb380, 0, none⟩) (Kd.R_types HO_14.out BK380.out (by decide)) (fun _ hk => hk.2) (.int .i64 t375)) (fun _ hk => hk.2) (.slice Ao84 t376.length co84)) (fun _ h_ => h_.1))))) (xL (by (with_reducible repeat (first | apply xRA | apply xRN | apply xRD)); exact (xO (xF (p := ⟨gb380, 1, none⟩) (xF (p := ⟨gb380, 0, none⟩) (Kd.R_types HO_16.out BK380.out (by decide)) (fun _ hk => hk.2) (.int .i64 t375)) (fun _ hk => hk.2) (.slice Ao84 t376.length co84)) (fun _ h_ => h_.1))))) (xL (by (with_reducible repeat (first | apply xRA | apply xRN | apply xRD)); exact (xO (xF (p := ⟨gb380, 1, none⟩) (xF (p := ⟨gb380, 0, none⟩) (Kd.R_types HO_147.out BK380.out (by decide)) (fun _ hk => hk.2) (.int .i64 t375)) (fun _ hk => hk.2) (.slice Ao84 t376.length co84)) (fun _ h_ => h_.1))))) (xL (by (with_reducible repeat (first | apply xRA | apply xRN | apply xRD)); exact (xO (xF (p := ⟨gb380, 1, none⟩) (xF (p := ⟨gb380, 0, none⟩) (Kd.R_types HO378.out BK380.out (by decide)) (fun _ hk => hk.2) (.int .i64 t375)) (fun _ hk => hk.2) (.slice Ao84 t376.length co84)) (fun _ h_ => h_.1))))) (below_size (yh HB))); replace HO_14 := xM (Kd.R_elder' (by (with_reducible repeat (first | apply xRA | apply xRN | apply xRD)); exact (xO (xF (p := ⟨gb380, 1, none⟩) (xF (p := ⟨gb380, 0, none⟩) (Kd.R_types HO_14.out BK380.out (by decide)) (fun _ hk => hk.2) (.int .i64 t375)) (fun _ hk => hk.2) (.slice Ao84 t376.length co84)) (fun _ h_ => h_.1))) (Kd.R_base ho0) hb); replace HO_16 := xM (Kd.R_elder' (by (with_reducible repeat (first | apply xRA | apply xRN | apply xRD)); exact (xO (xF (p := ⟨gb380, 1, none⟩) (xF (p := ⟨gb380, 0, none⟩) (Kd.R_types HO_16.out BK380.out (by decide)) (fun _ hk => hk.2) (.int .i64 t375)) (fun _ hk => hk.2) (.slice Ao84 t376.length co84)) (fun _ h_ => h_.1))) (Kd.R_base ho0) hb); replace HO_147 := xM (Kd.R_elder' (by (with_reducible repeat (first | apply xRA | apply xRN | apply xRD)); exact (xO (xF (p := ⟨gb380, 1, none⟩) (xF (p := ⟨gb380, 0, none⟩) (Kd.R_types HO_147.out BK380.out (by decide)) (fun _ hk => hk.2) (.int .i64 t375)) (fun _ hk => hk.2) (.slice Ao84 t376.length co84)) (fun _ h_ => h_.1))) (Kd.R_base ho0) hb); replace HO378 := xM (Kd.R_elder' (by (with_reducible repeat (first | apply xRA | apply xRN | apply xRD)); exact (xO (xF (p := ⟨gb380, 1, none⟩) (xF (p := ⟨gb380, 0, none⟩) (Kd.R_types HO378.out BK380.out (by decide)) (fun _ hk => hk.2) (.int .i64 t375)) (fun _ hk => hk.2) (.slice Ao84 t376.length co84)) (fun _ h_ => h_.1))) (Kd.R_base ho0) hb); replace BK380 := xM (xB (g := gb380) (o := .cells #[.int .i64 t375, .slice Ao84 t376.length co84] 33 (0, 0)) (by (with_reducible repeat (first | apply xbN | apply xbD | apply xbA)); refine blk_put (cs := #[.int .i64 t375, .slice none 0 0]) ?_ 1 _ rfl; (with_reducible repeat (first | apply xbN | apply xbD | apply xbA)); refine blk_put (cs := #[.int .i64 0, .slice none 0 0]) ?_ 0 _ rfl; (with_reducible repeat (first | apply xbN | apply xbD | apply xbA)); exact BK380.out) hb); replace HB := xM (below_step (yh HB) hb); (try clear hb); (try clear ho0)) | (go_at_call 48; (with_reducible refine (impl_GoodCounts.calls k4 _ _ t365 true _ ?side1 ?side2 A70.out).mono ?_); (case side1 => repeat (first | exact (Kd.R_reads' HO_16.out).2.2 | (with_reducible refine Kd.C_alloc ?_ _) | (with_reducible refine Kd.C_drewN ?_ _) | (with_reducible refine Kd.C_drew ?_))); (case side2 => exact (Kd.R_reads' HO_16.out).2.1); rintro e w' ⟨rfl, ⟨nd, rfl⟩⟩; (try first | exact ⟨rfl, _, World.drewN_drewN _ _ _⟩ | exact ⟨rfl, _, Eq.trans (World.drewN_drewN _ _ _) (congrArg (World.drewN _) (Nat.add_assoc _ _ _))⟩))); try go_wp2_with (first | (go_at_call 22; (with_reducible refine (impl_CodeSymbols.calls k4 _ _ t365 _ _ t361 t375 t376 true _ ?side1 ?side2 ?side3 ?side4 A68.out).mono ?_); (case side1 => repeat (first | exact (Kd.R_reads' HO_16.out).2.2 | (with_reducible refine Kd.C_alloc ?_ _) | (with_reducible refine Kd.C_drewN ?_ _) | (with_reducible refine Kd.C_drew ?_))); (case side2 => exact (Kd.R_reads' HO_16.out).2.1); (case side3 => repeat (first | exact (Kd.R_reads' HO_14.out).2.2 | (with_reducible refine Kd.C_alloc ?_ _) | (with_reducible refine Kd.C_drewN ?_ _) | (with_reducible refine Kd.C_drew ?_))); (case side4 => exact (Kd.R_reads' HO_14.out).2.1); rintro e w81 ⟨v377, rfl, ho0, hb⟩; have HO378 := xM (Kd.R_lower (Kd.R_new' (Kd.R_new' (Kd.R_new' ho0 (xL (yR HO_14))) (xL (yR HO_16))) (xL (yR HO_147))) (below_size (yh HB))); replace HO_14 := xM (Kd.R_elder' (yR HO_14) (Kd.R_base ho0) hb); replace HO_16 := xM (Kd.R_elder' (yR HO_16) (Kd.R_base ho0) hb); replace HO_147 := xM (Kd.R_elder' (yR HO_147) (Kd.R_base ho0) hb); replace HB := xM (below_step (yh HB) hb); (try clear hb); (try clear ho0)) | ((with_reducible refine gate_dst (N := 22) rfl ?_); (try (refine gate_guard (by rfl) ?_; dsimp only)); refine box_event ?hg (N := 22) ?hd (cs := #[.int .i64 0, .slice none 0 0]) (t := 33) ?hr ?_; (case hd => rfl); (case hg => rfl); (case hr => first | (go_simp; done) | (go_simp; rfl)); intro gb380 hg w82 hbox hb; have BK380 := xM (hbox); have GW380 := xM ((by rw [hg]; exact (below_size (yh HB)) : w.heap.size ≤ gb380)); have GE380 := xM ((by rw [hg]; exact (below_size (yh HB)) : w.heap.size ≤ gb380)); replace HO_14 := xM (xW (yR HO_14) hb); replace HO_16 := xM (xW (yR HO_16) hb); replace HO_147 := xM (xW (yR HO_147) hb); replace HO378 := xM (xW (yR HO378) hb); replace HB := xM (below_step (yh HB) hb); clear hb hbox hg; have hcz83_0 : w82.cell? ⟨gb380, 0, none⟩ = some (.int .i64 0) := (blk_cell BK380.out 0).trans rfl; have hcz83_1 : w82.cell? ⟨gb380, 1, none⟩ = some (.slice none 0 0) := (blk_cell BK380.out 1).trans rfl; have hfz83_0 := blk_frozen BK380.out 0; have hfz83_1 := blk_frozen BK380.out 1; obtain ⟨Ao84, co84, eo84⟩ := Kd.R_slice HO378.out; subst eo84) | (go_at_call 36; (with_reducible refine (impl_DecodeSymbols.calls k4 _ _ t365 t375 _ _ t376 (t361.length : Int) t381 false _ ?side1 ?side2 ?side3 ?side4 A69.out).mono ?_); (case side1 => refine (Kd.R_reads' (e := 3) (base := w.heap.size) (ok := fun k_ => (some k_ ≠ (.slice Ao54 t361.length co54 : Value).ownBlock ∧ some k_ ≠ (.slice Ao84 t376.length co84 : Value).ownBlock)) (n := t365.length) (c := co63) ?_).2.2; exact (by (with_reducible repeat (first | apply xRA | apply xRN | apply xRD)); exact (xO (xF (p := ⟨gb380, 1, none⟩) (xF (p := ⟨gb380, 0, none⟩) (Kd.R_types HO_16.out BK380.out (by decide)) (fun _ hk => hk.2) (.int .i64 t375)) (fun _ hk => hk.2) (.slice Ao84 t376.length co84)) (fun _ h_ => h_.1)))); (case side2 => exact (Kd.R_reads' HO_16.out).2.1); (case side3 => refine (Kd.R_reads' (e := 3) (base := w.heap.size) (ok := fun k_ => (((True ∧ some k_ ≠ (.slice Ao54 t361.length co54 : Value).ownBlock) ∧ some k_ ≠ (.slice Ao63 t365.length co63 : Value).ownBlock) ∧ some k_ ≠ (.slice Ao63 t365.length co63 : Value).ownBlock)) (n := t376.length) (c := co84) ?_).2.2; exact (by (with_reducible repeat (first | apply xRA | apply xRN | apply xRD)); exact (xO (xF (p := ⟨gb380, 1, none⟩) (xF (p := ⟨gb380, 0, none⟩) (Kd.R_types HO378.out BK380.out (by decide)) (fun _ hk => hk.2) (.int .i64 t375)) (fun _ hk => hk.2) (.slice Ao84 t376.length co84)) (fun _ h_ => h_.1)))); (case side4 => exact (Kd.R_reads' HO378.out).2.1); rintro e w85 ⟨v382, rfl, ho0, hb⟩; have HO383 := xM (Kd.R_lower (Kd.R_new' (Kd.R_new' (Kd.R_new' (Kd.R_new' ho0 (xL (by (with_reducible repeat (first | apply xRA | apply xRN | apply xRD)); exact (xO (xF (p := ⟨gb380, 1, none⟩) (xF (p := ⟨gb380, 0, none⟩) (Kd.R_types HO_14.out BK380.out (by decide)) (fun _ hk => hk.2) (.int .i64 t375)) (fun _ hk => hk.2) (.slice Ao84 t376.length co84)) (fun _ h_ => h_.1))))) (xL (by (with_reducible repeat (first | apply xRA | apply xRN | apply xRD)); exact (xO (xF (p := ⟨gb380, 1, none⟩) (xF (p := ⟨gb380, 0, none⟩) (Kd.R_types HO_16.out BK380.out (by decide)) (fun _ hk => hk.2) (.int .i64 t375)) (fun _ hk => hk.2) (.slice Ao84 t376.length co84)) (fun _ h_ => h_.1))))) (xL (by (with_reducible repeat (first | apply xRA | apply xRN | apply xRD)); exact (xO (xF (p := ⟨gb380, 1, none⟩) (xF (p := ⟨gb380, 0, none⟩) (Kd.R_types HO_147.out BK380.out (by decide)) (fun _ hk => hk.2) (.int .i64 t375)) (fun _ hk => hk.2) (.slice Ao84 t376.length co84)) (fun _ h_ => h_.1))))) (xL (by (with_reducible repeat (first | apply xRA | apply xRN | apply xRD)); exact (xO (xF (p := ⟨gb380, 1, none⟩) (xF (p := ⟨gb380, 0, none⟩) (Kd.R_types HO378.out BK380.out (by decide)) (fun _ hk => hk.2) (.int .i64 t375)) (fun _ hk => hk.2) (.slice Ao84 t376.length co84)) (fun _ h_ => h_.1))))) (below_size (yh HB))); replace HO_14 := xM (Kd.R_elder' (by (with_reducible repeat (first | apply xRA | apply xRN | apply xRD)); exact (xO (xF (p := ⟨gb380, 1, none⟩) (xF (p := ⟨gb380, 0, none⟩) (Kd.R_types HO_14.out BK380.out (by decide)) (fun _ hk => hk.2) (.int .i64 t375)) (fun _ hk => hk.2) (.slice Ao84 t376.length co84)) (fun _ h_ => h_.1))) (Kd.R_base ho0) hb); replace HO_16 := xM (Kd.R_elder' (by (with_reducible repeat (first | apply xRA | apply xRN | apply xRD)); exact (xO (xF (p := ⟨gb380, 1, none⟩) (xF (p := ⟨gb380, 0, none⟩) (Kd.R_types HO_16.out BK380.out (by decide)) (fun _ hk => hk.2) (.int .i64 t375)) (fun _ hk => hk.2) (.slice Ao84 t376.length co84)) (fun _ h_ => h_.1))) (Kd.R_base ho0) hb); replace HO_147 := xM (Kd.R_elder' (by (with_reducible repeat (first | apply xRA | apply xRN | apply xRD)); exact (xO (xF (p := ⟨gb380, 1, none⟩) (xF (p := ⟨gb380, 0, none⟩) (Kd.R_types HO_147.out BK380.out (by decide)) (fun _ hk => hk.2) (.int .i64 t375)) (fun _ hk => hk.2) (.slice Ao84 t376.length co84)) (fun _ h_ => h_.1))) (Kd.R_base ho0) hb); replace HO378 := xM (Kd.R_elder' (by (with_reducible repeat (first | apply xRA | apply xRN | apply xRD)); exact (xO (xF (p := ⟨gb380, 1, none⟩) (xF (p := ⟨gb380, 0, none⟩) (Kd.R_types HO378.out BK380.out (by decide)) (fun _ hk => hk.2) (.int .i64 t375)) (fun _ hk => hk.2) (.slice Ao84 t376.length co84)) (fun _ h_ => h_.1))) (Kd.R_base ho0) hb); replace BK380 := xM (xB (g := gb380) (o := .cells #[.int .i64 t375, .slice Ao84 t376.length co84] 33 (0, 0)) (by (with_reducible repeat (first | apply xbN | apply xbD | apply xbA)); refine blk_put (cs := #[.int .i64 t375, .slice none 0 0]) ?_ 1 _ rfl; (with_reducible repeat (first | apply xbN | apply xbD | apply xbA)); refine blk_put (cs := #[.int .i64 0, .slice none 0 0]) ?_ 0 _ rfl; (with_reducible repeat (first | apply xbN | apply xbD | apply xbA)); exact BK380.out) hb); replace HB := xM (below_step (yh HB) hb); (try clear hb); (try clear ho0)) | (go_at_call 48; (with_reducible refine (impl_GoodCounts.calls k4 _ _ t365 true _ ?side1 ?side2 A70.out).mono ?_); (case side1 => repeat (first | exact (Kd.R_reads' HO_16.out).2.2 | (with_reducible refine Kd.C_alloc ?_ _) | (with_reducible refine Kd.C_drewN ?_ _) | (with_reducible refine Kd.C_drew ?_))); (case side2 => exact (Kd.R_reads' HO_16.out).2.1); rintro e w' ⟨rfl, ⟨nd, rfl⟩⟩; (try first | exact ⟨rfl, _, World.drewN_drewN _ _ _⟩ | exact ⟨rfl, _, Eq.trans (World.drewN_drewN _ _ _) (congrArg (World.drewN _) (Nat.add_assoc _ _ _))⟩))))
                  go_ret
                  exact ⟨by first | rfl | (simp [errW_none, errW_some] <;> rfl) | (simp [*, errW_none, errW_some] <;> rfl), by repeat (first | (with_reducible first | exact HB.out | apply xa | apply xn | apply xd | refine xs ?_ GE380.out) | exact HB.out)⟩
                ·replace c72 := Bool.eq_false_iff.mpr c72
                 subst c72
                 have H1 : (some false) = some r := by rw [if_neg (show ¬ (false = true) by decide)] at H; exact H
                 clear H
                 have H := H1
                 clear H1
                 obtain rfl := Option.some.inj H
                 go_wp2_with (first | (go_at_call 22; (with_reducible refine (impl_CodeSymbols.calls k4 _ _ t365 _ _ t361 t375 t376 false _ ?side1 ?side2 ?side3 ?side4 A68.out).mono ?_); (case side1 => repeat (first | exact (Kd.R_reads' HO_16.out).2.2 | (with_reducible refine Kd.C_alloc ?_ _) | (with_reducible refine Kd.C_drewN ?_ _) | (with_reducible refine Kd.C_drew ?_))); (case side2 => exact (Kd.R_reads' HO_16.out).2.1); (case side3 => repeat (first | exact (Kd.R_reads' HO_14.out).2.2 | (with_reducible refine Kd.C_alloc ?_ _) | (with_reducible refine Kd.C_drewN ?_ _) | (with_reducible refine Kd.C_drew ?_))); (case side4 => exact (Kd.R_reads' HO_14.out).2.1); rintro e w86 ⟨v377, rfl, ho0, hb⟩; have HO378 := xM (Kd.R_lower (Kd.R_new' (Kd.R_new' (Kd.R_new' ho0 (xL (yR HO_14))) (xL (yR HO_16))) (xL (yR HO_147))) (below_size (yh HB))); replace HO_14 := xM (Kd.R_elder' (yR HO_14) (Kd.R_base ho0) hb); replace HO_16 := xM (Kd.R_elder' (yR HO_16) (Kd.R_base ho0) hb); replace HO_147 := xM (Kd.R_elder' (yR HO_147) (Kd.R_base ho0) hb); replace HB := xM (below_step (yh HB) hb); (try clear hb); (try clear ho0)) | ((with_reducible refine gate_dst (N := 22) rfl ?_); (try (refine gate_guard (by rfl) ?_; dsimp only)); refine box_event ?hg (N := 22) ?hd (cs := #[.int .i64 0, .slice none 0 0]) (t := 33) ?hr ?_; (case hd => rfl); (case hg => rfl); (case hr => first | (go_simp; done) | (go_simp; rfl)); intro gb380 hg w87 hbox hb; have BK380 := xM (hbox); have GW380 := xM ((by rw [hg]; exact (below_size (yh HB)) : w.heap.size ≤ gb380)); have GE380 := xM ((by rw [hg]; exact (below_size (yh HB)) : w.heap.size ≤ gb380)); replace HO_14 := xM (xW (yR HO_14) hb); replace HO_16 := xM (xW (yR HO_16) hb); replace HO_147 := xM (xW (yR HO_147) hb); replace HO378 := xM (xW (yR HO378) hb); replace HB := xM (below_step (yh HB) hb); clear hb hbox hg; have hcz88_0 : w87.cell? ⟨gb380, 0, none⟩ = some (.int .i64 0) := (blk_cell BK380.out 0).trans rfl; have hcz88_1 : w87.cell? ⟨gb380, 1, none⟩ = some (.slice none 0 0) := (blk_cell BK380.out 1).trans rfl; have hfz88_0 := blk_frozen BK380.out 0; have hfz88_1 := blk_frozen BK380.out 1; obtain ⟨Ao89, co89, eo89⟩ := Kd.R_slice HO378.out; subst eo89) | (go_at_call 36; (with_reducible refine (impl_DecodeSymbols.calls k4 _ _ t365 t375 _ _ t376 (t361.length : Int) t381 t384 _ ?side1 ?side2 ?side3 ?side4 A69.out).mono ?_); (case side1 => refine (Kd.R_reads' (e := 3) (base := w.heap.size) (ok := fun k_ => (some k_ ≠ (.slice Ao54 t361.length co54 : Value).ownBlock ∧ some k_ ≠ (.slice Ao89 t376.length co89 : Value).ownBlock)) (n := t365.length) (c := co63) ?_).2.2; exact (by (with_reducible repeat (first | apply xRA | apply xRN | apply xRD)); exact (xO (xF (p := ⟨gb380, 1, none⟩) (xF (p := ⟨gb380, 0, none⟩) (Kd.R_types HO_16.out BK380.out (by decide)) (fun _ hk => hk.2) (.int .i64 t375)) (fun _ hk => hk.2) (.slice Ao89 t376.length co89)) (fun _ h_ => h_.1)))); (case side2 => exact (Kd.R_reads' HO_16.out).2.1); (case side3 => refine (Kd.R_reads' (e := 3) (base := w.heap.size) (ok := fun k_ => (((True ∧ some k_ ≠ (.slice Ao54 t361.length co54 : Value).ownBlock) ∧ some k_ ≠ (.slice Ao63 t365.length co63 : Value).ownBlock) ∧ some k_ ≠ (.slice Ao63 t365.length co63 : Value).ownBlock)) (n := t376.length) (c := co89) ?_).2.2; exact (by (with_reducible repeat (first | apply xRA | apply xRN | apply xRD)); exact (xO (xF (p := ⟨gb380, 1, none⟩) (xF (p := ⟨gb380, 0, none⟩) (Kd.R_types HO378.out BK380.out (by decide)) (fun _ hk => hk.2) (.int .i64 t375)) (fun _ hk => hk.2) (.slice Ao89 t376.length co89)) (fun _ h_ => h_.1)))); (case side4 => exact (Kd.R_reads' HO378.out).2.1); rintro e w90 ⟨v382, rfl, ho0, hb⟩; have HO383 := xM (Kd.R_lower (Kd.R_new' (Kd.R_new' (Kd.R_new' (Kd.R_new' ho0 (xL (by (with_reducible repeat (first | apply xRA | apply xRN | apply xRD)); exact (xO (xF (p := ⟨gb380, 1, none⟩) (xF (p := ⟨gb380, 0, none⟩) (Kd.R_types HO_14.out BK380.out (by decide)) (fun _ hk => hk.2) (.int .i64 t375)) (fun _ hk => hk.2) (.slice Ao89 t376.length co89)) (fun _ h_ => h_.1))))) (xL (by (with_reducible repeat (first | apply xRA | apply xRN | apply xRD)); exact (xO (xF (p := ⟨gb380, 1, none⟩) (xF (p := ⟨gb380, 0, none⟩) (Kd.R_types HO_16.out BK380.out (by decide)) (fun _ hk => hk.2) (.int .i64 t375)) (fun _ hk => hk.2) (.slice Ao89 t376.length co89)) (fun _ h_ => h_.1))))) (xL (by (with_reducible repeat (first | apply xRA | apply xRN | apply xRD)); exact (xO (xF (p := ⟨gb380, 1, none⟩) (xF (p := ⟨gb380, 0, none⟩) (Kd.R_types HO_147.out BK380.out (by decide)) (fun _ hk => hk.2) (.int .i64 t375)) (fun _ hk => hk.2) (.slice Ao89 t376.length co89)) (fun _ h_ => h_.1))))) (xL (by (with_reducible repeat (first | apply xRA | apply xRN | apply xRD)); exact (xO (xF (p := ⟨gb380, 1, none⟩) (xF (p := ⟨gb380, 0, none⟩) (Kd.R_types HO378.out BK380.out (by decide)) (fun _ hk => hk.2) (.int .i64 t375)) (fun _ hk => hk.2) (.slice Ao89 t376.length co89)) (fun _ h_ => h_.1))))) (below_size (yh HB))); replace HO_14 := xM (Kd.R_elder' (by (with_reducible repeat (first | apply xRA | apply xRN | apply xRD)); exact (xO (xF (p := ⟨gb380, 1, none⟩) (xF (p := ⟨gb380, 0, none⟩) (Kd.R_types HO_14.out BK380.out (by decide)) (fun _ hk => hk.2) (.int .i64 t375)) (fun _ hk => hk.2) (.slice Ao89 t376.length co89)) (fun _ h_ => h_.1))) (Kd.R_base ho0) hb); replace HO_16 := xM (Kd.R_elder' (by (with_reducible repeat (first | apply xRA | apply xRN | apply xRD)); exact (xO (xF (p := ⟨gb380, 1, none⟩) (xF (p := ⟨gb380, 0, none⟩) (Kd.R_types HO_16.out BK380.out (by decide)) (fun _ hk => hk.2) (.int .i64 t375)) (fun _ hk => hk.2) (.slice Ao89 t376.length co89)) (fun _ h_ => h_.1))) (Kd.R_base ho0) hb); replace HO_147 := xM (Kd.R_elder' (by (with_reducible repeat (first | apply xRA | apply xRN | apply xRD)); exact (xO (xF (p := ⟨gb380, 1, none⟩) (xF (p := ⟨gb380, 0, none⟩) (Kd.R_types HO_147.out BK380.out (by decide)) (fun _ hk => hk.2) (.int .i64 t375)) (fun _ hk => hk.2) (.slice Ao89 t376.length co89)) (fun _ h_ => h_.1))) (Kd.R_base ho0) hb); replace HO378 := xM (Kd.R_elder' (by (with_reducible repeat (first | apply xRA | apply xRN | apply xRD)); exact (xO (xF (p := ⟨gb380, 1, none⟩) (xF (p := ⟨gb380, 0, none⟩) (Kd.R_types HO378.out BK380.out (by decide)) (fun _ hk => hk.2) (.int .i64 t375)) (fun _ hk => hk.2) (.slice Ao89 t376.length co89)) (fun _ h_ => h_.1))) (Kd.R_base ho0) hb); replace BK380 := xM (xB (g := gb380) (o := .cells #[.int .i64 t375, .slice Ao89 t376.length co89] 33 (0, 0)) (by (with_reducible repeat (first | apply xbN | apply xbD | apply xbA)); refine blk_put (cs := #[.int .i64 t375, .slice none 0 0]) ?_ 1 _ rfl; (with_reducible repeat (first | apply xbN | apply xbD | apply xbA)); refine blk_put (cs := #[.int .i64 0, .slice none 0 0]) ?_ 0 _ rfl; (with_reducible repeat (first | apply xbN | apply xbD | apply xbA)); exact BK380.out) hb); replace HB := xM (below_step (yh HB) hb); (try clear hb); (try clear ho0)) | (go_at_call 48; (with_reducible refine (impl_GoodCounts.calls k4 _ _ t365 true _ ?side1 ?side2 A70.out).mono ?_); (case side1 => repeat (first | exact (Kd.R_reads' HO_16.out).2.2 | (with_reducible refine Kd.C_alloc ?_ _) | (with_reducible refine Kd.C_drewN ?_ _) | (with_reducible refine Kd.C_drew ?_))); (case side2 => exact (Kd.R_reads' HO_16.out).2.1); rintro e w' ⟨rfl, ⟨nd, rfl⟩⟩; (try first | exact ⟨rfl, _, World.drewN_drewN _ _ _⟩ | exact ⟨rfl, _, Eq.trans (World.drewN_drewN _ _ _) (congrArg (World.drewN _) (Nat.add_assoc _ _ _))⟩)))
                 repeat (go_quiet (first | (go_at_call 22; (with_reducible refine (impl_CodeSymbols.calls k4 _ _ t365 _ _ t361 t375 t376 false _ ?side1 ?side2 ?side3 ?side4 A68.out).mono ?_); (case side1 => repeat (first | exact (Kd.R_reads' HO_16.out).2.2 | (with_reducible refine Kd.C_alloc ?_ _) | (with_reducible refine Kd.C_drewN ?_ _) | (with_reducible refine Kd.C_drew ?_))); (case side2 => exact (Kd.R_reads' HO_16.out).2.1); (case side3 => repeat (first | exact (Kd.R_reads' HO_14.out).2.2 | (with_reducible refine Kd.C_alloc ?_ _) | (with_reducible refine Kd.C_drewN ?_ _) | (with_reducible refine Kd.C_drew ?_))); (case side4 => exact (Kd.R_reads' HO_14.out).2.1); rintro e w86 ⟨v377, rfl, ho0, hb⟩; have HO378 := xM (Kd.R_lower (Kd.R_new' (Kd.R_new' (Kd.R_new' ho0 (xL (yR HO_14))) (xL (yR HO_16))) (xL (yR HO_147))) (below_size (yh HB))); replace HO_14 := xM (Kd.R_elder' (yR HO_14) (Kd.R_base ho0) hb); replace HO_16 := xM (Kd.R_elder' (yR HO_16) (Kd.R_base ho0) hb); replace HO_147 := xM (Kd.R_elder' (yR HO_147) (Kd.R_base ho0) hb); replace HB := xM (below_step (yh HB) hb); (try clear hb); (try clear ho0)) | ((with_reducible refine gate_dst (N := 22) rfl ?_); (try (refine gate_guard (by rfl) ?_; dsimp only)); refine box_event ?hg (N := 22) ?hd (cs := #[.int .i64 0, .slice none 0 0]) (t := 33) ?hr ?_; (case hd => rfl); (case hg => rfl); (case hr => first | (go_simp; done) | (go_simp; rfl)); intro gb380 hg w87 hbox hb; have BK380 := xM (hbox); have GW380 := xM ((by rw [hg]; exact (below_size (yh HB)) : w.heap.size ≤ gb380)); have GE380 := xM ((by rw [hg]; exact (below_size (yh HB)) : w.heap.size ≤ gb380)); replace HO_14 := xM (xW (yR HO_14) hb); replace HO_16 := xM (xW (yR HO_16) hb); replace HO_147 := xM (xW (yR HO_147) hb); replace HO378 := xM (xW (yR HO378) hb); replace HB := xM (below_step (yh HB) hb); clear hb hbox hg; have hcz88_0 : w87.cell? ⟨gb380, 0, none⟩ = some (.int .i64 0) := (blk_cell BK380.out 0).trans rfl; have hcz88_1 : w87.cell? ⟨gb380, 1, none⟩ = some (.slice none 0 0) := (blk_cell BK380.out 1).trans rfl; have hfz88_0 := blk_frozen BK380.out 0; have hfz88_1 := blk_frozen BK380.out 1; obtain ⟨Ao89, co89, eo89⟩ := Kd.R_slice HO378.out; subst eo89) | (go_at_call 36; (with_reducible refine (impl_DecodeSymbols.calls k4 _ _ t365 t375 _ _ t376 (t361.length : Int) t381 t384 _ ?side1 ?side2 ?side3 ?side4 A69.out).mono ?_); (case side1 => refine (Kd.R_reads' (e := 3) (base := w.heap.size) (ok := fun k_ => (some k_ ≠ (.slice Ao54 t361.length co54 : Value).ownBlock ∧ some k_ ≠ (.slice Ao89 t376.length co89 : Value).ownBlock)) (n := t365.length) (c := co63) ?_).2.2; exact (by (with_reducible repeat (first | apply xRA | apply xRN | apply xRD)); exact (xO (xF (p := ⟨gb380, 1, none⟩) (xF (p := ⟨gb380, 0, none⟩) (Kd.R_types HO_16.out BK380.out (by decide)) (fun _ hk => hk.2) (.int .i64 t375)) (fun _ hk => hk.2) (.slice Ao89 t376.length co89)) (fun _ h_ => h_.1)))); (case side2 => exact (Kd.R_reads' HO_16.out).2.1); (case side3 => refine (Kd.R_reads' (e := 3) (base := w.heap.size) (ok := fun k_ => (((True ∧ some k_ ≠ (.slice Ao54 t361.length co54 : Value).ownBlock) ∧ some k_ ≠ (.slice Ao63 t365.length co63 : Value).ownBlock) ∧ some k_ ≠ (.slice Ao63 t365.length co63 : Value).ownBlock)) (n := t376.length) (c := co89) ?_).2.2; exact (by (with_reducible repeat (first | apply xRA | apply xRN | apply xRD)); exact (xO (xF (p := ⟨gb380, 1, none⟩) (xF (p := ⟨gb380, 0, none⟩) (Kd.R_types HO378.out BK380.out (by decide)) (fun _ hk => hk.2) (.int .i64 t375)) (fun _ hk => hk.2) (.slice Ao89 t376.length co89)) (fun _ h_ => h_.1)))); (case side4 => exact (Kd.R_reads' HO378.out).2.1); rintro e w90 ⟨v382, rfl, ho0, hb⟩; have HO383 := xM (Kd.R_lower (Kd.R_new' (Kd.R_new' (Kd.R_new' (Kd.R_new' ho0 (xL (by (with_reducible repeat (first | apply xRA | apply xRN | apply xRD)); exact (xO (xF (p := ⟨gb380, 1, none⟩) (xF (p := ⟨gb380, 0, none⟩) (Kd.R_types HO_14.out BK380.out (by decide)) (fun _ hk => hk.2) (.int .i64 t375)) (fun _ hk => hk.2) (.slice Ao89 t376.length co89)) (fun _ h_ => h_.1))))) (xL (by (with_reducible repeat (first | apply xRA | apply xRN | apply xRD)); exact (xO (xF (p := ⟨gb380, 1, none⟩) (xF (p := ⟨gb380, 0, none⟩) (Kd.R_types HO_16.out BK380.out (by decide)) (fun _ hk => hk.2) (.int .i64 t375)) (fun _ hk => hk.2) (.slice Ao89 t376.length co89)) (fun _ h_ => h_.1))))) (xL (by (with_reducible repeat (first | apply xRA | apply xRN | apply xRD)); exact (xO (xF (p := ⟨gb380, 1, none⟩) (xF (p := ⟨gb380, 0, none⟩) (Kd.R_types HO_147.out BK380.out (by decide)) (fun _ hk => hk.2) (.int .i64 t375)) (fun _ hk => hk.2) (.slice Ao89 t376.length co89)) (fun _ h_ => h_.1))))) (xL (by (with_reducible repeat (first | apply xRA | apply xRN | apply xRD)); exact (xO (xF (p := ⟨gb380, 1, none⟩) (xF (p := ⟨gb380, 0, none⟩) (Kd.R_types HO378.out BK380.out (by decide)) (fun _ hk => hk.2) (.int .i64 t375)) (fun _ hk => hk.2) (.slice Ao89 t376.length co89)) (fun _ h_ => h_.1))))) (below_size (yh HB))); replace HO_14 := xM (Kd.R_elder' (by (with_reducible repeat (first | apply xRA | apply xRN | apply xRD)); exact (xO (xF (p := ⟨gb380, 1, none⟩) (xF (p := ⟨gb380, 0, none⟩) (Kd.R_types HO_14.out BK380.out (by decide)) (fun _ hk => hk.2) (.int .i64 t375)) (fun _ hk => hk.2) (.slice Ao89 t376.length co89)) (fun _ h_ => h_.1))) (Kd.R_base ho0) hb); replace HO_16 := xM (Kd.R_elder' (by (with_reducible repeat (first | apply xRA | apply xRN | apply xRD)); exact (xO (xF (p := ⟨gb380, 1, none⟩) (xF (p := ⟨gb380, 0, none⟩) (Kd.R_types HO_16.out BK380.out (by decide)) (fun _ hk => hk.2) (.int .i64 t375)) (fun _ hk => hk.2) (.slice Ao89 t376.length co89)) (fun _ h_ => h_.1))) (Kd.R_base ho0) hb); replace HO_147 := xM (Kd.R_elder' (by (with_reducible repeat (first | apply xRA | apply xRN | apply xRD)); exact (xO (xF (p := ⟨gb380, 1, none⟩) (xF (p := ⟨gb380, 0, none⟩) (Kd.R_types HO_147.out BK380.out (by decide)) (fun _ hk => hk.2) (.int .i64 t375)) (fun _ hk => hk.2) (.slice Ao89 t376.length co89)) (fun _ h_ => h_.1))) (Kd.R_base ho0) hb); replace HO378 := xM (Kd.R_elder' (by (with_reducible repeat (first | apply xRA | apply xRN | apply xRD)); exact (xO (xF (p := ⟨gb380, 1, none⟩) (xF (p := ⟨gb380, 0, none⟩) (Kd.R_types HO378.out BK380.out (by decide)) (fun _ hk => hk.2) (.int .i64 t375)) (fun _ hk => hk.2) (.slice Ao89 t376.length co89)) (fun _ h_ => h_.1))) (Kd.R_base ho0) hb); replace BK380 := xM (xB (g := gb380) (o := .cells #[.int .i64 t375, .slice Ao89 t376.length co89] 33 (0, 0)) (by (with_reducible repeat (first | apply xbN | apply xbD | apply xbA)); refine blk_put (cs := #[.int .i64 t375, .slice none 0 0]) ?_ 1 _ rfl; (with_reducible repeat (first | apply xbN | apply xbD | apply xbA)); refine blk_put (cs := #[.int .i64 0, .slice none 0 0]) ?_ 0 _ rfl; (with_reducible repeat (first | apply xbN | apply xbD | apply xbA)); exact BK380.out) hb); replace HB := xM (below_step (yh HB) hb); (try clear hb); (try clear ho0)) | (go_at_call 48; (with_reducible refine (impl_GoodCounts.calls k4 _ _ t365 true _ ?side1 ?side2 A70.out).mono ?_); (case side1 => repeat (first | exact (Kd.R_reads' HO_16.out).2.2 | (with_reducible refine Kd.C_alloc ?_ _) | (with_reducible refine Kd.C_drewN ?_ _) | (with_reducible refine Kd.C_drew ?_))); (case side2 => exact (Kd.R_reads' HO_16.out).2.1); rintro e w' ⟨rfl, ⟨nd, rfl⟩⟩; (try first | exact ⟨rfl, _, World.drewN_drewN _ _ _⟩ | exact ⟨rfl, _, Eq.trans (World.drewN_drewN _ _ _) (congrArg (World.drewN _) (Nat.add_assoc _ _ _))⟩))); try go_wp2_with (first | (go_at_call 22; (with_reducible refine (impl_CodeSymbols.calls k4 _ _ t365 _ _ t361 t375 t376 false _ ?side1 ?side2 ?side3 ?side4 A68.out).mono ?_); (case side1 => repeat (first | exact (Kd.R_reads' HO_16.out).2.2 | (with_reducible refine Kd.C_alloc ?_ _) | (with_reducible refine Kd.C_drewN ?_ _) | (with_reducible refine Kd.C_drew ?_))); (case side2 => exact (Kd.R_reads' HO_16.out).2.1); (case side3 => repeat (first | exact (Kd.R_reads' HO_14.out).2.2 | (with_reducible refine Kd.C_alloc ?_ _) | (with_reducible refine Kd.C_drewN ?_ _) | (with_reducible refine Kd.C_drew ?_))); (case side4 => exact (Kd.R_reads' HO_14.out).2.1); rintro e w86 ⟨v377, rfl, ho0, hb⟩; have HO378 := xM (Kd.R_lower (Kd.R_new' (Kd.R_new' (Kd.R_new' ho0 (xL (yR HO_14))) (xL (yR HO_16))) (xL (yR HO_147))) (below_size (yh HB))); replace HO_14 := xM (Kd.R_elder' (yR HO_14) (Kd.R_base ho0) hb); replace HO_16 := xM (Kd.R_elder' (yR HO_16) (Kd.R_base ho0) hb); replace HO_147 := xM (Kd.R_elder' (yR HO_147) (Kd.R_base ho0) hb); replace HB := xM (below_step (yh HB) hb); (try clear hb); (try clear ho0)) | ((with_reducible refine gate_dst (N := 22) rfl ?_); (try (refine gate_guard (by rfl) ?_; dsimp only)); refine box_event ?hg (N := 22) ?hd (cs := #[.int .i64 0, .slice none 0 0]) (t := 33) ?hr ?_; (case hd => rfl); (case hg => rfl); (case hr => first | (go_simp; done) | (go_simp; rfl)); intro gb380 hg w87 hbox hb; have BK380 := xM (hbox); have GW380 := xM ((by rw [hg]; exact (below_size (yh HB)) : w.heap.size ≤ gb380)); have GE380 := xM ((by rw [hg]; exact (below_size (yh HB)) : w.heap.size ≤ gb380)); replace HO_14 := xM (xW (yR HO_14) hb); replace HO_16 := xM (xW (yR HO_16) hb); replace HO_147 := xM (xW (yR HO_147) hb); replace HO378 := xM (xW (yR HO378) hb); replace HB := xM (below_step (yh HB) hb); clear hb hbox hg; have hcz88_0 : w87.cell? ⟨gb380, 0, none⟩ = some (.int .i64 0) := (blk_cell BK380.out 0).trans rfl; have hcz88_1 : w87.cell? ⟨gb380, 1, none⟩ = some (.slice none 0 0) := (blk_cell BK380.out 1).trans rfl; have hfz88_0 := blk_frozen BK380.out 0; have hfz88_1 := blk_frozen BK380.out 1; obtain ⟨Ao89, co89, eo89⟩ := Kd.R_slice HO378.out; subst eo89) | (go_at_call 36; (with_reducible refine (impl_DecodeSymbols.calls k4 _ _ t365 t375 _ _ t376 (t361.length : Int) t381 t384 _ ?side1 ?side2 ?side3 ?side4 A69.out).mono ?_); (case side1 => refine (Kd.R_reads' (e := 3) (base := w.heap.size) (ok := fun k_ => (some k_ ≠ (.slice Ao54 t361.length co54 : Value).ownBlock ∧ some k_ ≠ (.slice Ao89 t376.length co89 : Value).ownBlock)) (n := t365.length) (c := co63) ?_).2.2; exact (by (with_reducible repeat (first | apply xRA | apply xRN | apply xRD)); exact (xO (xF (p := ⟨gb380, 1, none⟩) (xF (p := ⟨gb380, 0, none⟩) (Kd.R_types HO_16.out BK380.out (by decide)) (fun _ hk => hk.2) (.int .i64 t375)) (fun _ hk => hk.2) (.slice Ao89 t376.length co89)) (fun _ h_ => h_.1)))); (case side2 => exact (Kd.R_reads' HO_16.out).2.1); (case side3 => refine (Kd.R_reads' (e := 3) (base := w.heap.size) (ok := fun k_ => (((True ∧ some k_ ≠ (.slice Ao54 t361.length co54 : Value).ownBlock) ∧ some k_ ≠ (.slice Ao63 t365.length co63 : Value).ownBlock) ∧ some k_ ≠ (.slice Ao63 t365.length co63 : Value).ownBlock)) (n := t376.length) (c := co89) ?_).2.2; exact (by (with_reducible repeat (first | apply xRA | apply xRN | apply xRD)); exact (xO (xF (p := ⟨gb380, 1, none⟩) (xF (p := ⟨gb380, 0, none⟩) (Kd.R_types HO378.out BK380.out (by decide)) (fun _ hk => hk.2) (.int .i64 t375)) (fun _ hk => hk.2) (.slice Ao89 t376.length co89)) (fun _ h_ => h_.1)))); (case side4 => exact (Kd.R_reads' HO378.out).2.1); rintro e w90 ⟨v382, rfl, ho0, hb⟩; have HO383 := xM (Kd.R_lower (Kd.R_new' (Kd.R_new' (Kd.R_new' (Kd.R_new' ho0 (xL (by (with_reducible repeat (first | apply xRA | apply xRN | apply xRD)); exact (xO (xF (p := ⟨gb380, 1, none⟩) (xF (p := ⟨gb380, 0, none⟩) (Kd.R_types HO_14.out BK380.out (by decide)) (fun _ hk => hk.2) (.int .i64 t375)) (fun _ hk => hk.2) (.slice Ao89 t376.length co89)) (fun _ h_ => h_.1))))) (xL (by (with_reducible repeat (first | apply xRA | apply xRN | apply xRD)); exact (xO (xF (p := ⟨gb380, 1, none⟩) (xF (p := ⟨gb380, 0, none⟩) (Kd.R_types HO_16.out BK380.out (by decide)) (fun _ hk => hk.2) (.int .i64 t375)) (fun _ hk => hk.2) (.slice Ao89 t376.length co89)) (fun _ h_ => h_.1))))) (xL (by (with_reducible repeat (first | apply xRA | apply xRN | apply xRD)); exact (xO (xF (p := ⟨gb380, 1, none⟩) (xF (p := ⟨gb380, 0, none⟩) (Kd.R_types HO_147.out BK380.out (by decide)) (fun _ hk => hk.2) (.int .i64 t375)) (fun _ hk => hk.2) (.slice Ao89 t376.length co89)) (fun _ h_ => h_.1))))) (xL (by (with_reducible repeat (first | apply xRA | apply xRN | apply xRD)); exact (xO (xF (p := ⟨gb380, 1, none⟩) (xF (p := ⟨gb380, 0, none⟩) (Kd.R_types HO378.out BK380.out (by decide)) (fun _ hk => hk.2) (.int .i64 t375)) (fun _ hk => hk.2) (.slice Ao89 t376.length co89)) (fun _ h_ => h_.1))))) (below_size (yh HB))); replace HO_14 := xM (Kd.R_elder' (by (with_reducible repeat (first | apply xRA | apply xRN | apply xRD)); exact (xO (xF (p := ⟨gb380, 1, none⟩) (xF (p := ⟨gb380, 0, none⟩) (Kd.R_types HO_14.out BK380.out (by decide)) (fun _ hk => hk.2) (.int .i64 t375)) (fun _ hk => hk.2) (.slice Ao89 t376.length co89)) (fun _ h_ => h_.1))) (Kd.R_base ho0) hb); replace HO_16 := xM (Kd.R_elder' (by (with_reducible repeat (first | apply xRA | apply xRN | apply xRD)); exact (xO (xF (p := ⟨gb380, 1, none⟩) (xF (p := ⟨gb380, 0, none⟩) (Kd.R_types HO_16.out BK380.out (by decide)) (fun _ hk => hk.2) (.int .i64 t375)) (fun _ hk => hk.2) (.slice Ao89 t376.length co89)) (fun _ h_ => h_.1))) (Kd.R_base ho0) hb); replace HO_147 := xM (Kd.R_elder' (by (with_reducible repeat (first | apply xRA | apply xRN | apply xRD)); exact (xO (xF (p := ⟨gb380, 1, none⟩) (xF (p := ⟨gb380, 0, none⟩) (Kd.R_types HO_147.out BK380.out (by decide)) (fun _ hk => hk.2) (.int .i64 t375)) (fun _ hk => hk.2) (.slice Ao89 t376.length co89)) (fun _ h_ => h_.1))) (Kd.R_base ho0) hb); replace HO378 := xM (Kd.R_elder' (by (with_reducible repeat (first | apply xRA | apply xRN | apply xRD)); exact (xO (xF (p := ⟨gb380, 1, none⟩) (xF (p := ⟨gb380, 0, none⟩) (Kd.R_types HO378.out BK380.out (by decide)) (fun _ hk => hk.2) (.int .i64 t375)) (fun _ hk => hk.2) (.slice Ao89 t376.length co89)) (fun _ h_ => h_.1))) (Kd.R_base ho0) hb); replace BK380 := xM (xB (g := gb380) (o := .cells #[.int .i64 t375, .slice Ao89 t376.length co89] 33 (0, 0)) (by (with_reducible repeat (first | apply xbN | apply xbD | apply xbA)); refine blk_put (cs := #[.int .i64 t375, .slice none 0 0]) ?_ 1 _ rfl; (with_reducible repeat (first | apply xbN | apply xbD | apply xbA)); refine blk_put (cs := #[.int .i64 0, .slice none 0 0]) ?_ 0 _ rfl; (with_reducible repeat (first | apply xbN | apply xbD | apply xbA)); exact BK380.out) hb); replace HB := xM (below_step (yh HB) hb); (try clear hb); (try clear ho0)) | (go_at_call 48; (with_reducible refine (impl_GoodCounts.calls k4 _ _ t365 true _ ?side1 ?side2 A70.out).mono ?_); (case side1 => repeat (first | exact (Kd.R_reads' HO_16.out).2.2 | (with_reducible refine Kd.C_alloc ?_ _) | (with_reducible refine Kd.C_drewN ?_ _) | (with_reducible refine Kd.C_drew ?_))); (case side2 => exact (Kd.R_reads' HO_16.out).2.1); rintro e w' ⟨rfl, ⟨nd, rfl⟩⟩; (try first | exact ⟨rfl, _, World.drewN_drewN _ _ _⟩ | exact ⟨rfl, _, Eq.trans (World.drewN_drewN _ _ _) (congrArg (World.drewN _) (Nat.add_assoc _ _ _))⟩))))
                 go_ret
                 exact ⟨by first | rfl | (simp [errW_none, errW_some] <;> rfl) | (simp [*, errW_none, errW_some] <;> rfl), by repeat (first | (with_reducible first | exact HB.out | apply xa | apply xn | apply xd | refine xs ?_ GE380.out) | exact HB.out)⟩
               ·replace c71 := Bool.eq_false_iff.mpr c71
                subst c71
                have H1 : (some false) = some r := by rw [if_neg (show ¬ (false = true) by decide)] at H; exact H
                clear H
                have H := H1
                clear H1
                obtain rfl := Option.some.inj H
                go_wp2_with (first | (go_at_call 22; (with_reducible refine (impl_CodeSymbols.calls k4 _ _ t365 _ _ t361 t375 t376 t379 _ ?side1 ?side2 ?side3 ?side4 A68.out).mono ?_); (case side1 => repeat (first | exact (Kd.R_reads' HO_16.out).2.2 | (with_reducible refine Kd.C_alloc ?_ _) | (with_reducible refine Kd.C_drewN ?_ _) | (with_reducible refine Kd.C_drew ?_))); (case side2 => exact (Kd.R_reads' HO_16.out).2.1); (case side3 => repeat (first | exact (Kd.R_reads' HO_14.out).2.2 | (with_reducible refine Kd.C_alloc ?_ _) | (with_reducible refine Kd.C_drewN ?_ _) | (with_reducible refine Kd.C_drew ?_))); (case side4 => exact (Kd.R_reads' HO_14.out).2.1); rintro e w91 ⟨v377, rfl, ho0, hb⟩; have HO378 := xM (Kd.R_lower (Kd.R_new' (Kd.R_new' (Kd.R_new' ho0 (xL (yR HO_14))) (xL (yR HO_16))) (xL (yR HO_147))) (below_size (yh HB))); replace HO_14 := xM (Kd.R_elder' (yR HO_14) (Kd.R_base ho0) hb); replace HO_16 := xM (Kd.R_elder' (yR HO_16) (Kd.R_base ho0) hb); replace HO_147 := xM (Kd.R_elder' (yR HO_147) (Kd.R_base ho0) hb); replace HB := xM (below_step (yh HB) hb); (try clear hb); (try clear ho0)) | ((with_reducible refine gate_dst (N := 22) rfl ?_); (try (refine gate_guard (by rfl) ?_; dsimp only)); refine box_event ?hg (N := 22) ?hd (cs := #[.int .i64 0, .slice none 0 0]) (t := 33) ?hr ?_; (case hd => rfl); (case hg => rfl); (case hr => first | (go_simp; done) | (go_simp; rfl)); intro gb380 hg w92 hbox hb; have BK380 := xM (hbox); have GW380 := xM ((by rw [hg]; exact (below_size (yh HB)) : w.heap.size ≤ gb380)); have GE380 := xM ((by rw [hg]; exact (below_size (yh HB)) : w.heap.size ≤ gb380)); replace HO_14 := xM (xW (yR HO_14) hb); replace HO_16 := xM (xW (yR HO_16) hb); replace HO_147 := xM (xW (yR HO_147) hb); replace HO378 := xM (xW (yR HO378) hb); replace HB := xM (below_step (yh HB) hb); clear hb hbox hg; have hcz93_0 : w92.cell? ⟨gb380, 0, none⟩ = some (.int .i64 0) := (blk_cell BK380.out 0).trans rfl; have hcz93_1 : w92.cell? ⟨gb380, 1, none⟩ = some (.slice none 0 0) := (blk_cell BK380.out 1).trans rfl; have hfz93_0 := blk_frozen BK380.out 0; have hfz93_1 := blk_frozen BK380.out 1; obtain ⟨Ao94, co94, eo94⟩ := Kd.R_slice HO378.out; subst eo94) | (go_at_call 36; (with_reducible refine (impl_DecodeSymbols.calls k4 _ _ t365 t375 _ _ t376 (t361.length : Int) t381 t384 _ ?side1 ?side2 ?side3 ?side4 A69.out).mono ?_); (case side1 => refine (Kd.R_reads' (e := 3) (base := w.heap.size) (ok := fun k_ => (some k_ ≠ (.slice Ao54 t361.length co54 : Value).ownBlock ∧ some k_ ≠ (.slice Ao94 t376.length co94 : Value).ownBlock)) (n := t365.length) (c := co63) ?_).2.2; exact (by (with_reducible repeat (first | apply xRA | apply xRN | apply xRD)); exact (xO (xF (p := ⟨gb380, 1, none⟩) (xF (p := ⟨gb380, 0, none⟩) (Kd.R_types HO_16.out BK380.out (by decide)) (fun _ hk => hk.2) (.int .i64 t375)) (fun _ hk => hk.2) (.slice Ao94 t376.length co94)) (fun _ h_ => h_.1)))); (case side2 => exact (Kd.R_reads' HO_16.out).2.1); (case side3 => refine (Kd.R_reads' (e := 3) (base := w.heap.size) (ok := fun k_ => (((True ∧ some k_ ≠ (.slice Ao54 t361.length co54 : Value).ownBlock) ∧ some k_ ≠ (.slice Ao63 t365.length co63 : Value).ownBlock) ∧ some k_ ≠ (.slice Ao63 t365.length co63 : Value).ownBlock)) (n := t376.length) (c := co94) ?_).2.2; exact (by (with_reducible repeat (first | apply xRA | apply xRN | apply xRD)); exact (xO (xF (p := ⟨gb380, 1, none⟩) (xF (p := ⟨gb380, 0, none⟩) (Kd.R_types HO378.out BK380.out (by decide)) (fun _ hk => hk.2) (.int .i64 t375)) (fun _ hk => hk.2) (.slice Ao94 t376.length co94)) (fun _ h_ => h_.1)))); (case side4 => exact (Kd.R_reads' HO378.out).2.1); rintro e w95 ⟨v382, rfl, ho0, hb⟩; have HO383 := xM (Kd.R_lower (Kd.R_new' (Kd.R_new' (Kd.R_new' (Kd.R_new' ho0 (xL (by (with_reducible repeat (first | apply xRA | apply xRN | apply xRD)); exact (xO (xF (p := ⟨gb380, 1, none⟩) (xF (p := ⟨gb380, 0, none⟩) (Kd.R_types HO_14.out BK380.out (by decide)) (fun _ hk => hk.2) (.int .i64 t375)) (fun _ hk => hk.2) (.slice Ao94 t376.length co94)) (fun _ h_ => h_.1))))) (xL (by (with_reducible repeat (first | apply xRA | apply xRN | apply xRD)); exact (xO (xF (p := ⟨gb380, 1, none⟩) (xF (p := ⟨gb380, 0, none⟩) (Kd.R_types HO_16.out BK380.out (by decide)) (fun _ hk => hk.2) (.int .i64 t375)) (fun _ hk => hk.2) (.slice Ao94 t376.length co94)) (fun _ h_ => h_.1))))) (xL (by (with_reducible repeat (first | apply xRA | apply xRN | apply xRD)); exact (xO (xF (p := ⟨gb380, 1, none⟩) (xF (p := ⟨gb380, 0, none⟩) (Kd.R_types HO_147.out BK380.out (by decide)) (fun _ hk => hk.2) (.int .i64 t375)) (fun _ hk => hk.2) (.slice Ao94 t376.length co94)) (fun _ h_ => h_.1))))) (xL (by (with_reducible repeat (first | apply xRA | apply xRN | apply xRD)); exact (xO (xF (p := ⟨gb380, 1, none⟩) (xF (p := ⟨gb380, 0, none⟩) (Kd.R_types HO378.out BK380.out (by decide)) (fun _ hk => hk.2) (.int .i64 t375)) (fun _ hk => hk.2) (.slice Ao94 t376.length co94)) (fun _ h_ => h_.1))))) (below_size (yh HB))); replace HO_14 := xM (Kd.R_elder' (by (with_reducible repeat (first | apply xRA | apply xRN | apply xRD)); exact (xO (xF (p := ⟨gb380, 1, none⟩) (xF (p := ⟨gb380, 0, none⟩) (Kd.R_types HO_14.out BK380.out (by decide)) (fun _ hk => hk.2) (.int .i64 t375)) (fun _ hk => hk.2) (.slice Ao94 t376.length co94)) (fun _ h_ => h_.1))) (Kd.R_base ho0) hb); replace HO_16 := xM (Kd.R_elder' (by (with_reducible repeat (first | apply xRA | apply xRN | apply xRD)); exact (xO (xF (p := ⟨gb380, 1, none⟩) (xF (p := ⟨gb380, 0, none⟩) (Kd.R_types HO_16.out BK380.out (by decide)) (fun _ hk => hk.2) (.int .i64 t375)) (fun _ hk => hk.2) (.slice Ao94 t376.length co94)) (fun _ h_ => h_.1))) (Kd.R_base ho0) hb); replace HO_147 := xM (Kd.R_elder' (by (with_reducible repeat (first | apply xRA | apply xRN | apply xRD)); exact (xO (xF (p := ⟨gb380, 1, none⟩) (xF (p := ⟨gb380, 0, none⟩) (Kd.R_types HO_147.out BK380.out (by decide)) (fun _ hk => hk.2) (.int .i64 t375)) (fun _ hk => hk.2) (.slice Ao94 t376.length co94)) (fun _ h_ => h_.1))) (Kd.R_base ho0) hb); replace HO378 := xM (Kd.R_elder' (by (with_reducible repeat (first | apply xRA | apply xRN | apply xRD)); exact (xO (xF (p := ⟨gb380, 1, none⟩) (xF (p := ⟨gb380, 0, none⟩) (Kd.R_types HO378.out BK380.out (by decide)) (fun _ hk => hk.2) (.int .i64 t375)) (fun _ hk => hk.2) (.slice Ao94 t376.length co94)) (fun _ h_ => h_.1))) (Kd.R_base ho0) hb); replace BK380 := xM (xB (g := gb380) (o := .cells #[.int .i64 t375, .slice Ao94 t376.length co94] 33 (0, 0)) (by (with_reducible repeat (first | apply xbN | apply xbD | apply xbA)); refine blk_put (cs := #[.int .i64 t375, .slice none 0 0]) ?_ 1 _ rfl; (with_reducible repeat (first | apply xbN | apply xbD | apply xbA)); refine blk_put (cs := #[.int .i64 0, .slice none 0 0]) ?_ 0 _ rfl; (with_reducible repeat (first | apply xbN | apply xbD | apply xbA)); exact BK380.out) hb); replace HB := xM (below_step (yh HB) hb); (try clear hb); (try clear ho0)) | (go_at_call 48; (with_reducible refine (impl_GoodCounts.calls k4 _ _ t365 false _ ?side1 ?side2 A70.out).mono ?_); (case side1 => repeat (first | exact (Kd.R_reads' HO_16.out).2.2 | (with_reducible refine Kd.C_alloc ?_ _) | (with_reducible refine Kd.C_drewN ?_ _) | (with_reducible refine Kd.C_drew ?_))); (case side2 => exact (Kd.R_reads' HO_16.out).2.1); rintro e w' ⟨rfl, ⟨nd, rfl⟩⟩; (try first | exact ⟨rfl, _, World.drewN_drewN _ _ _⟩ | exact ⟨rfl, _, Eq.trans (World.drewN_drewN _ _ _) (congrArg (World.drewN _) (Nat.add_assoc _ _ _))⟩)))
                repeat (go_quiet (first | (go_at_call 22; (with_reducible refine (impl_CodeSymbols.calls k4 _ _ t365 _ _ t361 t375 t376 t379 _ ?side1 ?side2 ?side3 ?side4 A68.out).mono ?_); (case side1 => repeat (first | exact (Kd.R_reads' HO_16.out).2.2 | (with_reducible refine Kd.C_alloc ?_ _) | (with_reducible refine Kd.C_drewN ?_ _) | (with_reducible refine Kd.C_drew ?_))); (case side2 => exact (Kd.R_reads' HO_16.out).2.1); (case side3 => repeat (first | exact (Kd.R_reads' HO_14.out).2.2 | (with_reducible refine Kd.C_alloc ?_ _) | (with_reducible refine Kd.C_drewN ?_ _) | (with_reducible refine Kd.C_drew ?_))); (case side4 => exact (Kd.R_reads' HO_14.out).2.1); rintro e w91 ⟨v377, rfl, ho0, hb⟩; have HO378 := xM (Kd.R_lower (Kd.R_new' (Kd.R_new' (Kd.R_new' ho0 (xL (yR HO_14))) (xL (yR HO_16))) (xL (yR HO_147))) (below_size (yh HB))); replace HO_14 := xM (Kd.R_elder' (yR HO_14) (Kd.R_base ho0) hb); replace HO_16 := xM (Kd.R_elder' (yR HO_16) (Kd.R_base ho0) hb); replace HO_147 := xM (Kd.R_elder' (yR HO_147) (Kd.R_base ho0) hb); replace HB := xM (below_step (yh HB) hb); (try clear hb); (try clear ho0)) | ((with_reducible refine gate_dst (N := 22) rfl ?_); (try (refine gate_guard (by rfl) ?_; dsimp only)); refine box_event ?hg (N := 22) ?hd (cs := #[.int .i64 0, .slice none 0 0]) (t := 33) ?hr ?_; (case hd => rfl); (case hg => rfl); (case hr => first | (go_simp; done) | (go_simp; rfl)); intro gb380 hg w92 hbox hb; have BK380 := xM (hbox); have GW380 := xM ((by rw [hg]; exact (below_size (yh HB)) : w.heap.size ≤ gb380)); have GE380 := xM ((by rw [hg]; exact (below_size (yh HB)) : w.heap.size ≤ gb380)); replace HO_14 := xM (xW (yR HO_14) hb); replace HO_16 := xM (xW (yR HO_16) hb); replace HO_147 := xM (xW (yR HO_147) hb); replace HO378 := xM (xW (yR HO378) hb); replace HB := xM (below_step (yh HB) hb); clear hb hbox hg; have hcz93_0 : w92.cell? ⟨gb380, 0, none⟩ = some (.int .i64 0) := (blk_cell BK380.out 0).trans rfl; have hcz93_1 : w92.cell? ⟨gb380, 1, none⟩ = some (.slice none 0 0) := (blk_cell BK380.out 1).trans rfl; have hfz93_0 := blk_frozen BK380.out 0; have hfz93_1 := blk_frozen BK380.out 1; obtain ⟨Ao94, co94, eo94⟩ := Kd.R_slice HO378.out; subst eo94) | (go_at_call 36; (with_reducible refine (impl_DecodeSymbols.calls k4 _ _ t365 t375 _ _ t376 (t361.length : Int) t381 t384 _ ?side1 ?side2 ?side3 ?side4 A69.out).mono ?_); (case side1 => refine (Kd.R_reads' (e := 3) (base := w.heap.size) (ok := fun k_ => (some k_ ≠ (.slice Ao54 t361.length co54 : Value).ownBlock ∧ some k_ ≠ (.slice Ao94 t376.length co94 : Value).ownBlock)) (n := t365.length) (c := co63) ?_).2.2; exact (by (with_reducible repeat (first | apply xRA | apply xRN | apply xRD)); exact (xO (xF (p := ⟨gb380, 1, none⟩) (xF (p := ⟨gb380, 0, none⟩) (Kd.R_types HO_16.out BK380.out (by decide)) (fun _ hk => hk.2) (.int .i64 t375)) (fun _ hk => hk.2) (.slice Ao94 t376.length co94)) (fun _ h_ => h_.1)))); (case side2 => exact (Kd.R_reads' HO_16.out).2.1); (case side3 => refine (Kd.R_reads' (e := 3) (base := w.heap.size) (ok := fun k_ => (((True ∧ some k_ ≠ (.slice Ao54 t361.length co54 : Value).ownBlock) ∧ some k_ ≠ (.slice Ao63 t365.length co63 : Value).ownBlock) ∧ some k_ ≠ (.slice Ao63 t365.length co63 : Value).ownBlock)) (n := t376.length) (c := co94) ?_).2.2; exact (by (with_reducible repeat (first | apply xRA | apply xRN | apply xRD)); exact (xO (xF (p := ⟨gb380, 1, none⟩) (xF (p := ⟨gb380, 0, none⟩) (Kd.R_types HO378.out BK380.out (by decide)) (fun _ hk => hk.2) (.int .i64 t375)) (fun _ hk => hk.2) (.slice Ao94 t376.length co94)) (fun _ h_ => h_.1)))); (case side4 => exact (Kd.R_reads' HO378.out).2.1); rintro e w95 ⟨v382, rfl, ho0, hb⟩; have HO383 := xM (Kd.R_lower (Kd.R_new' (Kd.R_new' (Kd.R_new' (Kd.R_new' ho0 (xL (by (with_reducible repeat (first | apply xRA | apply xRN | apply xRD)); exact (xO (xF (p := ⟨gb380, 1, none⟩) (xF (p := ⟨gb380, 0, none⟩) (Kd.R_types HO_14.out BK380.out (by decide)) (fun _ hk => hk.2) (.int .i64 t375)) (fun _ hk => hk.2) (.slice Ao94 t376.length co94)) (fun _ h_ => h_.1))))) (xL (by (with_reducible repeat (first | apply xRA | apply xRN | apply xRD)); exact (xO (xF (p := ⟨gb380, 1, none⟩) (xF (p := ⟨gb380, 0, none⟩) (Kd.R_types HO_16.out BK380.out (by decide)) (fun _ hk => hk.2) (.int .i64 t375)) (fun _ hk => hk.2) (.slice Ao94 t376.length co94)) (fun _ h_ => h_.1))))) (xL (by (with_reducible repeat (first | apply xRA | apply xRN | apply xRD)); exact (xO (xF (p := ⟨gb380, 1, none⟩) (xF (p := ⟨gb380, 0, none⟩) (Kd.R_types HO_147.out BK380.out (by decide)) (fun _ hk => hk.2) (.int .i64 t375)) (fun _ hk => hk.2) (.slice Ao94 t376.length co94)) (fun _ h_ => h_.1))))) (xL (by (with_reducible repeat (first | apply xRA | apply xRN | apply xRD)); exact (xO (xF (p := ⟨gb380, 1, none⟩) (xF (p := ⟨gb380, 0, none⟩) (Kd.R_types HO378.out BK380.out (by decide)) (fun _ hk => hk.2) (.int .i64 t375)) (fun _ hk => hk.2) (.slice Ao94 t376.length co94)) (fun _ h_ => h_.1))))) (below_size (yh HB))); replace HO_14 := xM (Kd.R_elder' (by (with_reducible repeat (first | apply xRA | apply xRN | apply xRD)); exact (xO (xF (p := ⟨gb380, 1, none⟩) (xF (p := ⟨gb380, 0, none⟩) (Kd.R_types HO_14.out BK380.out (by decide)) (fun _ hk => hk.2) (.int .i64 t375)) (fun _ hk => hk.2) (.slice Ao94 t376.length co94)) (fun _ h_ => h_.1))) (Kd.R_base ho0) hb); replace HO_16 := xM (Kd.R_elder' (by (with_reducible repeat (first | apply xRA | apply xRN | apply xRD)); exact (xO (xF (p := ⟨gb380, 1, none⟩) (xF (p := ⟨gb380, 0, none⟩) (Kd.R_types HO_16.out BK380.out (by decide)) (fun _ hk => hk.2) (.int .i64 t375)) (fun _ hk => hk.2) (.slice Ao94 t376.length co94)) (fun _ h_ => h_.1))) (Kd.R_base ho0) hb); replace HO_147 := xM (Kd.R_elder' (by (with_reducible repeat (first | apply xRA | apply xRN | apply xRD)); exact (xO (xF (p := ⟨gb380, 1, none⟩) (xF (p := ⟨gb380, 0, none⟩) (Kd.R_types HO_147.out BK380.out (by decide)) (fun _ hk => hk.2) (.int .i64 t375)) (fun _ hk => hk.2) (.slice Ao94 t376.length co94)) (fun _ h_ => h_.1))) (Kd.R_base ho0) hb); replace HO378 := xM (Kd.R_elder' (by (with_reducible repeat (first | apply xRA | apply xRN | apply xRD)); exact (xO (xF (p := ⟨gb380, 1, none⟩) (xF (p := ⟨gb380, 0, none⟩) (Kd.R_types HO378.out BK380.out (by decide)) (fun _ hk => hk.2) (.int .i64 t375)) (fun _ hk => hk.2) (.slice Ao94 t376.length co94)) (fun _ h_ => h_.1))) (Kd.R_base ho0) hb); replace BK380 := xM (xB (g := gb380) (o := .cells #[.int .i64 t375, .slice Ao94 t376.length co94] 33 (0, 0)) (by (with_reducible repeat (first | apply xbN | apply xbD | apply xbA)); refine blk_put (cs := #[.int .i64 t375, .slice none 0 0]) ?_ 1 _ rfl; (with_reducible repeat (first | apply xbN | apply xbD | apply xbA)); refine blk_put (cs := #[.int .i64 0, .slice none 0 0]) ?_ 0 _ rfl; (with_reducible repeat (first | apply xbN | apply xbD | apply xbA)); exact BK380.out) hb); replace HB := xM (below_step (yh HB) hb); (try clear hb); (try clear ho0)) | (go_at_call 48; (with_reducible refine (impl_GoodCounts.calls k4 _ _ t365 false _ ?side1 ?side2 A70.out).mono ?_); (case side1 => repeat (first | exact (Kd.R_reads' HO_16.out).2.2 | (with_reducible refine Kd.C_alloc ?_ _) | (with_reducible refine Kd.C_drewN ?_ _) | (with_reducible refine Kd.C_drew ?_))); (case side2 => exact (Kd.R_reads' HO_16.out).2.1); rintro e w' ⟨rfl, ⟨nd, rfl⟩⟩; (try first | exact ⟨rfl, _, World.drewN_drewN _ _ _⟩ | exact ⟨rfl, _, Eq.trans (World.drewN_drewN _ _ _) (congrArg (World.drewN _) (Nat.add_assoc _ _ _))⟩))); try go_wp2_with (first | (go_at_call 22; (with_reducible refine (impl_CodeSymbols.calls k4 _ _ t365 _ _ t361 t375 t376 t379 _ ?side1 ?side2 ?side3 ?side4 A68.out).mono ?_); (case side1 => repeat (first | exact (Kd.R_reads' HO_16.out).2.2 | (with_reducible refine Kd.C_alloc ?_ _) | (with_reducible refine Kd.C_drewN ?_ _) | (with_reducible refine Kd.C_drew ?_))); (case side2 => exact (Kd.R_reads' HO_16.out).2.1); (case side3 => repeat (first | exact (Kd.R_reads' HO_14.out).2.2 | (with_reducible refine Kd.C_alloc ?_ _) | (with_reducible refine Kd.C_drewN ?_ _) | (with_reducible refine Kd.C_drew ?_))); (case side4 => exact (Kd.R_reads' HO_14.out).2.1); rintro e w91 ⟨v377, rfl, ho0, hb⟩; have HO378 := xM (Kd.R_lower (Kd.R_new' (Kd.R_new' (Kd.R_new' ho0 (xL (yR HO_14))) (xL (yR HO_16))) (xL (yR HO_147))) (below_size (yh HB))); replace HO_14 := xM (Kd.R_elder' (yR HO_14) (Kd.R_base ho0) hb); replace HO_16 := xM (Kd.R_elder' (yR HO_16) (Kd.R_base ho0) hb); replace HO_147 := xM (Kd.R_elder' (yR HO_147) (Kd.R_base ho0) hb); replace HB := xM (below_step (yh HB) hb); (try clear hb); (try clear ho0)) | ((with_reducible refine gate_dst (N := 22) rfl ?_); (try (refine gate_guard (by rfl) ?_; dsimp only)); refine box_event ?hg (N := 22) ?hd (cs := #[.int .i64 0, .slice none 0 0]) (t := 33) ?hr ?_; (case hd => rfl); (case hg => rfl); (case hr => first | (go_simp; done) | (go_simp; rfl)); intro gb380 hg w92 hbox hb; have BK380 := xM (hbox); have GW380 := xM ((by rw [hg]; exact (below_size (yh HB)) : w.heap.size ≤ gb380)); have GE380 := xM ((by rw [hg]; exact (below_size (yh HB)) : w.heap.size ≤ gb380)); replace HO_14 := xM (xW (yR HO_14) hb); replace HO_16 := xM (xW (yR HO_16) hb); replace HO_147 := xM (xW (yR HO_147) hb); replace HO378 := xM (xW (yR HO378) hb); replace HB := xM (below_step (yh HB) hb); clear hb hbox hg; have hcz93_0 : w92.cell? ⟨gb380, 0, none⟩ = some (.int .i64 0) := (blk_cell BK380.out 0).trans rfl; have hcz93_1 : w92.cell? ⟨gb380, 1, none⟩ = some (.slice none 0 0) := (blk_cell BK380.out 1).trans rfl; have hfz93_0 := blk_frozen BK380.out 0; have hfz93_1 := blk_frozen BK380.out 1; obtain ⟨Ao94, co94, eo94⟩ := Kd.R_slice HO378.out; subst eo94) | (go_at_call 36; (with_reducible refine (impl_DecodeSymbols.calls k4 _ _ t365 t375 _ _ t376 (t361.length : Int) t381 t384 _ ?side1 ?side2 ?side3 ?side4 A69.out).mono ?_); (case side1 => refine (Kd.R_reads' (e := 3) (base := w.heap.size) (ok := fun k_ => (some k_ ≠ (.slice Ao54 t361.length co54 : Value).ownBlock ∧ some k_ ≠ (.slice Ao94 t376.length co94 : Value).ownBlock)) (n := t365.length) (c := co63) ?_).2.2; exact (by (with_reducible repeat (first | apply xRA | apply xRN | apply xRD)); exact (xO (xF (p := ⟨gb380, 1, none⟩) (xF (p := ⟨gb380, 0, none⟩) (Kd.R_types HO_16.out BK380.out (by decide)) (fun _ hk => hk.2) (.int .i64 t375)) (fun _ hk => hk.2) (.slice Ao94 t376.length co94)) (fun _ h_ => h_.1)))); (case side2 => exact (Kd.R_reads' HO_16.out).2.1); (case side3 => refine (Kd.R_reads' (e := 3) (base := w.heap.size) (ok := fun k_ => (((True ∧ some k_ ≠ (.slice Ao54 t361.length co54 : Value).ownBlock) ∧ some k_ ≠ (.slice Ao63 t365.length co63 : Value).ownBlock) ∧ some k_ ≠ (.slice Ao63 t365.length co63 : Value).ownBlock)) (n := t376.length) (c := co94) ?_).2.2; exact (by (with_reducible repeat (first | apply xRA | apply xRN | apply xRD)); exact (xO (xF (p := ⟨gb380, 1, none⟩) (xF (p := ⟨gb380, 0, none⟩) (Kd.R_types HO378.out BK380.out (by decide)) (fun _ hk => hk.2) (.int .i64 t375)) (fun _ hk => hk.2) (.slice Ao94 t376.length co94)) (fun _ h_ => h_.1)))); (case side4 => exact (Kd.R_reads' HO378.out).2.1); rintro e w95 ⟨v382, rfl, ho0, hb⟩; have HO383 := xM (Kd.R_lower (Kd.R_new' (Kd.R_new' (Kd.R_new' (Kd.R_new' ho0 (xL (by (with_reducible repeat (first | apply xRA | apply xRN | apply xRD)); exact (xO (xF (p := ⟨gb380, 1, none⟩) (xF (p := ⟨gb380, 0, none⟩) (Kd.R_types HO_14.out BK380.out (by decide)) (fun _ hk => hk.2) (.int .i64 t375)) (fun _ hk => hk.2) (.slice Ao94 t376.length co94)) (fun _ h_ => h_.1))))) (xL (by (with_reducible repeat (first | apply xRA | apply xRN | apply xRD)); exact (xO (xF (p := ⟨gb380, 1, none⟩) (xF (p := ⟨gb380, 0, none⟩) (Kd.R_types HO_16.out BK380.out (by decide)) (fun _ hk => hk.2) (.int .i64 t375)) (fun _ hk => hk.2) (.slice Ao94 t376.length co94)) (fun _ h_ => h_.1))))) (xL (by (with_reducible repeat (first | apply xRA | apply xRN | apply xRD)); exact (xO (xF (p := ⟨gb380, 1, none⟩) (xF (p := ⟨gb380, 0, none⟩) (Kd.R_types HO_147.out BK380.out (by decide)) (fun _ hk => hk.2) (.int .i64 t375)) (fun _ hk => hk.2) (.slice Ao94 t376.length co94)) (fun _ h_ => h_.1))))) (xL (by (with_reducible repeat (first | apply xRA | apply xRN | apply xRD)); exact (xO (xF (p := ⟨gb380, 1, none⟩) (xF (p := ⟨gb380, 0, none⟩) (Kd.R_types HO378.out BK380.out (by decide)) (fun _ hk => hk.2) (.int .i64 t375)) (fun _ hk => hk.2) (.slice Ao94 t376.length co94)) (fun _ h_ => h_.1))))) (below_size (yh HB))); replace HO_14 := xM (Kd.R_elder' (by (with_reducible repeat (first | apply xRA | apply xRN | apply xRD)); exact (xO (xF (p := ⟨gb380, 1, none⟩) (xF (p := ⟨gb380, 0, none⟩) (Kd.R_types HO_14.out BK380.out (by decide)) (fun _ hk => hk.2) (.int .i64 t375)) (fun _ hk => hk.2) (.slice Ao94 t376.length co94)) (fun _ h_ => h_.1))) (Kd.R_base ho0) hb); replace HO_16 := xM (Kd.R_elder' (by (with_reducible repeat (first | apply xRA | apply xRN | apply xRD)); exact (xO (xF (p := ⟨gb380, 1, none⟩) (xF (p := ⟨gb380, 0, none⟩) (Kd.R_types HO_16.out BK380.out (by decide)) (fun _ hk => hk.2) (.int .i64 t375)) (fun _ hk => hk.2) (.slice Ao94 t376.length co94)) (fun _ h_ => h_.1))) (Kd.R_base ho0) hb); replace HO_147 := xM (Kd.R_elder' (by (with_reducible repeat (first | apply xRA | apply xRN | apply xRD)); exact (xO (xF (p := ⟨gb380, 1, none⟩) (xF (p := ⟨gb380, 0, none⟩) (Kd.R_types HO_147.out BK380.out (by decide)) (fun _ hk => hk.2) (.int .i64 t375)) (fun _ hk => hk.2) (.slice Ao94 t376.length co94)) (fun _ h_ => h_.1))) (Kd.R_base ho0) hb); replace HO378 := xM (Kd.R_elder' (by (with_reducible repeat (first | apply xRA | apply xRN | apply xRD)); exact (xO (xF (p := ⟨gb380, 1, none⟩) (xF (p := ⟨gb380, 0, none⟩) (Kd.R_types HO378.out BK380.out (by decide)) (fun _ hk => hk.2) (.int .i64 t375)) (fun _ hk => hk.2) (.slice Ao94 t376.length co94)) (fun _ h_ => h_.1))) (Kd.R_base ho0) hb); replace BK380 := xM (xB (g := gb380) (o := .cells #[.int .i64 t375, .slice Ao94 t376.length co94] 33 (0, 0)) (by (with_reducible repeat (first | apply xbN | apply xbD | apply xbA)); refine blk_put (cs := #[.int .i64 t375, .slice none 0 0]) ?_ 1 _ rfl; (with_reducible repeat (first | apply xbN | apply xbD | apply xbA)); refine blk_put (cs := #[.int .i64 0, .slice none 0 0]) ?_ 0 _ rfl; (with_reducible repeat (first | apply xbN | apply xbD | apply xbA)); exact BK380.out) hb); replace HB := xM (below_step (yh HB) hb); (try clear hb); (try clear ho0)) | (go_at_call 48; (with_reducible refine (impl_GoodCounts.calls k4 _ _ t365 false _ ?side1 ?side2 A70.out).mono ?_); (case side1 => repeat (first | exact (Kd.R_reads' HO_16.out).2.2 | (with_reducible refine Kd.C_alloc ?_ _) | (with_reducible refine Kd.C_drewN ?_ _) | (with_reducible refine Kd.C_drew ?_))); (case side2 => exact (Kd.R_reads' HO_16.out).2.1); rintro e w' ⟨rfl, ⟨nd, rfl⟩⟩; (try first | exact ⟨rfl, _, World.drewN_drewN _ _ _⟩ | exact ⟨rfl, _, Eq.trans (World.drewN_drewN _ _ _) (congrArg (World.drewN _) (Nat.add_assoc _ _ _))⟩))))
                go_ret
                exact ⟨by first | rfl | (simp [errW_none, errW_some] <;> rfl) | (simp [*, errW_none, errW_some] <;> rfl), by repeat (first | (with_reducible first | exact HB.out | apply xa | apply xn | apply xd | refine xs ?_ GE380.out) | exact HB.out)⟩
           ·replace c62 := Bool.eq_false_iff.mpr c62
            subst c62
            have H1 : (some ((t365.length : Int) == 0)) = some r := by rw [if_neg (show ¬ (false = true) by decide)] at H; exact H
            clear H
            have H := H1
            clear H1
            obtain rfl := Option.some.inj H
            obtain ⟨Ao96, co96, eo96⟩ := Kd.R_slice HO_16.out
            subst eo96
            go_wp2
            repeat (go_quiet (fail); try go_wp2)
            go_ret
            exact ⟨by first | rfl | (simp [errW_none, errW_some] <;> rfl) | (simp [*, errW_none, errW_some] <;> rfl), by repeat (first | (with_reducible first | exact HB.out | apply xa | apply xn | apply xd) | exact HB.out)⟩

/-- THE ONE PURE STATEMENT of laws_FnCounts: yours. -/
def laws_FnCounts.Pure : Prop := ∀ (l0 : List Int) (l1 : List Int), l0.length ≤ maxLen → l0.length * 1 ≤ 140737488351232 → (∀ x ∈ l0, (Lit.int .u8 x).wf = true) → l1.length ≤ maxLen → l1.length * 1 ≤ 140737488351232 → (∀ x ∈ l1, (Lit.int .u8 x).wf = true) → ∃ k, laws_FnCounts.f k l0 l1 = some true
theorem laws_FnCounts.walk (P : laws_FnCounts.Pure) (a0 : Option Addr) (len0 cap0 : Nat) (z0 : List Int) (a1 : Option Addr) (len1 cap1 : Nat) (z1 : List Int) (w : World) (w0 : (a0 = none ∧ len0 = 0 ∧ cap0 = 0 ∧ z0 = []) ∨ ∃ x, a0 = some x ∧ len0 ≤ cap0 ∧ cap0 ≤ maxLen ∧ z0.length = cap0 ∧ (∀ i, i < z0.length → w.cell? (x.add i) = some (.int .u8 (z0.getD i 0))) ∧ ∀ n ∈ z0, (Lit.int .u8 n).wf = true) (y0 : len0 * 1 ≤ 140737488351232) (w1 : (a1 = none ∧ len1 = 0 ∧ cap1 = 0 ∧ z1 = []) ∨ ∃ x, a1 = some x ∧ len1 ≤ cap1 ∧ cap1 ≤ maxLen ∧ z1.length = cap1 ∧ (∀ i, i < z1.length → w.cell? (x.add i) = some (.int .u8 (z1.getD i 0))) ∧ ∀ n ∈ z1, (Lit.int .u8 n).wf = true) (y1 : len1 * 1 ≤ 140737488351232) :
   Calls Try.prog 11 #[.slice a0 len0 cap0, .slice a1 len1 cap1] w fun e w' => e = .returned (.bool true) ∧ Below w.heap.size w w' := by
  obtain ⟨l0, rfl, hr0, hm0, hw0, hc0⟩ := ReadsInt.ofRowC w0
  obtain ⟨l1, rfl, hr1, hm1, hw1, hc1⟩ := ReadsInt.ofRowC w1
  obtain ⟨k, h⟩ := P l0 l1 hm0 y0 hw0 hm1 y1 hw1
  refine (laws_FnCounts.calls k _ _ l0 _ _ l1 true w (Kd.C_of_reads (d := (0 : Int)) (h1 := fun _ => rfl) hr0) hc0 (Kd.C_of_reads (d := (0 : Int)) (h1 := fun _ => rfl) hr1) hc1 h).mono ?_
  rintro e w' ⟨rfl, hd⟩
  exact ⟨rfl, hd⟩

end Go.Proofs.Ytppgkkejddjacaa.PFnCounts

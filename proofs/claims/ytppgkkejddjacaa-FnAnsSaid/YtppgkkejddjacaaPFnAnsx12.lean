-- This text was written by the session's own program wip/tools/xprint.py, over the kit's print; Lean checks it.
import Derived.Test.YtppgkkejddjacaaPFnAnsx0
import Derived.Test.YtppgkkejddjacaaPFnAnsx1
import Derived.Test.YtppgkkejddjacaaPFnAnsx2
import Derived.Test.YtppgkkejddjacaaPFnAnsx3
import Derived.Test.YtppgkkejddjacaaPFnAnsx4
import Derived.Test.YtppgkkejddjacaaPFnAnsx5
import Derived.Test.YtppgkkejddjacaaPFnAnsx7
import Derived.Test.YtppgkkejddjacaaPFnAnsx10
import Derived.Test.YtppgkkejddjacaaPFnAnsx11
namespace Go.Proofs.Ytppgkkejddjacaa.PFnAns
open Go.RowKit Go.Proofs.YtppgkkejddjacaaW.PrintWords Go.Proofs.YtppgkkejddjacaaW.PrintLast Go.Proofs.YtppgkkejddjacaaW.PrintMore
attribute [local go_sem] max2_int min2_int max_two min_two max_three min_three max_four min_four   -- for this text's walks alone
set_option linter.unusedVariables false
set_option linter.unusedSimpArgs false

/-! ### laws_FnAns: function 12 -/
mutual
def laws_FnAns.j0 : Nat → List Int → List Int → List Int → Bool → Bool → Int → List Int → Option (Bool)
  | 0, _, _, _, _, _, _, _ => none
  | k + 1, x1, x5, x6, x8, x73, x435000, x435001 => if x73 = true then (some false) else (if x8 = true then ((impl_DecodeSymbols.f k x5 x435000 x435001 (x6.length : Int)).bind fun bt442 => (if bt442.2 = true then ((laws_sameInts.f k bt442.1 x6).bind fun t446 => (if t446 = true then (if x435000 < 4096 then (some false) else (if x435000 ≥ 65536 then (some false) else (laws_FnAns.j1 k x1))) else (some false))) else (some false))) else (laws_FnAns.j1 k x1))
def laws_FnAns.j1 : Nat → List Int → Option (Bool)
  | 0, _ => none
  | k + 1, x1 => (spec_DrawPutSymbol.f k x1).bind fun bt447 => ((impl_PutSymbol.f k bt447.1 bt447.2.1 bt447.2.2).bind fun bt452 => ((spec_PutSymbol.f k bt447.1 bt447.2.1 bt447.2.2).bind fun bt457 => (if (bt452.2.2 != bt457.2.2) = true then (laws_FnAns.j2 k x1 bt447.1 bt447.2.1 bt447.2.2 bt452.1 bt452.2.1 bt452.2.2 true) else (if bt452.1 = bt457.1 then ((laws_sameInts.f k bt452.2.1 bt457.2.1).bind fun t462 => (laws_FnAns.j2 k x1 bt447.1 bt447.2.1 bt447.2.2 bt452.1 bt452.2.1 bt452.2.2 (!t462))) else (laws_FnAns.j2 k x1 bt447.1 bt447.2.1 bt447.2.2 bt452.1 bt452.2.1 bt452.2.2 true)))))
def laws_FnAns.j2 : Nat → List Int → List Int → Int → Int → Int → List Int → Bool → Bool → Option (Bool)
  | 0, _, _, _, _, _, _, _, _ => none
  | k + 1, x1, x13, x14, x15, x16, x17, x18, x136 => if x136 = true then (some false) else (if x18 = true then ((impl_TakeSymbol.f k x13 x16 x17).bind fun bt463 => (if bt463.2.2.2 = true then (if bt463.1 = x15 then (if bt463.2.1 = x14 then (if (bt463.2.2.1.length : Int) = 0 then (laws_FnAns.j3 k x1) else (some false)) else (some false)) else (some false)) else (some false))) else (laws_FnAns.j3 k x1))
def laws_FnAns.j3 : Nat → List Int → Option (Bool)
  | 0, _ => none
  | k + 1, x1 => (spec_DrawTakeSymbol.f k x1).bind fun bt470 => ((impl_TakeSymbol.f k bt470.1 bt470.2.1 bt470.2.2).bind fun bt478 => ((spec_TakeSymbol.f k bt470.1 bt470.2.1 bt470.2.2).bind fun bt485 => (if (bt478.2.2.2 == bt485.2.2.2) = true then (if bt478.1 = bt485.1 then (if bt478.2.1 = bt485.2.1 then ((laws_sameInts.f k bt478.2.2.1 bt485.2.2.1).bind fun t492 => (some t492)) else (some false)) else (some false)) else (some false))))
end
def laws_FnAns.f (k : Nat) (l0 : List Int) (l1 : List Int) : Option (Bool) := if (wrap64 ((l0.length : Int) + (l1.length : Int))) > 1048576 then (some true) else ((spec_DrawCodeSymbols.f k l0).bind fun bt423 => ((impl_CodeSymbols.f k bt423.1 bt423.2).bind fun bt429 => ((spec_CodeSymbols.f k bt423.1 bt423.2).bind fun bt435 => (if (bt429.2.2 != bt435.2.2) = true then (laws_FnAns.j0 k l1 bt423.1 bt423.2 bt429.2.2 true bt429.1 bt429.2.1) else (if bt429.1 = bt435.1 then ((laws_sameInts.f k bt429.2.1 bt435.2.1).bind fun t441 => (laws_FnAns.j0 k l1 bt423.1 bt423.2 bt429.2.2 (!t441) bt429.1 bt429.2.1)) else (laws_FnAns.j0 k l1 bt423.1 bt423.2 bt429.2.2 true bt429.1 bt429.2.1))))))
theorem laws_FnAns.mono_l : ∀ k, (∀ y0 y1 y2 y3 y4 y5 y6, LeO (laws_FnAns.j0 k y0 y1 y2 y3 y4 y5 y6) (laws_FnAns.j0 (k + 1) y0 y1 y2 y3 y4 y5 y6)) ∧ (∀ y0, LeO (laws_FnAns.j1 k y0) (laws_FnAns.j1 (k + 1) y0)) ∧ (∀ y0 y1 y2 y3 y4 y5 y6 y7, LeO (laws_FnAns.j2 k y0 y1 y2 y3 y4 y5 y6 y7) (laws_FnAns.j2 (k + 1) y0 y1 y2 y3 y4 y5 y6 y7)) ∧ (∀ y0, LeO (laws_FnAns.j3 k y0) (laws_FnAns.j3 (k + 1) y0))
  | 0 => ⟨fun _ _ _ _ _ _ _ r h => by simp [laws_FnAns.j0] at h, fun _ r h => by simp [laws_FnAns.j1] at h, fun _ _ _ _ _ _ _ _ r h => by simp [laws_FnAns.j2] at h, fun _ r h => by simp [laws_FnAns.j3] at h⟩
  | k + 1 => by
   obtain ⟨ih0, ih1, ih2, ih3⟩ := laws_FnAns.mono_l k
   refine ⟨?_, ?_, ?_, ?_⟩
   ·intro y0 y1 y2 y3 y4 y5 y6
    unfold laws_FnAns.j0
    repeat' first
    | (with_reducible exact ih0 _ _ _ _ _ _ _)
    | (with_reducible exact ih1 _)
    | (with_reducible exact ih2 _ _ _ _ _ _ _ _)
    | (with_reducible exact ih3 _)
    | (with_reducible exact impl_CodeSymbols.mono _ _ _)
    | (with_reducible exact impl_DecodeSymbols.mono _ _ _ _ _)
    | (with_reducible exact impl_PutSymbol.mono _ _ _ _)
    | (with_reducible exact impl_TakeSymbol.mono _ _ _ _)
    | (with_reducible exact laws_sameInts.mono _ _ _)
    | (with_reducible exact spec_CodeSymbols.mono _ _ _)
    | (with_reducible exact spec_DrawCodeSymbols.mono _ _)
    | (with_reducible exact spec_DrawPutSymbol.mono _ _)
    | (with_reducible exact spec_DrawTakeSymbol.mono _ _)
    | (with_reducible exact spec_PutSymbol.mono _ _ _ _)
    | (with_reducible exact spec_TakeSymbol.mono _ _ _ _)
    | (with_reducible exact LeO.refl _)
    | (with_reducible exact LeO.none _)
    | (with_reducible refine LeO.ite ?_ ?_)
    | (with_reducible refine LeO.bind ?_ (fun _ => ?_))
    | exact ih0 _ _ _ _ _ _ _
    | exact ih1 _
    | exact ih2 _ _ _ _ _ _ _ _
    | exact ih3 _
    | exact impl_CodeSymbols.mono _ _ _
    | exact impl_DecodeSymbols.mono _ _ _ _ _
    | exact impl_PutSymbol.mono _ _ _ _
    | exact impl_TakeSymbol.mono _ _ _ _
    | exact laws_sameInts.mono _ _ _
    | exact spec_CodeSymbols.mono _ _ _
    | exact spec_DrawCodeSymbols.mono _ _
    | exact spec_DrawPutSymbol.mono _ _
    | exact spec_DrawTakeSymbol.mono _ _
    | exact spec_PutSymbol.mono _ _ _ _
    | exact spec_TakeSymbol.mono _ _ _ _
    | exact LeO.none _
    | refine LeO.ite ?_ ?_
    | refine LeO.bind ?_ (fun _ => ?_)
   ·intro y0
    unfold laws_FnAns.j1
    repeat' first
    | (with_reducible exact ih0 _ _ _ _ _ _ _)
    | (with_reducible exact ih1 _)
    | (with_reducible exact ih2 _ _ _ _ _ _ _ _)
    | (with_reducible exact ih3 _)
    | (with_reducible exact impl_CodeSymbols.mono _ _ _)
    | (with_reducible exact impl_DecodeSymbols.mono _ _ _ _ _)
    | (with_reducible exact impl_PutSymbol.mono _ _ _ _)
    | (with_reducible exact impl_TakeSymbol.mono _ _ _ _)
    | (with_reducible exact laws_sameInts.mono _ _ _)
    | (with_reducible exact spec_CodeSymbols.mono _ _ _)
    | (with_reducible exact spec_DrawCodeSymbols.mono _ _)
    | (with_reducible exact spec_DrawPutSymbol.mono _ _)
    | (with_reducible exact spec_DrawTakeSymbol.mono _ _)
    | (with_reducible exact spec_PutSymbol.mono _ _ _ _)
    | (with_reducible exact spec_TakeSymbol.mono _ _ _ _)
    | (with_reducible exact LeO.refl _)
    | (with_reducible exact LeO.none _)
    | (with_reducible refine LeO.ite ?_ ?_)
    | (with_reducible refine LeO.bind ?_ (fun _ => ?_))
    | exact ih0 _ _ _ _ _ _ _
    | exact ih1 _
    | exact ih2 _ _ _ _ _ _ _ _
    | exact ih3 _
    | exact impl_CodeSymbols.mono _ _ _
    | exact impl_DecodeSymbols.mono _ _ _ _ _
    | exact impl_PutSymbol.mono _ _ _ _
    | exact impl_TakeSymbol.mono _ _ _ _
    | exact laws_sameInts.mono _ _ _
    | exact spec_CodeSymbols.mono _ _ _
    | exact spec_DrawCodeSymbols.mono _ _
    | exact spec_DrawPutSymbol.mono _ _
    | exact spec_DrawTakeSymbol.mono _ _
    | exact spec_PutSymbol.mono _ _ _ _
    | exact spec_TakeSymbol.mono _ _ _ _
    | exact LeO.none _
    | refine LeO.ite ?_ ?_
    | refine LeO.bind ?_ (fun _ => ?_)
   ·intro y0 y1 y2 y3 y4 y5 y6 y7
    unfold laws_FnAns.j2
    repeat' first
    | (with_reducible exact ih0 _ _ _ _ _ _ _)
    | (with_reducible exact ih1 _)
    | (with_reducible exact ih2 _ _ _ _ _ _ _ _)
    | (with_reducible exact ih3 _)
    | (with_reducible exact impl_CodeSymbols.mono _ _ _)
    | (with_reducible exact impl_DecodeSymbols.mono _ _ _ _ _)
    | (with_reducible exact impl_PutSymbol.mono _ _ _ _)
    | (with_reducible exact impl_TakeSymbol.mono _ _ _ _)
    | (with_reducible exact laws_sameInts.mono _ _ _)
    | (with_reducible exact spec_CodeSymbols.mono _ _ _)
    | (with_reducible exact spec_DrawCodeSymbols.mono _ _)
    | (with_reducible exact spec_DrawPutSymbol.mono _ _)
    | (with_reducible exact spec_DrawTakeSymbol.mono _ _)
    | (with_reducible exact spec_PutSymbol.mono _ _ _ _)
    | (with_reducible exact spec_TakeSymbol.mono _ _ _ _)
    | (with_reducible exact LeO.refl _)
    | (with_reducible exact LeO.none _)
    | (with_reducible refine LeO.ite ?_ ?_)
    | (with_reducible refine LeO.bind ?_ (fun _ => ?_))
    | exact ih0 _ _ _ _ _ _ _
    | exact ih1 _
    | exact ih2 _ _ _ _ _ _ _ _
    | exact ih3 _
    | exact impl_CodeSymbols.mono _ _ _
    | exact impl_DecodeSymbols.mono _ _ _ _ _
    | exact impl_PutSymbol.mono _ _ _ _
    | exact impl_TakeSymbol.mono _ _ _ _
    | exact laws_sameInts.mono _ _ _
    | exact spec_CodeSymbols.mono _ _ _
    | exact spec_DrawCodeSymbols.mono _ _
    | exact spec_DrawPutSymbol.mono _ _
    | exact spec_DrawTakeSymbol.mono _ _
    | exact spec_PutSymbol.mono _ _ _ _
    | exact spec_TakeSymbol.mono _ _ _ _
    | exact LeO.none _
    | refine LeO.ite ?_ ?_
    | refine LeO.bind ?_ (fun _ => ?_)
   ·intro y0
    unfold laws_FnAns.j3
    repeat' first
    | (with_reducible exact ih0 _ _ _ _ _ _ _)
    | (with_reducible exact ih1 _)
    | (with_reducible exact ih2 _ _ _ _ _ _ _ _)
    | (with_reducible exact ih3 _)
    | (with_reducible exact impl_CodeSymbols.mono _ _ _)
    | (with_reducible exact impl_DecodeSymbols.mono _ _ _ _ _)
    | (with_reducible exact impl_PutSymbol.mono _ _ _ _)
    | (with_reducible exact impl_TakeSymbol.mono _ _ _ _)
    | (with_reducible exact laws_sameInts.mono _ _ _)
    | (with_reducible exact spec_CodeSymbols.mono _ _ _)
    | (with_reducible exact spec_DrawCodeSymbols.mono _ _)
    | (with_reducible exact spec_DrawPutSymbol.mono _ _)
    | (with_reducible exact spec_DrawTakeSymbol.mono _ _)
    | (with_reducible exact spec_PutSymbol.mono _ _ _ _)
    | (with_reducible exact spec_TakeSymbol.mono _ _ _ _)
    | (with_reducible exact LeO.refl _)
    | (with_reducible exact LeO.none _)
    | (with_reducible refine LeO.ite ?_ ?_)
    | (with_reducible refine LeO.bind ?_ (fun _ => ?_))
    | exact ih0 _ _ _ _ _ _ _
    | exact ih1 _
    | exact ih2 _ _ _ _ _ _ _ _
    | exact ih3 _
    | exact impl_CodeSymbols.mono _ _ _
    | exact impl_DecodeSymbols.mono _ _ _ _ _
    | exact impl_PutSymbol.mono _ _ _ _
    | exact impl_TakeSymbol.mono _ _ _ _
    | exact laws_sameInts.mono _ _ _
    | exact spec_CodeSymbols.mono _ _ _
    | exact spec_DrawCodeSymbols.mono _ _
    | exact spec_DrawPutSymbol.mono _ _
    | exact spec_DrawTakeSymbol.mono _ _
    | exact spec_PutSymbol.mono _ _ _ _
    | exact spec_TakeSymbol.mono _ _ _ _
    | exact LeO.none _
    | refine LeO.ite ?_ ?_
    | refine LeO.bind ?_ (fun _ => ?_)
theorem laws_FnAns.mono : ∀ a0 a1 k, LeO (laws_FnAns.f k a0 a1) (laws_FnAns.f (k + 1) a0 a1) := by
  intro a0 a1 k
  obtain ⟨ih0, ih1, ih2, ih3⟩ := laws_FnAns.mono_l k
  unfold laws_FnAns.f
  repeat' first
    | (with_reducible exact ih0 _ _ _ _ _ _ _)
    | (with_reducible exact ih1 _)
    | (with_reducible exact ih2 _ _ _ _ _ _ _ _)
    | (with_reducible exact ih3 _)
    | (with_reducible exact impl_CodeSymbols.mono _ _ _)
    | (with_reducible exact impl_DecodeSymbols.mono _ _ _ _ _)
    | (with_reducible exact impl_PutSymbol.mono _ _ _ _)
    | (with_reducible exact impl_TakeSymbol.mono _ _ _ _)
    | (with_reducible exact laws_sameInts.mono _ _ _)
    | (with_reducible exact spec_CodeSymbols.mono _ _ _)
    | (with_reducible exact spec_DrawCodeSymbols.mono _ _)
    | (with_reducible exact spec_DrawPutSymbol.mono _ _)
    | (with_reducible exact spec_DrawTakeSymbol.mono _ _)
    | (with_reducible exact spec_PutSymbol.mono _ _ _ _)
    | (with_reducible exact spec_TakeSymbol.mono _ _ _ _)
    | (with_reducible exact LeO.refl _)
    | (with_reducible exact LeO.none _)
    | (with_reducible refine LeO.ite ?_ ?_)
    | (with_reducible refine LeO.bind ?_ (fun _ => ?_))
    | exact ih0 _ _ _ _ _ _ _
    | exact ih1 _
    | exact ih2 _ _ _ _ _ _ _ _
    | exact ih3 _
    | exact impl_CodeSymbols.mono _ _ _
    | exact impl_DecodeSymbols.mono _ _ _ _ _
    | exact impl_PutSymbol.mono _ _ _ _
    | exact impl_TakeSymbol.mono _ _ _ _
    | exact laws_sameInts.mono _ _ _
    | exact spec_CodeSymbols.mono _ _ _
    | exact spec_DrawCodeSymbols.mono _ _
    | exact spec_DrawPutSymbol.mono _ _
    | exact spec_DrawTakeSymbol.mono _ _
    | exact spec_PutSymbol.mono _ _ _ _
    | exact spec_TakeSymbol.mono _ _ _ _
    | exact LeO.none _
    | refine LeO.ite ?_ ?_
    | refine LeO.bind ?_ (fun _ => ?_)
set_option maxHeartbeats 8000000 in
set_option maxRecDepth 100000 in
theorem laws_FnAns.calls (k : Nat) (A0 : Option Addr) (c0 : Nat) (l0 : List Int) (A1 : Option Addr) (c1 : Nat) (l1 : List Int) (r : Bool) (w : World) (hr0 : Kd.C (Kd.int .u8) w A0 l0.length l0) (hc0 : l0.length ≤ c0) (hr1 : Kd.C (Kd.int .u8) w A1 l1.length l1) (hc1 : l1.length ≤ c1) (h : laws_FnAns.f k l0 l1 = some r) :
   Calls Try.prog 12 #[.slice A0 l0.length c0, .slice A1 l1.length c1] w fun e w' => e = .returned (.bool r) ∧ Below w.heap.size w w' := by
  have hu33 := Try.underlying33
  have HR0 := Aside0.mk hr0
  have HC0 := Aside0.mk hc0
  clear hr0 hc0
  have HR1 := Aside0.mk hr1
  have HC1 := Aside0.mk hc1
  clear hr1 hc1
  have HB := xM (Below.refl w.heap.size w)
  have H : (if (wrap64 ((l0.length : Int) + (l1.length : Int))) > 1048576 then (some true) else ((spec_DrawCodeSymbols.f k l0).bind fun bt423 => ((impl_CodeSymbols.f k bt423.1 bt423.2).bind fun bt429 => ((spec_CodeSymbols.f k bt423.1 bt423.2).bind fun bt435 => (if (bt429.2.2 != bt435.2.2) = true then (laws_FnAns.j0 k l1 bt423.1 bt423.2 bt429.2.2 true bt429.1 bt429.2.1) else (if bt429.1 = bt435.1 then ((laws_sameInts.f k bt429.2.1 bt435.2.1).bind fun t441 => (laws_FnAns.j0 k l1 bt423.1 bt423.2 bt429.2.2 (!t441) bt429.1 bt429.2.1)) else (laws_FnAns.j0 k l1 bt423.1 bt423.2 bt429.2.2 true bt429.1 bt429.2.1))))))) = some r := h
  clear h
  by_cases c3 : (wrap64 ((l0.length : Int) + (l1.length : Int))) > 1048576
  ·rw [if_pos c3] at H
   have c3b0 : decide (1048576 < (wrap64 ((l0.length : Int) + (l1.length : Int)))) = true := decide_eq_true c3
   clear c3
   obtain rfl := Option.some.inj H
   go_enter Try.func12, Try.ntmps12
   go_wp2
   go_ret
   exact ⟨by first | rfl | (simp [errW_none, errW_some] <;> rfl) | (simp [*, errW_none, errW_some] <;> rfl), by repeat (first | (with_reducible first | exact HB.out | apply xa | apply xn | apply xd) | exact HB.out)⟩
  ·rw [if_neg c3] at H
   have c3b0 : decide (1048576 < (wrap64 ((l0.length : Int) + (l1.length : Int)))) = false := decide_eq_false c3
   clear c3
   replace H := Option.bind_eq_some_iff.mp H
   obtain ⟨⟨t423, t424⟩, A40, H⟩ := H
   replace H : ((impl_CodeSymbols.f k t423 t424).bind fun bt429 => ((spec_CodeSymbols.f k t423 t424).bind fun bt435 => (if (bt429.2.2 != bt435.2.2) = true then (laws_FnAns.j0 k l1 t423 t424 bt429.2.2 true bt429.1 bt429.2.1) else (if bt429.1 = bt435.1 then ((laws_sameInts.f k bt429.2.1 bt435.2.1).bind fun t441 => (laws_FnAns.j0 k l1 t423 t424 bt429.2.2 (!t441) bt429.1 bt429.2.1)) else (laws_FnAns.j0 k l1 t423 t424 bt429.2.2 true bt429.1 bt429.2.1))))) = some r := H
   have A4 := Aside0.mk A40
   clear A40
   replace H := Option.bind_eq_some_iff.mp H
   obtain ⟨⟨t429, t430, t433⟩, A50, H⟩ := H
   replace H : ((spec_CodeSymbols.f k t423 t424).bind fun bt435 => (if (t433 != bt435.2.2) = true then (laws_FnAns.j0 k l1 t423 t424 t433 true t429 t430) else (if t429 = bt435.1 then ((laws_sameInts.f k t430 bt435.2.1).bind fun t441 => (laws_FnAns.j0 k l1 t423 t424 t433 (!t441) t429 t430)) else (laws_FnAns.j0 k l1 t423 t424 t433 true t429 t430)))) = some r := H
   have A5 := Aside0.mk A50
   clear A50
   replace H := Option.bind_eq_some_iff.mp H
   obtain ⟨⟨t435, t436, t439⟩, A60, H⟩ := H
   replace H : (if (t433 != t439) = true then (laws_FnAns.j0 k l1 t423 t424 t433 true t429 t430) else (if t429 = t435 then ((laws_sameInts.f k t430 t436).bind fun t441 => (laws_FnAns.j0 k l1 t423 t424 t433 (!t441) t429 t430)) else (laws_FnAns.j0 k l1 t423 t424 t433 true t429 t430))) = some r := H
   have A6 := Aside0.mk A60
   clear A60
   have HC7 := Aside0.mk H
   clear H
   go_enter Try.func12, Try.ntmps12
   go_upto_region 6 with (first | ((with_reducible refine gate_callee (f := 51) rfl ?_); refine goesL_ (some 41) rfl rfl Try.func51 (by kernel_rfl) rfl #[.slice A0 l0.length c0] rfl (by (try simp only [List.map_toArray, List.map_cons, List.map_nil]); first | done | rfl | (simp only [List.length_drop, List.length_take]; rfl)) ?_; (with_reducible refine (spec_DrawCodeSymbols.calls k _ _ l0 t423 t424 _ ?side1 ?side2 A4.out).mono ?_); (case side1 => repeat (first | exact HR0.out | (with_reducible refine Kd.C_alloc ?_ _) | (with_reducible refine Kd.C_drewN ?_ _) | (with_reducible refine Kd.C_drew ?_))); (case side2 => exact HC0.out); rintro e w8 ⟨v425, v427, rfl, ho0, ho1, hb⟩; refine ⟨_, rfl, ?_⟩; have HO426 := xM (Kd.R_lower ho0 (below_size (yh HB))); have HO428 := xM (Kd.R_lower ho1 (below_size (yh HB))); replace HB := xM (below_step (yh HB) hb); (try clear hb); (try clear ho0); (try clear ho1); obtain ⟨Ao9, co9, eo9⟩ := Kd.R_slice HO426.out; subst eo9; obtain ⟨Ao10, co10, eo10⟩ := Kd.R_slice HO428.out; subst eo10) | ((with_reducible refine gate_callee (f := 22) rfl ?_); refine goesL_ (some 47) rfl rfl Try.func22 (by kernel_rfl) rfl #[.slice Ao9 t423.length co9, .slice Ao10 t424.length co10] rfl (by (try simp only [List.map_toArray, List.map_cons, List.map_nil]); first | done | rfl | (simp only [List.length_drop, List.length_take]; rfl)) ?_; (with_reducible refine (impl_CodeSymbols.calls k _ _ t423 _ _ t424 t429 t430 t433 _ ?side1 ?side2 ?side3 ?side4 A5.out).mono ?_); (case side1 => repeat (first | exact (Kd.R_reads' HO426.out).2.2 | (with_reducible refine Kd.C_alloc ?_ _) | (with_reducible refine Kd.C_drewN ?_ _) | (with_reducible refine Kd.C_drew ?_))); (case side2 => exact (Kd.R_reads' HO426.out).2.1); (case side3 => repeat (first | exact (Kd.R_reads' HO428.out).2.2 | (with_reducible refine Kd.C_alloc ?_ _) | (with_reducible refine Kd.C_drewN ?_ _) | (with_reducible refine Kd.C_drew ?_))); (case side4 => exact (Kd.R_reads' HO428.out).2.1); rintro e w11 ⟨v431, rfl, ho0, hb⟩; refine ⟨_, rfl, ?_⟩; have HO432 := xM (Kd.R_lower (Kd.R_new' (Kd.R_new' ho0 (xL (yR HO426))) (xL (yR HO428))) (below_size (yh HB))); replace HO426 := xM (Kd.R_elder' (yR HO426) (Kd.R_base ho0) hb); replace HO428 := xM (Kd.R_elder' (yR HO428) (Kd.R_base ho0) hb); replace HB := xM (below_step (yh HB) hb); (try clear hb); (try clear ho0)) | ((with_reducible refine gate_dst (N := 7) rfl ?_); (try (refine gate_guard (by rfl) ?_; dsimp only)); refine box_event ?hg (N := 7) ?hd (cs := #[.int .i64 0, .slice none 0 0]) (t := 33) ?hr ?_; (case hd => rfl); (case hg => rfl); (case hr => first | (go_simp; done) | (go_simp; rfl)); intro gb434 hg w12 hbox hb; have BK434 := xM (hbox); have GW434 := xM ((by rw [hg]; exact (below_size (yh HB)) : w.heap.size ≤ gb434)); have GE434 := xM ((by rw [hg]; exact (below_size (yh HB)) : w.heap.size ≤ gb434)); replace HO426 := xM (xW (yR HO426) hb); replace HO428 := xM (xW (yR HO428) hb); replace HO432 := xM (xW (yR HO432) hb); replace HB := xM (below_step (yh HB) hb); clear hb hbox hg; have hcz13_0 : w12.cell? ⟨gb434, 0, none⟩ = some (.int .i64 0) := (blk_cell BK434.out 0).trans rfl; have hcz13_1 : w12.cell? ⟨gb434, 1, none⟩ = some (.slice none 0 0) := (blk_cell BK434.out 1).trans rfl; have hfz13_0 := blk_frozen BK434.out 0; have hfz13_1 := blk_frozen BK434.out 1; obtain ⟨Ao14, co14, eo14⟩ := Kd.R_slice HO432.out; subst eo14) | ((with_reducible refine gate_callee (f := 21) rfl ?_); refine goesL_ (some 53) rfl rfl Try.func21 (by kernel_rfl) rfl #[.slice Ao9 t423.length co9, .slice Ao10 t424.length co10] rfl (by (try simp only [List.map_toArray, List.map_cons, List.map_nil]); first | done | rfl | (simp only [List.length_drop, List.length_take]; rfl)) ?_; (with_reducible refine (spec_CodeSymbols.calls k _ _ t423 _ _ t424 t435 t436 t439 _ ?side1 ?side2 ?side3 ?side4 A6.out).mono ?_); (case side1 => refine (Kd.R_reads' (e := 3) (base := w.heap.size) (ok := fun k_ => (some k_ ≠ (.slice Ao10 t424.length co10 : Value).ownBlock ∧ some k_ ≠ (.slice Ao14 t430.length co14 : Value).ownBlock)) (n := t423.length) (c := co9) ?_).2.2; exact (by (with_reducible repeat (first | apply xRA | apply xRN | apply xRD)); exact (xO (xF (p := ⟨gb434, 1, none⟩) (xF (p := ⟨gb434, 0, none⟩) (Kd.R_types HO426.out BK434.out (by decide)) (fun _ hk => hk.2) (.int .i64 t429)) (fun _ hk => hk.2) (.slice Ao14 t430.length co14)) (fun _ h_ => h_.1)))); (case side2 => exact (Kd.R_reads' HO426.out).2.1); (case side3 => refine (Kd.R_reads' (e := 3) (base := w.heap.size) (ok := fun k_ => (some k_ ≠ (.slice Ao9 t423.length co9 : Value).ownBlock ∧ some k_ ≠ (.slice Ao14 t430.length co14 : Value).ownBlock)) (n := t424.length) (c := co10) ?_).2.2; exact (by (with_reducible repeat (first | apply xRA | apply xRN | apply xRD)); exact (xO (xF (p := ⟨gb434, 1, none⟩) (xF (p := ⟨gb434, 0, none⟩) (Kd.R_types HO428.out BK434.out (by decide)) (fun _ hk => hk.2) (.int .i64 t429)) (fun _ hk => hk.2) (.slice Ao14 t430.length co14)) (fun _ h_ => h_.1)))); (case side4 => exact (Kd.R_reads' HO428.out).2.1); rintro e w15 ⟨v437, rfl, ho0, hb⟩; refine ⟨_, rfl, ?_⟩; have HO438 := xM (Kd.R_lower (Kd.R_new' (Kd.R_new' (Kd.R_new' ho0 (xL (by (with_reducible repeat (first | apply xRA | apply xRN | apply xRD)); exact (xO (xF (p := ⟨gb434, 1, none⟩) (xF (p := ⟨gb434, 0, none⟩) (Kd.R_types HO426.out BK434.out (by decide)) (fun _ hk => hk.2) (.int .i64 t429)) (fun _ hk => hk.2) (.slice Ao14 t430.length co14)) (fun _ h_ => h_.1))))) (xL (by (with_reducible repeat (first | apply xRA | apply xRN | apply xRD)); exact (xO (xF (p := ⟨gb434, 1, none⟩) (xF (p := ⟨gb434, 0, none⟩) (Kd.R_types HO428.out BK434.out (by decide)) (fun _ hk => hk.2) (.int .i64 t429)) (fun _ hk => hk.2) (.slice Ao14 t430.length co14)) (fun _ h_ => h_.1))))) (xL (by (with_reducible repeat (first | apply xRA | apply xRN | apply xRD)); exact (xO (xF (p := ⟨gb434, 1, none⟩) (xF (p := ⟨gb434, 0, none⟩) (Kd.R_types HO432.out BK434.out (by decide)) (fun _ hk => hk.2) (.int .i64 t429)) (fun _ hk => hk.2) (.slice Ao14 t430.length co14)) (fun _ h_ => h_.1))))) (below_size (yh HB))); replace HO426 := xM (Kd.R_elder' (by (with_reducible repeat (first | apply xRA | apply xRN | apply xRD)); exact (xO (xF (p := ⟨gb434, 1, none⟩) (xF (p := ⟨gb434, 0, none⟩) (Kd.R_types HO426.out BK434.out (by decide)) (fun _ hk => hk.2) (.int .i64 t429)) (fun _ hk => hk.2) (.slice Ao14 t430.length co14)) (fun _ h_ => h_.1))) (Kd.R_base ho0) hb); replace HO428 := xM (Kd.R_elder' (by (with_reducible repeat (first | apply xRA | apply xRN | apply xRD)); exact (xO (xF (p := ⟨gb434, 1, none⟩) (xF (p := ⟨gb434, 0, none⟩) (Kd.R_types HO428.out BK434.out (by decide)) (fun _ hk => hk.2) (.int .i64 t429)) (fun _ hk => hk.2) (.slice Ao14 t430.length co14)) (fun _ h_ => h_.1))) (Kd.R_base ho0) hb); replace HO432 := xM (Kd.R_elder' (by (with_reducible repeat (first | apply xRA | apply xRN | apply xRD)); exact (xO (xF (p := ⟨gb434, 1, none⟩) (xF (p := ⟨gb434, 0, none⟩) (Kd.R_types HO432.out BK434.out (by decide)) (fun _ hk => hk.2) (.int .i64 t429)) (fun _ hk => hk.2) (.slice Ao14 t430.length co14)) (fun _ h_ => h_.1))) (Kd.R_base ho0) hb); replace BK434 := xM (xB (g := gb434) (o := .cells #[.int .i64 t429, .slice Ao14 t430.length co14] 33 (0, 0)) (by (with_reducible repeat (first | apply xbN | apply xbD | apply xbA)); refine blk_put (cs := #[.int .i64 t429, .slice none 0 0]) ?_ 1 _ rfl; (with_reducible repeat (first | apply xbN | apply xbD | apply xbA)); refine blk_put (cs := #[.int .i64 0, .slice none 0 0]) ?_ 0 _ rfl; (with_reducible repeat (first | apply xbN | apply xbD | apply xbA)); exact BK434.out) hb); replace HB := xM (below_step (yh HB) hb); (try clear hb); (try clear ho0)) | ((with_reducible refine gate_dst (N := 9) rfl ?_); (try (refine gate_guard (by rfl) ?_; dsimp only)); refine box_event ?hg (N := 9) ?hd (cs := #[.int .i64 0, .slice none 0 0]) (t := 33) ?hr ?_; (case hd => rfl); (case hg => rfl); (case hr => first | (go_simp; done) | (go_simp; rfl)); intro gb440 hg w16 hbox hb; have BK440 := xM (hbox); have GW440 := xM ((by rw [hg]; exact (below_size (yh HB)) : w.heap.size ≤ gb440)); have GE440 := xM ((by rw [hg]; exact (below_size (yh HB)) : w.heap.size ≤ gb440)); have NB434_440 := xM ((by rw [hg]; exact Nat.ne_of_lt (blk_lt (yb BK434)) : gb434 ≠ gb440)); have NB440_434 := xM ((by rw [hg]; exact Nat.ne_of_gt (blk_lt (yb BK434)) : gb440 ≠ gb434)); replace HO426 := xM (xW (yR HO426) hb); replace HO428 := xM (xW (yR HO428) hb); replace HO432 := xM (xW (yR HO432) hb); replace HO438 := xM (xW (yR HO438) hb); replace BK434 := xM (xB (yb BK434) hb); replace HB := xM (below_step (yh HB) hb); clear hb hbox hg; have hnb17 := NB440_434.out; have hnc17 := NB434_440.out; have hcz18_0 : w16.cell? ⟨gb440, 0, none⟩ = some (.int .i64 0) := (blk_cell BK440.out 0).trans rfl; have hcz18_1 : w16.cell? ⟨gb440, 1, none⟩ = some (.slice none 0 0) := (blk_cell BK440.out 1).trans rfl; have hfz18_0 := blk_frozen BK440.out 0; have hfz18_1 := blk_frozen BK440.out 1; obtain ⟨Ao19, co19, eo19⟩ := Kd.R_slice HO438.out; subst eo19))
   (try simp only [Act.put, List.setIfInBounds_toArray, List.set_cons_zero, List.set_cons_succ])
   go_cut [73] (fun v73 wc => ∃ (kq : Nat) (x73_6 : Bool), v73 = .bool x73_6 ∧ Aside0 (laws_FnAns.j0 kq l1 t423 t424 t433 x73_6 t429 t430 = some r) ∧ Aside0 (kq ≤ k) ∧ Aside0 (Kd.R (Kd.int .i64) 3 wc w.heap.size (fun k_ => some k_ ≠ ((.slice Ao10 t424.length co10) : Value).ownBlock ∧ some k_ ≠ ((.slice Ao14 t430.length co14) : Value).ownBlock ∧ some k_ ≠ ((.slice Ao19 t436.length co19) : Value).ownBlock) (.slice Ao9 t423.length co9) t423) ∧ Aside0 (Kd.R (Kd.int .i64) 3 wc w.heap.size (fun k_ => some k_ ≠ ((.slice Ao9 t423.length co9) : Value).ownBlock ∧ some k_ ≠ ((.slice Ao14 t430.length co14) : Value).ownBlock ∧ some k_ ≠ ((.slice Ao19 t436.length co19) : Value).ownBlock) (.slice Ao10 t424.length co10) t424) ∧ Aside0 (Kd.R (Kd.int .i64) 3 wc w.heap.size (fun k_ => some k_ ≠ ((.slice Ao9 t423.length co9) : Value).ownBlock ∧ some k_ ≠ ((.slice Ao10 t424.length co10) : Value).ownBlock ∧ some k_ ≠ ((.slice Ao19 t436.length co19) : Value).ownBlock) (.slice Ao14 t430.length co14) t430) ∧ Aside0 (Kd.R (Kd.int .i64) 3 wc w.heap.size (fun k_ => some k_ ≠ ((.slice Ao9 t423.length co9) : Value).ownBlock ∧ some k_ ≠ ((.slice Ao10 t424.length co10) : Value).ownBlock ∧ some k_ ≠ ((.slice Ao14 t430.length co14) : Value).ownBlock) (.slice Ao19 t436.length co19) t436) ∧ Aside0 (wc.heap[gb434]? = some (.cells #[.int .i64 t429, (.slice Ao14 t430.length co14)] 33 (0, 0))) ∧ Aside0 (wc.heap[gb440]? = some (.cells #[.int .i64 t435, (.slice Ao19 t436.length co19)] 33 (0, 0))) ∧ Aside0 (Below w.heap.size w wc))
   case first => as_aux_lemma =>
    have H := HC7.out
    clear HC7
    by_cases c20 : (t433 != t439) = true
    ·rw [if_pos c20] at H
     have c20b0 : (t433 != t439) = true := c20
     (try (have c20b1 : decide (t433 = t439) = false := by simpa using c20))
     (try (have c20b2 : (t433 == t439) = false := by simpa using c20))
     (try (have c20b3 : ¬ (t433 = t439) := by simpa using c20))
     clear c20
     (first | rw [c20b0] | (simp only [i64_w, i32_w]; rw [c20b0]) | skip)
     have H' := Aside0.mk H
     clear H
     go_wp2
     go_meet
     case rel => exact ⟨_, (true), (by first | rfl | (simp; done) | (simp [*]; done)), H', ⟨by first | omega | exact Nat.le_refl _⟩, ⟨by (with_reducible repeat (first | apply xRA | apply xRN | apply xRD)); exact xO (xF (p := ⟨gb440, 1, none⟩) (xF (p := ⟨gb440, 0, none⟩) (Kd.R_types HO426.out BK440.out (by decide)) (fun _ hk => hk.2) (.int .i64 t435)) (fun _ hk => hk.2) (.slice Ao19 t436.length co19)) (fun _ hk => ⟨hk.1.1.1, ⟨hk.1.1.2, hk.1.2⟩⟩)⟩, ⟨by (with_reducible repeat (first | apply xRA | apply xRN | apply xRD)); exact xO (xF (p := ⟨gb440, 1, none⟩) (xF (p := ⟨gb440, 0, none⟩) (Kd.R_types HO428.out BK440.out (by decide)) (fun _ hk => hk.2) (.int .i64 t435)) (fun _ hk => hk.2) (.slice Ao19 t436.length co19)) (fun _ hk => ⟨hk.1.1.1, ⟨hk.1.1.2, hk.1.2⟩⟩)⟩, ⟨by (with_reducible repeat (first | apply xRA | apply xRN | apply xRD)); exact xO (xF (p := ⟨gb440, 1, none⟩) (xF (p := ⟨gb440, 0, none⟩) (Kd.R_types HO432.out BK440.out (by decide)) (fun _ hk => hk.2) (.int .i64 t435)) (fun _ hk => hk.2) (.slice Ao19 t436.length co19)) (fun _ hk => ⟨hk.1.1.1.2, ⟨hk.1.1.2, hk.1.2⟩⟩)⟩, ⟨by (with_reducible repeat (first | apply xRA | apply xRN | apply xRD)); exact xO (xF (p := ⟨gb440, 1, none⟩) (xF (p := ⟨gb440, 0, none⟩) (Kd.R_types HO438.out BK440.out (by decide)) (fun _ hk => hk.2) (.int .i64 t435)) (fun _ hk => hk.2) (.slice Ao19 t436.length co19)) (fun _ hk => ⟨hk.1.1.1.2, ⟨hk.1.1.2, hk.1.2⟩⟩)⟩, ⟨by (with_reducible repeat (first | apply xbN | apply xbD | apply xbA)); refine blk_far ?_ NB434_440.out _; (with_reducible repeat (first | apply xbN | apply xbD | apply xbA)); refine blk_far ?_ NB434_440.out _; (with_reducible repeat (first | apply xbN | apply xbD | apply xbA)); exact BK434.out⟩, ⟨by (with_reducible repeat (first | apply xbN | apply xbD | apply xbA)); refine blk_put (cs := #[.int .i64 t435, .slice none 0 0]) ?_ 1 _ rfl; (with_reducible repeat (first | apply xbN | apply xbD | apply xbA)); refine blk_put (cs := #[.int .i64 0, .slice none 0 0]) ?_ 0 _ rfl; (with_reducible repeat (first | apply xbN | apply xbD | apply xbA)); exact BK440.out⟩, ⟨yh HB⟩⟩
    ·rw [if_neg c20] at H
     have c20b0 : (t433 != t439) = false := by simpa using c20
     (try (have c20b1 : decide (t433 = t439) = true := by simpa using c20))
     (try (have c20b2 : (t433 == t439) = true := by simpa using c20))
     clear c20
     (first | rw [c20b0] | (simp only [i64_w, i32_w]; rw [c20b0]) | skip)
     by_cases c21 : t429 = t435
     ·rw [if_pos c21] at H
      have c21b0 : (t429 == t435) = true := beq_iff_eq.mpr c21
      have c21b1 : (t429 != t435) = false := bne_eq_false_iff_eq.mpr c21
      clear c21
      replace H := Option.bind_eq_some_iff.mp H
      obtain ⟨t441, A220, H⟩ := H
      replace H : (laws_FnAns.j0 k l1 t423 t424 t433 (!t441) t429 t430) = some r := H
      have A22 := Aside0.mk A220
      clear A220
      have H' := Aside0.mk H
      clear H
      have hnb23 := NB434_440.out
      have hnc23 := NB440_434.out
      have hcz24_0 : w16.cell? ⟨gb434, 0, none⟩ = some (.int .i64 t429) := (blk_cell BK434.out 0).trans rfl
      have hcz24_1 : w16.cell? ⟨gb434, 1, none⟩ = some (.slice Ao14 t430.length co14) := (blk_cell BK434.out 1).trans rfl
      have hfz24_0 := blk_frozen BK434.out 0
      have hfz24_1 := blk_frozen BK434.out 1
      have hcz25_0 : w16.cell? ⟨gb440, 0, none⟩ = some (.int .i64 0) := (blk_cell BK440.out 0).trans rfl
      have hcz25_1 : w16.cell? ⟨gb440, 1, none⟩ = some (.slice none 0 0) := (blk_cell BK440.out 1).trans rfl
      have hfz25_0 := blk_frozen BK440.out 0
      have hfz25_1 := blk_frozen BK440.out 1
      go_wp2_with (first | (go_at_call 47; (with_reducible refine (laws_sameInts.calls k _ _ t430 _ _ t436 t441 _ ?side1 ?side2 ?side3 ?side4 A22.out).mono ?_); (case side1 => refine (Kd.R_reads' (e := 3) (base := w.heap.size) (ok := fun k_ => (((True ∧ some k_ ≠ (.slice Ao9 t423.length co9 : Value).ownBlock) ∧ some k_ ≠ (.slice Ao10 t424.length co10 : Value).ownBlock) ∧ some k_ ≠ (.slice Ao19 t436.length co19 : Value).ownBlock)) (n := t430.length) (c := co14) ?_).2.2; exact (by (with_reducible repeat (first | apply xRA | apply xRN | apply xRD)); exact (xO (xF (p := ⟨gb440, 1, none⟩) (xF (p := ⟨gb440, 0, none⟩) (Kd.R_types HO432.out BK440.out (by decide)) (fun _ hk => hk.2) (.int .i64 t435)) (fun _ hk => hk.2) (.slice Ao19 t436.length co19)) (fun _ h_ => h_.1)))); (case side2 => exact (Kd.R_reads' HO432.out).2.1); (case side3 => refine (Kd.R_reads' (e := 3) (base := w.heap.size) (ok := fun k_ => (((True ∧ some k_ ≠ (.slice Ao9 t423.length co9 : Value).ownBlock) ∧ some k_ ≠ (.slice Ao10 t424.length co10 : Value).ownBlock) ∧ some k_ ≠ (.slice Ao14 t430.length co14 : Value).ownBlock)) (n := t436.length) (c := co19) ?_).2.2; exact (by (with_reducible repeat (first | apply xRA | apply xRN | apply xRD)); exact (xO (xF (p := ⟨gb440, 1, none⟩) (xF (p := ⟨gb440, 0, none⟩) (Kd.R_types HO438.out BK440.out (by decide)) (fun _ hk => hk.2) (.int .i64 t435)) (fun _ hk => hk.2) (.slice Ao19 t436.length co19)) (fun _ h_ => h_.1)))); (case side4 => exact (Kd.R_reads' HO438.out).2.1); rintro e w' ⟨rfl, ⟨nd, rfl⟩⟩))
      go_meet
      case rel => exact ⟨_, (!t441), (by first | rfl | (simp; done) | (simp [*]; done)), H', ⟨by first | omega | exact Nat.le_refl _⟩, ⟨by (with_reducible repeat (first | apply xRA | apply xRN | apply xRD)); exact xO (xF (p := ⟨gb440, 1, none⟩) (xF (p := ⟨gb440, 0, none⟩) (Kd.R_types HO426.out BK440.out (by decide)) (fun _ hk => hk.2) (.int .i64 t435)) (fun _ hk => hk.2) (.slice Ao19 t436.length co19)) (fun _ hk => ⟨hk.1.1.1, ⟨hk.1.1.2, hk.1.2⟩⟩)⟩, ⟨by (with_reducible repeat (first | apply xRA | apply xRN | apply xRD)); exact xO (xF (p := ⟨gb440, 1, none⟩) (xF (p := ⟨gb440, 0, none⟩) (Kd.R_types HO428.out BK440.out (by decide)) (fun _ hk => hk.2) (.int .i64 t435)) (fun _ hk => hk.2) (.slice Ao19 t436.length co19)) (fun _ hk => ⟨hk.1.1.1, ⟨hk.1.1.2, hk.1.2⟩⟩)⟩, ⟨by (with_reducible repeat (first | apply xRA | apply xRN | apply xRD)); exact xO (xF (p := ⟨gb440, 1, none⟩) (xF (p := ⟨gb440, 0, none⟩) (Kd.R_types HO432.out BK440.out (by decide)) (fun _ hk => hk.2) (.int .i64 t435)) (fun _ hk => hk.2) (.slice Ao19 t436.length co19)) (fun _ hk => ⟨hk.1.1.1.2, ⟨hk.1.1.2, hk.1.2⟩⟩)⟩, ⟨by (with_reducible repeat (first | apply xRA | apply xRN | apply xRD)); exact xO (xF (p := ⟨gb440, 1, none⟩) (xF (p := ⟨gb440, 0, none⟩) (Kd.R_types HO438.out BK440.out (by decide)) (fun _ hk => hk.2) (.int .i64 t435)) (fun _ hk => hk.2) (.slice Ao19 t436.length co19)) (fun _ hk => ⟨hk.1.1.1.2, ⟨hk.1.1.2, hk.1.2⟩⟩)⟩, ⟨by (with_reducible repeat (first | apply xbN | apply xbD | apply xbA)); refine blk_far ?_ NB434_440.out _; (with_reducible repeat (first | apply xbN | apply xbD | apply xbA)); refine blk_far ?_ NB434_440.out _; (with_reducible repeat (first | apply xbN | apply xbD | apply xbA)); exact BK434.out⟩, ⟨by (with_reducible repeat (first | apply xbN | apply xbD | apply xbA)); refine blk_put (cs := #[.int .i64 t435, .slice none 0 0]) ?_ 1 _ rfl; (with_reducible repeat (first | apply xbN | apply xbD | apply xbA)); refine blk_put (cs := #[.int .i64 0, .slice none 0 0]) ?_ 0 _ rfl; (with_reducible repeat (first | apply xbN | apply xbD | apply xbA)); exact BK440.out⟩, ⟨yh HB⟩⟩
     ·rw [if_neg c21] at H
      have c21b0 : (t429 == t435) = false := beq_eq_false_iff_ne.mpr c21
      have c21b1 : (t429 != t435) = true := bne_iff_ne.mpr c21
      have H' := Aside0.mk H
      clear H
      have hnb26 := NB434_440.out
      have hnc26 := NB440_434.out
      have hcz27_0 : w16.cell? ⟨gb434, 0, none⟩ = some (.int .i64 t429) := (blk_cell BK434.out 0).trans rfl
      have hcz27_1 : w16.cell? ⟨gb434, 1, none⟩ = some (.slice Ao14 t430.length co14) := (blk_cell BK434.out 1).trans rfl
      have hfz27_0 := blk_frozen BK434.out 0
      have hfz27_1 := blk_frozen BK434.out 1
      have hcz28_0 : w16.cell? ⟨gb440, 0, none⟩ = some (.int .i64 0) := (blk_cell BK440.out 0).trans rfl
      have hcz28_1 : w16.cell? ⟨gb440, 1, none⟩ = some (.slice none 0 0) := (blk_cell BK440.out 1).trans rfl
      have hfz28_0 := blk_frozen BK440.out 0
      have hfz28_1 := blk_frozen BK440.out 1
      go_wp2
      go_meet
      case rel => exact ⟨_, (true), (by first | rfl | (simp; done) | (simp [*]; done)), H', ⟨by first | omega | exact Nat.le_refl _⟩, ⟨by (with_reducible repeat (first | apply xRA | apply xRN | apply xRD)); exact xO (xF (p := ⟨gb440, 1, none⟩) (xF (p := ⟨gb440, 0, none⟩) (Kd.R_types HO426.out BK440.out (by decide)) (fun _ hk => hk.2) (.int .i64 t435)) (fun _ hk => hk.2) (.slice Ao19 t436.length co19)) (fun _ hk => ⟨hk.1.1.1, ⟨hk.1.1.2, hk.1.2⟩⟩)⟩, ⟨by (with_reducible repeat (first | apply xRA | apply xRN | apply xRD)); exact xO (xF (p := ⟨gb440, 1, none⟩) (xF (p := ⟨gb440, 0, none⟩) (Kd.R_types HO428.out BK440.out (by decide)) (fun _ hk => hk.2) (.int .i64 t435)) (fun _ hk => hk.2) (.slice Ao19 t436.length co19)) (fun _ hk => ⟨hk.1.1.1, ⟨hk.1.1.2, hk.1.2⟩⟩)⟩, ⟨by (with_reducible repeat (first | apply xRA | apply xRN | apply xRD)); exact xO (xF (p := ⟨gb440, 1, none⟩) (xF (p := ⟨gb440, 0, none⟩) (Kd.R_types HO432.out BK440.out (by decide)) (fun _ hk => hk.2) (.int .i64 t435)) (fun _ hk => hk.2) (.slice Ao19 t436.length co19)) (fun _ hk => ⟨hk.1.1.1.2, ⟨hk.1.1.2, hk.1.2⟩⟩)⟩, ⟨by (with_reducible repeat (first | apply xRA | apply xRN | apply xRD)); exact xO (xF (p := ⟨gb440, 1, none⟩) (xF (p := ⟨gb440, 0, none⟩) (Kd.R_types HO438.out BK440.out (by decide)) (fun _ hk => hk.2) (.int .i64 t435)) (fun _ hk => hk.2) (.slice Ao19 t436.length co19)) (fun _ hk => ⟨hk.1.1.1.2, ⟨hk.1.1.2, hk.1.2⟩⟩)⟩, ⟨by (with_reducible repeat (first | apply xbN | apply xbD | apply xbA)); refine blk_far ?_ NB434_440.out _; (with_reducible repeat (first | apply xbN | apply xbD | apply xbA)); refine blk_far ?_ NB434_440.out _; (with_reducible repeat (first | apply xbN | apply xbD | apply xbA)); exact BK434.out⟩, ⟨by (with_reducible repeat (first | apply xbN | apply xbD | apply xbA)); refine blk_put (cs := #[.int .i64 t435, .slice none 0 0]) ?_ 1 _ rfl; (with_reducible repeat (first | apply xbN | apply xbD | apply xbA)); refine blk_put (cs := #[.int .i64 0, .slice none 0 0]) ?_ 0 _ rfl; (with_reducible repeat (first | apply xbN | apply xbD | apply xbA)); exact BK440.out⟩, ⟨yh HB⟩⟩
   case rest => as_aux_lemma =>
    clear HC7
    try clear c1
    try clear c2
    try clear p2
    try clear c3
    try clear c3b0
    try clear c5
    try clear p6
    try clear c12
    try clear c17
    try clear c20
    try clear c20b0
    try clear c20b1
    try clear c20b2
    try clear c21
    try clear c21b0
    try clear c21b1
    try clear c22
    try clear c23
    try clear c26
    try clear hcz13_0
    try clear hcz13_1
    try clear hcz18_0
    try clear hcz18_1
    try clear hcz24_0
    try clear hcz24_1
    try clear hcz25_0
    try clear hcz25_1
    try clear hcz27_0
    try clear hcz27_1
    try clear hcz28_0
    try clear hcz28_1
    try clear hfz13_0
    try clear hfz13_1
    try clear hfz18_0
    try clear hfz18_1
    try clear hfz24_0
    try clear hfz24_1
    try clear hfz25_0
    try clear hfz25_1
    try clear hfz27_0
    try clear hfz27_1
    try clear hfz28_0
    try clear hfz28_1
    obtain ⟨kq, x73_6, rfl, HA, HJ6, HO_5, HO_6, HO_435001, HO_441001, BK434, BK440, HB⟩ := hcut
    cases kq with
    | zero => exact absurd HA.out (by simp [laws_FnAns.j0])
    | succ kj6 =>
     have H := HA.out
     clear HA
     simp only [laws_FnAns.j0] at H
     by_cases c29 : x73_6 = true
     ·subst c29
      have H1 : (some false) = some r := by rw [if_pos rfl] at H; exact H
      clear H
      have H := H1
      clear H1
      obtain rfl := Option.some.inj H
      go_wp2
      go_ret
      exact ⟨by first | rfl | (simp [errW_none, errW_some] <;> rfl) | (simp [*, errW_none, errW_some] <;> rfl), by repeat (first | (with_reducible first | exact HB.out | apply xa | apply xn | apply xd | refine xs ?_ GE434.out | refine xs ?_ GE440.out) | exact HB.out)⟩
     ·replace c29 := Bool.eq_false_iff.mpr c29
      subst c29
      have H1 : (if t433 = true then ((impl_DecodeSymbols.f kj6 t423 t429 t430 (t424.length : Int)).bind fun bt442 => (if bt442.2 = true then ((laws_sameInts.f kj6 bt442.1 t424).bind fun t446 => (if t446 = true then (if t429 < 4096 then (some false) else (if t429 ≥ 65536 then (some false) else (laws_FnAns.j1 kj6 l1))) else (some false))) else (some false))) else (laws_FnAns.j1 kj6 l1)) = some r := by rw [if_neg (show ¬ (false = true) by decide)] at H; exact H
      clear H
      have H := H1
      clear H1
      have HC30 := Aside0.mk H
      clear H
      go_upto_if 74 with (fail)
      go_cut [] (fun wc => ∃ (kq : Nat), Aside0 (laws_FnAns.j1 kq l1 = some r) ∧ Aside0 (kq ≤ kj6) ∧ Aside0 (Kd.R (Kd.int .i64) 3 wc w.heap.size (fun k_ => some k_ ≠ ((.slice Ao19 t436.length co19) : Value).ownBlock) (.slice Ao14 t430.length co14) t430) ∧ Aside0 (Kd.R (Kd.int .i64) 3 wc w.heap.size (fun k_ => some k_ ≠ ((.slice Ao14 t430.length co14) : Value).ownBlock) (.slice Ao19 t436.length co19) t436) ∧ Aside0 (wc.heap[gb434]? = some (.cells #[.int .i64 t429, (.slice Ao14 t430.length co14)] 33 (0, 0))) ∧ Aside0 (wc.heap[gb440]? = some (.cells #[.int .i64 t435, (.slice Ao19 t436.length co19)] 33 (0, 0))) ∧ Aside0 (Below w.heap.size w wc))
      case first => as_aux_lemma =>
       have H := HC30.out
       clear HC30
       by_cases c31 : t433 = true
       ·subst c31
        have H1 : ((impl_DecodeSymbols.f kj6 t423 t429 t430 (t424.length : Int)).bind fun bt442 => (if bt442.2 = true then ((laws_sameInts.f kj6 bt442.1 t424).bind fun t446 => (if t446 = true then (if t429 < 4096 then (some false) else (if t429 ≥ 65536 then (some false) else (laws_FnAns.j1 kj6 l1))) else (some false))) else (some false))) = some r := by rw [if_pos rfl] at H; exact H
        clear H
        have H := H1
        clear H1
        replace H := Option.bind_eq_some_iff.mp H
        obtain ⟨⟨t442, t445⟩, A320, H⟩ := H
        replace H : (if t445 = true then ((laws_sameInts.f kj6 t442 t424).bind fun t446 => (if t446 = true then (if t429 < 4096 then (some false) else (if t429 ≥ 65536 then (some false) else (laws_FnAns.j1 kj6 l1))) else (some false))) else (some false)) = some r := H
        have A32 := Aside0.mk A320
        clear A320
        by_cases c33 : t445 = true
        ·subst c33
         have H1 : ((laws_sameInts.f kj6 t442 t424).bind fun t446 => (if t446 = true then (if t429 < 4096 then (some false) else (if t429 ≥ 65536 then (some false) else (laws_FnAns.j1 kj6 l1))) else (some false))) = some r := by rw [if_pos rfl] at H; exact H
         clear H
         have H := H1
         clear H1
         replace H := Option.bind_eq_some_iff.mp H
         obtain ⟨t446, A340, H⟩ := H
         replace H : (if t446 = true then (if t429 < 4096 then (some false) else (if t429 ≥ 65536 then (some false) else (laws_FnAns.j1 kj6 l1))) else (some false)) = some r := H
         have A34 := Aside0.mk A340
         clear A340
         by_cases c35 : t446 = true
         ·subst c35
          have H1 : (if t429 < 4096 then (some false) else (if t429 ≥ 65536 then (some false) else (laws_FnAns.j1 kj6 l1))) = some r := by rw [if_pos rfl] at H; exact H
          clear H
          have H := H1
          clear H1
          by_cases c36 : t429 < 4096
          ·rw [if_pos c36] at H
           have c36b0 : decide (t429 < 4096) = true := decide_eq_true c36
           clear c36
           (first | rw [c36b0] | (simp only [i64_w, i32_w]; rw [c36b0]) | skip)
           obtain rfl := Option.some.inj H
           have hnb37 := NB434_440.out
           have hnc37 := NB440_434.out
           have hcz38_0 : wc.cell? ⟨gb434, 0, none⟩ = some (.int .i64 t429) := (blk_cell BK434.out 0).trans rfl
           have hcz38_1 : wc.cell? ⟨gb434, 1, none⟩ = some (.slice Ao14 t430.length co14) := (blk_cell BK434.out 1).trans rfl
           have hfz38_0 := blk_frozen BK434.out 0
           have hfz38_1 := blk_frozen BK434.out 1
           go_wp2_with (first | ((with_reducible refine gate_callee (f := 36) rfl ?_); refine goesL_ (some 80) rfl rfl Try.func36 (by kernel_rfl) rfl #[.slice Ao9 t423.length co9, .agg #[.int .i64 t429, .slice Ao14 t430.length co14], .int .i64 (t424.length : Int)] rfl (by (try simp only [List.map_toArray, List.map_cons, List.map_nil]); first | done | rfl | (simp only [List.length_drop, List.length_take]; rfl)) ?_; (with_reducible refine (impl_DecodeSymbols.calls kj6 _ _ t423 t429 _ _ t430 (t424.length : Int) t442 true _ ?side1 ?side2 ?side3 ?side4 A32.out).mono ?_); (case side1 => repeat (first | exact (Kd.R_reads' HO_5.out).2.2 | (with_reducible refine Kd.C_alloc ?_ _) | (with_reducible refine Kd.C_drewN ?_ _) | (with_reducible refine Kd.C_drew ?_))); (case side2 => exact (Kd.R_reads' HO_5.out).2.1); (case side3 => repeat (first | exact (Kd.R_reads' HO_435001.out).2.2 | (with_reducible refine Kd.C_alloc ?_ _) | (with_reducible refine Kd.C_drewN ?_ _) | (with_reducible refine Kd.C_drew ?_))); (case side4 => exact (Kd.R_reads' HO_435001.out).2.1); rintro e w39 ⟨v443, rfl, ho0, hb⟩; refine ⟨_, rfl, ?_⟩; have HO444 := xM (Kd.R_lower (Kd.R_new' (Kd.R_new' (Kd.R_new' (Kd.R_new' ho0 (xL (yR HO_5))) (xL (yR HO_6))) (xL (yR HO_435001))) (xL (yR HO_441001))) (below_size (yh HB))); replace HO_5 := xM (Kd.R_elder' (yR HO_5) (Kd.R_base ho0) hb); replace HO_6 := xM (Kd.R_elder' (yR HO_6) (Kd.R_base ho0) hb); replace HO_435001 := xM (Kd.R_elder' (yR HO_435001) (Kd.R_base ho0) hb); replace HO_441001 := xM (Kd.R_elder' (yR HO_441001) (Kd.R_base ho0) hb); replace BK434 := xM (xB (yb BK434) hb); replace BK440 := xM (xB (yb BK440) hb); replace HB := xM (below_step (yh HB) hb); (try clear hb); (try clear ho0); obtain ⟨Ao40, co40, eo40⟩ := Kd.R_slice HO444.out; subst eo40) | (go_at_call 47; (with_reducible refine (laws_sameInts.calls kj6 _ _ t442 _ _ t424 true _ ?side1 ?side2 ?side3 ?side4 A34.out).mono ?_); (case side1 => repeat (first | exact (Kd.R_reads' HO444.out).2.2 | (with_reducible refine Kd.C_alloc ?_ _) | (with_reducible refine Kd.C_drewN ?_ _) | (with_reducible refine Kd.C_drew ?_))); (case side2 => exact (Kd.R_reads' HO444.out).2.1); (case side3 => repeat (first | exact (Kd.R_reads' HO_6.out).2.2 | (with_reducible refine Kd.C_alloc ?_ _) | (with_reducible refine Kd.C_drewN ?_ _) | (with_reducible refine Kd.C_drew ?_))); (case side4 => exact (Kd.R_reads' HO_6.out).2.1); rintro e w' ⟨rfl, ⟨nd, rfl⟩⟩; have hcz41_0 : w39.cell? ⟨gb434, 0, none⟩ = some (.int .i64 t429) := (blk_cell BK434.out 0).trans rfl; have hcz41_1 : w39.cell? ⟨gb434, 1, none⟩ = some (.slice Ao14 t430.length co14) := (blk_cell BK434.out 1).trans rfl; have hfz41_0 := blk_frozen BK434.out 0; have hfz41_1 := blk_frozen BK434.out 1))
           go_ret
           exact ⟨by first | rfl | (simp [errW_none, errW_some] <;> rfl) | (simp [*, errW_none, errW_some] <;> rfl), by repeat (first | (with_reducible first | exact HB.out | apply xa | apply xn | apply xd | refine xs ?_ GE434.out | refine xs ?_ GE440.out) | exact HB.out)⟩
          ·rw [if_neg c36] at H
           have c36b0 : decide (t429 < 4096) = false := decide_eq_false c36
           clear c36
           (first | rw [c36b0] | (simp only [i64_w, i32_w]; rw [c36b0]) | skip)
           by_cases c42 : t429 ≥ 65536
           ·rw [if_pos c42] at H
            have c42b0 : decide (65536 ≤ t429) = true := decide_eq_true c42
            clear c42
            obtain rfl := Option.some.inj H
            have hnb43 := NB434_440.out
            have hnc43 := NB440_434.out
            have hcz44_0 : wc.cell? ⟨gb434, 0, none⟩ = some (.int .i64 t429) := (blk_cell BK434.out 0).trans rfl
            have hcz44_1 : wc.cell? ⟨gb434, 1, none⟩ = some (.slice Ao14 t430.length co14) := (blk_cell BK434.out 1).trans rfl
            have hfz44_0 := blk_frozen BK434.out 0
            have hfz44_1 := blk_frozen BK434.out 1
            go_wp2_with (first | ((with_reducible refine gate_callee (f := 36) rfl ?_); refine goesL_ (some 80) rfl rfl Try.func36 (by kernel_rfl) rfl #[.slice Ao9 t423.length co9, .agg #[.int .i64 t429, .slice Ao14 t430.length co14], .int .i64 (t424.length : Int)] rfl (by (try simp only [List.map_toArray, List.map_cons, List.map_nil]); first | done | rfl | (simp only [List.length_drop, List.length_take]; rfl)) ?_; (with_reducible refine (impl_DecodeSymbols.calls kj6 _ _ t423 t429 _ _ t430 (t424.length : Int) t442 true _ ?side1 ?side2 ?side3 ?side4 A32.out).mono ?_); (case side1 => repeat (first | exact (Kd.R_reads' HO_5.out).2.2 | (with_reducible refine Kd.C_alloc ?_ _) | (with_reducible refine Kd.C_drewN ?_ _) | (with_reducible refine Kd.C_drew ?_))); (case side2 => exact (Kd.R_reads' HO_5.out).2.1); (case side3 => repeat (first | exact (Kd.R_reads' HO_435001.out).2.2 | (with_reducible refine Kd.C_alloc ?_ _) | (with_reducible refine Kd.C_drewN ?_ _) | (with_reducible refine Kd.C_drew ?_))); (case side4 => exact (Kd.R_reads' HO_435001.out).2.1); rintro e w45 ⟨v443, rfl, ho0, hb⟩; refine ⟨_, rfl, ?_⟩; have HO444 := xM (Kd.R_lower (Kd.R_new' (Kd.R_new' (Kd.R_new' (Kd.R_new' ho0 (xL (yR HO_5))) (xL (yR HO_6))) (xL (yR HO_435001))) (xL (yR HO_441001))) (below_size (yh HB))); replace HO_5 := xM (Kd.R_elder' (yR HO_5) (Kd.R_base ho0) hb); replace HO_6 := xM (Kd.R_elder' (yR HO_6) (Kd.R_base ho0) hb); replace HO_435001 := xM (Kd.R_elder' (yR HO_435001) (Kd.R_base ho0) hb); replace HO_441001 := xM (Kd.R_elder' (yR HO_441001) (Kd.R_base ho0) hb); replace BK434 := xM (xB (yb BK434) hb); replace BK440 := xM (xB (yb BK440) hb); replace HB := xM (below_step (yh HB) hb); (try clear hb); (try clear ho0); obtain ⟨Ao46, co46, eo46⟩ := Kd.R_slice HO444.out; subst eo46) | (go_at_call 47; (with_reducible refine (laws_sameInts.calls kj6 _ _ t442 _ _ t424 true _ ?side1 ?side2 ?side3 ?side4 A34.out).mono ?_); (case side1 => repeat (first | exact (Kd.R_reads' HO444.out).2.2 | (with_reducible refine Kd.C_alloc ?_ _) | (with_reducible refine Kd.C_drewN ?_ _) | (with_reducible refine Kd.C_drew ?_))); (case side2 => exact (Kd.R_reads' HO444.out).2.1); (case side3 => repeat (first | exact (Kd.R_reads' HO_6.out).2.2 | (with_reducible refine Kd.C_alloc ?_ _) | (with_reducible refine Kd.C_drewN ?_ _) | (with_reducible refine Kd.C_drew ?_))); (case side4 => exact (Kd.R_reads' HO_6.out).2.1); rintro e w' ⟨rfl, ⟨nd, rfl⟩⟩; have hcz47_0 : w45.cell? ⟨gb434, 0, none⟩ = some (.int .i64 t429) := (blk_cell BK434.out 0).trans rfl; have hcz47_1 : w45.cell? ⟨gb434, 1, none⟩ = some (.slice Ao14 t430.length co14) := (blk_cell BK434.out 1).trans rfl; have hfz47_0 := blk_frozen BK434.out 0; have hfz47_1 := blk_frozen BK434.out 1))
            go_ret
            exact ⟨by first | rfl | (simp [errW_none, errW_some] <;> rfl) | (simp [*, errW_none, errW_some] <;> rfl), by repeat (first | (with_reducible first | exact HB.out | apply xa | apply xn | apply xd | refine xs ?_ GE434.out | refine xs ?_ GE440.out) | exact HB.out)⟩
           ·rw [if_neg c42] at H
            have c42b0 : decide (65536 ≤ t429) = false := decide_eq_false c42
            clear c42
            have H' := Aside0.mk H
            clear H
            have hnb48 := NB434_440.out
            have hnc48 := NB440_434.out
            have hcz49_0 : wc.cell? ⟨gb434, 0, none⟩ = some (.int .i64 t429) := (blk_cell BK434.out 0).trans rfl
            have hcz49_1 : wc.cell? ⟨gb434, 1, none⟩ = some (.slice Ao14 t430.length co14) := (blk_cell BK434.out 1).trans rfl
            have hfz49_0 := blk_frozen BK434.out 0
            have hfz49_1 := blk_frozen BK434.out 1
            go_wp2_with (first | ((with_reducible refine gate_callee (f := 36) rfl ?_); refine goesL_ (some 80) rfl rfl Try.func36 (by kernel_rfl) rfl #[.slice Ao9 t423.length co9, .agg #[.int .i64 t429, .slice Ao14 t430.length co14], .int .i64 (t424.length : Int)] rfl (by (try simp only [List.map_toArray, List.map_cons, List.map_nil]); first | done | rfl | (simp only [List.length_drop, List.length_take]; rfl)) ?_; (with_reducible refine (impl_DecodeSymbols.calls kj6 _ _ t423 t429 _ _ t430 (t424.length : Int) t442 true _ ?side1 ?side2 ?side3 ?side4 A32.out).mono ?_); (case side1 => repeat (first | exact (Kd.R_reads' HO_5.out).2.2 | (with_reducible refine Kd.C_alloc ?_ _) | (with_reducible refine Kd.C_drewN ?_ _) | (with_reducible refine Kd.C_drew ?_))); (case side2 => exact (Kd.R_reads' HO_5.out).2.1); (case side3 => repeat (first | exact (Kd.R_reads' HO_435001.out).2.2 | (with_reducible refine Kd.C_alloc ?_ _) | (with_reducible refine Kd.C_drewN ?_ _) | (with_reducible refine Kd.C_drew ?_))); (case side4 => exact (Kd.R_reads' HO_435001.out).2.1); rintro e w50 ⟨v443, rfl, ho0, hb⟩; refine ⟨_, rfl, ?_⟩; have HO444 := xM (Kd.R_lower (Kd.R_new' (Kd.R_new' (Kd.R_new' (Kd.R_new' ho0 (xL (yR HO_5))) (xL (yR HO_6))) (xL (yR HO_435001))) (xL (yR HO_441001))) (below_size (yh HB))); replace HO_5 := xM (Kd.R_elder' (yR HO_5) (Kd.R_base ho0) hb); replace HO_6 := xM (Kd.R_elder' (yR HO_6) (Kd.R_base ho0) hb); replace HO_435001 := xM (Kd.R_elder' (yR HO_435001) (Kd.R_base ho0) hb); replace HO_441001 := xM (Kd.R_elder' (yR HO_441001) (Kd.R_base ho0) hb); replace BK434 := xM (xB (yb BK434) hb); replace BK440 := xM (xB (yb BK440) hb); replace HB := xM (below_step (yh HB) hb); (try clear hb); (try clear ho0); obtain ⟨Ao51, co51, eo51⟩ := Kd.R_slice HO444.out; subst eo51) | (go_at_call 47; (with_reducible refine (laws_sameInts.calls kj6 _ _ t442 _ _ t424 true _ ?side1 ?side2 ?side3 ?side4 A34.out).mono ?_); (case side1 => repeat (first | exact (Kd.R_reads' HO444.out).2.2 | (with_reducible refine Kd.C_alloc ?_ _) | (with_reducible refine Kd.C_drewN ?_ _) | (with_reducible refine Kd.C_drew ?_))); (case side2 => exact (Kd.R_reads' HO444.out).2.1); (case side3 => repeat (first | exact (Kd.R_reads' HO_6.out).2.2 | (with_reducible refine Kd.C_alloc ?_ _) | (with_reducible refine Kd.C_drewN ?_ _) | (with_reducible refine Kd.C_drew ?_))); (case side4 => exact (Kd.R_reads' HO_6.out).2.1); rintro e w' ⟨rfl, ⟨nd, rfl⟩⟩; have hcz52_0 : w50.cell? ⟨gb434, 0, none⟩ = some (.int .i64 t429) := (blk_cell BK434.out 0).trans rfl; have hcz52_1 : w50.cell? ⟨gb434, 1, none⟩ = some (.slice Ao14 t430.length co14) := (blk_cell BK434.out 1).trans rfl; have hfz52_0 := blk_frozen BK434.out 0; have hfz52_1 := blk_frozen BK434.out 1))
            go_meet
            case rel => exact ⟨_, H', ⟨by have := HJ6.out; first | omega | exact Nat.le_refl _⟩, ⟨by (with_reducible repeat (first | apply xRA | apply xRN | apply xRD)); exact Kd.R_mono HO_435001.out (fun _ hk => hk.1.2.2)⟩, ⟨by (with_reducible repeat (first | apply xRA | apply xRN | apply xRD)); exact Kd.R_mono HO_441001.out (fun _ hk => hk.1.2.2)⟩, ⟨by (with_reducible repeat (first | apply xbN | apply xbD | apply xbA)); exact BK434.out⟩, ⟨by (with_reducible repeat (first | apply xbN | apply xbD | apply xbA)); exact BK440.out⟩, ⟨yh HB⟩⟩
         ·replace c35 := Bool.eq_false_iff.mpr c35
          subst c35
          have H1 : (some false) = some r := by rw [if_neg (show ¬ (false = true) by decide)] at H; exact H
          clear H
          have H := H1
          clear H1
          obtain rfl := Option.some.inj H
          have hnb53 := NB434_440.out
          have hnc53 := NB440_434.out
          have hcz54_0 : wc.cell? ⟨gb434, 0, none⟩ = some (.int .i64 t429) := (blk_cell BK434.out 0).trans rfl
          have hcz54_1 : wc.cell? ⟨gb434, 1, none⟩ = some (.slice Ao14 t430.length co14) := (blk_cell BK434.out 1).trans rfl
          have hfz54_0 := blk_frozen BK434.out 0
          have hfz54_1 := blk_frozen BK434.out 1
          go_wp2_with (first | ((with_reducible refine gate_callee (f := 36) rfl ?_); refine goesL_ (some 80) rfl rfl Try.func36 (by kernel_rfl) rfl #[.slice Ao9 t423.length co9, .agg #[.int .i64 t429, .slice Ao14 t430.length co14], .int .i64 (t424.length : Int)] rfl (by (try simp only [List.map_toArray, List.map_cons, List.map_nil]); first | done | rfl | (simp only [List.length_drop, List.length_take]; rfl)) ?_; (with_reducible refine (impl_DecodeSymbols.calls kj6 _ _ t423 t429 _ _ t430 (t424.length : Int) t442 true _ ?side1 ?side2 ?side3 ?side4 A32.out).mono ?_); (case side1 => repeat (first | exact (Kd.R_reads' HO_5.out).2.2 | (with_reducible refine Kd.C_alloc ?_ _) | (with_reducible refine Kd.C_drewN ?_ _) | (with_reducible refine Kd.C_drew ?_))); (case side2 => exact (Kd.R_reads' HO_5.out).2.1); (case side3 => repeat (first | exact (Kd.R_reads' HO_435001.out).2.2 | (with_reducible refine Kd.C_alloc ?_ _) | (with_reducible refine Kd.C_drewN ?_ _) | (with_reducible refine Kd.C_drew ?_))); (case side4 => exact (Kd.R_reads' HO_435001.out).2.1); rintro e w55 ⟨v443, rfl, ho0, hb⟩; refine ⟨_, rfl, ?_⟩; have HO444 := xM (Kd.R_lower (Kd.R_new' (Kd.R_new' (Kd.R_new' (Kd.R_new' ho0 (xL (yR HO_5))) (xL (yR HO_6))) (xL (yR HO_435001))) (xL (yR HO_441001))) (below_size (yh HB))); replace HO_5 := xM (Kd.R_elder' (yR HO_5) (Kd.R_base ho0) hb); replace HO_6 := xM (Kd.R_elder' (yR HO_6) (Kd.R_base ho0) hb); replace HO_435001 := xM (Kd.R_elder' (yR HO_435001) (Kd.R_base ho0) hb); replace HO_441001 := xM (Kd.R_elder' (yR HO_441001) (Kd.R_base ho0) hb); replace BK434 := xM (xB (yb BK434) hb); replace BK440 := xM (xB (yb BK440) hb); replace HB := xM (below_step (yh HB) hb); (try clear hb); (try clear ho0); obtain ⟨Ao56, co56, eo56⟩ := Kd.R_slice HO444.out; subst eo56) | (go_at_call 47; (with_reducible refine (laws_sameInts.calls kj6 _ _ t442 _ _ t424 false _ ?side1 ?side2 ?side3 ?side4 A34.out).mono ?_); (case side1 => repeat (first | exact (Kd.R_reads' HO444.out).2.2 | (with_reducible refine Kd.C_alloc ?_ _) | (with_reducible refine Kd.C_drewN ?_ _) | (with_reducible refine Kd.C_drew ?_))); (case side2 => exact (Kd.R_reads' HO444.out).2.1); (case side3 => repeat (first | exact (Kd.R_reads' HO_6.out).2.2 | (with_reducible refine Kd.C_alloc ?_ _) | (with_reducible refine Kd.C_drewN ?_ _) | (with_reducible refine Kd.C_drew ?_))); (case side4 => exact (Kd.R_reads' HO_6.out).2.1); rintro e w' ⟨rfl, ⟨nd, rfl⟩⟩))
          go_ret
          exact ⟨by first | rfl | (simp [errW_none, errW_some] <;> rfl) | (simp [*, errW_none, errW_some] <;> rfl), by repeat (first | (with_reducible first | exact HB.out | apply xa | apply xn | apply xd | refine xs ?_ GE434.out | refine xs ?_ GE440.out) | exact HB.out)⟩
        ·replace c33 := Bool.eq_false_iff.mpr c33
         subst c33
         have H1 : (some false) = some r := by rw [if_neg (show ¬ (false = true) by decide)] at H; exact H
         clear H
         have H := H1
         clear H1
         obtain rfl := Option.some.inj H
         have hnb57 := NB434_440.out
         have hnc57 := NB440_434.out
         have hcz58_0 : wc.cell? ⟨gb434, 0, none⟩ = some (.int .i64 t429) := (blk_cell BK434.out 0).trans rfl
         have hcz58_1 : wc.cell? ⟨gb434, 1, none⟩ = some (.slice Ao14 t430.length co14) := (blk_cell BK434.out 1).trans rfl
         have hfz58_0 := blk_frozen BK434.out 0
         have hfz58_1 := blk_frozen BK434.out 1
         go_wp2_with (first | ((with_reducible refine gate_callee (f := 36) rfl ?_); refine goesL_ (some 80) rfl rfl Try.func36 (by kernel_rfl) rfl #[.slice Ao9 t423.length co9, .agg #[.int .i64 t429, .slice Ao14 t430.length co14], .int .i64 (t424.length : Int)] rfl (by (try simp only [List.map_toArray, List.map_cons, List.map_nil]); first | done | rfl | (simp only [List.length_drop, List.length_take]; rfl)) ?_; (with_reducible refine (impl_DecodeSymbols.calls kj6 _ _ t423 t429 _ _ t430 (t424.length : Int) t442 false _ ?side1 ?side2 ?side3 ?side4 A32.out).mono ?_); (case side1 => repeat (first | exact (Kd.R_reads' HO_5.out).2.2 | (with_reducible refine Kd.C_alloc ?_ _) | (with_reducible refine Kd.C_drewN ?_ _) | (with_reducible refine Kd.C_drew ?_))); (case side2 => exact (Kd.R_reads' HO_5.out).2.1); (case side3 => repeat (first | exact (Kd.R_reads' HO_435001.out).2.2 | (with_reducible refine Kd.C_alloc ?_ _) | (with_reducible refine Kd.C_drewN ?_ _) | (with_reducible refine Kd.C_drew ?_))); (case side4 => exact (Kd.R_reads' HO_435001.out).2.1); rintro e w59 ⟨v443, rfl, ho0, hb⟩; refine ⟨_, rfl, ?_⟩; have HO444 := xM (Kd.R_lower (Kd.R_new' (Kd.R_new' (Kd.R_new' (Kd.R_new' ho0 (xL (yR HO_5))) (xL (yR HO_6))) (xL (yR HO_435001))) (xL (yR HO_441001))) (below_size (yh HB))); replace HO_5 := xM (Kd.R_elder' (yR HO_5) (Kd.R_base ho0) hb); replace HO_6 := xM (Kd.R_elder' (yR HO_6) (Kd.R_base ho0) hb); replace HO_435001 := xM (Kd.R_elder' (yR HO_435001) (Kd.R_base ho0) hb); replace HO_441001 := xM (Kd.R_elder' (yR HO_441001) (Kd.R_base ho0) hb); replace BK434 := xM (xB (yb BK434) hb); replace BK440 := xM (xB (yb BK440) hb); replace HB := xM (below_step (yh HB) hb); (try clear hb); (try clear ho0)))
         go_ret
         exact ⟨by first | rfl | (simp [errW_none, errW_some] <;> rfl) | (simp [*, errW_none, errW_some] <;> rfl), by repeat (first | (with_reducible first | exact HB.out | apply xa | apply xn | apply xd | refine xs ?_ GE434.out | refine xs ?_ GE440.out) | exact HB.out)⟩
       ·replace c31 := Bool.eq_false_iff.mpr c31
        subst c31
        have H1 : (laws_FnAns.j1 kj6 l1) = some r := by rw [if_neg (show ¬ (false = true) by decide)] at H; exact H
        clear H
        have H := H1
        clear H1
        have H' := Aside0.mk H
        clear H
        go_wp2
        go_meet
        case rel => exact ⟨_, H', ⟨by have := HJ6.out; first | omega | exact Nat.le_refl _⟩, ⟨by (with_reducible repeat (first | apply xRA | apply xRN | apply xRD)); exact Kd.R_mono HO_435001.out (fun _ hk => hk.2.2)⟩, ⟨by (with_reducible repeat (first | apply xRA | apply xRN | apply xRD)); exact Kd.R_mono HO_441001.out (fun _ hk => hk.2.2)⟩, ⟨by (with_reducible repeat (first | apply xbN | apply xbD | apply xbA)); exact BK434.out⟩, ⟨by (with_reducible repeat (first | apply xbN | apply xbD | apply xbA)); exact BK440.out⟩, ⟨yh HB⟩⟩
      case rest => as_aux_lemma =>
       clear HC30
       try clear c1
       try clear c2
       try clear p2
       try clear c3
       try clear c3b0
       try clear c4
       try clear c5
       try clear p6
       try clear c12
       try clear c17
       try clear c20
       try clear c20b0
       try clear c20b1
       try clear c20b2
       try clear c21
       try clear c21b0
       try clear c21b1
       try clear c22
       try clear c23
       try clear c26
       try clear c29
       try clear c31
       try clear c33
       try clear c35
       try clear c36
       try clear c36b0
       try clear c37
       try clear c42
       try clear c42b0
       try clear c43
       try clear c48
       try clear c51
       try clear c53
       try clear c57
       try clear hcz13_0
       try clear hcz13_1
       try clear hcz18_0
       try clear hcz18_1
       try clear hcz24_0
       try clear hcz24_1
       try clear hcz25_0
       try clear hcz25_1
       try clear hcz27_0
       try clear hcz27_1
       try clear hcz28_0
       try clear hcz28_1
       try clear hcz38_0
       try clear hcz38_1
       try clear hcz41_0
       try clear hcz41_1
       try clear hcz44_0
       try clear hcz44_1
       try clear hcz47_0
       try clear hcz47_1
       try clear hcz49_0
       try clear hcz49_1
       try clear hcz52_0
       try clear hcz52_1
       try clear hcz54_0
       try clear hcz54_1
       try clear hcz58_0
       try clear hcz58_1
       try clear hfz13_0
       try clear hfz13_1
       try clear hfz18_0
       try clear hfz18_1
       try clear hfz24_0
       try clear hfz24_1
       try clear hfz25_0
       try clear hfz25_1
       try clear hfz27_0
       try clear hfz27_1
       try clear hfz28_0
       try clear hfz28_1
       try clear hfz38_0
       try clear hfz38_1
       try clear hfz41_0
       try clear hfz41_1
       try clear hfz44_0
       try clear hfz44_1
       try clear hfz47_0
       try clear hfz47_1
       try clear hfz49_0
       try clear hfz49_1
       try clear hfz52_0
       try clear hfz52_1
       try clear hfz54_0
       try clear hfz54_1
       try clear hfz58_0
       try clear hfz58_1
       try clear p2
       try clear p6
       obtain ⟨kq, HA, HJ29, HO_435001, HO_441001, BK434, BK440, HB⟩ := hcut
       cases kq with
       | zero => exact absurd HA.out (by simp [laws_FnAns.j1])
       | succ kj29 =>
        have H := HA.out
        clear HA
        simp only [laws_FnAns.j1] at H
        replace H := Option.bind_eq_some_iff.mp H
        obtain ⟨⟨t447, t448, t449⟩, A600, H⟩ := H
        replace H : ((impl_PutSymbol.f kj29 t447 t448 t449).bind fun bt452 => ((spec_PutSymbol.f kj29 t447 t448 t449).bind fun bt457 => (if (bt452.2.2 != bt457.2.2) = true then (laws_FnAns.j2 kj29 l1 t447 t448 t449 bt452.1 bt452.2.1 bt452.2.2 true) else (if bt452.1 = bt457.1 then ((laws_sameInts.f kj29 bt452.2.1 bt457.2.1).bind fun t462 => (laws_FnAns.j2 kj29 l1 t447 t448 t449 bt452.1 bt452.2.1 bt452.2.2 (!t462))) else (laws_FnAns.j2 kj29 l1 t447 t448 t449 bt452.1 bt452.2.1 bt452.2.2 true))))) = some r := H
        have A60 := Aside0.mk A600
        clear A600
        replace H := Option.bind_eq_some_iff.mp H
        obtain ⟨⟨t452, t453, t454⟩, A610, H⟩ := H
        replace H : ((spec_PutSymbol.f kj29 t447 t448 t449).bind fun bt457 => (if (t454 != bt457.2.2) = true then (laws_FnAns.j2 kj29 l1 t447 t448 t449 t452 t453 t454 true) else (if t452 = bt457.1 then ((laws_sameInts.f kj29 t453 bt457.2.1).bind fun t462 => (laws_FnAns.j2 kj29 l1 t447 t448 t449 t452 t453 t454 (!t462))) else (laws_FnAns.j2 kj29 l1 t447 t448 t449 t452 t453 t454 true)))) = some r := H
        have A61 := Aside0.mk A610
        clear A610
        replace H := Option.bind_eq_some_iff.mp H
        obtain ⟨⟨t457, t458, t459⟩, A620, H⟩ := H
        replace H : (if (t454 != t459) = true then (laws_FnAns.j2 kj29 l1 t447 t448 t449 t452 t453 t454 true) else (if t452 = t457 then ((laws_sameInts.f kj29 t453 t458).bind fun t462 => (laws_FnAns.j2 kj29 l1 t447 t448 t449 t452 t453 t454 (!t462))) else (laws_FnAns.j2 kj29 l1 t447 t448 t449 t452 t453 t454 true))) = some r := H
        have A62 := Aside0.mk A620
        clear A620
        have HC63 := Aside0.mk H
        clear H
        go_upto_region 15 with (first | ((with_reducible refine gate_callee (f := 52) rfl ?_); refine goesL_ (some 103) rfl rfl Try.func52 (by kernel_rfl) rfl #[.slice A1 l1.length c1] rfl (by (try simp only [List.map_toArray, List.map_cons, List.map_nil]); first | done | rfl | (simp only [List.length_drop, List.length_take]; rfl)) ?_; (with_reducible refine (spec_DrawPutSymbol.calls kj29 _ _ l1 t447 t448 t449 _ ?side1 ?side2 A60.out).mono ?_); (case side1 => repeat (first | exact (Kd.C_below HR1.out HB.out) | (with_reducible refine Kd.C_alloc ?_ _) | (with_reducible refine Kd.C_drewN ?_ _) | (with_reducible refine Kd.C_drew ?_))); (case side2 => exact HC1.out); rintro e w64 ⟨v450, rfl, ho0, hb⟩; refine ⟨_, rfl, ?_⟩; have HO451 := xM (Kd.R_lower (Kd.R_new' (Kd.R_new' ho0 (xL (yR HO_435001))) (xL (yR HO_441001))) (below_size (yh HB))); replace HO_435001 := xM (Kd.R_elder' (yR HO_435001) (Kd.R_base ho0) hb); replace HO_441001 := xM (Kd.R_elder' (yR HO_441001) (Kd.R_base ho0) hb); replace BK434 := xM (xB (yb BK434) hb); replace BK440 := xM (xB (yb BK440) hb); replace HB := xM (below_step (yh HB) hb); (try clear hb); (try clear ho0); obtain ⟨Ao65, co65, eo65⟩ := Kd.R_slice HO451.out; subst eo65) | ((with_reducible refine gate_callee (f := 20) rfl ?_); refine goesL_ (some 111) rfl rfl Try.func20 (by kernel_rfl) rfl #[.slice Ao65 t447.length co65, .int .i64 t448, .int .i64 t449] rfl (by (try simp only [List.map_toArray, List.map_cons, List.map_nil]); first | done | rfl | (simp only [List.length_drop, List.length_take]; rfl)) ?_; (with_reducible refine (impl_PutSymbol.calls kj29 _ _ t447 t448 t449 t452 t453 t454 _ ?side1 ?side2 A61.out).mono ?_); (case side1 => repeat (first | exact (Kd.R_reads' HO451.out).2.2 | (with_reducible refine Kd.C_alloc ?_ _) | (with_reducible refine Kd.C_drewN ?_ _) | (with_reducible refine Kd.C_drew ?_))); (case side2 => exact (Kd.R_reads' HO451.out).2.1); rintro e w66 ⟨v455, rfl, ho0, hb⟩; refine ⟨_, rfl, ?_⟩; have HO456 := xM (Kd.R_lower (Kd.R_new' (Kd.R_new' (Kd.R_new' ho0 (xL (yR HO_435001))) (xL (yR HO_441001))) (xL (yR HO451))) (below_size (yh HB))); replace HO_435001 := xM (Kd.R_elder' (yR HO_435001) (Kd.R_base ho0) hb); replace HO_441001 := xM (Kd.R_elder' (yR HO_441001) (Kd.R_base ho0) hb); replace HO451 := xM (Kd.R_elder' (yR HO451) (Kd.R_base ho0) hb); replace BK434 := xM (xB (yb BK434) hb); replace BK440 := xM (xB (yb BK440) hb); replace HB := xM (below_step (yh HB) hb); (try clear hb); (try clear ho0)) | ((with_reducible refine gate_callee (f := 19) rfl ?_); refine goesL_ (some 119) rfl rfl Try.func19 (by kernel_rfl) rfl #[.slice Ao65 t447.length co65, .int .i64 t448, .int .i64 t449] rfl (by (try simp only [List.map_toArray, List.map_cons, List.map_nil]); first | done | rfl | (simp only [List.length_drop, List.length_take]; rfl)) ?_; (with_reducible refine (spec_PutSymbol.calls kj29 _ _ t447 t448 t449 t457 t458 t459 _ ?side1 ?side2 A62.out).mono ?_); (case side1 => repeat (first | exact (Kd.R_reads' HO451.out).2.2 | (with_reducible refine Kd.C_alloc ?_ _) | (with_reducible refine Kd.C_drewN ?_ _) | (with_reducible refine Kd.C_drew ?_))); (case side2 => exact (Kd.R_reads' HO451.out).2.1); rintro e w67 ⟨v460, rfl, ho0, hb⟩; refine ⟨_, rfl, ?_⟩; have HO461 := xM (Kd.R_lower (Kd.R_new' (Kd.R_new' (Kd.R_new' (Kd.R_new' ho0 (xL (yR HO_435001))) (xL (yR HO_441001))) (xL (yR HO451))) (xL (yR HO456))) (below_size (yh HB))); replace HO_435001 := xM (Kd.R_elder' (yR HO_435001) (Kd.R_base ho0) hb); replace HO_441001 := xM (Kd.R_elder' (yR HO_441001) (Kd.R_base ho0) hb); replace HO451 := xM (Kd.R_elder' (yR HO451) (Kd.R_base ho0) hb); replace HO456 := xM (Kd.R_elder' (yR HO456) (Kd.R_base ho0) hb); replace BK434 := xM (xB (yb BK434) hb); replace BK440 := xM (xB (yb BK440) hb); replace HB := xM (below_step (yh HB) hb); (try clear hb); (try clear ho0)))
        (try simp only [Act.put, List.setIfInBounds_toArray, List.set_cons_zero, List.set_cons_succ])
        go_cut [136] (fun v136 wc => ∃ (kq : Nat) (x136_62 : Bool), v136 = .bool x136_62 ∧ Aside0 (laws_FnAns.j2 kq l1 t447 t448 t449 t452 t453 t454 x136_62 = some r) ∧ Aside0 (kq ≤ kj29) ∧ Aside0 (Kd.R (Kd.int .i64) 3 wc w.heap.size (fun k_ => some k_ ≠ (v455 : Value).ownBlock ∧ some k_ ≠ ((.slice Ao14 t430.length co14) : Value).ownBlock ∧ some k_ ≠ ((.slice Ao19 t436.length co19) : Value).ownBlock) (.slice Ao65 t447.length co65) t447) ∧ Aside0 (Kd.R (Kd.int .i64) 3 wc w.heap.size (fun k_ => some k_ ≠ ((.slice Ao65 t447.length co65) : Value).ownBlock ∧ some k_ ≠ ((.slice Ao14 t430.length co14) : Value).ownBlock ∧ some k_ ≠ ((.slice Ao19 t436.length co19) : Value).ownBlock) v455 t453) ∧ Aside0 (Kd.R (Kd.int .i64) 3 wc w.heap.size (fun k_ => some k_ ≠ ((.slice Ao65 t447.length co65) : Value).ownBlock ∧ some k_ ≠ (v455 : Value).ownBlock ∧ some k_ ≠ ((.slice Ao19 t436.length co19) : Value).ownBlock) (.slice Ao14 t430.length co14) t430) ∧ Aside0 (Kd.R (Kd.int .i64) 3 wc w.heap.size (fun k_ => some k_ ≠ ((.slice Ao65 t447.length co65) : Value).ownBlock ∧ some k_ ≠ (v455 : Value).ownBlock ∧ some k_ ≠ ((.slice Ao14 t430.length co14) : Value).ownBlock) (.slice Ao19 t436.length co19) t436) ∧ Aside0 (wc.heap[gb434]? = some (.cells #[.int .i64 t429, (.slice Ao14 t430.length co14)] 33 (0, 0))) ∧ Aside0 (wc.heap[gb440]? = some (.cells #[.int .i64 t435, (.slice Ao19 t436.length co19)] 33 (0, 0))) ∧ Aside0 (Below w.heap.size w wc))
        case first => as_aux_lemma =>
         have H := HC63.out
         clear HC63
         by_cases c68 : (t454 != t459) = true
         ·rw [if_pos c68] at H
          have c68b0 : (t454 != t459) = true := c68
          (try (have c68b1 : decide (t454 = t459) = false := by simpa using c68))
          (try (have c68b2 : (t454 == t459) = false := by simpa using c68))
          (try (have c68b3 : ¬ (t454 = t459) := by simpa using c68))
          clear c68
          (first | rw [c68b0] | (simp only [i64_w, i32_w]; rw [c68b0]) | skip)
          have H' := Aside0.mk H
          clear H
          go_wp2
          go_meet
          case rel => exact ⟨_, (true), (by first | rfl | (simp; done) | (simp [*]; done)), H', ⟨by have := HJ6.out; have := HJ29.out; first | omega | exact Nat.le_refl _⟩, ⟨by (with_reducible repeat (first | apply xRA | apply xRN | apply xRD)); exact Kd.R_mono HO451.out (fun _ hk => ⟨hk.1.2, ⟨hk.1.1.1.2, hk.1.1.2⟩⟩)⟩, ⟨by (with_reducible repeat (first | apply xRA | apply xRN | apply xRD)); exact Kd.R_mono HO456.out (fun _ hk => ⟨hk.1.2, ⟨hk.1.1.1.2, hk.1.1.2⟩⟩)⟩, ⟨by (with_reducible repeat (first | apply xRA | apply xRN | apply xRD)); exact Kd.R_mono HO_435001.out (fun _ hk => ⟨hk.1.1.2, ⟨hk.1.2, hk.1.1.1⟩⟩)⟩, ⟨by (with_reducible repeat (first | apply xRA | apply xRN | apply xRD)); exact Kd.R_mono HO_441001.out (fun _ hk => ⟨hk.1.1.2, ⟨hk.1.2, hk.1.1.1⟩⟩)⟩, ⟨by (with_reducible repeat (first | apply xbN | apply xbD | apply xbA)); exact BK434.out⟩, ⟨by (with_reducible repeat (first | apply xbN | apply xbD | apply xbA)); exact BK440.out⟩, ⟨yh HB⟩⟩
         ·rw [if_neg c68] at H
          have c68b0 : (t454 != t459) = false := by simpa using c68
          (try (have c68b1 : decide (t454 = t459) = true := by simpa using c68))
          (try (have c68b2 : (t454 == t459) = true := by simpa using c68))
          clear c68
          (first | rw [c68b0] | (simp only [i64_w, i32_w]; rw [c68b0]) | skip)
          by_cases c69 : t452 = t457
          ·rw [if_pos c69] at H
           have c69b0 : (t452 == t457) = true := beq_iff_eq.mpr c69
           have c69b1 : (t452 != t457) = false := bne_eq_false_iff_eq.mpr c69
           clear c69
           replace H := Option.bind_eq_some_iff.mp H
           obtain ⟨t462, A700, H⟩ := H
           replace H : (laws_FnAns.j2 kj29 l1 t447 t448 t449 t452 t453 t454 (!t462)) = some r := H
           have A70 := Aside0.mk A700
           clear A700
           have H' := Aside0.mk H
           clear H
           obtain ⟨Ao71, co71, eo71⟩ := Kd.R_slice HO456.out
           subst eo71
           obtain ⟨Ao72, co72, eo72⟩ := Kd.R_slice HO461.out
           subst eo72
           go_wp2_with (first | (go_at_call 47; (with_reducible refine (laws_sameInts.calls kj29 _ _ t453 _ _ t458 t462 _ ?side1 ?side2 ?side3 ?side4 A70.out).mono ?_); (case side1 => repeat (first | exact (Kd.R_reads' HO456.out).2.2 | (with_reducible refine Kd.C_alloc ?_ _) | (with_reducible refine Kd.C_drewN ?_ _) | (with_reducible refine Kd.C_drew ?_))); (case side2 => exact (Kd.R_reads' HO456.out).2.1); (case side3 => repeat (first | exact (Kd.R_reads' HO461.out).2.2 | (with_reducible refine Kd.C_alloc ?_ _) | (with_reducible refine Kd.C_drewN ?_ _) | (with_reducible refine Kd.C_drew ?_))); (case side4 => exact (Kd.R_reads' HO461.out).2.1); rintro e w' ⟨rfl, ⟨nd, rfl⟩⟩))
           go_meet
           case rel => exact ⟨_, (!t462), (by first | rfl | (simp; done) | (simp [*]; done)), H', ⟨by have := HJ6.out; have := HJ29.out; first | omega | exact Nat.le_refl _⟩, ⟨by (with_reducible repeat (first | apply xRA | apply xRN | apply xRD)); exact Kd.R_mono HO451.out (fun _ hk => ⟨hk.1.2, ⟨hk.1.1.1.2, hk.1.1.2⟩⟩)⟩, ⟨by (with_reducible repeat (first | apply xRA | apply xRN | apply xRD)); exact Kd.R_mono HO456.out (fun _ hk => ⟨hk.1.2, ⟨hk.1.1.1.2, hk.1.1.2⟩⟩)⟩, ⟨by (with_reducible repeat (first | apply xRA | apply xRN | apply xRD)); exact Kd.R_mono HO_435001.out (fun _ hk => ⟨hk.1.1.2, ⟨hk.1.2, hk.1.1.1⟩⟩)⟩, ⟨by (with_reducible repeat (first | apply xRA | apply xRN | apply xRD)); exact Kd.R_mono HO_441001.out (fun _ hk => ⟨hk.1.1.2, ⟨hk.1.2, hk.1.1.1⟩⟩)⟩, ⟨by (with_reducible repeat (first | apply xbN | apply xbD | apply xbA)); exact BK434.out⟩, ⟨by (with_reducible repeat (first | apply xbN | apply xbD | apply xbA)); exact BK440.out⟩, ⟨yh HB⟩⟩
          ·rw [if_neg c69] at H
           have c69b0 : (t452 == t457) = false := beq_eq_false_iff_ne.mpr c69
           have c69b1 : (t452 != t457) = true := bne_iff_ne.mpr c69
           have H' := Aside0.mk H
           clear H
           go_wp2
           go_meet
           case rel => exact ⟨_, (true), (by first | rfl | (simp; done) | (simp [*]; done)), H', ⟨by have := HJ6.out; have := HJ29.out; first | omega | exact Nat.le_refl _⟩, ⟨by (with_reducible repeat (first | apply xRA | apply xRN | apply xRD)); exact Kd.R_mono HO451.out (fun _ hk => ⟨hk.1.2, ⟨hk.1.1.1.2, hk.1.1.2⟩⟩)⟩, ⟨by (with_reducible repeat (first | apply xRA | apply xRN | apply xRD)); exact Kd.R_mono HO456.out (fun _ hk => ⟨hk.1.2, ⟨hk.1.1.1.2, hk.1.1.2⟩⟩)⟩, ⟨by (with_reducible repeat (first | apply xRA | apply xRN | apply xRD)); exact Kd.R_mono HO_435001.out (fun _ hk => ⟨hk.1.1.2, ⟨hk.1.2, hk.1.1.1⟩⟩)⟩, ⟨by (with_reducible repeat (first | apply xRA | apply xRN | apply xRD)); exact Kd.R_mono HO_441001.out (fun _ hk => ⟨hk.1.1.2, ⟨hk.1.2, hk.1.1.1⟩⟩)⟩, ⟨by (with_reducible repeat (first | apply xbN | apply xbD | apply xbA)); exact BK434.out⟩, ⟨by (with_reducible repeat (first | apply xbN | apply xbD | apply xbA)); exact BK440.out⟩, ⟨yh HB⟩⟩
        case rest => as_aux_lemma =>
         clear HC63
         try clear c1
         try clear c2
         try clear p2
         try clear c3
         try clear c3b0
         try clear c4
         try clear c5
         try clear c6
         try clear p6
         try clear c12
         try clear c17
         try clear c19
         try clear c20
         try clear c20b0
         try clear c20b1
         try clear c20b2
         try clear c21
         try clear c21b0
         try clear c21b1
         try clear c22
         try clear c23
         try clear c26
         try clear c29
         try clear c31
         try clear c33
         try clear c35
         try clear c36
         try clear c36b0
         try clear c37
         try clear c42
         try clear c42b0
         try clear c43
         try clear c48
         try clear c51
         try clear c52
         try clear c53
         try clear c57
         try clear p64
         try clear c68
         try clear c68b0
         try clear c68b1
         try clear c68b2
         try clear c69
         try clear c69b0
         try clear c69b1
         try clear hcz13_0
         try clear hcz13_1
         try clear hcz18_0
         try clear hcz18_1
         try clear hcz24_0
         try clear hcz24_1
         try clear hcz25_0
         try clear hcz25_1
         try clear hcz27_0
         try clear hcz27_1
         try clear hcz28_0
         try clear hcz28_1
         try clear hcz38_0
         try clear hcz38_1
         try clear hcz41_0
         try clear hcz41_1
         try clear hcz44_0
         try clear hcz44_1
         try clear hcz47_0
         try clear hcz47_1
         try clear hcz49_0
         try clear hcz49_1
         try clear hcz52_0
         try clear hcz52_1
         try clear hcz54_0
         try clear hcz54_1
         try clear hcz58_0
         try clear hcz58_1
         try clear hfz13_0
         try clear hfz13_1
         try clear hfz18_0
         try clear hfz18_1
         try clear hfz24_0
         try clear hfz24_1
         try clear hfz25_0
         try clear hfz25_1
         try clear hfz27_0
         try clear hfz27_1
         try clear hfz28_0
         try clear hfz28_1
         try clear hfz38_0
         try clear hfz38_1
         try clear hfz41_0
         try clear hfz41_1
         try clear hfz44_0
         try clear hfz44_1
         try clear hfz47_0
         try clear hfz47_1
         try clear hfz49_0
         try clear hfz49_1
         try clear hfz52_0
         try clear hfz52_1
         try clear hfz54_0
         try clear hfz54_1
         try clear hfz58_0
         try clear hfz58_1
         try clear p2
         try clear p6
         obtain ⟨kq, x136_62, rfl, HA, HJ62, HO_13, HO_17, HO_435001, HO_441001, BK434, BK440, HB⟩ := hcut
         cases kq with
         | zero => exact absurd HA.out (by simp [laws_FnAns.j2])
         | succ kj62 =>
          have H := HA.out
          clear HA
          simp only [laws_FnAns.j2] at H
          by_cases c73 : x136_62 = true
          ·subst c73
           have H1 : (some false) = some r := by rw [if_pos rfl] at H; exact H
           clear H
           have H := H1
           clear H1
           obtain rfl := Option.some.inj H
           go_wp2
           go_ret
           exact ⟨by first | rfl | (simp [errW_none, errW_some] <;> rfl) | (simp [*, errW_none, errW_some] <;> rfl), by repeat (first | (with_reducible first | exact HB.out | apply xa | apply xn | apply xd | refine xs ?_ GE434.out | refine xs ?_ GE440.out) | exact HB.out)⟩
          ·replace c73 := Bool.eq_false_iff.mpr c73
           subst c73
           have H1 : (if t454 = true then ((impl_TakeSymbol.f kj62 t447 t452 t453).bind fun bt463 => (if bt463.2.2.2 = true then (if bt463.1 = t449 then (if bt463.2.1 = t448 then (if (bt463.2.2.1.length : Int) = 0 then (laws_FnAns.j3 kj62 l1) else (some false)) else (some false)) else (some false)) else (some false))) else (laws_FnAns.j3 kj62 l1)) = some r := by rw [if_neg (show ¬ (false = true) by decide)] at H; exact H
           clear H
           have H := H1
           clear H1
           have HC74 := Aside0.mk H
           clear H
           go_upto_if 137 with (fail)
           go_cut [] (fun wc => ∃ (kq : Nat), Aside0 (laws_FnAns.j3 kq l1 = some r) ∧ Aside0 (kq ≤ kj62) ∧ Aside0 (Kd.R (Kd.int .i64) 3 wc w.heap.size (fun k_ => some k_ ≠ ((.slice Ao19 t436.length co19) : Value).ownBlock) (.slice Ao14 t430.length co14) t430) ∧ Aside0 (Kd.R (Kd.int .i64) 3 wc w.heap.size (fun k_ => some k_ ≠ ((.slice Ao14 t430.length co14) : Value).ownBlock) (.slice Ao19 t436.length co19) t436) ∧ Aside0 (wc.heap[gb434]? = some (.cells #[.int .i64 t429, (.slice Ao14 t430.length co14)] 33 (0, 0))) ∧ Aside0 (wc.heap[gb440]? = some (.cells #[.int .i64 t435, (.slice Ao19 t436.length co19)] 33 (0, 0))) ∧ Aside0 (Below w.heap.size w wc))
           case first => as_aux_lemma =>
            have H := HC74.out
            clear HC74
            by_cases c75 : t454 = true
            ·subst c75
             have H1 : ((impl_TakeSymbol.f kj62 t447 t452 t453).bind fun bt463 => (if bt463.2.2.2 = true then (if bt463.1 = t449 then (if bt463.2.1 = t448 then (if (bt463.2.2.1.length : Int) = 0 then (laws_FnAns.j3 kj62 l1) else (some false)) else (some false)) else (some false)) else (some false))) = some r := by rw [if_pos rfl] at H; exact H
             clear H
             have H := H1
             clear H1
             replace H := Option.bind_eq_some_iff.mp H
             obtain ⟨⟨t463, t464, t465, t468⟩, A760, H⟩ := H
             replace H : (if t468 = true then (if t463 = t449 then (if t464 = t448 then (if (t465.length : Int) = 0 then (laws_FnAns.j3 kj62 l1) else (some false)) else (some false)) else (some false)) else (some false)) = some r := H
             have A76 := Aside0.mk A760
             clear A760
             by_cases c77 : t468 = true
             ·subst c77
              have H1 : (if t463 = t449 then (if t464 = t448 then (if (t465.length : Int) = 0 then (laws_FnAns.j3 kj62 l1) else (some false)) else (some false)) else (some false)) = some r := by rw [if_pos rfl] at H; exact H
              clear H
              have H := H1
              clear H1
              by_cases c78 : t463 = t449
              ·rw [if_pos c78] at H
               have c78b0 : (t463 == t449) = true := beq_iff_eq.mpr c78
               have c78b1 : (t463 != t449) = false := bne_eq_false_iff_eq.mpr c78
               clear c78
               (first | rw [c78b0] | (simp only [i64_w, i32_w]; rw [c78b0]) | skip)
               by_cases c79 : t464 = t448
               ·rw [if_pos c79] at H
                have c79b0 : (t464 == t448) = true := beq_iff_eq.mpr c79
                have c79b1 : (t464 != t448) = false := bne_eq_false_iff_eq.mpr c79
                clear c79
                by_cases c80 : (t465.length : Int) = 0
                ·rw [if_pos c80] at H
                 have c80b0 : ((t465.length : Int) == 0) = true := beq_iff_eq.mpr c80
                 have c80b1 : ((t465.length : Int) != 0) = false := bne_eq_false_iff_eq.mpr c80
                 clear c80
                 have H' := Aside0.mk H
                 clear H
                 obtain ⟨Ao81, co81, eo81⟩ := Kd.R_slice HO_17.out
                 subst eo81
                 go_wp2_with (first | ((with_reducible refine gate_callee (f := 34) rfl ?_); refine goesL_ (some 143) rfl rfl Try.func34 (by kernel_rfl) rfl #[.slice Ao65 t447.length co65, .agg #[.int .i64 t452, .slice Ao81 t453.length co81]] rfl (by (try simp only [List.map_toArray, List.map_cons, List.map_nil]); first | done | rfl | (simp only [List.length_drop, List.length_take]; rfl)) ?_; (with_reducible refine (impl_TakeSymbol.calls kj62 _ _ t447 t452 _ _ t453 t463 t464 t465 true _ ?side1 ?side2 ?side3 ?side4 A76.out).mono ?_); (case side1 => repeat (first | exact (Kd.R_reads' HO_13.out).2.2 | (with_reducible refine Kd.C_alloc ?_ _) | (with_reducible refine Kd.C_drewN ?_ _) | (with_reducible refine Kd.C_drew ?_))); (case side2 => exact (Kd.R_reads' HO_13.out).2.1); (case side3 => repeat (first | exact (Kd.R_reads' HO_17.out).2.2 | (with_reducible refine Kd.C_alloc ?_ _) | (with_reducible refine Kd.C_drewN ?_ _) | (with_reducible refine Kd.C_drew ?_))); (case side4 => exact (Kd.R_reads' HO_17.out).2.1); rintro e w82 ⟨v466, rfl, ho0, hb⟩; refine ⟨_, rfl, ?_⟩; have HO467 := xM (Kd.R_lower (Kd.R_new' (Kd.R_new' (Kd.R_new' (Kd.R_new' ho0 (xL (yR HO_13))) (xL (yR HO_17))) (xL (yR HO_435001))) (xL (yR HO_441001))) (below_size (yh HB))); replace HO_13 := xM (Kd.R_elder' (yR HO_13) (Kd.R_base ho0) hb); replace HO_17 := xM (Kd.R_elder' (yR HO_17) (Kd.R_base ho0) hb); replace HO_435001 := xM (Kd.R_elder' (yR HO_435001) (Kd.R_base ho0) hb); replace HO_441001 := xM (Kd.R_elder' (yR HO_441001) (Kd.R_base ho0) hb); replace BK434 := xM (xB (yb BK434) hb); replace BK440 := xM (xB (yb BK440) hb); replace HB := xM (below_step (yh HB) hb); (try clear hb); (try clear ho0)) | ((with_reducible refine gate_dst (N := 23) rfl ?_); (try (refine gate_guard (by rfl) ?_; dsimp only)); refine box_event ?hg (N := 23) ?hd (cs := #[.int .i64 0, .slice none 0 0]) (t := 33) ?hr ?_; (case hd => rfl); (case hg => rfl); (case hr => first | (go_simp; done) | (go_simp; rfl)); intro gb469 hg w83 hbox hb; have BK469 := xM (hbox); have GW469 := xM ((by rw [hg]; exact (below_size (yh HB)) : w.heap.size ≤ gb469)); have GE469 := xM ((by rw [hg]; exact (below_size (yh HB)) : w.heap.size ≤ gb469)); have NB434_469 := xM ((by rw [hg]; exact Nat.ne_of_lt (blk_lt (yb BK434)) : gb434 ≠ gb469)); have NB469_434 := xM ((by rw [hg]; exact Nat.ne_of_gt (blk_lt (yb BK434)) : gb469 ≠ gb434)); have NB440_469 := xM ((by rw [hg]; exact Nat.ne_of_lt (blk_lt (yb BK440)) : gb440 ≠ gb469)); have NB469_440 := xM ((by rw [hg]; exact Nat.ne_of_gt (blk_lt (yb BK440)) : gb469 ≠ gb440)); replace HO_13 := xM (xW (yR HO_13) hb); replace HO_17 := xM (xW (yR HO_17) hb); replace HO_435001 := xM (xW (yR HO_435001) hb); replace HO_441001 := xM (xW (yR HO_441001) hb); replace HO467 := xM (xW (yR HO467) hb); replace BK434 := xM (xB (yb BK434) hb); replace BK440 := xM (xB (yb BK440) hb); replace HB := xM (below_step (yh HB) hb); clear hb hbox hg; have hnb84 := NB469_434.out; have hnc84 := NB434_469.out; have hnb85 := NB469_440.out; have hnc85 := NB440_469.out; have hcz86_0 : w83.cell? ⟨gb469, 0, none⟩ = some (.int .i64 0) := (blk_cell BK469.out 0).trans rfl; have hcz86_1 : w83.cell? ⟨gb469, 1, none⟩ = some (.slice none 0 0) := (blk_cell BK469.out 1).trans rfl; have hfz86_0 := blk_frozen BK469.out 0; have hfz86_1 := blk_frozen BK469.out 1; obtain ⟨Ao87, co87, eo87⟩ := Kd.R_slice HO467.out; subst eo87))
                 go_meet
                 case rel => exact ⟨_, H', ⟨by have := HJ6.out; have := HJ29.out; have := HJ62.out; first | omega | exact Nat.le_refl _⟩, ⟨by (with_reducible repeat (first | apply xRA | apply xRN | apply xRD)); exact xO (xF (p := ⟨gb469, 1, none⟩) (xF (p := ⟨gb469, 0, none⟩) (Kd.R_types HO_435001.out BK469.out (by decide)) (fun _ hk => hk.2) (.int .i64 t464)) (fun _ hk => hk.2) (.slice Ao87 t465.length co87)) (fun _ hk => hk.1.1.2.2)⟩, ⟨by (with_reducible repeat (first | apply xRA | apply xRN | apply xRD)); exact xO (xF (p := ⟨gb469, 1, none⟩) (xF (p := ⟨gb469, 0, none⟩) (Kd.R_types HO_441001.out BK469.out (by decide)) (fun _ hk => hk.2) (.int .i64 t464)) (fun _ hk => hk.2) (.slice Ao87 t465.length co87)) (fun _ hk => hk.1.1.2.2)⟩, ⟨by (with_reducible repeat (first | apply xbN | apply xbD | apply xbA)); refine blk_far ?_ NB434_469.out _; (with_reducible repeat (first | apply xbN | apply xbD | apply xbA)); refine blk_far ?_ NB434_469.out _; (with_reducible repeat (first | apply xbN | apply xbD | apply xbA)); exact BK434.out⟩, ⟨by (with_reducible repeat (first | apply xbN | apply xbD | apply xbA)); refine blk_far ?_ NB440_469.out _; (with_reducible repeat (first | apply xbN | apply xbD | apply xbA)); refine blk_far ?_ NB440_469.out _; (with_reducible repeat (first | apply xbN | apply xbD | apply xbA)); exact BK440.out⟩, ⟨yh HB⟩⟩
                ·rw [if_neg c80] at H
                 have c80b0 : ((t465.length : Int) == 0) = false := beq_eq_false_iff_ne.mpr c80
                 have c80b1 : ((t465.length : Int) != 0) = true := bne_iff_ne.mpr c80
                 have c80b2 : ¬ (t465 = []) := fun h_ => c80 (by rw [h_]; rfl)
                 obtain rfl := Option.some.inj H
                 obtain ⟨Ao88, co88, eo88⟩ := Kd.R_slice HO_17.out
                 subst eo88
                 go_wp2_with (first | ((with_reducible refine gate_callee (f := 34) rfl ?_); refine goesL_ (some 143) rfl rfl Try.func34 (by kernel_rfl) rfl #[.slice Ao65 t447.length co65, .agg #[.int .i64 t452, .slice Ao88 t453.length co88]] rfl (by (try simp only [List.map_toArray, List.map_cons, List.map_nil]); first | done | rfl | (simp only [List.length_drop, List.length_take]; rfl)) ?_; (with_reducible refine (impl_TakeSymbol.calls kj62 _ _ t447 t452 _ _ t453 t463 t464 t465 true _ ?side1 ?side2 ?side3 ?side4 A76.out).mono ?_); (case side1 => repeat (first | exact (Kd.R_reads' HO_13.out).2.2 | (with_reducible refine Kd.C_alloc ?_ _) | (with_reducible refine Kd.C_drewN ?_ _) | (with_reducible refine Kd.C_drew ?_))); (case side2 => exact (Kd.R_reads' HO_13.out).2.1); (case side3 => repeat (first | exact (Kd.R_reads' HO_17.out).2.2 | (with_reducible refine Kd.C_alloc ?_ _) | (with_reducible refine Kd.C_drewN ?_ _) | (with_reducible refine Kd.C_drew ?_))); (case side4 => exact (Kd.R_reads' HO_17.out).2.1); rintro e w89 ⟨v466, rfl, ho0, hb⟩; refine ⟨_, rfl, ?_⟩; have HO467 := xM (Kd.R_lower (Kd.R_new' (Kd.R_new' (Kd.R_new' (Kd.R_new' ho0 (xL (yR HO_13))) (xL (yR HO_17))) (xL (yR HO_435001))) (xL (yR HO_441001))) (below_size (yh HB))); replace HO_13 := xM (Kd.R_elder' (yR HO_13) (Kd.R_base ho0) hb); replace HO_17 := xM (Kd.R_elder' (yR HO_17) (Kd.R_base ho0) hb); replace HO_435001 := xM (Kd.R_elder' (yR HO_435001) (Kd.R_base ho0) hb); replace HO_441001 := xM (Kd.R_elder' (yR HO_441001) (Kd.R_base ho0) hb); replace BK434 := xM (xB (yb BK434) hb); replace BK440 := xM (xB (yb BK440) hb); replace HB := xM (below_step (yh HB) hb); (try clear hb); (try clear ho0)) | ((with_reducible refine gate_dst (N := 23) rfl ?_); (try (refine gate_guard (by rfl) ?_; dsimp only)); refine box_event ?hg (N := 23) ?hd (cs := #[.int .i64 0, .slice none 0 0]) (t := 33) ?hr ?_; (case hd => rfl); (case hg => rfl); (case hr => first | (go_simp; done) | (go_simp; rfl)); intro gb469 hg w90 hbox hb; have BK469 := xM (hbox); have GW469 := xM ((by rw [hg]; exact (below_size (yh HB)) : w.heap.size ≤ gb469)); have GE469 := xM ((by rw [hg]; exact (below_size (yh HB)) : w.heap.size ≤ gb469)); have NB434_469 := xM ((by rw [hg]; exact Nat.ne_of_lt (blk_lt (yb BK434)) : gb434 ≠ gb469)); have NB469_434 := xM ((by rw [hg]; exact Nat.ne_of_gt (blk_lt (yb BK434)) : gb469 ≠ gb434)); have NB440_469 := xM ((by rw [hg]; exact Nat.ne_of_lt (blk_lt (yb BK440)) : gb440 ≠ gb469)); have NB469_440 := xM ((by rw [hg]; exact Nat.ne_of_gt (blk_lt (yb BK440)) : gb469 ≠ gb440)); replace HO_13 := xM (xW (yR HO_13) hb); replace HO_17 := xM (xW (yR HO_17) hb); replace HO_435001 := xM (xW (yR HO_435001) hb); replace HO_441001 := xM (xW (yR HO_441001) hb); replace HO467 := xM (xW (yR HO467) hb); replace BK434 := xM (xB (yb BK434) hb); replace BK440 := xM (xB (yb BK440) hb); replace HB := xM (below_step (yh HB) hb); clear hb hbox hg; have hnb91 := NB469_434.out; have hnc91 := NB434_469.out; have hnb92 := NB469_440.out; have hnc92 := NB440_469.out; have hcz93_0 : w90.cell? ⟨gb469, 0, none⟩ = some (.int .i64 0) := (blk_cell BK469.out 0).trans rfl; have hcz93_1 : w90.cell? ⟨gb469, 1, none⟩ = some (.slice none 0 0) := (blk_cell BK469.out 1).trans rfl; have hfz93_0 := blk_frozen BK469.out 0; have hfz93_1 := blk_frozen BK469.out 1; obtain ⟨Ao94, co94, eo94⟩ := Kd.R_slice HO467.out; subst eo94))
                 go_ret
                 exact ⟨by first | rfl | (simp [errW_none, errW_some] <;> rfl) | (simp [*, errW_none, errW_some] <;> rfl), by repeat (first | (with_reducible first | exact HB.out | apply xa | apply xn | apply xd | refine xs ?_ GE434.out | refine xs ?_ GE440.out | refine xs ?_ GE469.out) | exact HB.out)⟩
               ·rw [if_neg c79] at H
                have c79b0 : (t464 == t448) = false := beq_eq_false_iff_ne.mpr c79
                have c79b1 : (t464 != t448) = true := bne_iff_ne.mpr c79
                obtain rfl := Option.some.inj H
                obtain ⟨Ao95, co95, eo95⟩ := Kd.R_slice HO_17.out
                subst eo95
                go_wp2_with (first | ((with_reducible refine gate_callee (f := 34) rfl ?_); refine goesL_ (some 143) rfl rfl Try.func34 (by kernel_rfl) rfl #[.slice Ao65 t447.length co65, .agg #[.int .i64 t452, .slice Ao95 t453.length co95]] rfl (by (try simp only [List.map_toArray, List.map_cons, List.map_nil]); first | done | rfl | (simp only [List.length_drop, List.length_take]; rfl)) ?_; (with_reducible refine (impl_TakeSymbol.calls kj62 _ _ t447 t452 _ _ t453 t463 t464 t465 true _ ?side1 ?side2 ?side3 ?side4 A76.out).mono ?_); (case side1 => repeat (first | exact (Kd.R_reads' HO_13.out).2.2 | (with_reducible refine Kd.C_alloc ?_ _) | (with_reducible refine Kd.C_drewN ?_ _) | (with_reducible refine Kd.C_drew ?_))); (case side2 => exact (Kd.R_reads' HO_13.out).2.1); (case side3 => repeat (first | exact (Kd.R_reads' HO_17.out).2.2 | (with_reducible refine Kd.C_alloc ?_ _) | (with_reducible refine Kd.C_drewN ?_ _) | (with_reducible refine Kd.C_drew ?_))); (case side4 => exact (Kd.R_reads' HO_17.out).2.1); rintro e w96 ⟨v466, rfl, ho0, hb⟩; refine ⟨_, rfl, ?_⟩; have HO467 := xM (Kd.R_lower (Kd.R_new' (Kd.R_new' (Kd.R_new' (Kd.R_new' ho0 (xL (yR HO_13))) (xL (yR HO_17))) (xL (yR HO_435001))) (xL (yR HO_441001))) (below_size (yh HB))); replace HO_13 := xM (Kd.R_elder' (yR HO_13) (Kd.R_base ho0) hb); replace HO_17 := xM (Kd.R_elder' (yR HO_17) (Kd.R_base ho0) hb); replace HO_435001 := xM (Kd.R_elder' (yR HO_435001) (Kd.R_base ho0) hb); replace HO_441001 := xM (Kd.R_elder' (yR HO_441001) (Kd.R_base ho0) hb); replace BK434 := xM (xB (yb BK434) hb); replace BK440 := xM (xB (yb BK440) hb); replace HB := xM (below_step (yh HB) hb); (try clear hb); (try clear ho0)) | ((with_reducible refine gate_dst (N := 23) rfl ?_); (try (refine gate_guard (by rfl) ?_; dsimp only)); refine box_event ?hg (N := 23) ?hd (cs := #[.int .i64 0, .slice none 0 0]) (t := 33) ?hr ?_; (case hd => rfl); (case hg => rfl); (case hr => first | (go_simp; done) | (go_simp; rfl)); intro gb469 hg w97 hbox hb; have BK469 := xM (hbox); have GW469 := xM ((by rw [hg]; exact (below_size (yh HB)) : w.heap.size ≤ gb469)); have GE469 := xM ((by rw [hg]; exact (below_size (yh HB)) : w.heap.size ≤ gb469)); have NB434_469 := xM ((by rw [hg]; exact Nat.ne_of_lt (blk_lt (yb BK434)) : gb434 ≠ gb469)); have NB469_434 := xM ((by rw [hg]; exact Nat.ne_of_gt (blk_lt (yb BK434)) : gb469 ≠ gb434)); have NB440_469 := xM ((by rw [hg]; exact Nat.ne_of_lt (blk_lt (yb BK440)) : gb440 ≠ gb469)); have NB469_440 := xM ((by rw [hg]; exact Nat.ne_of_gt (blk_lt (yb BK440)) : gb469 ≠ gb440)); replace HO_13 := xM (xW (yR HO_13) hb); replace HO_17 := xM (xW (yR HO_17) hb); replace HO_435001 := xM (xW (yR HO_435001) hb); replace HO_441001 := xM (xW (yR HO_441001) hb); replace HO467 := xM (xW (yR HO467) hb); replace BK434 := xM (xB (yb BK434) hb); replace BK440 := xM (xB (yb BK440) hb); replace HB := xM (below_step (yh HB) hb); clear hb hbox hg; have hnb98 := NB469_434.out; have hnc98 := NB434_469.out; have hnb99 := NB469_440.out; have hnc99 := NB440_469.out; have hcz100_0 : w97.cell? ⟨gb469, 0, none⟩ = some (.int .i64 0) := (blk_cell BK469.out 0).trans rfl; have hcz100_1 : w97.cell? ⟨gb469, 1, none⟩ = some (.slice none 0 0) := (blk_cell BK469.out 1).trans rfl; have hfz100_0 := blk_frozen BK469.out 0; have hfz100_1 := blk_frozen BK469.out 1; obtain ⟨Ao101, co101, eo101⟩ := Kd.R_slice HO467.out; subst eo101))
                go_ret
                exact ⟨by first | rfl | (simp [errW_none, errW_some] <;> rfl) | (simp [*, errW_none, errW_some] <;> rfl), by repeat (first | (with_reducible first | exact HB.out | apply xa | apply xn | apply xd | refine xs ?_ GE434.out | refine xs ?_ GE440.out | refine xs ?_ GE469.out) | exact HB.out)⟩
              ·rw [if_neg c78] at H
               have c78b0 : (t463 == t449) = false := beq_eq_false_iff_ne.mpr c78
               have c78b1 : (t463 != t449) = true := bne_iff_ne.mpr c78
               (first | rw [c78b0] | (simp only [i64_w, i32_w]; rw [c78b0]) | skip)
               obtain rfl := Option.some.inj H
               obtain ⟨Ao102, co102, eo102⟩ := Kd.R_slice HO_17.out
               subst eo102
               go_wp2_with (first | ((with_reducible refine gate_callee (f := 34) rfl ?_); refine goesL_ (some 143) rfl rfl Try.func34 (by kernel_rfl) rfl #[.slice Ao65 t447.length co65, .agg #[.int .i64 t452, .slice Ao102 t453.length co102]] rfl (by (try simp only [List.map_toArray, List.map_cons, List.map_nil]); first | done | rfl | (simp only [List.length_drop, List.length_take]; rfl)) ?_; (with_reducible refine (impl_TakeSymbol.calls kj62 _ _ t447 t452 _ _ t453 t463 t464 t465 true _ ?side1 ?side2 ?side3 ?side4 A76.out).mono ?_); (case side1 => repeat (first | exact (Kd.R_reads' HO_13.out).2.2 | (with_reducible refine Kd.C_alloc ?_ _) | (with_reducible refine Kd.C_drewN ?_ _) | (with_reducible refine Kd.C_drew ?_))); (case side2 => exact (Kd.R_reads' HO_13.out).2.1); (case side3 => repeat (first | exact (Kd.R_reads' HO_17.out).2.2 | (with_reducible refine Kd.C_alloc ?_ _) | (with_reducible refine Kd.C_drewN ?_ _) | (with_reducible refine Kd.C_drew ?_))); (case side4 => exact (Kd.R_reads' HO_17.out).2.1); rintro e w103 ⟨v466, rfl, ho0, hb⟩; refine ⟨_, rfl, ?_⟩; have HO467 := xM (Kd.R_lower (Kd.R_new' (Kd.R_new' (Kd.R_new' (Kd.R_new' ho0 (xL (yR HO_13))) (xL (yR HO_17))) (xL (yR HO_435001))) (xL (yR HO_441001))) (below_size (yh HB))); replace HO_13 := xM (Kd.R_elder' (yR HO_13) (Kd.R_base ho0) hb); replace HO_17 := xM (Kd.R_elder' (yR HO_17) (Kd.R_base ho0) hb); replace HO_435001 := xM (Kd.R_elder' (yR HO_435001) (Kd.R_base ho0) hb); replace HO_441001 := xM (Kd.R_elder' (yR HO_441001) (Kd.R_base ho0) hb); replace BK434 := xM (xB (yb BK434) hb); replace BK440 := xM (xB (yb BK440) hb); replace HB := xM (below_step (yh HB) hb); (try clear hb); (try clear ho0)) | ((with_reducible refine gate_dst (N := 23) rfl ?_); (try (refine gate_guard (by rfl) ?_; dsimp only)); refine box_event ?hg (N := 23) ?hd (cs := #[.int .i64 0, .slice none 0 0]) (t := 33) ?hr ?_; (case hd => rfl); (case hg => rfl); (case hr => first | (go_simp; done) | (go_simp; rfl)); intro gb469 hg w104 hbox hb; have BK469 := xM (hbox); have GW469 := xM ((by rw [hg]; exact (below_size (yh HB)) : w.heap.size ≤ gb469)); have GE469 := xM ((by rw [hg]; exact (below_size (yh HB)) : w.heap.size ≤ gb469)); have NB434_469 := xM ((by rw [hg]; exact Nat.ne_of_lt (blk_lt (yb BK434)) : gb434 ≠ gb469)); have NB469_434 := xM ((by rw [hg]; exact Nat.ne_of_gt (blk_lt (yb BK434)) : gb469 ≠ gb434)); have NB440_469 := xM ((by rw [hg]; exact Nat.ne_of_lt (blk_lt (yb BK440)) : gb440 ≠ gb469)); have NB469_440 := xM ((by rw [hg]; exact Nat.ne_of_gt (blk_lt (yb BK440)) : gb469 ≠ gb440)); replace HO_13 := xM (xW (yR HO_13) hb); replace HO_17 := xM (xW (yR HO_17) hb); replace HO_435001 := xM (xW (yR HO_435001) hb); replace HO_441001 := xM (xW (yR HO_441001) hb); replace HO467 := xM (xW (yR HO467) hb); replace BK434 := xM (xB (yb BK434) hb); replace BK440 := xM (xB (yb BK440) hb); replace HB := xM (below_step (yh HB) hb); clear hb hbox hg; have hnb105 := NB469_434.out; have hnc105 := NB434_469.out; have hnb106 := NB469_440.out; have hnc106 := NB440_469.out; have hcz107_0 : w104.cell? ⟨gb469, 0, none⟩ = some (.int .i64 0) := (blk_cell BK469.out 0).trans rfl; have hcz107_1 : w104.cell? ⟨gb469, 1, none⟩ = some (.slice none 0 0) := (blk_cell BK469.out 1).trans rfl; have hfz107_0 := blk_frozen BK469.out 0; have hfz107_1 := blk_frozen BK469.out 1; obtain ⟨Ao108, co108, eo108⟩ := Kd.R_slice HO467.out; subst eo108))
               go_ret
               exact ⟨by first | rfl | (simp [errW_none, errW_some] <;> rfl) | (simp [*, errW_none, errW_some] <;> rfl), by repeat (first | (with_reducible first | exact HB.out | apply xa | apply xn | apply xd | refine xs ?_ GE434.out | refine xs ?_ GE440.out | refine xs ?_ GE469.out) | exact HB.out)⟩
             ·replace c77 := Bool.eq_false_iff.mpr c77
              subst c77
              have H1 : (some false) = some r := by rw [if_neg (show ¬ (false = true) by decide)] at H; exact H
              clear H
              have H := H1
              clear H1
              obtain rfl := Option.some.inj H
              obtain ⟨Ao109, co109, eo109⟩ := Kd.R_slice HO_17.out
              subst eo109
              go_wp2_with (first | ((with_reducible refine gate_callee (f := 34) rfl ?_); refine goesL_ (some 143) rfl rfl Try.func34 (by kernel_rfl) rfl #[.slice Ao65 t447.length co65, .agg #[.int .i64 t452, .slice Ao109 t453.length co109]] rfl (by (try simp only [List.map_toArray, List.map_cons, List.map_nil]); first | done | rfl | (simp only [List.length_drop, List.length_take]; rfl)) ?_; (with_reducible refine (impl_TakeSymbol.calls kj62 _ _ t447 t452 _ _ t453 t463 t464 t465 false _ ?side1 ?side2 ?side3 ?side4 A76.out).mono ?_); (case side1 => repeat (first | exact (Kd.R_reads' HO_13.out).2.2 | (with_reducible refine Kd.C_alloc ?_ _) | (with_reducible refine Kd.C_drewN ?_ _) | (with_reducible refine Kd.C_drew ?_))); (case side2 => exact (Kd.R_reads' HO_13.out).2.1); (case side3 => repeat (first | exact (Kd.R_reads' HO_17.out).2.2 | (with_reducible refine Kd.C_alloc ?_ _) | (with_reducible refine Kd.C_drewN ?_ _) | (with_reducible refine Kd.C_drew ?_))); (case side4 => exact (Kd.R_reads' HO_17.out).2.1); rintro e w110 ⟨v466, rfl, ho0, hb⟩; refine ⟨_, rfl, ?_⟩; have HO467 := xM (Kd.R_lower (Kd.R_new' (Kd.R_new' (Kd.R_new' (Kd.R_new' ho0 (xL (yR HO_13))) (xL (yR HO_17))) (xL (yR HO_435001))) (xL (yR HO_441001))) (below_size (yh HB))); replace HO_13 := xM (Kd.R_elder' (yR HO_13) (Kd.R_base ho0) hb); replace HO_17 := xM (Kd.R_elder' (yR HO_17) (Kd.R_base ho0) hb); replace HO_435001 := xM (Kd.R_elder' (yR HO_435001) (Kd.R_base ho0) hb); replace HO_441001 := xM (Kd.R_elder' (yR HO_441001) (Kd.R_base ho0) hb); replace BK434 := xM (xB (yb BK434) hb); replace BK440 := xM (xB (yb BK440) hb); replace HB := xM (below_step (yh HB) hb); (try clear hb); (try clear ho0)) | ((with_reducible refine gate_dst (N := 23) rfl ?_); (try (refine gate_guard (by rfl) ?_; dsimp only)); refine box_event ?hg (N := 23) ?hd (cs := #[.int .i64 0, .slice none 0 0]) (t := 33) ?hr ?_; (case hd => rfl); (case hg => rfl); (case hr => first | (go_simp; done) | (go_simp; rfl)); intro gb469 hg w111 hbox hb; have BK469 := xM (hbox); have GW469 := xM ((by rw [hg]; exact (below_size (yh HB)) : w.heap.size ≤ gb469)); have GE469 := xM ((by rw [hg]; exact (below_size (yh HB)) : w.heap.size ≤ gb469)); have NB434_469 := xM ((by rw [hg]; exact Nat.ne_of_lt (blk_lt (yb BK434)) : gb434 ≠ gb469)); have NB469_434 := xM ((by rw [hg]; exact Nat.ne_of_gt (blk_lt (yb BK434)) : gb469 ≠ gb434)); have NB440_469 := xM ((by rw [hg]; exact Nat.ne_of_lt (blk_lt (yb BK440)) : gb440 ≠ gb469)); have NB469_440 := xM ((by rw [hg]; exact Nat.ne_of_gt (blk_lt (yb BK440)) : gb469 ≠ gb440)); replace HO_13 := xM (xW (yR HO_13) hb); replace HO_17 := xM (xW (yR HO_17) hb); replace HO_435001 := xM (xW (yR HO_435001) hb); replace HO_441001 := xM (xW (yR HO_441001) hb); replace HO467 := xM (xW (yR HO467) hb); replace BK434 := xM (xB (yb BK434) hb); replace BK440 := xM (xB (yb BK440) hb); replace HB := xM (below_step (yh HB) hb); clear hb hbox hg; have hnb112 := NB469_434.out; have hnc112 := NB434_469.out; have hnb113 := NB469_440.out; have hnc113 := NB440_469.out; have hcz114_0 : w111.cell? ⟨gb469, 0, none⟩ = some (.int .i64 0) := (blk_cell BK469.out 0).trans rfl; have hcz114_1 : w111.cell? ⟨gb469, 1, none⟩ = some (.slice none 0 0) := (blk_cell BK469.out 1).trans rfl; have hfz114_0 := blk_frozen BK469.out 0; have hfz114_1 := blk_frozen BK469.out 1; obtain ⟨Ao115, co115, eo115⟩ := Kd.R_slice HO467.out; subst eo115))
              go_ret
              exact ⟨by first | rfl | (simp [errW_none, errW_some] <;> rfl) | (simp [*, errW_none, errW_some] <;> rfl), by repeat (first | (with_reducible first | exact HB.out | apply xa | apply xn | apply xd | refine xs ?_ GE434.out | refine xs ?_ GE440.out | refine xs ?_ GE469.out) | exact HB.out)⟩
            ·replace c75 := Bool.eq_false_iff.mpr c75
             subst c75
             have H1 : (laws_FnAns.j3 kj62 l1) = some r := by rw [if_neg (show ¬ (false = true) by decide)] at H; exact H
             clear H
             have H := H1
             clear H1
             have H' := Aside0.mk H
             clear H
             go_wp2
             go_meet
             case rel => exact ⟨_, H', ⟨by have := HJ6.out; have := HJ29.out; have := HJ62.out; first | omega | exact Nat.le_refl _⟩, ⟨by (with_reducible repeat (first | apply xRA | apply xRN | apply xRD)); exact Kd.R_mono HO_435001.out (fun _ hk => hk.2.2)⟩, ⟨by (with_reducible repeat (first | apply xRA | apply xRN | apply xRD)); exact Kd.R_mono HO_441001.out (fun _ hk => hk.2.2)⟩, ⟨by (with_reducible repeat (first | apply xbN | apply xbD | apply xbA)); exact BK434.out⟩, ⟨by (with_reducible repeat (first | apply xbN | apply xbD | apply xbA)); exact BK440.out⟩, ⟨yh HB⟩⟩
           case rest => as_aux_lemma =>
            clear HC74
            try clear c1
            try clear c2
            try clear p2
            try clear c3
            try clear c3b0
            try clear c4
            try clear c5
            try clear c6
            try clear p6
            try clear c7
            try clear c8
            try clear c9
            try clear c10
            try clear c11
            try clear c12
            try clear c17
            try clear c19
            try clear c20
            try clear c20b0
            try clear c20b1
            try clear c20b2
            try clear c21
            try clear c21b0
            try clear c21b1
            try clear c22
            try clear c23
            try clear c26
            try clear c29
            try clear c31
            try clear c33
            try clear c34
            try clear c35
            try clear c36
            try clear c36b0
            try clear c37
            try clear c42
            try clear c42b0
            try clear c43
            try clear c48
            try clear c51
            try clear c52
            try clear c53
            try clear c57
            try clear p64
            try clear c68
            try clear c68b0
            try clear c68b1
            try clear c68b2
            try clear c69
            try clear c69b0
            try clear c69b1
            try clear c73
            try clear c75
            try clear c77
            try clear c78
            try clear c78b0
            try clear c78b1
            try clear c79
            try clear c79b0
            try clear c79b1
            try clear c80
            try clear c80b0
            try clear c80b1
            try clear c80b2
            try clear c84
            try clear c85
            try clear c91
            try clear c92
            try clear c98
            try clear c99
            try clear c105
            try clear c106
            try clear c112
            try clear c113
            try clear hcz100_0
            try clear hcz100_1
            try clear hcz107_0
            try clear hcz107_1
            try clear hcz114_0
            try clear hcz114_1
            try clear hcz13_0
            try clear hcz13_1
            try clear hcz18_0
            try clear hcz18_1
            try clear hcz24_0
            try clear hcz24_1
            try clear hcz25_0
            try clear hcz25_1
            try clear hcz27_0
            try clear hcz27_1
            try clear hcz28_0
            try clear hcz28_1
            try clear hcz38_0
            try clear hcz38_1
            try clear hcz41_0
            try clear hcz41_1
            try clear hcz44_0
            try clear hcz44_1
            try clear hcz47_0
            try clear hcz47_1
            try clear hcz49_0
            try clear hcz49_1
            try clear hcz52_0
            try clear hcz52_1
            try clear hcz54_0
            try clear hcz54_1
            try clear hcz58_0
            try clear hcz58_1
            try clear hcz86_0
            try clear hcz86_1
            try clear hcz93_0
            try clear hcz93_1
            try clear hfz100_0
            try clear hfz100_1
            try clear hfz107_0
            try clear hfz107_1
            try clear hfz114_0
            try clear hfz114_1
            try clear hfz13_0
            try clear hfz13_1
            try clear hfz18_0
            try clear hfz18_1
            try clear hfz24_0
            try clear hfz24_1
            try clear hfz25_0
            try clear hfz25_1
            try clear hfz27_0
            try clear hfz27_1
            try clear hfz28_0
            try clear hfz28_1
            try clear hfz38_0
            try clear hfz38_1
            try clear hfz41_0
            try clear hfz41_1
            try clear hfz44_0
            try clear hfz44_1
            try clear hfz47_0
            try clear hfz47_1
            try clear hfz49_0
            try clear hfz49_1
            try clear hfz52_0
            try clear hfz52_1
            try clear hfz54_0
            try clear hfz54_1
            try clear hfz58_0
            try clear hfz58_1
            try clear hfz86_0
            try clear hfz86_1
            try clear hfz93_0
            try clear hfz93_1
            try clear p2
            try clear p6
            try clear p64
            obtain ⟨kq, HA, HJ73, HO_435001, HO_441001, BK434, BK440, HB⟩ := hcut
            cases kq with
            | zero => exact absurd HA.out (by simp [laws_FnAns.j3])
            | succ kj73 =>
             have H := HA.out
             clear HA
             simp only [laws_FnAns.j3] at H
             replace H := Option.bind_eq_some_iff.mp H
             obtain ⟨⟨t470, t473, t474⟩, A1160, H⟩ := H
             replace H : ((impl_TakeSymbol.f kj73 t470 t473 t474).bind fun bt478 => ((spec_TakeSymbol.f kj73 t470 t473 t474).bind fun bt485 => (if (bt478.2.2.2 == bt485.2.2.2) = true then (if bt478.1 = bt485.1 then (if bt478.2.1 = bt485.2.1 then ((laws_sameInts.f kj73 bt478.2.2.1 bt485.2.2.1).bind fun t492 => (some t492)) else (some false)) else (some false)) else (some false)))) = some r := H
             have A116 := Aside0.mk A1160
             clear A1160
             replace H := Option.bind_eq_some_iff.mp H
             obtain ⟨⟨t478, t479, t480, t483⟩, A1170, H⟩ := H
             replace H : ((spec_TakeSymbol.f kj73 t470 t473 t474).bind fun bt485 => (if (t483 == bt485.2.2.2) = true then (if t478 = bt485.1 then (if t479 = bt485.2.1 then ((laws_sameInts.f kj73 t480 bt485.2.2.1).bind fun t492 => (some t492)) else (some false)) else (some false)) else (some false))) = some r := H
             have A117 := Aside0.mk A1170
             clear A1170
             replace H := Option.bind_eq_some_iff.mp H
             obtain ⟨⟨t485, t486, t487, t490⟩, A1180, H⟩ := H
             replace H : (if (t483 == t490) = true then (if t478 = t485 then (if t479 = t486 then ((laws_sameInts.f kj73 t480 t487).bind fun t492 => (some t492)) else (some false)) else (some false)) else (some false)) = some r := H
             have A118 := Aside0.mk A1180
             clear A1180
             by_cases c119 : (t483 == t490) = true
             ·rw [if_pos c119] at H
              have c119b0 : (t483 == t490) = true := c119
              (try (have c119b1 : decide (t483 = t490) = true := by simpa using c119))
              (try (have c119b2 : (t483 == t490) = true := by simpa using c119))
              clear c119
              by_cases c120 : t478 = t485
              ·rw [if_pos c120] at H
               have c120b0 : (t478 == t485) = true := beq_iff_eq.mpr c120
               have c120b1 : (t478 != t485) = false := bne_eq_false_iff_eq.mpr c120
               clear c120
               by_cases c121 : t479 = t486
               ·rw [if_pos c121] at H
                have c121b0 : (t479 == t486) = true := beq_iff_eq.mpr c121
                have c121b1 : (t479 != t486) = false := bne_eq_false_iff_eq.mpr c121
                clear c121
                replace H := Option.bind_eq_some_iff.mp H
                obtain ⟨t492, A1220, H⟩ := H
                replace H : (some t492) = some r := H
                have A122 := Aside0.mk A1220
                clear A1220
                obtain rfl := Option.some.inj H
                go_wp2_with (first | ((with_reducible refine gate_callee (f := 53) rfl ?_); refine goesL_ (some 168) rfl rfl Try.func53 (by kernel_rfl) rfl #[.slice A1 l1.length c1] rfl (by (try simp only [List.map_toArray, List.map_cons, List.map_nil]); first | done | rfl | (simp only [List.length_drop, List.length_take]; rfl)) ?_; (with_reducible refine (spec_DrawTakeSymbol.calls kj73 _ _ l1 t470 t473 t474 _ ?side1 ?side2 A116.out).mono ?_); (case side1 => repeat (first | exact (Kd.C_below HR1.out HB.out) | (with_reducible refine Kd.C_alloc ?_ _) | (with_reducible refine Kd.C_drewN ?_ _) | (with_reducible refine Kd.C_drew ?_))); (case side2 => exact HC1.out); rintro e w123 ⟨v471, v475, rfl, ho0, ho1, hb⟩; refine ⟨_, rfl, ?_⟩; have HO472 := xM (Kd.R_lower (Kd.R_new' (Kd.R_new' ho0 (xL (yR HO_435001))) (xL (yR HO_441001))) (below_size (yh HB))); have HO476 := xM (Kd.R_lower (Kd.R_new' (Kd.R_new' ho1 (xL (yR HO_435001))) (xL (yR HO_441001))) (below_size (yh HB))); replace HO_435001 := xM (xO (Kd.R_told (Kd.R_told (Kd.R_old (yR HO_435001) hb) (Kd.R_base ho0)) (Kd.R_base ho1)) (fun _ h_ => h_.1)); replace HO_441001 := xM (xO (Kd.R_told (Kd.R_told (Kd.R_old (yR HO_441001) hb) (Kd.R_base ho0)) (Kd.R_base ho1)) (fun _ h_ => h_.1)); replace BK434 := xM (xB (yb BK434) hb); replace BK440 := xM (xB (yb BK440) hb); replace HB := xM (below_step (yh HB) hb); (try clear hb); (try clear ho0); (try clear ho1)) | ((with_reducible refine gate_dst (N := 26) rfl ?_); (try (refine gate_guard (by rfl) ?_; dsimp only)); refine box_event ?hg (N := 26) ?hd (cs := #[.int .i64 0, .slice none 0 0]) (t := 33) ?hr ?_; (case hd => rfl); (case hg => rfl); (case hr => first | (go_simp; done) | (go_simp; rfl)); intro gb477 hg w124 hbox hb; have BK477 := xM (hbox); have GW477 := xM ((by rw [hg]; exact (below_size (yh HB)) : w.heap.size ≤ gb477)); have GE477 := xM ((by rw [hg]; exact (below_size (yh HB)) : w.heap.size ≤ gb477)); have NB434_477 := xM ((by rw [hg]; exact Nat.ne_of_lt (blk_lt (yb BK434)) : gb434 ≠ gb477)); have NB477_434 := xM ((by rw [hg]; exact Nat.ne_of_gt (blk_lt (yb BK434)) : gb477 ≠ gb434)); have NB440_477 := xM ((by rw [hg]; exact Nat.ne_of_lt (blk_lt (yb BK440)) : gb440 ≠ gb477)); have NB477_440 := xM ((by rw [hg]; exact Nat.ne_of_gt (blk_lt (yb BK440)) : gb477 ≠ gb440)); replace HO_435001 := xM (xW (yR HO_435001) hb); replace HO_441001 := xM (xW (yR HO_441001) hb); replace HO472 := xM (xW (yR HO472) hb); replace HO476 := xM (xW (yR HO476) hb); replace BK434 := xM (xB (yb BK434) hb); replace BK440 := xM (xB (yb BK440) hb); replace HB := xM (below_step (yh HB) hb); clear hb hbox hg; have hnb125 := NB477_434.out; have hnc125 := NB434_477.out; have hnb126 := NB477_440.out; have hnc126 := NB440_477.out; have hcz127_0 : w124.cell? ⟨gb477, 0, none⟩ = some (.int .i64 0) := (blk_cell BK477.out 0).trans rfl; have hcz127_1 : w124.cell? ⟨gb477, 1, none⟩ = some (.slice none 0 0) := (blk_cell BK477.out 1).trans rfl; have hfz127_0 := blk_frozen BK477.out 0; have hfz127_1 := blk_frozen BK477.out 1; obtain ⟨Ao128, co128, eo128⟩ := Kd.R_slice HO476.out; subst eo128; obtain ⟨Ao129, co129, eo129⟩ := Kd.R_slice HO472.out; subst eo129) | ((with_reducible refine gate_callee (f := 34) rfl ?_); refine goesL_ (some 174) rfl rfl Try.func34 (by kernel_rfl) rfl #[.slice Ao129 t470.length co129, .agg #[.int .i64 t473, .slice Ao128 t474.length co128]] rfl (by (try simp only [List.map_toArray, List.map_cons, List.map_nil]); first | done | rfl | (simp only [List.length_drop, List.length_take]; rfl)) ?_; (with_reducible refine (impl_TakeSymbol.calls kj73 _ _ t470 t473 _ _ t474 t478 t479 t480 t483 _ ?side1 ?side2 ?side3 ?side4 A117.out).mono ?_); (case side1 => refine (Kd.R_reads' (e := 3) (base := w.heap.size) (ok := fun k_ => ((some k_ ≠ (.slice Ao128 t474.length co128 : Value).ownBlock ∧ some k_ ≠ (.slice Ao14 t430.length co14 : Value).ownBlock) ∧ some k_ ≠ (.slice Ao19 t436.length co19 : Value).ownBlock)) (n := t470.length) (c := co129) ?_).2.2; exact (by (with_reducible repeat (first | apply xRA | apply xRN | apply xRD)); exact (xO (xF (p := ⟨gb477, 1, none⟩) (xF (p := ⟨gb477, 0, none⟩) (Kd.R_types HO472.out BK477.out (by decide)) (fun _ hk => hk.2) (.int .i64 t473)) (fun _ hk => hk.2) (.slice Ao128 t474.length co128)) (fun _ h_ => h_.1)))); (case side2 => exact (Kd.R_reads' HO472.out).2.1); (case side3 => refine (Kd.R_reads' (e := 3) (base := w.heap.size) (ok := fun k_ => ((some k_ ≠ (.slice Ao129 t470.length co129 : Value).ownBlock ∧ some k_ ≠ (.slice Ao14 t430.length co14 : Value).ownBlock) ∧ some k_ ≠ (.slice Ao19 t436.length co19 : Value).ownBlock)) (n := t474.length) (c := co128) ?_).2.2; exact (by (with_reducible repeat (first | apply xRA | apply xRN | apply xRD)); exact (xO (xF (p := ⟨gb477, 1, none⟩) (xF (p := ⟨gb477, 0, none⟩) (Kd.R_types HO476.out BK477.out (by decide)) (fun _ hk => hk.2) (.int .i64 t473)) (fun _ hk => hk.2) (.slice Ao128 t474.length co128)) (fun _ h_ => h_.1)))); (case side4 => exact (Kd.R_reads' HO476.out).2.1); rintro e w130 ⟨v481, rfl, ho0, hb⟩; refine ⟨_, rfl, ?_⟩; have HO482 := xM (Kd.R_lower (Kd.R_new' (Kd.R_new' (Kd.R_new' (Kd.R_new' ho0 (xL (by (with_reducible repeat (first | apply xRA | apply xRN | apply xRD)); exact (xO (xF (p := ⟨gb477, 1, none⟩) (xF (p := ⟨gb477, 0, none⟩) (Kd.R_types HO_435001.out BK477.out (by decide)) (fun _ hk => hk.2) (.int .i64 t473)) (fun _ hk => hk.2) (.slice Ao128 t474.length co128)) (fun _ h_ => h_.1))))) (xL (by (with_reducible repeat (first | apply xRA | apply xRN | apply xRD)); exact (xO (xF (p := ⟨gb477, 1, none⟩) (xF (p := ⟨gb477, 0, none⟩) (Kd.R_types HO_441001.out BK477.out (by decide)) (fun _ hk => hk.2) (.int .i64 t473)) (fun _ hk => hk.2) (.slice Ao128 t474.length co128)) (fun _ h_ => h_.1))))) (xL (by (with_reducible repeat (first | apply xRA | apply xRN | apply xRD)); exact (xO (xF (p := ⟨gb477, 1, none⟩) (xF (p := ⟨gb477, 0, none⟩) (Kd.R_types HO472.out BK477.out (by decide)) (fun _ hk => hk.2) (.int .i64 t473)) (fun _ hk => hk.2) (.slice Ao128 t474.length co128)) (fun _ h_ => h_.1))))) (xL (by (with_reducible repeat (first | apply xRA | apply xRN | apply xRD)); exact (xO (xF (p := ⟨gb477, 1, none⟩) (xF (p := ⟨gb477, 0, none⟩) (Kd.R_types HO476.out BK477.out (by decide)) (fun _ hk => hk.2) (.int .i64 t473)) (fun _ hk => hk.2) (.slice Ao128 t474.length co128)) (fun _ h_ => h_.1))))) (below_size (yh HB))); replace HO_435001 := xM (Kd.R_elder' (by (with_reducible repeat (first | apply xRA | apply xRN | apply xRD)); exact (xO (xF (p := ⟨gb477, 1, none⟩) (xF (p := ⟨gb477, 0, none⟩) (Kd.R_types HO_435001.out BK477.out (by decide)) (fun _ hk => hk.2) (.int .i64 t473)) (fun _ hk => hk.2) (.slice Ao128 t474.length co128)) (fun _ h_ => h_.1))) (Kd.R_base ho0) hb); replace HO_441001 := xM (Kd.R_elder' (by (with_reducible repeat (first | apply xRA | apply xRN | apply xRD)); exact (xO (xF (p := ⟨gb477, 1, none⟩) (xF (p := ⟨gb477, 0, none⟩) (Kd.R_types HO_441001.out BK477.out (by decide)) (fun _ hk => hk.2) (.int .i64 t473)) (fun _ hk => hk.2) (.slice Ao128 t474.length co128)) (fun _ h_ => h_.1))) (Kd.R_base ho0) hb); replace HO472 := xM (Kd.R_elder' (by (with_reducible repeat (first | apply xRA | apply xRN | apply xRD)); exact (xO (xF (p := ⟨gb477, 1, none⟩) (xF (p := ⟨gb477, 0, none⟩) (Kd.R_types HO472.out BK477.out (by decide)) (fun _ hk => hk.2) (.int .i64 t473)) (fun _ hk => hk.2) (.slice Ao128 t474.length co128)) (fun _ h_ => h_.1))) (Kd.R_base ho0) hb); replace HO476 := xM (Kd.R_elder' (by (with_reducible repeat (first | apply xRA | apply xRN | apply xRD)); exact (xO (xF (p := ⟨gb477, 1, none⟩) (xF (p := ⟨gb477, 0, none⟩) (Kd.R_types HO476.out BK477.out (by decide)) (fun _ hk => hk.2) (.int .i64 t473)) (fun _ hk => hk.2) (.slice Ao128 t474.length co128)) (fun _ h_ => h_.1))) (Kd.R_base ho0) hb); replace BK434 := xM (xB (g := gb434) (o := .cells #[.int .i64 t429, .slice Ao14 t430.length co14] 33 (0, 0)) (by (with_reducible repeat (first | apply xbN | apply xbD | apply xbA)); refine blk_far ?_ NB434_477.out _; (with_reducible repeat (first | apply xbN | apply xbD | apply xbA)); refine blk_far ?_ NB434_477.out _; (with_reducible repeat (first | apply xbN | apply xbD | apply xbA)); exact BK434.out) hb); replace BK440 := xM (xB (g := gb440) (o := .cells #[.int .i64 t435, .slice Ao19 t436.length co19] 33 (0, 0)) (by (with_reducible repeat (first | apply xbN | apply xbD | apply xbA)); refine blk_far ?_ NB440_477.out _; (with_reducible repeat (first | apply xbN | apply xbD | apply xbA)); refine blk_far ?_ NB440_477.out _; (with_reducible repeat (first | apply xbN | apply xbD | apply xbA)); exact BK440.out) hb); replace BK477 := xM (xB (g := gb477) (o := .cells #[.int .i64 t473, .slice Ao128 t474.length co128] 33 (0, 0)) (by (with_reducible repeat (first | apply xbN | apply xbD | apply xbA)); refine blk_put (cs := #[.int .i64 t473, .slice none 0 0]) ?_ 1 _ rfl; (with_reducible repeat (first | apply xbN | apply xbD | apply xbA)); refine blk_put (cs := #[.int .i64 0, .slice none 0 0]) ?_ 0 _ rfl; (with_reducible repeat (first | apply xbN | apply xbD | apply xbA)); exact BK477.out) hb); replace HB := xM (below_step (yh HB) hb); (try clear hb); (try clear ho0)) | ((with_reducible refine gate_dst (N := 28) rfl ?_); (try (refine gate_guard (by rfl) ?_; dsimp only)); refine box_event ?hg (N := 28) ?hd (cs := #[.int .i64 0, .slice none 0 0]) (t := 33) ?hr ?_; (case hd => rfl); (case hg => rfl); (case hr => first | (go_simp; done) | (go_simp; rfl)); intro gb484 hg w131 hbox hb; have BK484 := xM (hbox); have GW484 := xM ((by rw [hg]; exact (below_size (yh HB)) : w.heap.size ≤ gb484)); have GE484 := xM ((by rw [hg]; exact (below_size (yh HB)) : w.heap.size ≤ gb484)); have NB434_484 := xM ((by rw [hg]; exact Nat.ne_of_lt (blk_lt (yb BK434)) : gb434 ≠ gb484)); have NB484_434 := xM ((by rw [hg]; exact Nat.ne_of_gt (blk_lt (yb BK434)) : gb484 ≠ gb434)); have NB440_484 := xM ((by rw [hg]; exact Nat.ne_of_lt (blk_lt (yb BK440)) : gb440 ≠ gb484)); have NB484_440 := xM ((by rw [hg]; exact Nat.ne_of_gt (blk_lt (yb BK440)) : gb484 ≠ gb440)); have NB477_484 := xM ((by rw [hg]; exact Nat.ne_of_lt (blk_lt (yb BK477)) : gb477 ≠ gb484)); have NB484_477 := xM ((by rw [hg]; exact Nat.ne_of_gt (blk_lt (yb BK477)) : gb484 ≠ gb477)); replace HO_435001 := xM (xW (yR HO_435001) hb); replace HO_441001 := xM (xW (yR HO_441001) hb); replace HO472 := xM (xW (yR HO472) hb); replace HO476 := xM (xW (yR HO476) hb); replace HO482 := xM (xW (yR HO482) hb); replace BK434 := xM (xB (yb BK434) hb); replace BK440 := xM (xB (yb BK440) hb); replace BK477 := xM (xB (yb BK477) hb); replace HB := xM (below_step (yh HB) hb); clear hb hbox hg; have hnb132 := NB484_434.out; have hnc132 := NB434_484.out; have hnb133 := NB484_440.out; have hnc133 := NB440_484.out; have hnb134 := NB484_477.out; have hnc134 := NB477_484.out; have hcz135_0 : w131.cell? ⟨gb484, 0, none⟩ = some (.int .i64 0) := (blk_cell BK484.out 0).trans rfl; have hcz135_1 : w131.cell? ⟨gb484, 1, none⟩ = some (.slice none 0 0) := (blk_cell BK484.out 1).trans rfl; have hfz135_0 := blk_frozen BK484.out 0; have hfz135_1 := blk_frozen BK484.out 1; obtain ⟨Ao136, co136, eo136⟩ := Kd.R_slice HO482.out; subst eo136; have hcz137_0 : w131.cell? ⟨gb477, 0, none⟩ = some (.int .i64 t473) := (blk_cell BK477.out 0).trans rfl; have hcz137_1 : w131.cell? ⟨gb477, 1, none⟩ = some (.slice Ao128 t474.length co128) := (blk_cell BK477.out 1).trans rfl; have hfz137_0 := blk_frozen BK477.out 0; have hfz137_1 := blk_frozen BK477.out 1) | ((with_reducible refine gate_callee (f := 32) rfl ?_); refine goesL_ (some 181) rfl rfl Try.func32 (by kernel_rfl) rfl #[.slice Ao129 t470.length co129, .agg #[.int .i64 t473, .slice Ao128 t474.length co128]] rfl (by (try simp only [List.map_toArray, List.map_cons, List.map_nil]); first | done | rfl | (simp only [List.length_drop, List.length_take]; rfl)) ?_; (with_reducible refine (spec_TakeSymbol.calls kj73 _ _ t470 t473 _ _ t474 t485 t486 t487 t490 _ ?side1 ?side2 ?side3 ?side4 A118.out).mono ?_); (case side1 => refine (Kd.R_reads' (e := 3) (base := w.heap.size) (ok := fun k_ => (((some k_ ≠ (.slice Ao128 t474.length co128 : Value).ownBlock ∧ some k_ ≠ (.slice Ao14 t430.length co14 : Value).ownBlock) ∧ some k_ ≠ (.slice Ao19 t436.length co19 : Value).ownBlock) ∧ some k_ ≠ (.slice Ao136 t480.length co136 : Value).ownBlock)) (n := t470.length) (c := co129) ?_).2.2; exact (by (with_reducible repeat (first | apply xRA | apply xRN | apply xRD)); exact (xO (xF (p := ⟨gb484, 1, none⟩) (xF (p := ⟨gb484, 0, none⟩) (Kd.R_types HO472.out BK484.out (by decide)) (fun _ hk => hk.2) (.int .i64 t479)) (fun _ hk => hk.2) (.slice Ao136 t480.length co136)) (fun _ h_ => h_.1)))); (case side2 => exact (Kd.R_reads' HO472.out).2.1); (case side3 => refine (Kd.R_reads' (e := 3) (base := w.heap.size) (ok := fun k_ => (((some k_ ≠ (.slice Ao129 t470.length co129 : Value).ownBlock ∧ some k_ ≠ (.slice Ao14 t430.length co14 : Value).ownBlock) ∧ some k_ ≠ (.slice Ao19 t436.length co19 : Value).ownBlock) ∧ some k_ ≠ (.slice Ao136 t480.length co136 : Value).ownBlock)) (n := t474.length) (c := co128) ?_).2.2; exact (by (with_reducible repeat (first | apply xRA | apply xRN | apply xRD)); exact (xO (xF (p := ⟨gb484, 1, none⟩) (xF (p := ⟨gb484, 0, none⟩) (Kd.R_types HO476.out BK484.out (by decide)) (fun _ hk => hk.2) (.int .i64 t479)) (fun _ hk => hk.2) (.slice Ao136 t480.length co136)) (fun _ h_ => h_.1)))); (case side4 => exact (Kd.R_reads' HO476.out).2.1); rintro e w138 ⟨v488, rfl, ho0, hb⟩; refine ⟨_, rfl, ?_⟩; have HO489 := xM (Kd.R_lower (Kd.R_new' (Kd.R_new' (Kd.R_new' (Kd.R_new' (Kd.R_new' ho0 (xL (by (with_reducible repeat (first | apply xRA | apply xRN | apply xRD)); exact (xO (xF (p := ⟨gb484, 1, none⟩) (xF (p := ⟨gb484, 0, none⟩) (Kd.R_types HO_435001.out BK484.out (by decide)) (fun _ hk => hk.2) (.int .i64 t479)) (fun _ hk => hk.2) (.slice Ao136 t480.length co136)) (fun _ h_ => h_.1))))) (xL (by (with_reducible repeat (first | apply xRA | apply xRN | apply xRD)); exact (xO (xF (p := ⟨gb484, 1, none⟩) (xF (p := ⟨gb484, 0, none⟩) (Kd.R_types HO_441001.out BK484.out (by decide)) (fun _ hk => hk.2) (.int .i64 t479)) (fun _ hk => hk.2) (.slice Ao136 t480.length co136)) (fun _ h_ => h_.1))))) (xL (by (with_reducible repeat (first | apply xRA | apply xRN | apply xRD)); exact (xO (xF (p := ⟨gb484, 1, none⟩) (xF (p := ⟨gb484, 0, none⟩) (Kd.R_types HO472.out BK484.out (by decide)) (fun _ hk => hk.2) (.int .i64 t479)) (fun _ hk => hk.2) (.slice Ao136 t480.length co136)) (fun _ h_ => h_.1))))) (xL (by (with_reducible repeat (first | apply xRA | apply xRN | apply xRD)); exact (xO (xF (p := ⟨gb484, 1, none⟩) (xF (p := ⟨gb484, 0, none⟩) (Kd.R_types HO476.out BK484.out (by decide)) (fun _ hk => hk.2) (.int .i64 t479)) (fun _ hk => hk.2) (.slice Ao136 t480.length co136)) (fun _ h_ => h_.1))))) (xL (by (with_reducible repeat (first | apply xRA | apply xRN | apply xRD)); exact (xO (xF (p := ⟨gb484, 1, none⟩) (xF (p := ⟨gb484, 0, none⟩) (Kd.R_types HO482.out BK484.out (by decide)) (fun _ hk => hk.2) (.int .i64 t479)) (fun _ hk => hk.2) (.slice Ao136 t480.length co136)) (fun _ h_ => h_.1))))) (below_size (yh HB))); replace HO_435001 := xM (Kd.R_elder' (by (with_reducible repeat (first | apply xRA | apply xRN | apply xRD)); exact (xO (xF (p := ⟨gb484, 1, none⟩) (xF (p := ⟨gb484, 0, none⟩) (Kd.R_types HO_435001.out BK484.out (by decide)) (fun _ hk => hk.2) (.int .i64 t479)) (fun _ hk => hk.2) (.slice Ao136 t480.length co136)) (fun _ h_ => h_.1))) (Kd.R_base ho0) hb); replace HO_441001 := xM (Kd.R_elder' (by (with_reducible repeat (first | apply xRA | apply xRN | apply xRD)); exact (xO (xF (p := ⟨gb484, 1, none⟩) (xF (p := ⟨gb484, 0, none⟩) (Kd.R_types HO_441001.out BK484.out (by decide)) (fun _ hk => hk.2) (.int .i64 t479)) (fun _ hk => hk.2) (.slice Ao136 t480.length co136)) (fun _ h_ => h_.1))) (Kd.R_base ho0) hb); replace HO472 := xM (Kd.R_elder' (by (with_reducible repeat (first | apply xRA | apply xRN | apply xRD)); exact (xO (xF (p := ⟨gb484, 1, none⟩) (xF (p := ⟨gb484, 0, none⟩) (Kd.R_types HO472.out BK484.out (by decide)) (fun _ hk => hk.2) (.int .i64 t479)) (fun _ hk => hk.2) (.slice Ao136 t480.length co136)) (fun _ h_ => h_.1))) (Kd.R_base ho0) hb); replace HO476 := xM (Kd.R_elder' (by (with_reducible repeat (first | apply xRA | apply xRN | apply xRD)); exact (xO (xF (p := ⟨gb484, 1, none⟩) (xF (p := ⟨gb484, 0, none⟩) (Kd.R_types HO476.out BK484.out (by decide)) (fun _ hk => hk.2) (.int .i64 t479)) (fun _ hk => hk.2) (.slice Ao136 t480.length co136)) (fun _ h_ => h_.1))) (Kd.R_base ho0) hb); replace HO482 := xM (Kd.R_elder' (by (with_reducible repeat (first | apply xRA | apply xRN | apply xRD)); exact (xO (xF (p := ⟨gb484, 1, none⟩) (xF (p := ⟨gb484, 0, none⟩) (Kd.R_types HO482.out BK484.out (by decide)) (fun _ hk => hk.2) (.int .i64 t479)) (fun _ hk => hk.2) (.slice Ao136 t480.length co136)) (fun _ h_ => h_.1))) (Kd.R_base ho0) hb); replace BK434 := xM (xB (g := gb434) (o := .cells #[.int .i64 t429, .slice Ao14 t430.length co14] 33 (0, 0)) (by (with_reducible repeat (first | apply xbN | apply xbD | apply xbA)); refine blk_far ?_ NB434_484.out _; (with_reducible repeat (first | apply xbN | apply xbD | apply xbA)); refine blk_far ?_ NB434_484.out _; (with_reducible repeat (first | apply xbN | apply xbD | apply xbA)); exact BK434.out) hb); replace BK440 := xM (xB (g := gb440) (o := .cells #[.int .i64 t435, .slice Ao19 t436.length co19] 33 (0, 0)) (by (with_reducible repeat (first | apply xbN | apply xbD | apply xbA)); refine blk_far ?_ NB440_484.out _; (with_reducible repeat (first | apply xbN | apply xbD | apply xbA)); refine blk_far ?_ NB440_484.out _; (with_reducible repeat (first | apply xbN | apply xbD | apply xbA)); exact BK440.out) hb); replace BK477 := xM (xB (g := gb477) (o := .cells #[.int .i64 t473, .slice Ao128 t474.length co128] 33 (0, 0)) (by (with_reducible repeat (first | apply xbN | apply xbD | apply xbA)); refine blk_far ?_ NB477_484.out _; (with_reducible repeat (first | apply xbN | apply xbD | apply xbA)); refine blk_far ?_ NB477_484.out _; (with_reducible repeat (first | apply xbN | apply xbD | apply xbA)); exact BK477.out) hb); replace BK484 := xM (xB (g := gb484) (o := .cells #[.int .i64 t479, .slice Ao136 t480.length co136] 33 (0, 0)) (by (with_reducible repeat (first | apply xbN | apply xbD | apply xbA)); refine blk_put (cs := #[.int .i64 t479, .slice none 0 0]) ?_ 1 _ rfl; (with_reducible repeat (first | apply xbN | apply xbD | apply xbA)); refine blk_put (cs := #[.int .i64 0, .slice none 0 0]) ?_ 0 _ rfl; (with_reducible repeat (first | apply xbN | apply xbD | apply xbA)); exact BK484.out) hb); replace HB := xM (below_step (yh HB) hb); (try clear hb); (try clear ho0)) | ((with_reducible refine gate_dst (N := 31) rfl ?_); (try (refine gate_guard (by rfl) ?_; dsimp only)); refine box_event ?hg (N := 31) ?hd (cs := #[.int .i64 0, .slice none 0 0]) (t := 33) ?hr ?_; (case hd => rfl); (case hg => rfl); (case hr => first | (go_simp; done) | (go_simp; rfl)); intro gb491 hg w139 hbox hb; have BK491 := xM (hbox); have GW491 := xM ((by rw [hg]; exact (below_size (yh HB)) : w.heap.size ≤ gb491)); have GE491 := xM ((by rw [hg]; exact (below_size (yh HB)) : w.heap.size ≤ gb491)); have NB434_491 := xM ((by rw [hg]; exact Nat.ne_of_lt (blk_lt (yb BK434)) : gb434 ≠ gb491)); have NB491_434 := xM ((by rw [hg]; exact Nat.ne_of_gt (blk_lt (yb BK434)) : gb491 ≠ gb434)); have NB440_491 := xM ((by rw [hg]; exact Nat.ne_of_lt (blk_lt (yb BK440)) : gb440 ≠ gb491)); have NB491_440 := xM ((by rw [hg]; exact Nat.ne_of_gt (blk_lt (yb BK440)) : gb491 ≠ gb440)); have NB477_491 := xM ((by rw [hg]; exact Nat.ne_of_lt (blk_lt (yb BK477)) : gb477 ≠ gb491)); have NB491_477 := xM ((by rw [hg]; exact Nat.ne_of_gt (blk_lt (yb BK477)) : gb491 ≠ gb477)); have NB484_491 := xM ((by rw [hg]; exact Nat.ne_of_lt (blk_lt (yb BK484)) : gb484 ≠ gb491)); have NB491_484 := xM ((by rw [hg]; exact Nat.ne_of_gt (blk_lt (yb BK484)) : gb491 ≠ gb484)); replace HO_435001 := xM (xW (yR HO_435001) hb); replace HO_441001 := xM (xW (yR HO_441001) hb); replace HO472 := xM (xW (yR HO472) hb); replace HO476 := xM (xW (yR HO476) hb); replace HO482 := xM (xW (yR HO482) hb); replace HO489 := xM (xW (yR HO489) hb); replace BK434 := xM (xB (yb BK434) hb); replace BK440 := xM (xB (yb BK440) hb); replace BK477 := xM (xB (yb BK477) hb); replace BK484 := xM (xB (yb BK484) hb); replace HB := xM (below_step (yh HB) hb); clear hb hbox hg; have hnb140 := NB491_434.out; have hnc140 := NB434_491.out; have hnb141 := NB491_440.out; have hnc141 := NB440_491.out; have hnb142 := NB491_477.out; have hnc142 := NB477_491.out; have hnb143 := NB491_484.out; have hnc143 := NB484_491.out; have hcz144_0 : w139.cell? ⟨gb491, 0, none⟩ = some (.int .i64 0) := (blk_cell BK491.out 0).trans rfl; have hcz144_1 : w139.cell? ⟨gb491, 1, none⟩ = some (.slice none 0 0) := (blk_cell BK491.out 1).trans rfl; have hfz144_0 := blk_frozen BK491.out 0; have hfz144_1 := blk_frozen BK491.out 1; obtain ⟨Ao145, co145, eo145⟩ := Kd.R_slice HO489.out; subst eo145; have hcz146_0 : w139.cell? ⟨gb484, 0, none⟩ = some (.int .i64 t479) := (blk_cell BK484.out 0).trans rfl; have hcz146_1 : w139.cell? ⟨gb484, 1, none⟩ = some (.slice Ao136 t480.length co136) := (blk_cell BK484.out 1).trans rfl; have hfz146_0 := blk_frozen BK484.out 0; have hfz146_1 := blk_frozen BK484.out 1) | (go_at_call 47; (with_reducible refine (laws_sameInts.calls kj73 _ _ t480 _ _ t487 t492 _ ?side1 ?side2 ?side3 ?side4 A122.out).mono ?_); (case side1 => refine (Kd.R_reads' (e := 3) (base := w.heap.size) (ok := fun k_ => (((((True ∧ some k_ ≠ (.slice Ao14 t430.length co14 : Value).ownBlock) ∧ some k_ ≠ (.slice Ao19 t436.length co19 : Value).ownBlock) ∧ some k_ ≠ (.slice Ao129 t470.length co129 : Value).ownBlock) ∧ some k_ ≠ (.slice Ao128 t474.length co128 : Value).ownBlock) ∧ some k_ ≠ (.slice Ao145 t487.length co145 : Value).ownBlock)) (n := t480.length) (c := co136) ?_).2.2; exact (by (with_reducible repeat (first | apply xRA | apply xRN | apply xRD)); exact (xO (xF (p := ⟨gb491, 1, none⟩) (xF (p := ⟨gb491, 0, none⟩) (Kd.R_types HO482.out BK491.out (by decide)) (fun _ hk => hk.2) (.int .i64 t486)) (fun _ hk => hk.2) (.slice Ao145 t487.length co145)) (fun _ h_ => h_.1)))); (case side2 => exact (Kd.R_reads' HO482.out).2.1); (case side3 => refine (Kd.R_reads' (e := 3) (base := w.heap.size) (ok := fun k_ => (((((True ∧ some k_ ≠ (.slice Ao14 t430.length co14 : Value).ownBlock) ∧ some k_ ≠ (.slice Ao19 t436.length co19 : Value).ownBlock) ∧ some k_ ≠ (.slice Ao129 t470.length co129 : Value).ownBlock) ∧ some k_ ≠ (.slice Ao128 t474.length co128 : Value).ownBlock) ∧ some k_ ≠ (.slice Ao136 t480.length co136 : Value).ownBlock)) (n := t487.length) (c := co145) ?_).2.2; exact (by (with_reducible repeat (first | apply xRA | apply xRN | apply xRD)); exact (xO (xF (p := ⟨gb491, 1, none⟩) (xF (p := ⟨gb491, 0, none⟩) (Kd.R_types HO489.out BK491.out (by decide)) (fun _ hk => hk.2) (.int .i64 t486)) (fun _ hk => hk.2) (.slice Ao145 t487.length co145)) (fun _ h_ => h_.1)))); (case side4 => exact (Kd.R_reads' HO489.out).2.1); rintro e w' ⟨rfl, ⟨nd, rfl⟩⟩))
                go_ret
                exact ⟨by first | rfl | (simp [errW_none, errW_some] <;> rfl) | (simp [*, errW_none, errW_some] <;> rfl), by repeat (first | (with_reducible first | exact HB.out | apply xa | apply xn | apply xd | refine xs ?_ GE434.out | refine xs ?_ GE440.out | refine xs ?_ GE477.out | refine xs ?_ GE484.out | refine xs ?_ GE491.out) | exact HB.out)⟩
               ·rw [if_neg c121] at H
                have c121b0 : (t479 == t486) = false := beq_eq_false_iff_ne.mpr c121
                have c121b1 : (t479 != t486) = true := bne_iff_ne.mpr c121
                obtain rfl := Option.some.inj H
                go_wp2_with (first | ((with_reducible refine gate_callee (f := 53) rfl ?_); refine goesL_ (some 168) rfl rfl Try.func53 (by kernel_rfl) rfl #[.slice A1 l1.length c1] rfl (by (try simp only [List.map_toArray, List.map_cons, List.map_nil]); first | done | rfl | (simp only [List.length_drop, List.length_take]; rfl)) ?_; (with_reducible refine (spec_DrawTakeSymbol.calls kj73 _ _ l1 t470 t473 t474 _ ?side1 ?side2 A116.out).mono ?_); (case side1 => repeat (first | exact (Kd.C_below HR1.out HB.out) | (with_reducible refine Kd.C_alloc ?_ _) | (with_reducible refine Kd.C_drewN ?_ _) | (with_reducible refine Kd.C_drew ?_))); (case side2 => exact HC1.out); rintro e w147 ⟨v471, v475, rfl, ho0, ho1, hb⟩; refine ⟨_, rfl, ?_⟩; have HO472 := xM (Kd.R_lower (Kd.R_new' (Kd.R_new' ho0 (xL (yR HO_435001))) (xL (yR HO_441001))) (below_size (yh HB))); have HO476 := xM (Kd.R_lower (Kd.R_new' (Kd.R_new' ho1 (xL (yR HO_435001))) (xL (yR HO_441001))) (below_size (yh HB))); replace HO_435001 := xM (xO (Kd.R_told (Kd.R_told (Kd.R_old (yR HO_435001) hb) (Kd.R_base ho0)) (Kd.R_base ho1)) (fun _ h_ => h_.1)); replace HO_441001 := xM (xO (Kd.R_told (Kd.R_told (Kd.R_old (yR HO_441001) hb) (Kd.R_base ho0)) (Kd.R_base ho1)) (fun _ h_ => h_.1)); replace BK434 := xM (xB (yb BK434) hb); replace BK440 := xM (xB (yb BK440) hb); replace HB := xM (below_step (yh HB) hb); (try clear hb); (try clear ho0); (try clear ho1)) | ((with_reducible refine gate_dst (N := 26) rfl ?_); (try (refine gate_guard (by rfl) ?_; dsimp only)); refine box_event ?hg (N := 26) ?hd (cs := #[.int .i64 0, .slice none 0 0]) (t := 33) ?hr ?_; (case hd => rfl); (case hg => rfl); (case hr => first | (go_simp; done) | (go_simp; rfl)); intro gb477 hg w148 hbox hb; have BK477 := xM (hbox); have GW477 := xM ((by rw [hg]; exact (below_size (yh HB)) : w.heap.size ≤ gb477)); have GE477 := xM ((by rw [hg]; exact (below_size (yh HB)) : w.heap.size ≤ gb477)); have NB434_477 := xM ((by rw [hg]; exact Nat.ne_of_lt (blk_lt (yb BK434)) : gb434 ≠ gb477)); have NB477_434 := xM ((by rw [hg]; exact Nat.ne_of_gt (blk_lt (yb BK434)) : gb477 ≠ gb434)); have NB440_477 := xM ((by rw [hg]; exact Nat.ne_of_lt (blk_lt (yb BK440)) : gb440 ≠ gb477)); have NB477_440 := xM ((by rw [hg]; exact Nat.ne_of_gt (blk_lt (yb BK440)) : gb477 ≠ gb440)); replace HO_435001 := xM (xW (yR HO_435001) hb); replace HO_441001 := xM (xW (yR HO_441001) hb); replace HO472 := xM (xW (yR HO472) hb); replace HO476 := xM (xW (yR HO476) hb); replace BK434 := xM (xB (yb BK434) hb); replace BK440 := xM (xB (yb BK440) hb); replace HB := xM (below_step (yh HB) hb); clear hb hbox hg; have hnb149 := NB477_434.out; have hnc149 := NB434_477.out; have hnb150 := NB477_440.out; have hnc150 := NB440_477.out; have hcz151_0 : w148.cell? ⟨gb477, 0, none⟩ = some (.int .i64 0) := (blk_cell BK477.out 0).trans rfl; have hcz151_1 : w148.cell? ⟨gb477, 1, none⟩ = some (.slice none 0 0) := (blk_cell BK477.out 1).trans rfl; have hfz151_0 := blk_frozen BK477.out 0; have hfz151_1 := blk_frozen BK477.out 1; obtain ⟨Ao152, co152, eo152⟩ := Kd.R_slice HO476.out; subst eo152; obtain ⟨Ao153, co153, eo153⟩ := Kd.R_slice HO472.out; subst eo153) | ((with_reducible refine gate_callee (f := 34) rfl ?_); refine goesL_ (some 174) rfl rfl Try.func34 (by kernel_rfl) rfl #[.slice Ao153 t470.length co153, .agg #[.int .i64 t473, .slice Ao152 t474.length co152]] rfl (by (try simp only [List.map_toArray, List.map_cons, List.map_nil]); first | done | rfl | (simp only [List.length_drop, List.length_take]; rfl)) ?_; (with_reducible refine (impl_TakeSymbol.calls kj73 _ _ t470 t473 _ _ t474 t478 t479 t480 t483 _ ?side1 ?side2 ?side3 ?side4 A117.out).mono ?_); (case side1 => refine (Kd.R_reads' (e := 3) (base := w.heap.size) (ok := fun k_ => ((some k_ ≠ (.slice Ao152 t474.length co152 : Value).ownBlock ∧ some k_ ≠ (.slice Ao14 t430.length co14 : Value).ownBlock) ∧ some k_ ≠ (.slice Ao19 t436.length co19 : Value).ownBlock)) (n := t470.length) (c := co153) ?_).2.2; exact (by (with_reducible repeat (first | apply xRA | apply xRN | apply xRD)); exact (xO (xF (p := ⟨gb477, 1, none⟩) (xF (p := ⟨gb477, 0, none⟩) (Kd.R_types HO472.out BK477.out (by decide)) (fun _ hk => hk.2) (.int .i64 t473)) (fun _ hk => hk.2) (.slice Ao152 t474.length co152)) (fun _ h_ => h_.1)))); (case side2 => exact (Kd.R_reads' HO472.out).2.1); (case side3 => refine (Kd.R_reads' (e := 3) (base := w.heap.size) (ok := fun k_ => ((some k_ ≠ (.slice Ao153 t470.length co153 : Value).ownBlock ∧ some k_ ≠ (.slice Ao14 t430.length co14 : Value).ownBlock) ∧ some k_ ≠ (.slice Ao19 t436.length co19 : Value).ownBlock)) (n := t474.length) (c := co152) ?_).2.2; exact (by (with_reducible repeat (first | apply xRA | apply xRN | apply xRD)); exact (xO (xF (p := ⟨gb477, 1, none⟩) (xF (p := ⟨gb477, 0, none⟩) (Kd.R_types HO476.out BK477.out (by decide)) (fun _ hk => hk.2) (.int .i64 t473)) (fun _ hk => hk.2) (.slice Ao152 t474.length co152)) (fun _ h_ => h_.1)))); (case side4 => exact (Kd.R_reads' HO476.out).2.1); rintro e w154 ⟨v481, rfl, ho0, hb⟩; refine ⟨_, rfl, ?_⟩; have HO482 := xM (Kd.R_lower (Kd.R_new' (Kd.R_new' (Kd.R_new' (Kd.R_new' ho0 (xL (by (with_reducible repeat (first | apply xRA | apply xRN | apply xRD)); exact (xO (xF (p := ⟨gb477, 1, none⟩) (xF (p := ⟨gb477, 0, none⟩) (Kd.R_types HO_435001.out BK477.out (by decide)) (fun _ hk => hk.2) (.int .i64 t473)) (fun _ hk => hk.2) (.slice Ao152 t474.length co152)) (fun _ h_ => h_.1))))) (xL (by (with_reducible repeat (first | apply xRA | apply xRN | apply xRD)); exact (xO (xF (p := ⟨gb477, 1, none⟩) (xF (p := ⟨gb477, 0, none⟩) (Kd.R_types HO_441001.out BK477.out (by decide)) (fun _ hk => hk.2) (.int .i64 t473)) (fun _ hk => hk.2) (.slice Ao152 t474.length co152)) (fun _ h_ => h_.1))))) (xL (by (with_reducible repeat (first | apply xRA | apply xRN | apply xRD)); exact (xO (xF (p := ⟨gb477, 1, none⟩) (xF (p := ⟨gb477, 0, none⟩) (Kd.R_types HO472.out BK477.out (by decide)) (fun _ hk => hk.2) (.int .i64 t473)) (fun _ hk => hk.2) (.slice Ao152 t474.length co152)) (fun _ h_ => h_.1))))) (xL (by (with_reducible repeat (first | apply xRA | apply xRN | apply xRD)); exact (xO (xF (p := ⟨gb477, 1, none⟩) (xF (p := ⟨gb477, 0, none⟩) (Kd.R_types HO476.out BK477.out (by decide)) (fun _ hk => hk.2) (.int .i64 t473)) (fun _ hk => hk.2) (.slice Ao152 t474.length co152)) (fun _ h_ => h_.1))))) (below_size (yh HB))); replace HO_435001 := xM (Kd.R_elder' (by (with_reducible repeat (first | apply xRA | apply xRN | apply xRD)); exact (xO (xF (p := ⟨gb477, 1, none⟩) (xF (p := ⟨gb477, 0, none⟩) (Kd.R_types HO_435001.out BK477.out (by decide)) (fun _ hk => hk.2) (.int .i64 t473)) (fun _ hk => hk.2) (.slice Ao152 t474.length co152)) (fun _ h_ => h_.1))) (Kd.R_base ho0) hb); replace HO_441001 := xM (Kd.R_elder' (by (with_reducible repeat (first | apply xRA | apply xRN | apply xRD)); exact (xO (xF (p := ⟨gb477, 1, none⟩) (xF (p := ⟨gb477, 0, none⟩) (Kd.R_types HO_441001.out BK477.out (by decide)) (fun _ hk => hk.2) (.int .i64 t473)) (fun _ hk => hk.2) (.slice Ao152 t474.length co152)) (fun _ h_ => h_.1))) (Kd.R_base ho0) hb); replace HO472 := xM (Kd.R_elder' (by (with_reducible repeat (first | apply xRA | apply xRN | apply xRD)); exact (xO (xF (p := ⟨gb477, 1, none⟩) (xF (p := ⟨gb477, 0, none⟩) (Kd.R_types HO472.out BK477.out (by decide)) (fun _ hk => hk.2) (.int .i64 t473)) (fun _ hk => hk.2) (.slice Ao152 t474.length co152)) (fun _ h_ => h_.1))) (Kd.R_base ho0) hb); replace HO476 := xM (Kd.R_elder' (by (with_reducible repeat (first | apply xRA | apply xRN | apply xRD)); exact (xO (xF (p := ⟨gb477, 1, none⟩) (xF (p := ⟨gb477, 0, none⟩) (Kd.R_types HO476.out BK477.out (by decide)) (fun _ hk => hk.2) (.int .i64 t473)) (fun _ hk => hk.2) (.slice Ao152 t474.length co152)) (fun _ h_ => h_.1))) (Kd.R_base ho0) hb); replace BK434 := xM (xB (g := gb434) (o := .cells #[.int .i64 t429, .slice Ao14 t430.length co14] 33 (0, 0)) (by (with_reducible repeat (first | apply xbN | apply xbD | apply xbA)); refine blk_far ?_ NB434_477.out _; (with_reducible repeat (first | apply xbN | apply xbD | apply xbA)); refine blk_far ?_ NB434_477.out _; (with_reducible repeat (first | apply xbN | apply xbD | apply xbA)); exact BK434.out) hb); replace BK440 := xM (xB (g := gb440) (o := .cells #[.int .i64 t435, .slice Ao19 t436.length co19] 33 (0, 0)) (by (with_reducible repeat (first | apply xbN | apply xbD | apply xbA)); refine blk_far ?_ NB440_477.out _; (with_reducible repeat (first | apply xbN | apply xbD | apply xbA)); refine blk_far ?_ NB440_477.out _; (with_reducible repeat (first | apply xbN | apply xbD | apply xbA)); exact BK440.out) hb); replace BK477 := xM (xB (g := gb477) (o := .cells #[.int .i64 t473, .slice Ao152 t474.length co152] 33 (0, 0)) (by (with_reducible repeat (first | apply xbN | apply xbD | apply xbA)); refine blk_put (cs := #[.int .i64 t473, .slice none 0 0]) ?_ 1 _ rfl; (with_reducible repeat (first | apply xbN | apply xbD | apply xbA)); refine blk_put (cs := #[.int .i64 0, .slice none 0 0]) ?_ 0 _ rfl; (with_reducible repeat (first | apply xbN | apply xbD | apply xbA)); exact BK477.out) hb); replace HB := xM (below_step (yh HB) hb); (try clear hb); (try clear ho0)) | ((with_reducible refine gate_dst (N := 28) rfl ?_); (try (refine gate_guard (by rfl) ?_; dsimp only)); refine box_event ?hg (N := 28) ?hd (cs := #[.int .i64 0, .slice none 0 0]) (t := 33) ?hr ?_; (case hd => rfl); (case hg => rfl); (case hr => first | (go_simp; done) | (go_simp; rfl)); intro gb484 hg w155 hbox hb; have BK484 := xM (hbox); have GW484 := xM ((by rw [hg]; exact (below_size (yh HB)) : w.heap.size ≤ gb484)); have GE484 := xM ((by rw [hg]; exact (below_size (yh HB)) : w.heap.size ≤ gb484)); have NB434_484 := xM ((by rw [hg]; exact Nat.ne_of_lt (blk_lt (yb BK434)) : gb434 ≠ gb484)); have NB484_434 := xM ((by rw [hg]; exact Nat.ne_of_gt (blk_lt (yb BK434)) : gb484 ≠ gb434)); have NB440_484 := xM ((by rw [hg]; exact Nat.ne_of_lt (blk_lt (yb BK440)) : gb440 ≠ gb484)); have NB484_440 := xM ((by rw [hg]; exact Nat.ne_of_gt (blk_lt (yb BK440)) : gb484 ≠ gb440)); have NB477_484 := xM ((by rw [hg]; exact Nat.ne_of_lt (blk_lt (yb BK477)) : gb477 ≠ gb484)); have NB484_477 := xM ((by rw [hg]; exact Nat.ne_of_gt (blk_lt (yb BK477)) : gb484 ≠ gb477)); replace HO_435001 := xM (xW (yR HO_435001) hb); replace HO_441001 := xM (xW (yR HO_441001) hb); replace HO472 := xM (xW (yR HO472) hb); replace HO476 := xM (xW (yR HO476) hb); replace HO482 := xM (xW (yR HO482) hb); replace BK434 := xM (xB (yb BK434) hb); replace BK440 := xM (xB (yb BK440) hb); replace BK477 := xM (xB (yb BK477) hb); replace HB := xM (below_step (yh HB) hb); clear hb hbox hg; have hnb156 := NB484_434.out; have hnc156 := NB434_484.out; have hnb157 := NB484_440.out; have hnc157 := NB440_484.out; have hnb158 := NB484_477.out; have hnc158 := NB477_484.out; have hcz159_0 : w155.cell? ⟨gb484, 0, none⟩ = some (.int .i64 0) := (blk_cell BK484.out 0).trans rfl; have hcz159_1 : w155.cell? ⟨gb484, 1, none⟩ = some (.slice none 0 0) := (blk_cell BK484.out 1).trans rfl; have hfz159_0 := blk_frozen BK484.out 0; have hfz159_1 := blk_frozen BK484.out 1; obtain ⟨Ao160, co160, eo160⟩ := Kd.R_slice HO482.out; subst eo160; have hcz161_0 : w155.cell? ⟨gb477, 0, none⟩ = some (.int .i64 t473) := (blk_cell BK477.out 0).trans rfl; have hcz161_1 : w155.cell? ⟨gb477, 1, none⟩ = some (.slice Ao152 t474.length co152) := (blk_cell BK477.out 1).trans rfl; have hfz161_0 := blk_frozen BK477.out 0; have hfz161_1 := blk_frozen BK477.out 1) | ((with_reducible refine gate_callee (f := 32) rfl ?_); refine goesL_ (some 181) rfl rfl Try.func32 (by kernel_rfl) rfl #[.slice Ao153 t470.length co153, .agg #[.int .i64 t473, .slice Ao152 t474.length co152]] rfl (by (try simp only [List.map_toArray, List.map_cons, List.map_nil]); first | done | rfl | (simp only [List.length_drop, List.length_take]; rfl)) ?_; (with_reducible refine (spec_TakeSymbol.calls kj73 _ _ t470 t473 _ _ t474 t485 t486 t487 t490 _ ?side1 ?side2 ?side3 ?side4 A118.out).mono ?_); (case side1 => refine (Kd.R_reads' (e := 3) (base := w.heap.size) (ok := fun k_ => (((some k_ ≠ (.slice Ao152 t474.length co152 : Value).ownBlock ∧ some k_ ≠ (.slice Ao14 t430.length co14 : Value).ownBlock) ∧ some k_ ≠ (.slice Ao19 t436.length co19 : Value).ownBlock) ∧ some k_ ≠ (.slice Ao160 t480.length co160 : Value).ownBlock)) (n := t470.length) (c := co153) ?_).2.2; exact (by (with_reducible repeat (first | apply xRA | apply xRN | apply xRD)); exact (xO (xF (p := ⟨gb484, 1, none⟩) (xF (p := ⟨gb484, 0, none⟩) (Kd.R_types HO472.out BK484.out (by decide)) (fun _ hk => hk.2) (.int .i64 t479)) (fun _ hk => hk.2) (.slice Ao160 t480.length co160)) (fun _ h_ => h_.1)))); (case side2 => exact (Kd.R_reads' HO472.out).2.1); (case side3 => refine (Kd.R_reads' (e := 3) (base := w.heap.size) (ok := fun k_ => (((some k_ ≠ (.slice Ao153 t470.length co153 : Value).ownBlock ∧ some k_ ≠ (.slice Ao14 t430.length co14 : Value).ownBlock) ∧ some k_ ≠ (.slice Ao19 t436.length co19 : Value).ownBlock) ∧ some k_ ≠ (.slice Ao160 t480.length co160 : Value).ownBlock)) (n := t474.length) (c := co152) ?_).2.2; exact (by (with_reducible repeat (first | apply xRA | apply xRN | apply xRD)); exact (xO (xF (p := ⟨gb484, 1, none⟩) (xF (p := ⟨gb484, 0, none⟩) (Kd.R_types HO476.out BK484.out (by decide)) (fun _ hk => hk.2) (.int .i64 t479)) (fun _ hk => hk.2) (.slice Ao160 t480.length co160)) (fun _ h_ => h_.1)))); (case side4 => exact (Kd.R_reads' HO476.out).2.1); rintro e w162 ⟨v488, rfl, ho0, hb⟩; refine ⟨_, rfl, ?_⟩; have HO489 := xM (Kd.R_lower (Kd.R_new' (Kd.R_new' (Kd.R_new' (Kd.R_new' (Kd.R_new' ho0 (xL (by (with_reducible repeat (first | apply xRA | apply xRN | apply xRD)); exact (xO (xF (p := ⟨gb484, 1, none⟩) (xF (p := ⟨gb484, 0, none⟩) (Kd.R_types HO_435001.out BK484.out (by decide)) (fun _ hk => hk.2) (.int .i64 t479)) (fun _ hk => hk.2) (.slice Ao160 t480.length co160)) (fun _ h_ => h_.1))))) (xL (by (with_reducible repeat (first | apply xRA | apply xRN | apply xRD)); exact (xO (xF (p := ⟨gb484, 1, none⟩) (xF (p := ⟨gb484, 0, none⟩) (Kd.R_types HO_441001.out BK484.out (by decide)) (fun _ hk => hk.2) (.int .i64 t479)) (fun _ hk => hk.2) (.slice Ao160 t480.length co160)) (fun _ h_ => h_.1))))) (xL (by (with_reducible repeat (first | apply xRA | apply xRN | apply xRD)); exact (xO (xF (p := ⟨gb484, 1, none⟩) (xF (p := ⟨gb484, 0, none⟩) (Kd.R_types HO472.out BK484.out (by decide)) (fun _ hk => hk.2) (.int .i64 t479)) (fun _ hk => hk.2) (.slice Ao160 t480.length co160)) (fun _ h_ => h_.1))))) (xL (by (with_reducible repeat (first | apply xRA | apply xRN | apply xRD)); exact (xO (xF (p := ⟨gb484, 1, none⟩) (xF (p := ⟨gb484, 0, none⟩) (Kd.R_types HO476.out BK484.out (by decide)) (fun _ hk => hk.2) (.int .i64 t479)) (fun _ hk => hk.2) (.slice Ao160 t480.length co160)) (fun _ h_ => h_.1))))) (xL (by (with_reducible repeat (first | apply xRA | apply xRN | apply xRD)); exact (xO (xF (p := ⟨gb484, 1, none⟩) (xF (p := ⟨gb484, 0, none⟩) (Kd.R_types HO482.out BK484.out (by decide)) (fun _ hk => hk.2) (.int .i64 t479)) (fun _ hk => hk.2) (.slice Ao160 t480.length co160)) (fun _ h_ => h_.1))))) (below_size (yh HB))); replace HO_435001 := xM (Kd.R_elder' (by (with_reducible repeat (first | apply xRA | apply xRN | apply xRD)); exact (xO (xF (p := ⟨gb484, 1, none⟩) (xF (p := ⟨gb484, 0, none⟩) (Kd.R_types HO_435001.out BK484.out (by decide)) (fun _ hk => hk.2) (.int .i64 t479)) (fun _ hk => hk.2) (.slice Ao160 t480.length co160)) (fun _ h_ => h_.1))) (Kd.R_base ho0) hb); replace HO_441001 := xM (Kd.R_elder' (by (with_reducible repeat (first | apply xRA | apply xRN | apply xRD)); exact (xO (xF (p := ⟨gb484, 1, none⟩) (xF (p := ⟨gb484, 0, none⟩) (Kd.R_types HO_441001.out BK484.out (by decide)) (fun _ hk => hk.2) (.int .i64 t479)) (fun _ hk => hk.2) (.slice Ao160 t480.length co160)) (fun _ h_ => h_.1))) (Kd.R_base ho0) hb); replace HO472 := xM (Kd.R_elder' (by (with_reducible repeat (first | apply xRA | apply xRN | apply xRD)); exact (xO (xF (p := ⟨gb484, 1, none⟩) (xF (p := ⟨gb484, 0, none⟩) (Kd.R_types HO472.out BK484.out (by decide)) (fun _ hk => hk.2) (.int .i64 t479)) (fun _ hk => hk.2) (.slice Ao160 t480.length co160)) (fun _ h_ => h_.1))) (Kd.R_base ho0) hb); replace HO476 := xM (Kd.R_elder' (by (with_reducible repeat (first | apply xRA | apply xRN | apply xRD)); exact (xO (xF (p := ⟨gb484, 1, none⟩) (xF (p := ⟨gb484, 0, none⟩) (Kd.R_types HO476.out BK484.out (by decide)) (fun _ hk => hk.2) (.int .i64 t479)) (fun _ hk => hk.2) (.slice Ao160 t480.length co160)) (fun _ h_ => h_.1))) (Kd.R_base ho0) hb); replace HO482 := xM (Kd.R_elder' (by (with_reducible repeat (first | apply xRA | apply xRN | apply xRD)); exact (xO (xF (p := ⟨gb484, 1, none⟩) (xF (p := ⟨gb484, 0, none⟩) (Kd.R_types HO482.out BK484.out (by decide)) (fun _ hk => hk.2) (.int .i64 t479)) (fun _ hk => hk.2) (.slice Ao160 t480.length co160)) (fun _ h_ => h_.1))) (Kd.R_base ho0) hb); replace BK434 := xM (xB (g := gb434) (o := .cells #[.int .i64 t429, .slice Ao14 t430.length co14] 33 (0, 0)) (by (with_reducible repeat (first | apply xbN | apply xbD | apply xbA)); refine blk_far ?_ NB434_484.out _; (with_reducible repeat (first | apply xbN | apply xbD | apply xbA)); refine blk_far ?_ NB434_484.out _; (with_reducible repeat (first | apply xbN | apply xbD | apply xbA)); exact BK434.out) hb); replace BK440 := xM (xB (g := gb440) (o := .cells #[.int .i64 t435, .slice Ao19 t436.length co19] 33 (0, 0)) (by (with_reducible repeat (first | apply xbN | apply xbD | apply xbA)); refine blk_far ?_ NB440_484.out _; (with_reducible repeat (first | apply xbN | apply xbD | apply xbA)); refine blk_far ?_ NB440_484.out _; (with_reducible repeat (first | apply xbN | apply xbD | apply xbA)); exact BK440.out) hb); replace BK477 := xM (xB (g := gb477) (o := .cells #[.int .i64 t473, .slice Ao152 t474.length co152] 33 (0, 0)) (by (with_reducible repeat (first | apply xbN | apply xbD | apply xbA)); refine blk_far ?_ NB477_484.out _; (with_reducible repeat (first | apply xbN | apply xbD | apply xbA)); refine blk_far ?_ NB477_484.out _; (with_reducible repeat (first | apply xbN | apply xbD | apply xbA)); exact BK477.out) hb); replace BK484 := xM (xB (g := gb484) (o := .cells #[.int .i64 t479, .slice Ao160 t480.length co160] 33 (0, 0)) (by (with_reducible repeat (first | apply xbN | apply xbD | apply xbA)); refine blk_put (cs := #[.int .i64 t479, .slice none 0 0]) ?_ 1 _ rfl; (with_reducible repeat (first | apply xbN | apply xbD | apply xbA)); refine blk_put (cs := #[.int .i64 0, .slice none 0 0]) ?_ 0 _ rfl; (with_reducible repeat (first | apply xbN | apply xbD | apply xbA)); exact BK484.out) hb); replace HB := xM (below_step (yh HB) hb); (try clear hb); (try clear ho0)) | ((with_reducible refine gate_dst (N := 31) rfl ?_); (try (refine gate_guard (by rfl) ?_; dsimp only)); refine box_event ?hg (N := 31) ?hd (cs := #[.int .i64 0, .slice none 0 0]) (t := 33) ?hr ?_; (case hd => rfl); (case hg => rfl); (case hr => first | (go_simp; done) | (go_simp; rfl)); intro gb491 hg w163 hbox hb; have BK491 := xM (hbox); have GW491 := xM ((by rw [hg]; exact (below_size (yh HB)) : w.heap.size ≤ gb491)); have GE491 := xM ((by rw [hg]; exact (below_size (yh HB)) : w.heap.size ≤ gb491)); have NB434_491 := xM ((by rw [hg]; exact Nat.ne_of_lt (blk_lt (yb BK434)) : gb434 ≠ gb491)); have NB491_434 := xM ((by rw [hg]; exact Nat.ne_of_gt (blk_lt (yb BK434)) : gb491 ≠ gb434)); have NB440_491 := xM ((by rw [hg]; exact Nat.ne_of_lt (blk_lt (yb BK440)) : gb440 ≠ gb491)); have NB491_440 := xM ((by rw [hg]; exact Nat.ne_of_gt (blk_lt (yb BK440)) : gb491 ≠ gb440)); have NB477_491 := xM ((by rw [hg]; exact Nat.ne_of_lt (blk_lt (yb BK477)) : gb477 ≠ gb491)); have NB491_477 := xM ((by rw [hg]; exact Nat.ne_of_gt (blk_lt (yb BK477)) : gb491 ≠ gb477)); have NB484_491 := xM ((by rw [hg]; exact Nat.ne_of_lt (blk_lt (yb BK484)) : gb484 ≠ gb491)); have NB491_484 := xM ((by rw [hg]; exact Nat.ne_of_gt (blk_lt (yb BK484)) : gb491 ≠ gb484)); replace HO_435001 := xM (xW (yR HO_435001) hb); replace HO_441001 := xM (xW (yR HO_441001) hb); replace HO472 := xM (xW (yR HO472) hb); replace HO476 := xM (xW (yR HO476) hb); replace HO482 := xM (xW (yR HO482) hb); replace HO489 := xM (xW (yR HO489) hb); replace BK434 := xM (xB (yb BK434) hb); replace BK440 := xM (xB (yb BK440) hb); replace BK477 := xM (xB (yb BK477) hb); replace BK484 := xM (xB (yb BK484) hb); replace HB := xM (below_step (yh HB) hb); clear hb hbox hg; have hnb164 := NB491_434.out; have hnc164 := NB434_491.out; have hnb165 := NB491_440.out; have hnc165 := NB440_491.out; have hnb166 := NB491_477.out; have hnc166 := NB477_491.out; have hnb167 := NB491_484.out; have hnc167 := NB484_491.out; have hcz168_0 : w163.cell? ⟨gb491, 0, none⟩ = some (.int .i64 0) := (blk_cell BK491.out 0).trans rfl; have hcz168_1 : w163.cell? ⟨gb491, 1, none⟩ = some (.slice none 0 0) := (blk_cell BK491.out 1).trans rfl; have hfz168_0 := blk_frozen BK491.out 0; have hfz168_1 := blk_frozen BK491.out 1; obtain ⟨Ao169, co169, eo169⟩ := Kd.R_slice HO489.out; subst eo169; have hcz170_0 : w163.cell? ⟨gb484, 0, none⟩ = some (.int .i64 t479) := (blk_cell BK484.out 0).trans rfl; have hcz170_1 : w163.cell? ⟨gb484, 1, none⟩ = some (.slice Ao160 t480.length co160) := (blk_cell BK484.out 1).trans rfl; have hfz170_0 := blk_frozen BK484.out 0; have hfz170_1 := blk_frozen BK484.out 1))
                go_ret
                exact ⟨by first | rfl | (simp [errW_none, errW_some] <;> rfl) | (simp [*, errW_none, errW_some] <;> rfl), by repeat (first | (with_reducible first | exact HB.out | apply xa | apply xn | apply xd | refine xs ?_ GE434.out | refine xs ?_ GE440.out | refine xs ?_ GE477.out | refine xs ?_ GE484.out | refine xs ?_ GE491.out) | exact HB.out)⟩
              ·rw [if_neg c120] at H
               have c120b0 : (t478 == t485) = false := beq_eq_false_iff_ne.mpr c120
               have c120b1 : (t478 != t485) = true := bne_iff_ne.mpr c120
               obtain rfl := Option.some.inj H
               go_wp2_with (first | ((with_reducible refine gate_callee (f := 53) rfl ?_); refine goesL_ (some 168) rfl rfl Try.func53 (by kernel_rfl) rfl #[.slice A1 l1.length c1] rfl (by (try simp only [List.map_toArray, List.map_cons, List.map_nil]); first | done | rfl | (simp only [List.length_drop, List.length_take]; rfl)) ?_; (with_reducible refine (spec_DrawTakeSymbol.calls kj73 _ _ l1 t470 t473 t474 _ ?side1 ?side2 A116.out).mono ?_); (case side1 => repeat (first | exact (Kd.C_below HR1.out HB.out) | (with_reducible refine Kd.C_alloc ?_ _) | (with_reducible refine Kd.C_drewN ?_ _) | (with_reducible refine Kd.C_drew ?_))); (case side2 => exact HC1.out); rintro e w171 ⟨v471, v475, rfl, ho0, ho1, hb⟩; refine ⟨_, rfl, ?_⟩; have HO472 := xM (Kd.R_lower (Kd.R_new' (Kd.R_new' ho0 (xL (yR HO_435001))) (xL (yR HO_441001))) (below_size (yh HB))); have HO476 := xM (Kd.R_lower (Kd.R_new' (Kd.R_new' ho1 (xL (yR HO_435001))) (xL (yR HO_441001))) (below_size (yh HB))); replace HO_435001 := xM (xO (Kd.R_told (Kd.R_told (Kd.R_old (yR HO_435001) hb) (Kd.R_base ho0)) (Kd.R_base ho1)) (fun _ h_ => h_.1)); replace HO_441001 := xM (xO (Kd.R_told (Kd.R_told (Kd.R_old (yR HO_441001) hb) (Kd.R_base ho0)) (Kd.R_base ho1)) (fun _ h_ => h_.1)); replace BK434 := xM (xB (yb BK434) hb); replace BK440 := xM (xB (yb BK440) hb); replace HB := xM (below_step (yh HB) hb); (try clear hb); (try clear ho0); (try clear ho1)) | ((with_reducible refine gate_dst (N := 26) rfl ?_); (try (refine gate_guard (by rfl) ?_; dsimp only)); refine box_event ?hg (N := 26) ?hd (cs := #[.int .i64 0, .slice none 0 0]) (t := 33) ?hr ?_; (case hd => rfl); (case hg => rfl); (case hr => first | (go_simp; done) | (go_simp; rfl)); intro gb477 hg w172 hbox hb; have BK477 := xM (hbox); have GW477 := xM ((by rw [hg]; exact (below_size (yh HB)) : w.heap.size ≤ gb477)); have GE477 := xM ((by rw [hg]; exact (below_size (yh HB)) : w.heap.size ≤ gb477)); have NB434_477 := xM ((by rw [hg]; exact Nat.ne_of_lt (blk_lt (yb BK434)) : gb434 ≠ gb477)); have NB477_434 := xM ((by rw [hg]; exact Nat.ne_of_gt (blk_lt (yb BK434)) : gb477 ≠ gb434)); have NB440_477 := xM ((by rw [hg]; exact Nat.ne_of_lt (blk_lt (yb BK440)) : gb440 ≠ gb477)); have NB477_440 := xM ((by rw [hg]; exact Nat.ne_of_gt (blk_lt (yb BK440)) : gb477 ≠ gb440)); replace HO_435001 := xM (xW (yR HO_435001) hb); replace HO_441001 := xM (xW (yR HO_441001) hb); replace HO472 := xM (xW (yR HO472) hb); replace HO476 := xM (xW (yR HO476) hb); replace BK434 := xM (xB (yb BK434) hb); replace BK440 := xM (xB (yb BK440) hb); replace HB := xM (below_step (yh HB) hb); clear hb hbox hg; have hnb173 := NB477_434.out; have hnc173 := NB434_477.out; have hnb174 := NB477_440.out; have hnc174 := NB440_477.out; have hcz175_0 : w172.cell? ⟨gb477, 0, none⟩ = some (.int .i64 0) := (blk_cell BK477.out 0).trans rfl; have hcz175_1 : w172.cell? ⟨gb477, 1, none⟩ = some (.slice none 0 0) := (blk_cell BK477.out 1).trans rfl; have hfz175_0 := blk_frozen BK477.out 0; have hfz175_1 := blk_frozen BK477.out 1; obtain ⟨Ao176, co176, eo176⟩ := Kd.R_slice HO476.out; subst eo176; obtain ⟨Ao177, co177, eo177⟩ := Kd.R_slice HO472.out; subst eo177) | ((with_reducible refine gate_callee (f := 34) rfl ?_); refine goesL_ (some 174) rfl rfl Try.func34 (by kernel_rfl) rfl #[.slice Ao177 t470.length co177, .agg #[.int .i64 t473, .slice Ao176 t474.length co176]] rfl (by (try simp only [List.map_toArray, List.map_cons, List.map_nil]); first | done | rfl | (simp only [List.length_drop, List.length_take]; rfl)) ?_; (with_reducible refine (impl_TakeSymbol.calls kj73 _ _ t470 t473 _ _ t474 t478 t479 t480 t483 _ ?side1 ?side2 ?side3 ?side4 A117.out).mono ?_); (case side1 => refine (Kd.R_reads' (e := 3) (base := w.heap.size) (ok := fun k_ => ((some k_ ≠ (.slice Ao176 t474.length co176 : Value).ownBlock ∧ some k_ ≠ (.slice Ao14 t430.length co14 : Value).ownBlock) ∧ some k_ ≠ (.slice Ao19 t436.length co19 : Value).ownBlock)) (n := t470.length) (c := co177) ?_).2.2; exact (by (with_reducible repeat (first | apply xRA | apply xRN | apply xRD)); exact (xO (xF (p := ⟨gb477, 1, none⟩) (xF (p := ⟨gb477, 0, none⟩) (Kd.R_types HO472.out BK477.out (by decide)) (fun _ hk => hk.2) (.int .i64 t473)) (fun _ hk => hk.2) (.slice Ao176 t474.length co176)) (fun _ h_ => h_.1)))); (case side2 => exact (Kd.R_reads' HO472.out).2.1); (case side3 => refine (Kd.R_reads' (e := 3) (base := w.heap.size) (ok := fun k_ => ((some k_ ≠ (.slice Ao177 t470.length co177 : Value).ownBlock ∧ some k_ ≠ (.slice Ao14 t430.length co14 : Value).ownBlock) ∧ some k_ ≠ (.slice Ao19 t436.length co19 : Value).ownBlock)) (n := t474.length) (c := co176) ?_).2.2; exact (by (with_reducible repeat (first | apply xRA | apply xRN | apply xRD)); exact (xO (xF (p := ⟨gb477, 1, none⟩) (xF (p := ⟨gb477, 0, none⟩) (Kd.R_types HO476.out BK477.out (by decide)) (fun _ hk => hk.2) (.int .i64 t473)) (fun _ hk => hk.2) (.slice Ao176 t474.length co176)) (fun _ h_ => h_.1)))); (case side4 => exact (Kd.R_reads' HO476.out).2.1); rintro e w178 ⟨v481, rfl, ho0, hb⟩; refine ⟨_, rfl, ?_⟩; have HO482 := xM (Kd.R_lower (Kd.R_new' (Kd.R_new' (Kd.R_new' (Kd.R_new' ho0 (xL (by (with_reducible repeat (first | apply xRA | apply xRN | apply xRD)); exact (xO (xF (p := ⟨gb477, 1, none⟩) (xF (p := ⟨gb477, 0, none⟩) (Kd.R_types HO_435001.out BK477.out (by decide)) (fun _ hk => hk.2) (.int .i64 t473)) (fun _ hk => hk.2) (.slice Ao176 t474.length co176)) (fun _ h_ => h_.1))))) (xL (by (with_reducible repeat (first | apply xRA | apply xRN | apply xRD)); exact (xO (xF (p := ⟨gb477, 1, none⟩) (xF (p := ⟨gb477, 0, none⟩) (Kd.R_types HO_441001.out BK477.out (by decide)) (fun _ hk => hk.2) (.int .i64 t473)) (fun _ hk => hk.2) (.slice Ao176 t474.length co176)) (fun _ h_ => h_.1))))) (xL (by (with_reducible repeat (first | apply xRA | apply xRN | apply xRD)); exact (xO (xF (p := ⟨gb477, 1, none⟩) (xF (p := ⟨gb477, 0, none⟩) (Kd.R_types HO472.out BK477.out (by decide)) (fun _ hk => hk.2) (.int .i64 t473)) (fun _ hk => hk.2) (.slice Ao176 t474.length co176)) (fun _ h_ => h_.1))))) (xL (by (with_reducible repeat (first | apply xRA | apply xRN | apply xRD)); exact (xO (xF (p := ⟨gb477, 1, none⟩) (xF (p := ⟨gb477, 0, none⟩) (Kd.R_types HO476.out BK477.out (by decide)) (fun _ hk => hk.2) (.int .i64 t473)) (fun _ hk => hk.2) (.slice Ao176 t474.length co176)) (fun _ h_ => h_.1))))) (below_size (yh HB))); replace HO_435001 := xM (Kd.R_elder' (by (with_reducible repeat (first | apply xRA | apply xRN | apply xRD)); exact (xO (xF (p := ⟨gb477, 1, none⟩) (xF (p := ⟨gb477, 0, none⟩) (Kd.R_types HO_435001.out BK477.out (by decide)) (fun _ hk => hk.2) (.int .i64 t473)) (fun _ hk => hk.2) (.slice Ao176 t474.length co176)) (fun _ h_ => h_.1))) (Kd.R_base ho0) hb); replace HO_441001 := xM (Kd.R_elder' (by (with_reducible repeat (first | apply xRA | apply xRN | apply xRD)); exact (xO (xF (p := ⟨gb477, 1, none⟩) (xF (p := ⟨gb477, 0, none⟩) (Kd.R_types HO_441001.out BK477.out (by decide)) (fun _ hk => hk.2) (.int .i64 t473)) (fun _ hk => hk.2) (.slice Ao176 t474.length co176)) (fun _ h_ => h_.1))) (Kd.R_base ho0) hb); replace HO472 := xM (Kd.R_elder' (by (with_reducible repeat (first | apply xRA | apply xRN | apply xRD)); exact (xO (xF (p := ⟨gb477, 1, none⟩) (xF (p := ⟨gb477, 0, none⟩) (Kd.R_types HO472.out BK477.out (by decide)) (fun _ hk => hk.2) (.int .i64 t473)) (fun _ hk => hk.2) (.slice Ao176 t474.length co176)) (fun _ h_ => h_.1))) (Kd.R_base ho0) hb); replace HO476 := xM (Kd.R_elder' (by (with_reducible repeat (first | apply xRA | apply xRN | apply xRD)); exact (xO (xF (p := ⟨gb477, 1, none⟩) (xF (p := ⟨gb477, 0, none⟩) (Kd.R_types HO476.out BK477.out (by decide)) (fun _ hk => hk.2) (.int .i64 t473)) (fun _ hk => hk.2) (.slice Ao176 t474.length co176)) (fun _ h_ => h_.1))) (Kd.R_base ho0) hb); replace BK434 := xM (xB (g := gb434) (o := .cells #[.int .i64 t429, .slice Ao14 t430.length co14] 33 (0, 0)) (by (with_reducible repeat (first | apply xbN | apply xbD | apply xbA)); refine blk_far ?_ NB434_477.out _; (with_reducible repeat (first | apply xbN | apply xbD | apply xbA)); refine blk_far ?_ NB434_477.out _; (with_reducible repeat (first | apply xbN | apply xbD | apply xbA)); exact BK434.out) hb); replace BK440 := xM (xB (g := gb440) (o := .cells #[.int .i64 t435, .slice Ao19 t436.length co19] 33 (0, 0)) (by (with_reducible repeat (first | apply xbN | apply xbD | apply xbA)); refine blk_far ?_ NB440_477.out _; (with_reducible repeat (first | apply xbN | apply xbD | apply xbA)); refine blk_far ?_ NB440_477.out _; (with_reducible repeat (first | apply xbN | apply xbD | apply xbA)); exact BK440.out) hb); replace BK477 := xM (xB (g := gb477) (o := .cells #[.int .i64 t473, .slice Ao176 t474.length co176] 33 (0, 0)) (by (with_reducible repeat (first | apply xbN | apply xbD | apply xbA)); refine blk_put (cs := #[.int .i64 t473, .slice none 0 0]) ?_ 1 _ rfl; (with_reducible repeat (first | apply xbN | apply xbD | apply xbA)); refine blk_put (cs := #[.int .i64 0, .slice none 0 0]) ?_ 0 _ rfl; (with_reducible repeat (first | apply xbN | apply xbD | apply xbA)); exact BK477.out) hb); replace HB := xM (below_step (yh HB) hb); (try clear hb); (try clear ho0)) | ((with_reducible refine gate_dst (N := 28) rfl ?_); (try (refine gate_guard (by rfl) ?_; dsimp only)); refine box_event ?hg (N := 28) ?hd (cs := #[.int .i64 0, .slice none 0 0]) (t := 33) ?hr ?_; (case hd => rfl); (case hg => rfl); (case hr => first | (go_simp; done) | (go_simp; rfl)); intro gb484 hg w179 hbox hb; have BK484 := xM (hbox); have GW484 := xM ((by rw [hg]; exact (below_size (yh HB)) : w.heap.size ≤ gb484)); have GE484 := xM ((by rw [hg]; exact (below_size (yh HB)) : w.heap.size ≤ gb484)); have NB434_484 := xM ((by rw [hg]; exact Nat.ne_of_lt (blk_lt (yb BK434)) : gb434 ≠ gb484)); have NB484_434 := xM ((by rw [hg]; exact Nat.ne_of_gt (blk_lt (yb BK434)) : gb484 ≠ gb434)); have NB440_484 := xM ((by rw [hg]; exact Nat.ne_of_lt (blk_lt (yb BK440)) : gb440 ≠ gb484)); have NB484_440 := xM ((by rw [hg]; exact Nat.ne_of_gt (blk_lt (yb BK440)) : gb484 ≠ gb440)); have NB477_484 := xM ((by rw [hg]; exact Nat.ne_of_lt (blk_lt (yb BK477)) : gb477 ≠ gb484)); have NB484_477 := xM ((by rw [hg]; exact Nat.ne_of_gt (blk_lt (yb BK477)) : gb484 ≠ gb477)); replace HO_435001 := xM (xW (yR HO_435001) hb); replace HO_441001 := xM (xW (yR HO_441001) hb); replace HO472 := xM (xW (yR HO472) hb); replace HO476 := xM (xW (yR HO476) hb); replace HO482 := xM (xW (yR HO482) hb); replace BK434 := xM (xB (yb BK434) hb); replace BK440 := xM (xB (yb BK440) hb); replace BK477 := xM (xB (yb BK477) hb); replace HB := xM (below_step (yh HB) hb); clear hb hbox hg; have hnb180 := NB484_434.out; have hnc180 := NB434_484.out; have hnb181 := NB484_440.out; have hnc181 := NB440_484.out; have hnb182 := NB484_477.out; have hnc182 := NB477_484.out; have hcz183_0 : w179.cell? ⟨gb484, 0, none⟩ = some (.int .i64 0) := (blk_cell BK484.out 0).trans rfl; have hcz183_1 : w179.cell? ⟨gb484, 1, none⟩ = some (.slice none 0 0) := (blk_cell BK484.out 1).trans rfl; have hfz183_0 := blk_frozen BK484.out 0; have hfz183_1 := blk_frozen BK484.out 1; obtain ⟨Ao184, co184, eo184⟩ := Kd.R_slice HO482.out; subst eo184; have hcz185_0 : w179.cell? ⟨gb477, 0, none⟩ = some (.int .i64 t473) := (blk_cell BK477.out 0).trans rfl; have hcz185_1 : w179.cell? ⟨gb477, 1, none⟩ = some (.slice Ao176 t474.length co176) := (blk_cell BK477.out 1).trans rfl; have hfz185_0 := blk_frozen BK477.out 0; have hfz185_1 := blk_frozen BK477.out 1) | ((with_reducible refine gate_callee (f := 32) rfl ?_); refine goesL_ (some 181) rfl rfl Try.func32 (by kernel_rfl) rfl #[.slice Ao177 t470.length co177, .agg #[.int .i64 t473, .slice Ao176 t474.length co176]] rfl (by (try simp only [List.map_toArray, List.map_cons, List.map_nil]); first | done | rfl | (simp only [List.length_drop, List.length_take]; rfl)) ?_; (with_reducible refine (spec_TakeSymbol.calls kj73 _ _ t470 t473 _ _ t474 t485 t486 t487 t490 _ ?side1 ?side2 ?side3 ?side4 A118.out).mono ?_); (case side1 => refine (Kd.R_reads' (e := 3) (base := w.heap.size) (ok := fun k_ => (((some k_ ≠ (.slice Ao176 t474.length co176 : Value).ownBlock ∧ some k_ ≠ (.slice Ao14 t430.length co14 : Value).ownBlock) ∧ some k_ ≠ (.slice Ao19 t436.length co19 : Value).ownBlock) ∧ some k_ ≠ (.slice Ao184 t480.length co184 : Value).ownBlock)) (n := t470.length) (c := co177) ?_).2.2; exact (by (with_reducible repeat (first | apply xRA | apply xRN | apply xRD)); exact (xO (xF (p := ⟨gb484, 1, none⟩) (xF (p := ⟨gb484, 0, none⟩) (Kd.R_types HO472.out BK484.out (by decide)) (fun _ hk => hk.2) (.int .i64 t479)) (fun _ hk => hk.2) (.slice Ao184 t480.length co184)) (fun _ h_ => h_.1)))); (case side2 => exact (Kd.R_reads' HO472.out).2.1); (case side3 => refine (Kd.R_reads' (e := 3) (base := w.heap.size) (ok := fun k_ => (((some k_ ≠ (.slice Ao177 t470.length co177 : Value).ownBlock ∧ some k_ ≠ (.slice Ao14 t430.length co14 : Value).ownBlock) ∧ some k_ ≠ (.slice Ao19 t436.length co19 : Value).ownBlock) ∧ some k_ ≠ (.slice Ao184 t480.length co184 : Value).ownBlock)) (n := t474.length) (c := co176) ?_).2.2; exact (by (with_reducible repeat (first | apply xRA | apply xRN | apply xRD)); exact (xO (xF (p := ⟨gb484, 1, none⟩) (xF (p := ⟨gb484, 0, none⟩) (Kd.R_types HO476.out BK484.out (by decide)) (fun _ hk => hk.2) (.int .i64 t479)) (fun _ hk => hk.2) (.slice Ao184 t480.length co184)) (fun _ h_ => h_.1)))); (case side4 => exact (Kd.R_reads' HO476.out).2.1); rintro e w186 ⟨v488, rfl, ho0, hb⟩; refine ⟨_, rfl, ?_⟩; have HO489 := xM (Kd.R_lower (Kd.R_new' (Kd.R_new' (Kd.R_new' (Kd.R_new' (Kd.R_new' ho0 (xL (by (with_reducible repeat (first | apply xRA | apply xRN | apply xRD)); exact (xO (xF (p := ⟨gb484, 1, none⟩) (xF (p := ⟨gb484, 0, none⟩) (Kd.R_types HO_435001.out BK484.out (by decide)) (fun _ hk => hk.2) (.int .i64 t479)) (fun _ hk => hk.2) (.slice Ao184 t480.length co184)) (fun _ h_ => h_.1))))) (xL (by (with_reducible repeat (first | apply xRA | apply xRN | apply xRD)); exact (xO (xF (p := ⟨gb484, 1, none⟩) (xF (p := ⟨gb484, 0, none⟩) (Kd.R_types HO_441001.out BK484.out (by decide)) (fun _ hk => hk.2) (.int .i64 t479)) (fun _ hk => hk.2) (.slice Ao184 t480.length co184)) (fun _ h_ => h_.1))))) (xL (by (with_reducible repeat (first | apply xRA | apply xRN | apply xRD)); exact (xO (xF (p := ⟨gb484, 1, none⟩) (xF (p := ⟨gb484, 0, none⟩) (Kd.R_types HO472.out BK484.out (by decide)) (fun _ hk => hk.2) (.int .i64 t479)) (fun _ hk => hk.2) (.slice Ao184 t480.length co184)) (fun _ h_ => h_.1))))) (xL (by (with_reducible repeat (first | apply xRA | apply xRN | apply xRD)); exact (xO (xF (p := ⟨gb484, 1, none⟩) (xF (p := ⟨gb484, 0, none⟩) (Kd.R_types HO476.out BK484.out (by decide)) (fun _ hk => hk.2) (.int .i64 t479)) (fun _ hk => hk.2) (.slice Ao184 t480.length co184)) (fun _ h_ => h_.1))))) (xL (by (with_reducible repeat (first | apply xRA | apply xRN | apply xRD)); exact (xO (xF (p := ⟨gb484, 1, none⟩) (xF (p := ⟨gb484, 0, none⟩) (Kd.R_types HO482.out BK484.out (by decide)) (fun _ hk => hk.2) (.int .i64 t479)) (fun _ hk => hk.2) (.slice Ao184 t480.length co184)) (fun _ h_ => h_.1))))) (below_size (yh HB))); replace HO_435001 := xM (Kd.R_elder' (by (with_reducible repeat (first | apply xRA | apply xRN | apply xRD)); exact (xO (xF (p := ⟨gb484, 1, none⟩) (xF (p := ⟨gb484, 0, none⟩) (Kd.R_types HO_435001.out BK484.out (by decide)) (fun _ hk => hk.2) (.int .i64 t479)) (fun _ hk => hk.2) (.slice Ao184 t480.length co184)) (fun _ h_ => h_.1))) (Kd.R_base ho0) hb); replace HO_441001 := xM (Kd.R_elder' (by (with_reducible repeat (first | apply xRA | apply xRN | apply xRD)); exact (xO (xF (p := ⟨gb484, 1, none⟩) (xF (p := ⟨gb484, 0, none⟩) (Kd.R_types HO_441001.out BK484.out (by decide)) (fun _ hk => hk.2) (.int .i64 t479)) (fun _ hk => hk.2) (.slice Ao184 t480.length co184)) (fun _ h_ => h_.1))) (Kd.R_base ho0) hb); replace HO472 := xM (Kd.R_elder' (by (with_reducible repeat (first | apply xRA | apply xRN | apply xRD)); exact (xO (xF (p := ⟨gb484, 1, none⟩) (xF (p := ⟨gb484, 0, none⟩) (Kd.R_types HO472.out BK484.out (by decide)) (fun _ hk => hk.2) (.int .i64 t479)) (fun _ hk => hk.2) (.slice Ao184 t480.length co184)) (fun _ h_ => h_.1))) (Kd.R_base ho0) hb); replace HO476 := xM (Kd.R_elder' (by (with_reducible repeat (first | apply xRA | apply xRN | apply xRD)); exact (xO (xF (p := ⟨gb484, 1, none⟩) (xF (p := ⟨gb484, 0, none⟩) (Kd.R_types HO476.out BK484.out (by decide)) (fun _ hk => hk.2) (.int .i64 t479)) (fun _ hk => hk.2) (.slice Ao184 t480.length co184)) (fun _ h_ => h_.1))) (Kd.R_base ho0) hb); replace HO482 := xM (Kd.R_elder' (by (with_reducible repeat (first | apply xRA | apply xRN | apply xRD)); exact (xO (xF (p := ⟨gb484, 1, none⟩) (xF (p := ⟨gb484, 0, none⟩) (Kd.R_types HO482.out BK484.out (by decide)) (fun _ hk => hk.2) (.int .i64 t479)) (fun _ hk => hk.2) (.slice Ao184 t480.length co184)) (fun _ h_ => h_.1))) (Kd.R_base ho0) hb); replace BK434 := xM (xB (g := gb434) (o := .cells #[.int .i64 t429, .slice Ao14 t430.length co14] 33 (0, 0)) (by (with_reducible repeat (first | apply xbN | apply xbD | apply xbA)); refine blk_far ?_ NB434_484.out _; (with_reducible repeat (first | apply xbN | apply xbD | apply xbA)); refine blk_far ?_ NB434_484.out _; (with_reducible repeat (first | apply xbN | apply xbD | apply xbA)); exact BK434.out) hb); replace BK440 := xM (xB (g := gb440) (o := .cells #[.int .i64 t435, .slice Ao19 t436.length co19] 33 (0, 0)) (by (with_reducible repeat (first | apply xbN | apply xbD | apply xbA)); refine blk_far ?_ NB440_484.out _; (with_reducible repeat (first | apply xbN | apply xbD | apply xbA)); refine blk_far ?_ NB440_484.out _; (with_reducible repeat (first | apply xbN | apply xbD | apply xbA)); exact BK440.out) hb); replace BK477 := xM (xB (g := gb477) (o := .cells #[.int .i64 t473, .slice Ao176 t474.length co176] 33 (0, 0)) (by (with_reducible repeat (first | apply xbN | apply xbD | apply xbA)); refine blk_far ?_ NB477_484.out _; (with_reducible repeat (first | apply xbN | apply xbD | apply xbA)); refine blk_far ?_ NB477_484.out _; (with_reducible repeat (first | apply xbN | apply xbD | apply xbA)); exact BK477.out) hb); replace BK484 := xM (xB (g := gb484) (o := .cells #[.int .i64 t479, .slice Ao184 t480.length co184] 33 (0, 0)) (by (with_reducible repeat (first | apply xbN | apply xbD | apply xbA)); refine blk_put (cs := #[.int .i64 t479, .slice none 0 0]) ?_ 1 _ rfl; (with_reducible repeat (first | apply xbN | apply xbD | apply xbA)); refine blk_put (cs := #[.int .i64 0, .slice none 0 0]) ?_ 0 _ rfl; (with_reducible repeat (first | apply xbN | apply xbD | apply xbA)); exact BK484.out) hb); replace HB := xM (below_step (yh HB) hb); (try clear hb); (try clear ho0)) | ((with_reducible refine gate_dst (N := 31) rfl ?_); (try (refine gate_guard (by rfl) ?_; dsimp only)); refine box_event ?hg (N := 31) ?hd (cs := #[.int .i64 0, .slice none 0 0]) (t := 33) ?hr ?_; (case hd => rfl); (case hg => rfl); (case hr => first | (go_simp; done) | (go_simp; rfl)); intro gb491 hg w187 hbox hb; have BK491 := xM (hbox); have GW491 := xM ((by rw [hg]; exact (below_size (yh HB)) : w.heap.size ≤ gb491)); have GE491 := xM ((by rw [hg]; exact (below_size (yh HB)) : w.heap.size ≤ gb491)); have NB434_491 := xM ((by rw [hg]; exact Nat.ne_of_lt (blk_lt (yb BK434)) : gb434 ≠ gb491)); have NB491_434 := xM ((by rw [hg]; exact Nat.ne_of_gt (blk_lt (yb BK434)) : gb491 ≠ gb434)); have NB440_491 := xM ((by rw [hg]; exact Nat.ne_of_lt (blk_lt (yb BK440)) : gb440 ≠ gb491)); have NB491_440 := xM ((by rw [hg]; exact Nat.ne_of_gt (blk_lt (yb BK440)) : gb491 ≠ gb440)); have NB477_491 := xM ((by rw [hg]; exact Nat.ne_of_lt (blk_lt (yb BK477)) : gb477 ≠ gb491)); have NB491_477 := xM ((by rw [hg]; exact Nat.ne_of_gt (blk_lt (yb BK477)) : gb491 ≠ gb477)); have NB484_491 := xM ((by rw [hg]; exact Nat.ne_of_lt (blk_lt (yb BK484)) : gb484 ≠ gb491)); have NB491_484 := xM ((by rw [hg]; exact Nat.ne_of_gt (blk_lt (yb BK484)) : gb491 ≠ gb484)); replace HO_435001 := xM (xW (yR HO_435001) hb); replace HO_441001 := xM (xW (yR HO_441001) hb); replace HO472 := xM (xW (yR HO472) hb); replace HO476 := xM (xW (yR HO476) hb); replace HO482 := xM (xW (yR HO482) hb); replace HO489 := xM (xW (yR HO489) hb); replace BK434 := xM (xB (yb BK434) hb); replace BK440 := xM (xB (yb BK440) hb); replace BK477 := xM (xB (yb BK477) hb); replace BK484 := xM (xB (yb BK484) hb); replace HB := xM (below_step (yh HB) hb); clear hb hbox hg; have hnb188 := NB491_434.out; have hnc188 := NB434_491.out; have hnb189 := NB491_440.out; have hnc189 := NB440_491.out; have hnb190 := NB491_477.out; have hnc190 := NB477_491.out; have hnb191 := NB491_484.out; have hnc191 := NB484_491.out; have hcz192_0 : w187.cell? ⟨gb491, 0, none⟩ = some (.int .i64 0) := (blk_cell BK491.out 0).trans rfl; have hcz192_1 : w187.cell? ⟨gb491, 1, none⟩ = some (.slice none 0 0) := (blk_cell BK491.out 1).trans rfl; have hfz192_0 := blk_frozen BK491.out 0; have hfz192_1 := blk_frozen BK491.out 1; obtain ⟨Ao193, co193, eo193⟩ := Kd.R_slice HO489.out; subst eo193))
               go_ret
               exact ⟨by first | rfl | (simp [errW_none, errW_some] <;> rfl) | (simp [*, errW_none, errW_some] <;> rfl), by repeat (first | (with_reducible first | exact HB.out | apply xa | apply xn | apply xd | refine xs ?_ GE434.out | refine xs ?_ GE440.out | refine xs ?_ GE477.out | refine xs ?_ GE484.out | refine xs ?_ GE491.out) | exact HB.out)⟩
             ·rw [if_neg c119] at H
              have c119b0 : (t483 == t490) = false := by simpa using c119
              (try (have c119b1 : decide (t483 = t490) = false := by simpa using c119))
              (try (have c119b2 : (t483 == t490) = false := by simpa using c119))
              (try (have c119b3 : ¬ (t483 = t490) := by simpa using c119))
              clear c119
              obtain rfl := Option.some.inj H
              go_wp2_with (first | ((with_reducible refine gate_callee (f := 53) rfl ?_); refine goesL_ (some 168) rfl rfl Try.func53 (by kernel_rfl) rfl #[.slice A1 l1.length c1] rfl (by (try simp only [List.map_toArray, List.map_cons, List.map_nil]); first | done | rfl | (simp only [List.length_drop, List.length_take]; rfl)) ?_; (with_reducible refine (spec_DrawTakeSymbol.calls kj73 _ _ l1 t470 t473 t474 _ ?side1 ?side2 A116.out).mono ?_); (case side1 => repeat (first | exact (Kd.C_below HR1.out HB.out) | (with_reducible refine Kd.C_alloc ?_ _) | (with_reducible refine Kd.C_drewN ?_ _) | (with_reducible refine Kd.C_drew ?_))); (case side2 => exact HC1.out); rintro e w194 ⟨v471, v475, rfl, ho0, ho1, hb⟩; refine ⟨_, rfl, ?_⟩; have HO472 := xM (Kd.R_lower (Kd.R_new' (Kd.R_new' ho0 (xL (yR HO_435001))) (xL (yR HO_441001))) (below_size (yh HB))); have HO476 := xM (Kd.R_lower (Kd.R_new' (Kd.R_new' ho1 (xL (yR HO_435001))) (xL (yR HO_441001))) (below_size (yh HB))); replace HO_435001 := xM (xO (Kd.R_told (Kd.R_told (Kd.R_old (yR HO_435001) hb) (Kd.R_base ho0)) (Kd.R_base ho1)) (fun _ h_ => h_.1)); replace HO_441001 := xM (xO (Kd.R_told (Kd.R_told (Kd.R_old (yR HO_441001) hb) (Kd.R_base ho0)) (Kd.R_base ho1)) (fun _ h_ => h_.1)); replace BK434 := xM (xB (yb BK434) hb); replace BK440 := xM (xB (yb BK440) hb); replace HB := xM (below_step (yh HB) hb); (try clear hb); (try clear ho0); (try clear ho1)) | ((with_reducible refine gate_dst (N := 26) rfl ?_); (try (refine gate_guard (by rfl) ?_; dsimp only)); refine box_event ?hg (N := 26) ?hd (cs := #[.int .i64 0, .slice none 0 0]) (t := 33) ?hr ?_; (case hd => rfl); (case hg => rfl); (case hr => first | (go_simp; done) | (go_simp; rfl)); intro gb477 hg w195 hbox hb; have BK477 := xM (hbox); have GW477 := xM ((by rw [hg]; exact (below_size (yh HB)) : w.heap.size ≤ gb477)); have GE477 := xM ((by rw [hg]; exact (below_size (yh HB)) : w.heap.size ≤ gb477)); have NB434_477 := xM ((by rw [hg]; exact Nat.ne_of_lt (blk_lt (yb BK434)) : gb434 ≠ gb477)); have NB477_434 := xM ((by rw [hg]; exact Nat.ne_of_gt (blk_lt (yb BK434)) : gb477 ≠ gb434)); have NB440_477 := xM ((by rw [hg]; exact Nat.ne_of_lt (blk_lt (yb BK440)) : gb440 ≠ gb477)); have NB477_440 := xM ((by rw [hg]; exact Nat.ne_of_gt (blk_lt (yb BK440)) : gb477 ≠ gb440)); replace HO_435001 := xM (xW (yR HO_435001) hb); replace HO_441001 := xM (xW (yR HO_441001) hb); replace HO472 := xM (xW (yR HO472) hb); replace HO476 := xM (xW (yR HO476) hb); replace BK434 := xM (xB (yb BK434) hb); replace BK440 := xM (xB (yb BK440) hb); replace HB := xM (below_step (yh HB) hb); clear hb hbox hg; have hnb196 := NB477_434.out; have hnc196 := NB434_477.out; have hnb197 := NB477_440.out; have hnc197 := NB440_477.out; have hcz198_0 : w195.cell? ⟨gb477, 0, none⟩ = some (.int .i64 0) := (blk_cell BK477.out 0).trans rfl; have hcz198_1 : w195.cell? ⟨gb477, 1, none⟩ = some (.slice none 0 0) := (blk_cell BK477.out 1).trans rfl; have hfz198_0 := blk_frozen BK477.out 0; have hfz198_1 := blk_frozen BK477.out 1; obtain ⟨Ao199, co199, eo199⟩ := Kd.R_slice HO476.out; subst eo199; obtain ⟨Ao200, co200, eo200⟩ := Kd.R_slice HO472.out; subst eo200) | ((with_reducible refine gate_callee (f := 34) rfl ?_); refine goesL_ (some 174) rfl rfl Try.func34 (by kernel_rfl) rfl #[.slice Ao200 t470.length co200, .agg #[.int .i64 t473, .slice Ao199 t474.length co199]] rfl (by (try simp only [List.map_toArray, List.map_cons, List.map_nil]); first | done | rfl | (simp only [List.length_drop, List.length_take]; rfl)) ?_; (with_reducible refine (impl_TakeSymbol.calls kj73 _ _ t470 t473 _ _ t474 t478 t479 t480 t483 _ ?side1 ?side2 ?side3 ?side4 A117.out).mono ?_); (case side1 => refine (Kd.R_reads' (e := 3) (base := w.heap.size) (ok := fun k_ => ((some k_ ≠ (.slice Ao199 t474.length co199 : Value).ownBlock ∧ some k_ ≠ (.slice Ao14 t430.length co14 : Value).ownBlock) ∧ some k_ ≠ (.slice Ao19 t436.length co19 : Value).ownBlock)) (n := t470.length) (c := co200) ?_).2.2; exact (by (with_reducible repeat (first | apply xRA | apply xRN | apply xRD)); exact (xO (xF (p := ⟨gb477, 1, none⟩) (xF (p := ⟨gb477, 0, none⟩) (Kd.R_types HO472.out BK477.out (by decide)) (fun _ hk => hk.2) (.int .i64 t473)) (fun _ hk => hk.2) (.slice Ao199 t474.length co199)) (fun _ h_ => h_.1)))); (case side2 => exact (Kd.R_reads' HO472.out).2.1); (case side3 => refine (Kd.R_reads' (e := 3) (base := w.heap.size) (ok := fun k_ => ((some k_ ≠ (.slice Ao200 t470.length co200 : Value).ownBlock ∧ some k_ ≠ (.slice Ao14 t430.length co14 : Value).ownBlock) ∧ some k_ ≠ (.slice Ao19 t436.length co19 : Value).ownBlock)) (n := t474.length) (c := co199) ?_).2.2; exact (by (with_reducible repeat (first | apply xRA | apply xRN | apply xRD)); exact (xO (xF (p := ⟨gb477, 1, none⟩) (xF (p := ⟨gb477, 0, none⟩) (Kd.R_types HO476.out BK477.out (by decide)) (fun _ hk => hk.2) (.int .i64 t473)) (fun _ hk => hk.2) (.slice Ao199 t474.length co199)) (fun _ h_ => h_.1)))); (case side4 => exact (Kd.R_reads' HO476.out).2.1); rintro e w201 ⟨v481, rfl, ho0, hb⟩; refine ⟨_, rfl, ?_⟩; have HO482 := xM (Kd.R_lower (Kd.R_new' (Kd.R_new' (Kd.R_new' (Kd.R_new' ho0 (xL (by (with_reducible repeat (first | apply xRA | apply xRN | apply xRD)); exact (xO (xF (p := ⟨gb477, 1, none⟩) (xF (p := ⟨gb477, 0, none⟩) (Kd.R_types HO_435001.out BK477.out (by decide)) (fun _ hk => hk.2) (.int .i64 t473)) (fun _ hk => hk.2) (.slice Ao199 t474.length co199)) (fun _ h_ => h_.1))))) (xL (by (with_reducible repeat (first | apply xRA | apply xRN | apply xRD)); exact (xO (xF (p := ⟨gb477, 1, none⟩) (xF (p := ⟨gb477, 0, none⟩) (Kd.R_types HO_441001.out BK477.out (by decide)) (fun _ hk => hk.2) (.int .i64 t473)) (fun _ hk => hk.2) (.slice Ao199 t474.length co199)) (fun _ h_ => h_.1))))) (xL (by (with_reducible repeat (first | apply xRA | apply xRN | apply xRD)); exact (xO (xF (p := ⟨gb477, 1, none⟩) (xF (p := ⟨gb477, 0, none⟩) (Kd.R_types HO472.out BK477.out (by decide)) (fun _ hk => hk.2) (.int .i64 t473)) (fun _ hk => hk.2) (.slice Ao199 t474.length co199)) (fun _ h_ => h_.1))))) (xL (by (with_reducible repeat (first | apply xRA | apply xRN | apply xRD)); exact (xO (xF (p := ⟨gb477, 1, none⟩) (xF (p := ⟨gb477, 0, none⟩) (Kd.R_types HO476.out BK477.out (by decide)) (fun _ hk => hk.2) (.int .i64 t473)) (fun _ hk => hk.2) (.slice Ao199 t474.length co199)) (fun _ h_ => h_.1))))) (below_size (yh HB))); replace HO_435001 := xM (Kd.R_elder' (by (with_reducible repeat (first | apply xRA | apply xRN | apply xRD)); exact (xO (xF (p := ⟨gb477, 1, none⟩) (xF (p := ⟨gb477, 0, none⟩) (Kd.R_types HO_435001.out BK477.out (by decide)) (fun _ hk => hk.2) (.int .i64 t473)) (fun _ hk => hk.2) (.slice Ao199 t474.length co199)) (fun _ h_ => h_.1))) (Kd.R_base ho0) hb); replace HO_441001 := xM (Kd.R_elder' (by (with_reducible repeat (first | apply xRA | apply xRN | apply xRD)); exact (xO (xF (p := ⟨gb477, 1, none⟩) (xF (p := ⟨gb477, 0, none⟩) (Kd.R_types HO_441001.out BK477.out (by decide)) (fun _ hk => hk.2) (.int .i64 t473)) (fun _ hk => hk.2) (.slice Ao199 t474.length co199)) (fun _ h_ => h_.1))) (Kd.R_base ho0) hb); replace HO472 := xM (Kd.R_elder' (by (with_reducible repeat (first | apply xRA | apply xRN | apply xRD)); exact (xO (xF (p := ⟨gb477, 1, none⟩) (xF (p := ⟨gb477, 0, none⟩) (Kd.R_types HO472.out BK477.out (by decide)) (fun _ hk => hk.2) (.int .i64 t473)) (fun _ hk => hk.2) (.slice Ao199 t474.length co199)) (fun _ h_ => h_.1))) (Kd.R_base ho0) hb); replace HO476 := xM (Kd.R_elder' (by (with_reducible repeat (first | apply xRA | apply xRN | apply xRD)); exact (xO (xF (p := ⟨gb477, 1, none⟩) (xF (p := ⟨gb477, 0, none⟩) (Kd.R_types HO476.out BK477.out (by decide)) (fun _ hk => hk.2) (.int .i64 t473)) (fun _ hk => hk.2) (.slice Ao199 t474.length co199)) (fun _ h_ => h_.1))) (Kd.R_base ho0) hb); replace BK434 := xM (xB (g := gb434) (o := .cells #[.int .i64 t429, .slice Ao14 t430.length co14] 33 (0, 0)) (by (with_reducible repeat (first | apply xbN | apply xbD | apply xbA)); refine blk_far ?_ NB434_477.out _; (with_reducible repeat (first | apply xbN | apply xbD | apply xbA)); refine blk_far ?_ NB434_477.out _; (with_reducible repeat (first | apply xbN | apply xbD | apply xbA)); exact BK434.out) hb); replace BK440 := xM (xB (g := gb440) (o := .cells #[.int .i64 t435, .slice Ao19 t436.length co19] 33 (0, 0)) (by (with_reducible repeat (first | apply xbN | apply xbD | apply xbA)); refine blk_far ?_ NB440_477.out _; (with_reducible repeat (first | apply xbN | apply xbD | apply xbA)); refine blk_far ?_ NB440_477.out _; (with_reducible repeat (first | apply xbN | apply xbD | apply xbA)); exact BK440.out) hb); replace BK477 := xM (xB (g := gb477) (o := .cells #[.int .i64 t473, .slice Ao199 t474.length co199] 33 (0, 0)) (by (with_reducible repeat (first | apply xbN | apply xbD | apply xbA)); refine blk_put (cs := #[.int .i64 t473, .slice none 0 0]) ?_ 1 _ rfl; (with_reducible repeat (first | apply xbN | apply xbD | apply xbA)); refine blk_put (cs := #[.int .i64 0, .slice none 0 0]) ?_ 0 _ rfl; (with_reducible repeat (first | apply xbN | apply xbD | apply xbA)); exact BK477.out) hb); replace HB := xM (below_step (yh HB) hb); (try clear hb); (try clear ho0)) | ((with_reducible refine gate_dst (N := 28) rfl ?_); (try (refine gate_guard (by rfl) ?_; dsimp only)); refine box_event ?hg (N := 28) ?hd (cs := #[.int .i64 0, .slice none 0 0]) (t := 33) ?hr ?_; (case hd => rfl); (case hg => rfl); (case hr => first | (go_simp; done) | (go_simp; rfl)); intro gb484 hg w202 hbox hb; have BK484 := xM (hbox); have GW484 := xM ((by rw [hg]; exact (below_size (yh HB)) : w.heap.size ≤ gb484)); have GE484 := xM ((by rw [hg]; exact (below_size (yh HB)) : w.heap.size ≤ gb484)); have NB434_484 := xM ((by rw [hg]; exact Nat.ne_of_lt (blk_lt (yb BK434)) : gb434 ≠ gb484)); have NB484_434 := xM ((by rw [hg]; exact Nat.ne_of_gt (blk_lt (yb BK434)) : gb484 ≠ gb434)); have NB440_484 := xM ((by rw [hg]; exact Nat.ne_of_lt (blk_lt (yb BK440)) : gb440 ≠ gb484)); have NB484_440 := xM ((by rw [hg]; exact Nat.ne_of_gt (blk_lt (yb BK440)) : gb484 ≠ gb440)); have NB477_484 := xM ((by rw [hg]; exact Nat.ne_of_lt (blk_lt (yb BK477)) : gb477 ≠ gb484)); have NB484_477 := xM ((by rw [hg]; exact Nat.ne_of_gt (blk_lt (yb BK477)) : gb484 ≠ gb477)); replace HO_435001 := xM (xW (yR HO_435001) hb); replace HO_441001 := xM (xW (yR HO_441001) hb); replace HO472 := xM (xW (yR HO472) hb); replace HO476 := xM (xW (yR HO476) hb); replace HO482 := xM (xW (yR HO482) hb); replace BK434 := xM (xB (yb BK434) hb); replace BK440 := xM (xB (yb BK440) hb); replace BK477 := xM (xB (yb BK477) hb); replace HB := xM (below_step (yh HB) hb); clear hb hbox hg; have hnb203 := NB484_434.out; have hnc203 := NB434_484.out; have hnb204 := NB484_440.out; have hnc204 := NB440_484.out; have hnb205 := NB484_477.out; have hnc205 := NB477_484.out; have hcz206_0 : w202.cell? ⟨gb484, 0, none⟩ = some (.int .i64 0) := (blk_cell BK484.out 0).trans rfl; have hcz206_1 : w202.cell? ⟨gb484, 1, none⟩ = some (.slice none 0 0) := (blk_cell BK484.out 1).trans rfl; have hfz206_0 := blk_frozen BK484.out 0; have hfz206_1 := blk_frozen BK484.out 1; obtain ⟨Ao207, co207, eo207⟩ := Kd.R_slice HO482.out; subst eo207; have hcz208_0 : w202.cell? ⟨gb477, 0, none⟩ = some (.int .i64 t473) := (blk_cell BK477.out 0).trans rfl; have hcz208_1 : w202.cell? ⟨gb477, 1, none⟩ = some (.slice Ao199 t474.length co199) := (blk_cell BK477.out 1).trans rfl; have hfz208_0 := blk_frozen BK477.out 0; have hfz208_1 := blk_frozen BK477.out 1) | ((with_reducible refine gate_callee (f := 32) rfl ?_); refine goesL_ (some 181) rfl rfl Try.func32 (by kernel_rfl) rfl #[.slice Ao200 t470.length co200, .agg #[.int .i64 t473, .slice Ao199 t474.length co199]] rfl (by (try simp only [List.map_toArray, List.map_cons, List.map_nil]); first | done | rfl | (simp only [List.length_drop, List.length_take]; rfl)) ?_; (with_reducible refine (spec_TakeSymbol.calls kj73 _ _ t470 t473 _ _ t474 t485 t486 t487 t490 _ ?side1 ?side2 ?side3 ?side4 A118.out).mono ?_); (case side1 => refine (Kd.R_reads' (e := 3) (base := w.heap.size) (ok := fun k_ => (((some k_ ≠ (.slice Ao199 t474.length co199 : Value).ownBlock ∧ some k_ ≠ (.slice Ao14 t430.length co14 : Value).ownBlock) ∧ some k_ ≠ (.slice Ao19 t436.length co19 : Value).ownBlock) ∧ some k_ ≠ (.slice Ao207 t480.length co207 : Value).ownBlock)) (n := t470.length) (c := co200) ?_).2.2; exact (by (with_reducible repeat (first | apply xRA | apply xRN | apply xRD)); exact (xO (xF (p := ⟨gb484, 1, none⟩) (xF (p := ⟨gb484, 0, none⟩) (Kd.R_types HO472.out BK484.out (by decide)) (fun _ hk => hk.2) (.int .i64 t479)) (fun _ hk => hk.2) (.slice Ao207 t480.length co207)) (fun _ h_ => h_.1)))); (case side2 => exact (Kd.R_reads' HO472.out).2.1); (case side3 => refine (Kd.R_reads' (e := 3) (base := w.heap.size) (ok := fun k_ => (((some k_ ≠ (.slice Ao200 t470.length co200 : Value).ownBlock ∧ some k_ ≠ (.slice Ao14 t430.length co14 : Value).ownBlock) ∧ some k_ ≠ (.slice Ao19 t436.length co19 : Value).ownBlock) ∧ some k_ ≠ (.slice Ao207 t480.length co207 : Value).ownBlock)) (n := t474.length) (c := co199) ?_).2.2; exact (by (with_reducible repeat (first | apply xRA | apply xRN | apply xRD)); exact (xO (xF (p := ⟨gb484, 1, none⟩) (xF (p := ⟨gb484, 0, none⟩) (Kd.R_types HO476.out BK484.out (by decide)) (fun _ hk => hk.2) (.int .i64 t479)) (fun _ hk => hk.2) (.slice Ao207 t480.length co207)) (fun _ h_ => h_.1)))); (case side4 => exact (Kd.R_reads' HO476.out).2.1); rintro e w209 ⟨v488, rfl, ho0, hb⟩; refine ⟨_, rfl, ?_⟩; have HO489 := xM (Kd.R_lower (Kd.R_new' (Kd.R_new' (Kd.R_new' (Kd.R_new' (Kd.R_new' ho0 (xL (by (with_reducible repeat (first | apply xRA | apply xRN | apply xRD)); exact (xO (xF (p := ⟨gb484, 1, none⟩) (xF (p := ⟨gb484, 0, none⟩) (Kd.R_types HO_435001.out BK484.out (by decide)) (fun _ hk => hk.2) (.int .i64 t479)) (fun _ hk => hk.2) (.slice Ao207 t480.length co207)) (fun _ h_ => h_.1))))) (xL (by (with_reducible repeat (first | apply xRA | apply xRN | apply xRD)); exact (xO (xF (p := ⟨gb484, 1, none⟩) (xF (p := ⟨gb484, 0, none⟩) (Kd.R_types HO_441001.out BK484.out (by decide)) (fun _ hk => hk.2) (.int .i64 t479)) (fun _ hk => hk.2) (.slice Ao207 t480.length co207)) (fun _ h_ => h_.1))))) (xL (by (with_reducible repeat (first | apply xRA | apply xRN | apply xRD)); exact (xO (xF (p := ⟨gb484, 1, none⟩) (xF (p := ⟨gb484, 0, none⟩) (Kd.R_types HO472.out BK484.out (by decide)) (fun _ hk => hk.2) (.int .i64 t479)) (fun _ hk => hk.2) (.slice Ao207 t480.length co207)) (fun _ h_ => h_.1))))) (xL (by (with_reducible repeat (first | apply xRA | apply xRN | apply xRD)); exact (xO (xF (p := ⟨gb484, 1, none⟩) (xF (p := ⟨gb484, 0, none⟩) (Kd.R_types HO476.out BK484.out (by decide)) (fun _ hk => hk.2) (.int .i64 t479)) (fun _ hk => hk.2) (.slice Ao207 t480.length co207)) (fun _ h_ => h_.1))))) (xL (by (with_reducible repeat (first | apply xRA | apply xRN | apply xRD)); exact (xO (xF (p := ⟨gb484, 1, none⟩) (xF (p := ⟨gb484, 0, none⟩) (Kd.R_types HO482.out BK484.out (by decide)) (fun _ hk => hk.2) (.int .i64 t479)) (fun _ hk => hk.2) (.slice Ao207 t480.length co207)) (fun _ h_ => h_.1))))) (below_size (yh HB))); replace HO_435001 := xM (Kd.R_elder' (by (with_reducible repeat (first | apply xRA | apply xRN | apply xRD)); exact (xO (xF (p := ⟨gb484, 1, none⟩) (xF (p := ⟨gb484, 0, none⟩) (Kd.R_types HO_435001.out BK484.out (by decide)) (fun _ hk => hk.2) (.int .i64 t479)) (fun _ hk => hk.2) (.slice Ao207 t480.length co207)) (fun _ h_ => h_.1))) (Kd.R_base ho0) hb); replace HO_441001 := xM (Kd.R_elder' (by (with_reducible repeat (first | apply xRA | apply xRN | apply xRD)); exact (xO (xF (p := ⟨gb484, 1, none⟩) (xF (p := ⟨gb484, 0, none⟩) (Kd.R_types HO_441001.out BK484.out (by decide)) (fun _ hk => hk.2) (.int .i64 t479)) (fun _ hk => hk.2) (.slice Ao207 t480.length co207)) (fun _ h_ => h_.1))) (Kd.R_base ho0) hb); replace HO472 := xM (Kd.R_elder' (by (with_reducible repeat (first | apply xRA | apply xRN | apply xRD)); exact (xO (xF (p := ⟨gb484, 1, none⟩) (xF (p := ⟨gb484, 0, none⟩) (Kd.R_types HO472.out BK484.out (by decide)) (fun _ hk => hk.2) (.int .i64 t479)) (fun _ hk => hk.2) (.slice Ao207 t480.length co207)) (fun _ h_ => h_.1))) (Kd.R_base ho0) hb); replace HO476 := xM (Kd.R_elder' (by (with_reducible repeat (first | apply xRA | apply xRN | apply xRD)); exact (xO (xF (p := ⟨gb484, 1, none⟩) (xF (p := ⟨gb484, 0, none⟩) (Kd.R_types HO476.out BK484.out (by decide)) (fun _ hk => hk.2) (.int .i64 t479)) (fun _ hk => hk.2) (.slice Ao207 t480.length co207)) (fun _ h_ => h_.1))) (Kd.R_base ho0) hb); replace HO482 := xM (Kd.R_elder' (by (with_reducible repeat (first | apply xRA | apply xRN | apply xRD)); exact (xO (xF (p := ⟨gb484, 1, none⟩) (xF (p := ⟨gb484, 0, none⟩) (Kd.R_types HO482.out BK484.out (by decide)) (fun _ hk => hk.2) (.int .i64 t479)) (fun _ hk => hk.2) (.slice Ao207 t480.length co207)) (fun _ h_ => h_.1))) (Kd.R_base ho0) hb); replace BK434 := xM (xB (g := gb434) (o := .cells #[.int .i64 t429, .slice Ao14 t430.length co14] 33 (0, 0)) (by (with_reducible repeat (first | apply xbN | apply xbD | apply xbA)); refine blk_far ?_ NB434_484.out _; (with_reducible repeat (first | apply xbN | apply xbD | apply xbA)); refine blk_far ?_ NB434_484.out _; (with_reducible repeat (first | apply xbN | apply xbD | apply xbA)); exact BK434.out) hb); replace BK440 := xM (xB (g := gb440) (o := .cells #[.int .i64 t435, .slice Ao19 t436.length co19] 33 (0, 0)) (by (with_reducible repeat (first | apply xbN | apply xbD | apply xbA)); refine blk_far ?_ NB440_484.out _; (with_reducible repeat (first | apply xbN | apply xbD | apply xbA)); refine blk_far ?_ NB440_484.out _; (with_reducible repeat (first | apply xbN | apply xbD | apply xbA)); exact BK440.out) hb); replace BK477 := xM (xB (g := gb477) (o := .cells #[.int .i64 t473, .slice Ao199 t474.length co199] 33 (0, 0)) (by (with_reducible repeat (first | apply xbN | apply xbD | apply xbA)); refine blk_far ?_ NB477_484.out _; (with_reducible repeat (first | apply xbN | apply xbD | apply xbA)); refine blk_far ?_ NB477_484.out _; (with_reducible repeat (first | apply xbN | apply xbD | apply xbA)); exact BK477.out) hb); replace BK484 := xM (xB (g := gb484) (o := .cells #[.int .i64 t479, .slice Ao207 t480.length co207] 33 (0, 0)) (by (with_reducible repeat (first | apply xbN | apply xbD | apply xbA)); refine blk_put (cs := #[.int .i64 t479, .slice none 0 0]) ?_ 1 _ rfl; (with_reducible repeat (first | apply xbN | apply xbD | apply xbA)); refine blk_put (cs := #[.int .i64 0, .slice none 0 0]) ?_ 0 _ rfl; (with_reducible repeat (first | apply xbN | apply xbD | apply xbA)); exact BK484.out) hb); replace HB := xM (below_step (yh HB) hb); (try clear hb); (try clear ho0)) | ((with_reducible refine gate_dst (N := 31) rfl ?_); (try (refine gate_guard (by rfl) ?_; dsimp only)); refine box_event ?hg (N := 31) ?hd (cs := #[.int .i64 0, .slice none 0 0]) (t := 33) ?hr ?_; (case hd => rfl); (case hg => rfl); (case hr => first | (go_simp; done) | (go_simp; rfl)); intro gb491 hg w210 hbox hb; have BK491 := xM (hbox); have GW491 := xM ((by rw [hg]; exact (below_size (yh HB)) : w.heap.size ≤ gb491)); have GE491 := xM ((by rw [hg]; exact (below_size (yh HB)) : w.heap.size ≤ gb491)); have NB434_491 := xM ((by rw [hg]; exact Nat.ne_of_lt (blk_lt (yb BK434)) : gb434 ≠ gb491)); have NB491_434 := xM ((by rw [hg]; exact Nat.ne_of_gt (blk_lt (yb BK434)) : gb491 ≠ gb434)); have NB440_491 := xM ((by rw [hg]; exact Nat.ne_of_lt (blk_lt (yb BK440)) : gb440 ≠ gb491)); have NB491_440 := xM ((by rw [hg]; exact Nat.ne_of_gt (blk_lt (yb BK440)) : gb491 ≠ gb440)); have NB477_491 := xM ((by rw [hg]; exact Nat.ne_of_lt (blk_lt (yb BK477)) : gb477 ≠ gb491)); have NB491_477 := xM ((by rw [hg]; exact Nat.ne_of_gt (blk_lt (yb BK477)) : gb491 ≠ gb477)); have NB484_491 := xM ((by rw [hg]; exact Nat.ne_of_lt (blk_lt (yb BK484)) : gb484 ≠ gb491)); have NB491_484 := xM ((by rw [hg]; exact Nat.ne_of_gt (blk_lt (yb BK484)) : gb491 ≠ gb484)); replace HO_435001 := xM (xW (yR HO_435001) hb); replace HO_441001 := xM (xW (yR HO_441001) hb); replace HO472 := xM (xW (yR HO472) hb); replace HO476 := xM (xW (yR HO476) hb); replace HO482 := xM (xW (yR HO482) hb); replace HO489 := xM (xW (yR HO489) hb); replace BK434 := xM (xB (yb BK434) hb); replace BK440 := xM (xB (yb BK440) hb); replace BK477 := xM (xB (yb BK477) hb); replace BK484 := xM (xB (yb BK484) hb); replace HB := xM (below_step (yh HB) hb); clear hb hbox hg; have hnb211 := NB491_434.out; have hnc211 := NB434_491.out; have hnb212 := NB491_440.out; have hnc212 := NB440_491.out; have hnb213 := NB491_477.out; have hnc213 := NB477_491.out; have hnb214 := NB491_484.out; have hnc214 := NB484_491.out; have hcz215_0 : w210.cell? ⟨gb491, 0, none⟩ = some (.int .i64 0) := (blk_cell BK491.out 0).trans rfl; have hcz215_1 : w210.cell? ⟨gb491, 1, none⟩ = some (.slice none 0 0) := (blk_cell BK491.out 1).trans rfl; have hfz215_0 := blk_frozen BK491.out 0; have hfz215_1 := blk_frozen BK491.out 1; obtain ⟨Ao216, co216, eo216⟩ := Kd.R_slice HO489.out; subst eo216))
              go_ret
              exact ⟨by first | rfl | (simp [errW_none, errW_some] <;> rfl) | (simp [*, errW_none, errW_some] <;> rfl), by repeat (first | (with_reducible first | exact HB.out | apply xa | apply xn | apply xd | refine xs ?_ GE434.out | refine xs ?_ GE440.out | refine xs ?_ GE477.out | refine xs ?_ GE484.out | refine xs ?_ GE491.out) | exact HB.out)⟩

/-- THE ONE PURE STATEMENT of laws_FnAns: yours. -/
def laws_FnAns.Pure : Prop := ∀ (l0 : List Int) (l1 : List Int), l0.length ≤ maxLen → l0.length * 1 ≤ 140737488351232 → (∀ x ∈ l0, (Lit.int .u8 x).wf = true) → l1.length ≤ maxLen → l1.length * 1 ≤ 140737488351232 → (∀ x ∈ l1, (Lit.int .u8 x).wf = true) → ∃ k, laws_FnAns.f k l0 l1 = some true
theorem laws_FnAns.walk (P : laws_FnAns.Pure) (a0 : Option Addr) (len0 cap0 : Nat) (z0 : List Int) (a1 : Option Addr) (len1 cap1 : Nat) (z1 : List Int) (w : World) (w0 : (a0 = none ∧ len0 = 0 ∧ cap0 = 0 ∧ z0 = []) ∨ ∃ x, a0 = some x ∧ len0 ≤ cap0 ∧ cap0 ≤ maxLen ∧ z0.length = cap0 ∧ (∀ i, i < z0.length → w.cell? (x.add i) = some (.int .u8 (z0.getD i 0))) ∧ ∀ n ∈ z0, (Lit.int .u8 n).wf = true) (y0 : len0 * 1 ≤ 140737488351232) (w1 : (a1 = none ∧ len1 = 0 ∧ cap1 = 0 ∧ z1 = []) ∨ ∃ x, a1 = some x ∧ len1 ≤ cap1 ∧ cap1 ≤ maxLen ∧ z1.length = cap1 ∧ (∀ i, i < z1.length → w.cell? (x.add i) = some (.int .u8 (z1.getD i 0))) ∧ ∀ n ∈ z1, (Lit.int .u8 n).wf = true) (y1 : len1 * 1 ≤ 140737488351232) :
   Calls Try.prog 12 #[.slice a0 len0 cap0, .slice a1 len1 cap1] w fun e w' => e = .returned (.bool true) ∧ Below w.heap.size w w' := by
  obtain ⟨l0, rfl, hr0, hm0, hw0, hc0⟩ := ReadsInt.ofRowC w0
  obtain ⟨l1, rfl, hr1, hm1, hw1, hc1⟩ := ReadsInt.ofRowC w1
  obtain ⟨k, h⟩ := P l0 l1 hm0 y0 hw0 hm1 y1 hw1
  refine (laws_FnAns.calls k _ _ l0 _ _ l1 true w (Kd.C_of_reads (d := (0 : Int)) (h1 := fun _ => rfl) hr0) hc0 (Kd.C_of_reads (d := (0 : Int)) (h1 := fun _ => rfl) hr1) hc1 h).mono ?_
  rintro e w' ⟨rfl, hd⟩
  exact ⟨rfl, hd⟩

end Go.Proofs.Ytppgkkejddjacaa.PFnAns

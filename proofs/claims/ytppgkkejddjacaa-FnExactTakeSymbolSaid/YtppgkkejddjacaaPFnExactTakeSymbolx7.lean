-- This text was written by the session's own program wip/tools/xprint.py, over the kit's print; Lean checks it.
import Derived.Test.YtppgkkejddjacaaPFnExactTakeSymbolx0
import Derived.Test.YtppgkkejddjacaaPFnExactTakeSymbolx1
import Derived.Test.YtppgkkejddjacaaPFnExactTakeSymbolx3
import Derived.Test.YtppgkkejddjacaaPFnExactTakeSymbolx6
namespace Go.Proofs.Ytppgkkejddjacaa.PFnExactTakeSymbol
open Go.RowKit Go.Proofs.YtppgkkejddjacaaW.PrintWords Go.Proofs.YtppgkkejddjacaaW.PrintLast Go.Proofs.YtppgkkejddjacaaW.PrintMore
attribute [local go_sem] max2_int min2_int max_two min_two max_three min_three max_four min_four   -- for this text's walks alone
set_option linter.unusedVariables false
set_option linter.unusedSimpArgs false

/-! ### laws_FnExactTakeSymbol: function 7 -/
mutual
def laws_FnExactTakeSymbol.j0 : Nat → List Int → Int → Bool → List Int → Int → Bool → Bool → Int → List Int → Int → List Int → Int → List Int → Int → List Int → Option (Bool)
  | 0, _, _, _, _, _, _, _, _, _, _, _, _, _, _, _ => none
  | k + 1, x0, x6, x8, x9, x11, x13, x61, x207000, x207001, x222000, x222001, x230000, x230001, x237000, x237001 => if x61 = true then (some false) else ((laws_toIntS.f k x0).bind fun t238 => ((laws_eqIntS.f k x9 t238).bind fun t241 => (if t241 = true then ((laws_toCoded.f k x207000 x207001).bind fun bt242 => ((laws_eqCoded.f k x230000 x230001 bt242.1 bt242.2).bind fun t246 => (if t246 = true then ((laws_markIntS.f k x9 1).bind fun bt247 => ((laws_markCoded.f k x230000 x230001 bt247.1).bind fun bt249 => (if bt249.1 < 0 then (laws_FnExactTakeSymbol.j1 k x0 x6 x8 true x207000 x207001 x222000 x222001 x237000 x237001) else (if x11 = x6 then ((laws_eqCoded.f k x237000 x237001 x222000 x222001).bind fun t251 => (if t251 = true then (laws_FnExactTakeSymbol.j1 k x0 x6 x8 (x13 != x8) x207000 x207001 x222000 x222001 x237000 x237001) else (laws_FnExactTakeSymbol.j1 k x0 x6 x8 true x207000 x207001 x222000 x222001 x237000 x237001))) else (laws_FnExactTakeSymbol.j1 k x0 x6 x8 true x207000 x207001 x222000 x222001 x237000 x237001))))) else (some false)))) else (some false))))
def laws_FnExactTakeSymbol.j1 : Nat → List Int → Int → Bool → Bool → Int → List Int → Int → List Int → Int → List Int → Option (Bool)
  | 0, _, _, _, _, _, _, _, _, _, _ => none
  | k + 1, x0, x6, x8, x95, x207000, x207001, x222000, x222001, x237000, x237001 => if x95 = true then (some false) else ((laws_markCoded.f k x237000 x237001 1).bind fun bt252 => ((laws_heldCoded.f k x237000 bt252.2 1).bind fun t254 => (if t254 < 0 then (some false) else (if t254 = bt252.1 then ((laws_toIntS.f k x0).bind fun t255 => ((laws_toCoded.f k x207000 x207001).bind fun bt258 => ((impl_TakeSymbol.f k t255 bt258.1 bt258.2).bind fun bt262 => (if bt262.1 = x6 then ((laws_eqCoded.f k bt262.2.1 bt262.2.2.1 x222000 x222001).bind fun t269 => (if t269 = true then (laws_FnExactTakeSymbol.j2 k bt252.1 (bt262.2.2.2 != x8) x237000 bt252.2) else (laws_FnExactTakeSymbol.j2 k bt252.1 true x237000 bt252.2))) else (laws_FnExactTakeSymbol.j2 k bt252.1 true x237000 bt252.2))))) else (some false)))))
def laws_FnExactTakeSymbol.j2 : Nat → Int → Bool → Int → List Int → Option (Bool)
  | 0, _, _, _, _ => none
  | k + 1, x15, x129, x237000, x237001 => if x129 = true then (some false) else ((laws_heldCoded.f k x237000 x237001 1).bind fun t270 => (if t270 < 0 then (some false) else (if t270 = x15 then (some true) else (some false))))
end
def laws_FnExactTakeSymbol.f (k : Nat) (l0 : List Int) (a1_0 : Int) (l1_1 : List Int) : Option (Bool) := if (l0.length : Int) > 1048576 then (some true) else ((laws_szCoded.f a1_0 l1_1 1048576).bind fun t207 => (if t207 < 0 then (some true) else ((laws_toIntS.f k l0).bind fun t208 => ((laws_toCoded.f k a1_0 l1_1).bind fun bt211 => ((spec_TakeSymbol.f k t208 bt211.1 bt211.2).bind fun bt215 => ((laws_toIntS.f k l0).bind fun t222 => ((laws_toCoded.f k a1_0 l1_1).bind fun bt225 => ((impl_TakeSymbol.f k t222 bt225.1 bt225.2).bind fun bt230 => (if bt230.1 = bt215.1 then ((laws_eqCoded.f k bt230.2.1 bt230.2.2.1 bt215.2.1 bt215.2.2.1).bind fun t237 => (if t237 = true then (laws_FnExactTakeSymbol.j0 k l0 bt215.1 bt215.2.2.2 t222 bt230.1 bt230.2.2.2 (bt230.2.2.2 != bt215.2.2.2) a1_0 l1_1 bt215.2.1 bt215.2.2.1 bt225.1 bt225.2 bt230.2.1 bt230.2.2.1) else (laws_FnExactTakeSymbol.j0 k l0 bt215.1 bt215.2.2.2 t222 bt230.1 bt230.2.2.2 true a1_0 l1_1 bt215.2.1 bt215.2.2.1 bt225.1 bt225.2 bt230.2.1 bt230.2.2.1))) else (laws_FnExactTakeSymbol.j0 k l0 bt215.1 bt215.2.2.2 t222 bt230.1 bt230.2.2.2 true a1_0 l1_1 bt215.2.1 bt215.2.2.1 bt225.1 bt225.2 bt230.2.1 bt230.2.2.1))))))))))
theorem laws_FnExactTakeSymbol.mono_l : ∀ k, (∀ y0 y1 y2 y3 y4 y5 y6 y7 y8 y9 y10 y11 y12 y13 y14, LeO (laws_FnExactTakeSymbol.j0 k y0 y1 y2 y3 y4 y5 y6 y7 y8 y9 y10 y11 y12 y13 y14) (laws_FnExactTakeSymbol.j0 (k + 1) y0 y1 y2 y3 y4 y5 y6 y7 y8 y9 y10 y11 y12 y13 y14)) ∧ (∀ y0 y1 y2 y3 y4 y5 y6 y7 y8 y9, LeO (laws_FnExactTakeSymbol.j1 k y0 y1 y2 y3 y4 y5 y6 y7 y8 y9) (laws_FnExactTakeSymbol.j1 (k + 1) y0 y1 y2 y3 y4 y5 y6 y7 y8 y9)) ∧ (∀ y0 y1 y2 y3, LeO (laws_FnExactTakeSymbol.j2 k y0 y1 y2 y3) (laws_FnExactTakeSymbol.j2 (k + 1) y0 y1 y2 y3))
  | 0 => ⟨fun _ _ _ _ _ _ _ _ _ _ _ _ _ _ _ r h => by simp [laws_FnExactTakeSymbol.j0] at h, fun _ _ _ _ _ _ _ _ _ _ r h => by simp [laws_FnExactTakeSymbol.j1] at h, fun _ _ _ _ r h => by simp [laws_FnExactTakeSymbol.j2] at h⟩
  | k + 1 => by
   obtain ⟨ih0, ih1, ih2⟩ := laws_FnExactTakeSymbol.mono_l k
   refine ⟨?_, ?_, ?_⟩
   ·intro y0 y1 y2 y3 y4 y5 y6 y7 y8 y9 y10 y11 y12 y13 y14
    unfold laws_FnExactTakeSymbol.j0
    repeat' first
    | (with_reducible exact ih0 _ _ _ _ _ _ _ _ _ _ _ _ _ _ _)
    | (with_reducible exact ih1 _ _ _ _ _ _ _ _ _ _)
    | (with_reducible exact ih2 _ _ _ _)
    | (with_reducible exact impl_TakeSymbol.mono _ _ _ _)
    | (with_reducible exact laws_eqCoded.mono _ _ _ _ _)
    | (with_reducible exact laws_eqIntS.mono _ _ _)
    | (with_reducible exact laws_heldCoded.mono _ _ _ _)
    | (with_reducible exact laws_markCoded.mono _ _ _ _)
    | (with_reducible exact laws_markIntS.mono _ _ _)
    | (with_reducible exact laws_toCoded.mono _ _ _)
    | (with_reducible exact laws_toIntS.mono _ _)
    | (with_reducible exact spec_TakeSymbol.mono _ _ _ _)
    | (with_reducible exact LeO.refl _)
    | (with_reducible exact LeO.none _)
    | (with_reducible refine LeO.ite ?_ ?_)
    | (with_reducible refine LeO.bind ?_ (fun _ => ?_))
    | exact ih0 _ _ _ _ _ _ _ _ _ _ _ _ _ _ _
    | exact ih1 _ _ _ _ _ _ _ _ _ _
    | exact ih2 _ _ _ _
    | exact impl_TakeSymbol.mono _ _ _ _
    | exact laws_eqCoded.mono _ _ _ _ _
    | exact laws_eqIntS.mono _ _ _
    | exact laws_heldCoded.mono _ _ _ _
    | exact laws_markCoded.mono _ _ _ _
    | exact laws_markIntS.mono _ _ _
    | exact laws_toCoded.mono _ _ _
    | exact laws_toIntS.mono _ _
    | exact spec_TakeSymbol.mono _ _ _ _
    | exact LeO.none _
    | refine LeO.ite ?_ ?_
    | refine LeO.bind ?_ (fun _ => ?_)
   ·intro y0 y1 y2 y3 y4 y5 y6 y7 y8 y9
    unfold laws_FnExactTakeSymbol.j1
    repeat' first
    | (with_reducible exact ih0 _ _ _ _ _ _ _ _ _ _ _ _ _ _ _)
    | (with_reducible exact ih1 _ _ _ _ _ _ _ _ _ _)
    | (with_reducible exact ih2 _ _ _ _)
    | (with_reducible exact impl_TakeSymbol.mono _ _ _ _)
    | (with_reducible exact laws_eqCoded.mono _ _ _ _ _)
    | (with_reducible exact laws_eqIntS.mono _ _ _)
    | (with_reducible exact laws_heldCoded.mono _ _ _ _)
    | (with_reducible exact laws_markCoded.mono _ _ _ _)
    | (with_reducible exact laws_markIntS.mono _ _ _)
    | (with_reducible exact laws_toCoded.mono _ _ _)
    | (with_reducible exact laws_toIntS.mono _ _)
    | (with_reducible exact spec_TakeSymbol.mono _ _ _ _)
    | (with_reducible exact LeO.refl _)
    | (with_reducible exact LeO.none _)
    | (with_reducible refine LeO.ite ?_ ?_)
    | (with_reducible refine LeO.bind ?_ (fun _ => ?_))
    | exact ih0 _ _ _ _ _ _ _ _ _ _ _ _ _ _ _
    | exact ih1 _ _ _ _ _ _ _ _ _ _
    | exact ih2 _ _ _ _
    | exact impl_TakeSymbol.mono _ _ _ _
    | exact laws_eqCoded.mono _ _ _ _ _
    | exact laws_eqIntS.mono _ _ _
    | exact laws_heldCoded.mono _ _ _ _
    | exact laws_markCoded.mono _ _ _ _
    | exact laws_markIntS.mono _ _ _
    | exact laws_toCoded.mono _ _ _
    | exact laws_toIntS.mono _ _
    | exact spec_TakeSymbol.mono _ _ _ _
    | exact LeO.none _
    | refine LeO.ite ?_ ?_
    | refine LeO.bind ?_ (fun _ => ?_)
   ·intro y0 y1 y2 y3
    unfold laws_FnExactTakeSymbol.j2
    repeat' first
    | (with_reducible exact ih0 _ _ _ _ _ _ _ _ _ _ _ _ _ _ _)
    | (with_reducible exact ih1 _ _ _ _ _ _ _ _ _ _)
    | (with_reducible exact ih2 _ _ _ _)
    | (with_reducible exact impl_TakeSymbol.mono _ _ _ _)
    | (with_reducible exact laws_eqCoded.mono _ _ _ _ _)
    | (with_reducible exact laws_eqIntS.mono _ _ _)
    | (with_reducible exact laws_heldCoded.mono _ _ _ _)
    | (with_reducible exact laws_markCoded.mono _ _ _ _)
    | (with_reducible exact laws_markIntS.mono _ _ _)
    | (with_reducible exact laws_toCoded.mono _ _ _)
    | (with_reducible exact laws_toIntS.mono _ _)
    | (with_reducible exact spec_TakeSymbol.mono _ _ _ _)
    | (with_reducible exact LeO.refl _)
    | (with_reducible exact LeO.none _)
    | (with_reducible refine LeO.ite ?_ ?_)
    | (with_reducible refine LeO.bind ?_ (fun _ => ?_))
    | exact ih0 _ _ _ _ _ _ _ _ _ _ _ _ _ _ _
    | exact ih1 _ _ _ _ _ _ _ _ _ _
    | exact ih2 _ _ _ _
    | exact impl_TakeSymbol.mono _ _ _ _
    | exact laws_eqCoded.mono _ _ _ _ _
    | exact laws_eqIntS.mono _ _ _
    | exact laws_heldCoded.mono _ _ _ _
    | exact laws_markCoded.mono _ _ _ _
    | exact laws_markIntS.mono _ _ _
    | exact laws_toCoded.mono _ _ _
    | exact laws_toIntS.mono _ _
    | exact spec_TakeSymbol.mono _ _ _ _
    | exact LeO.none _
    | refine LeO.ite ?_ ?_
    | refine LeO.bind ?_ (fun _ => ?_)
theorem laws_FnExactTakeSymbol.mono : ∀ a0 a1 a2 k, LeO (laws_FnExactTakeSymbol.f k a0 a1 a2) (laws_FnExactTakeSymbol.f (k + 1) a0 a1 a2) := by
  intro a0 a1 a2 k
  obtain ⟨ih0, ih1, ih2⟩ := laws_FnExactTakeSymbol.mono_l k
  unfold laws_FnExactTakeSymbol.f
  repeat' first
    | (with_reducible exact ih0 _ _ _ _ _ _ _ _ _ _ _ _ _ _ _)
    | (with_reducible exact ih1 _ _ _ _ _ _ _ _ _ _)
    | (with_reducible exact ih2 _ _ _ _)
    | (with_reducible exact impl_TakeSymbol.mono _ _ _ _)
    | (with_reducible exact laws_eqCoded.mono _ _ _ _ _)
    | (with_reducible exact laws_eqIntS.mono _ _ _)
    | (with_reducible exact laws_heldCoded.mono _ _ _ _)
    | (with_reducible exact laws_markCoded.mono _ _ _ _)
    | (with_reducible exact laws_markIntS.mono _ _ _)
    | (with_reducible exact laws_toCoded.mono _ _ _)
    | (with_reducible exact laws_toIntS.mono _ _)
    | (with_reducible exact spec_TakeSymbol.mono _ _ _ _)
    | (with_reducible exact LeO.refl _)
    | (with_reducible exact LeO.none _)
    | (with_reducible refine LeO.ite ?_ ?_)
    | (with_reducible refine LeO.bind ?_ (fun _ => ?_))
    | exact ih0 _ _ _ _ _ _ _ _ _ _ _ _ _ _ _
    | exact ih1 _ _ _ _ _ _ _ _ _ _
    | exact ih2 _ _ _ _
    | exact impl_TakeSymbol.mono _ _ _ _
    | exact laws_eqCoded.mono _ _ _ _ _
    | exact laws_eqIntS.mono _ _ _
    | exact laws_heldCoded.mono _ _ _ _
    | exact laws_markCoded.mono _ _ _ _
    | exact laws_markIntS.mono _ _ _
    | exact laws_toCoded.mono _ _ _
    | exact laws_toIntS.mono _ _
    | exact spec_TakeSymbol.mono _ _ _ _
    | exact LeO.none _
    | refine LeO.ite ?_ ?_
    | refine LeO.bind ?_ (fun _ => ?_)
def laws_FnExactTakeSymbol.T7 : Bool × List (List Nat × List Nat) := (true, [([], []), ([0], [0]), ([], []), ([2, 1], [2]), ([1, 3, 3], [1, 3]), ([4], [4]), ([5], [5]), ([5], [5]), ([5], [5]), ([], []), ([6, 4, 0, 1, 2, 3, 4, 5, 6, 9], [6]), ([9, 7, 10, 0, 1, 2, 3, 4, 5, 6, 7, 9, 10], [7, 9]), ([8, 11, 0, 1, 2, 3, 4, 5, 6, 7, 8, 9, 10, 11], [8])])
def laws_FnExactTakeSymbol.B7 : List Nat := [0, 1, 0, 7, 15, 31, 63, 63, 63, 0, 639, 1791, 4095]
theorem laws_FnExactTakeSymbol.tab7 : rtab .any (opsOf Try.f7 7) = laws_FnExactTakeSymbol.T7 := by kernel_rfl
theorem laws_FnExactTakeSymbol.bits7 : waitsOk laws_FnExactTakeSymbol.T7.2 laws_FnExactTakeSymbol.B7 = true := by kernel_rfl
def laws_FnExactTakeSymbol.T30 : Bool × List (List Nat × List Nat) := (true, [([], []), ([0], [0]), ([], []), ([2, 1], [2]), ([1, 3, 3], [1, 3]), ([4], [4]), ([5], [5]), ([5], [5]), ([5], [5]), ([], []), ([6, 4, 0, 1, 2, 3, 4, 5, 6, 9], [6]), ([9, 7, 10, 0, 1, 2, 3, 4, 5, 6, 7, 9, 10], [7, 9]), ([8, 11, 0, 1, 2, 3, 4, 5, 6, 7, 8, 9, 10, 11], [8])])
def laws_FnExactTakeSymbol.B30 : List Nat := [0, 1, 0, 7, 15, 31, 63, 63, 63, 0, 639, 1791, 4095]
theorem laws_FnExactTakeSymbol.tab30 : rtab .any (opsOf Try.f7 30) = laws_FnExactTakeSymbol.T30 := by kernel_rfl
theorem laws_FnExactTakeSymbol.bits30 : waitsOk laws_FnExactTakeSymbol.T30.2 laws_FnExactTakeSymbol.B30 = true := by kernel_rfl
set_option maxHeartbeats 8000000 in
set_option maxRecDepth 100000 in
theorem laws_FnExactTakeSymbol.calls (k : Nat) (A0 : Option Addr) (c0 : Nat) (l0 : List Int) (a1_0 : Int) (A1_1 : Option Addr) (c1_1 : Nat) (l1_1 : List Int) (r : Bool) (w : World) (hr0 : Kd.C (Kd.int .i64) w A0 l0.length l0) (hc0 : l0.length ≤ c0) (hr1_1 : Kd.C (Kd.int .i64) w A1_1 l1_1.length l1_1) (hc1_1 : l1_1.length ≤ c1_1) (h : laws_FnExactTakeSymbol.f k l0 a1_0 l1_1 = some r) :
   Calls Try.prog 7 #[.slice A0 l0.length c0, .agg #[.int .i64 a1_0, .slice A1_1 l1_1.length c1_1]] w fun e w' => e = .returned (.bool r) ∧ Below w.heap.size w w' := by
  have hu47 := Try.underlying47
  have hu33 := Try.underlying33
  have HR0 := Aside0.mk hr0
  have HC0 := Aside0.mk hc0
  clear hr0 hc0
  have HR1_1 := Aside0.mk hr1_1
  have HC1_1 := Aside0.mk hc1_1
  clear hr1_1 hc1_1
  have HB := xM (Below.refl w.heap.size w)
  have H : (if (l0.length : Int) > 1048576 then (some true) else ((laws_szCoded.f a1_0 l1_1 1048576).bind fun t207 => (if t207 < 0 then (some true) else ((laws_toIntS.f k l0).bind fun t208 => ((laws_toCoded.f k a1_0 l1_1).bind fun bt211 => ((spec_TakeSymbol.f k t208 bt211.1 bt211.2).bind fun bt215 => ((laws_toIntS.f k l0).bind fun t222 => ((laws_toCoded.f k a1_0 l1_1).bind fun bt225 => ((impl_TakeSymbol.f k t222 bt225.1 bt225.2).bind fun bt230 => (if bt230.1 = bt215.1 then ((laws_eqCoded.f k bt230.2.1 bt230.2.2.1 bt215.2.1 bt215.2.2.1).bind fun t237 => (if t237 = true then (laws_FnExactTakeSymbol.j0 k l0 bt215.1 bt215.2.2.2 t222 bt230.1 bt230.2.2.2 (bt230.2.2.2 != bt215.2.2.2) a1_0 l1_1 bt215.2.1 bt215.2.2.1 bt225.1 bt225.2 bt230.2.1 bt230.2.2.1) else (laws_FnExactTakeSymbol.j0 k l0 bt215.1 bt215.2.2.2 t222 bt230.1 bt230.2.2.2 true a1_0 l1_1 bt215.2.1 bt215.2.2.1 bt225.1 bt225.2 bt230.2.1 bt230.2.2.1))) else (laws_FnExactTakeSymbol.j0 k l0 bt215.1 bt215.2.2.2 t222 bt230.1 bt230.2.2.2 true a1_0 l1_1 bt215.2.1 bt215.2.2.1 bt225.1 bt225.2 bt230.2.1 bt230.2.2.1))))))))))) = some r := h
  clear h
  by_cases c3 : (l0.length : Int) > 1048576
  ·rw [if_pos c3] at H
   have c3b0 : decide (1048576 < (l0.length : Int)) = true := decide_eq_true c3
   have c3b1 : decide (1048576 < l0.length) = true := decide_eq_true (by omega)
   clear c3
   obtain rfl := Option.some.inj H
   go_enter Try.func7, Try.ntmps7
   go_wp2_with (first | ((with_reducible refine gate_dst (N := 3) rfl ?_); refine box_event ?hg (N := 3) ?hd (cs := #[.int .i64 a1_0, .slice A1_1 l1_1.length c1_1]) (t := 47) ?hr ?_; (case hd => rfl); (case hg => rfl); (case hr => first | (go_simp; done) | (go_simp; rfl)); intro gb206 hg w4 hbox hb; have BK206 := xM (hbox); have GW206 := xM ((by rw [hg]; exact (below_size (yh HB)) : w.heap.size ≤ gb206)); have GE206 := xM ((by rw [hg]; exact (below_size (yh HB)) : w.heap.size ≤ gb206)); replace HB := xM (below_step (yh HB) hb); clear hb hbox hg))
   go_ret
   exact ⟨by first | rfl | (simp [errW_none, errW_some] <;> rfl) | (simp [*, errW_none, errW_some] <;> rfl), by repeat (first | (with_reducible first | exact HB.out | apply xa | apply xn | apply xd | refine xs ?_ GE206.out) | exact HB.out)⟩
  ·rw [if_neg c3] at H
   have c3b0 : decide (1048576 < (l0.length : Int)) = false := decide_eq_false c3
   have c3b1 : decide (1048576 < l0.length) = false := decide_eq_false (by omega)
   clear c3
   replace H := Option.bind_eq_some_iff.mp H
   obtain ⟨t207, A50, H⟩ := H
   replace H : (if t207 < 0 then (some true) else ((laws_toIntS.f k l0).bind fun t208 => ((laws_toCoded.f k a1_0 l1_1).bind fun bt211 => ((spec_TakeSymbol.f k t208 bt211.1 bt211.2).bind fun bt215 => ((laws_toIntS.f k l0).bind fun t222 => ((laws_toCoded.f k a1_0 l1_1).bind fun bt225 => ((impl_TakeSymbol.f k t222 bt225.1 bt225.2).bind fun bt230 => (if bt230.1 = bt215.1 then ((laws_eqCoded.f k bt230.2.1 bt230.2.2.1 bt215.2.1 bt215.2.2.1).bind fun t237 => (if t237 = true then (laws_FnExactTakeSymbol.j0 k l0 bt215.1 bt215.2.2.2 t222 bt230.1 bt230.2.2.2 (bt230.2.2.2 != bt215.2.2.2) a1_0 l1_1 bt215.2.1 bt215.2.2.1 bt225.1 bt225.2 bt230.2.1 bt230.2.2.1) else (laws_FnExactTakeSymbol.j0 k l0 bt215.1 bt215.2.2.2 t222 bt230.1 bt230.2.2.2 true a1_0 l1_1 bt215.2.1 bt215.2.2.1 bt225.1 bt225.2 bt230.2.1 bt230.2.2.1))) else (laws_FnExactTakeSymbol.j0 k l0 bt215.1 bt215.2.2.2 t222 bt230.1 bt230.2.2.2 true a1_0 l1_1 bt215.2.1 bt215.2.2.1 bt225.1 bt225.2 bt230.2.1 bt230.2.2.1))))))))) = some r := H
   have A5 := Aside0.mk A50
   clear A50
   by_cases c6 : t207 < 0
   ·rw [if_pos c6] at H
    have c6b0 : decide (t207 < 0) = true := decide_eq_true c6
    clear c6
    obtain rfl := Option.some.inj H
    go_enter Try.func7, Try.ntmps7
    go_wp2_with (first | ((with_reducible refine gate_dst (N := 3) rfl ?_); refine box_event ?hg (N := 3) ?hd (cs := #[.int .i64 a1_0, .slice A1_1 l1_1.length c1_1]) (t := 47) ?hr ?_; (case hd => rfl); (case hg => rfl); (case hr => first | (go_simp; done) | (go_simp; rfl)); intro gb206 hg w7 hbox hb; have BK206 := xM (hbox); have GW206 := xM ((by rw [hg]; exact (below_size (yh HB)) : w.heap.size ≤ gb206)); have GE206 := xM ((by rw [hg]; exact (below_size (yh HB)) : w.heap.size ≤ gb206)); replace HB := xM (below_step (yh HB) hb); clear hb hbox hg; have hcz8_0 : w7.cell? ⟨gb206, 0, none⟩ = some (.int .i64 a1_0) := (blk_cell BK206.out 0).trans rfl; have hcz8_1 : w7.cell? ⟨gb206, 1, none⟩ = some (.slice A1_1 l1_1.length c1_1) := (blk_cell BK206.out 1).trans rfl; have hfz8_0 := blk_frozen BK206.out 0; have hfz8_1 := blk_frozen BK206.out 1) | ((with_reducible refine gate_callee (f := 31) rfl ?_); refine goesL_ (some 25) rfl rfl Try.func31 (by kernel_rfl) rfl #[.agg #[.int .i64 a1_0, .slice A1_1 l1_1.length c1_1], .int .i64 1048576] rfl (by (try simp only [List.map_toArray, List.map_cons, List.map_nil]); first | done | rfl | (simp only [List.length_drop, List.length_take]; rfl)) ?_; (with_reducible refine (laws_szCoded.calls a1_0 _ _ l1_1 1048576 t207 _ ?side1 ?side2 A5.out).mono ?_); (case side1 => repeat (first | exact (Kd.C_below HR1_1.out HB.out) | (with_reducible refine Kd.C_alloc ?_ _) | (with_reducible refine Kd.C_drewN ?_ _) | (with_reducible refine Kd.C_drew ?_))); (case side2 => exact HC1_1.out); rintro e w9 ⟨rfl, hb⟩; refine ⟨_, rfl, ?_⟩; replace BK206 := xM (xB (yb BK206) hb); replace HB := xM (below_step (yh HB) hb); (try clear hb)))
    go_ret
    exact ⟨by first | rfl | (simp [errW_none, errW_some] <;> rfl) | (simp [*, errW_none, errW_some] <;> rfl), by repeat (first | (with_reducible first | exact HB.out | apply xa | apply xn | apply xd | refine xs ?_ GE206.out) | exact HB.out)⟩
   ·rw [if_neg c6] at H
    have c6b0 : decide (t207 < 0) = false := decide_eq_false c6
    clear c6
    replace H := Option.bind_eq_some_iff.mp H
    obtain ⟨t208, A100, H⟩ := H
    replace H : ((laws_toCoded.f k a1_0 l1_1).bind fun bt211 => ((spec_TakeSymbol.f k t208 bt211.1 bt211.2).bind fun bt215 => ((laws_toIntS.f k l0).bind fun t222 => ((laws_toCoded.f k a1_0 l1_1).bind fun bt225 => ((impl_TakeSymbol.f k t222 bt225.1 bt225.2).bind fun bt230 => (if bt230.1 = bt215.1 then ((laws_eqCoded.f k bt230.2.1 bt230.2.2.1 bt215.2.1 bt215.2.2.1).bind fun t237 => (if t237 = true then (laws_FnExactTakeSymbol.j0 k l0 bt215.1 bt215.2.2.2 t222 bt230.1 bt230.2.2.2 (bt230.2.2.2 != bt215.2.2.2) a1_0 l1_1 bt215.2.1 bt215.2.2.1 bt225.1 bt225.2 bt230.2.1 bt230.2.2.1) else (laws_FnExactTakeSymbol.j0 k l0 bt215.1 bt215.2.2.2 t222 bt230.1 bt230.2.2.2 true a1_0 l1_1 bt215.2.1 bt215.2.2.1 bt225.1 bt225.2 bt230.2.1 bt230.2.2.1))) else (laws_FnExactTakeSymbol.j0 k l0 bt215.1 bt215.2.2.2 t222 bt230.1 bt230.2.2.2 true a1_0 l1_1 bt215.2.1 bt215.2.2.1 bt225.1 bt225.2 bt230.2.1 bt230.2.2.1))))))) = some r := H
    have A10 := Aside0.mk A100
    clear A100
    replace H := Option.bind_eq_some_iff.mp H
    obtain ⟨⟨t211, t212⟩, A110, H⟩ := H
    replace H : ((spec_TakeSymbol.f k t208 t211 t212).bind fun bt215 => ((laws_toIntS.f k l0).bind fun t222 => ((laws_toCoded.f k a1_0 l1_1).bind fun bt225 => ((impl_TakeSymbol.f k t222 bt225.1 bt225.2).bind fun bt230 => (if bt230.1 = bt215.1 then ((laws_eqCoded.f k bt230.2.1 bt230.2.2.1 bt215.2.1 bt215.2.2.1).bind fun t237 => (if t237 = true then (laws_FnExactTakeSymbol.j0 k l0 bt215.1 bt215.2.2.2 t222 bt230.1 bt230.2.2.2 (bt230.2.2.2 != bt215.2.2.2) a1_0 l1_1 bt215.2.1 bt215.2.2.1 bt225.1 bt225.2 bt230.2.1 bt230.2.2.1) else (laws_FnExactTakeSymbol.j0 k l0 bt215.1 bt215.2.2.2 t222 bt230.1 bt230.2.2.2 true a1_0 l1_1 bt215.2.1 bt215.2.2.1 bt225.1 bt225.2 bt230.2.1 bt230.2.2.1))) else (laws_FnExactTakeSymbol.j0 k l0 bt215.1 bt215.2.2.2 t222 bt230.1 bt230.2.2.2 true a1_0 l1_1 bt215.2.1 bt215.2.2.1 bt225.1 bt225.2 bt230.2.1 bt230.2.2.1)))))) = some r := H
    have A11 := Aside0.mk A110
    clear A110
    replace H := Option.bind_eq_some_iff.mp H
    obtain ⟨⟨t215, t216, t217, t220⟩, A120, H⟩ := H
    replace H : ((laws_toIntS.f k l0).bind fun t222 => ((laws_toCoded.f k a1_0 l1_1).bind fun bt225 => ((impl_TakeSymbol.f k t222 bt225.1 bt225.2).bind fun bt230 => (if bt230.1 = t215 then ((laws_eqCoded.f k bt230.2.1 bt230.2.2.1 t216 t217).bind fun t237 => (if t237 = true then (laws_FnExactTakeSymbol.j0 k l0 t215 t220 t222 bt230.1 bt230.2.2.2 (bt230.2.2.2 != t220) a1_0 l1_1 t216 t217 bt225.1 bt225.2 bt230.2.1 bt230.2.2.1) else (laws_FnExactTakeSymbol.j0 k l0 t215 t220 t222 bt230.1 bt230.2.2.2 true a1_0 l1_1 t216 t217 bt225.1 bt225.2 bt230.2.1 bt230.2.2.1))) else (laws_FnExactTakeSymbol.j0 k l0 t215 t220 t222 bt230.1 bt230.2.2.2 true a1_0 l1_1 t216 t217 bt225.1 bt225.2 bt230.2.1 bt230.2.2.1))))) = some r := H
    have A12 := Aside0.mk A120
    clear A120
    replace H := Option.bind_eq_some_iff.mp H
    obtain ⟨t222, A130, H⟩ := H
    replace H : ((laws_toCoded.f k a1_0 l1_1).bind fun bt225 => ((impl_TakeSymbol.f k t222 bt225.1 bt225.2).bind fun bt230 => (if bt230.1 = t215 then ((laws_eqCoded.f k bt230.2.1 bt230.2.2.1 t216 t217).bind fun t237 => (if t237 = true then (laws_FnExactTakeSymbol.j0 k l0 t215 t220 t222 bt230.1 bt230.2.2.2 (bt230.2.2.2 != t220) a1_0 l1_1 t216 t217 bt225.1 bt225.2 bt230.2.1 bt230.2.2.1) else (laws_FnExactTakeSymbol.j0 k l0 t215 t220 t222 bt230.1 bt230.2.2.2 true a1_0 l1_1 t216 t217 bt225.1 bt225.2 bt230.2.1 bt230.2.2.1))) else (laws_FnExactTakeSymbol.j0 k l0 t215 t220 t222 bt230.1 bt230.2.2.2 true a1_0 l1_1 t216 t217 bt225.1 bt225.2 bt230.2.1 bt230.2.2.1)))) = some r := H
    have A13 := Aside0.mk A130
    clear A130
    replace H := Option.bind_eq_some_iff.mp H
    obtain ⟨⟨t225, t226⟩, A140, H⟩ := H
    replace H : ((impl_TakeSymbol.f k t222 t225 t226).bind fun bt230 => (if bt230.1 = t215 then ((laws_eqCoded.f k bt230.2.1 bt230.2.2.1 t216 t217).bind fun t237 => (if t237 = true then (laws_FnExactTakeSymbol.j0 k l0 t215 t220 t222 bt230.1 bt230.2.2.2 (bt230.2.2.2 != t220) a1_0 l1_1 t216 t217 t225 t226 bt230.2.1 bt230.2.2.1) else (laws_FnExactTakeSymbol.j0 k l0 t215 t220 t222 bt230.1 bt230.2.2.2 true a1_0 l1_1 t216 t217 t225 t226 bt230.2.1 bt230.2.2.1))) else (laws_FnExactTakeSymbol.j0 k l0 t215 t220 t222 bt230.1 bt230.2.2.2 true a1_0 l1_1 t216 t217 t225 t226 bt230.2.1 bt230.2.2.1))) = some r := H
    have A14 := Aside0.mk A140
    clear A140
    replace H := Option.bind_eq_some_iff.mp H
    obtain ⟨⟨t230, t231, t232, t235⟩, A150, H⟩ := H
    replace H : (if t230 = t215 then ((laws_eqCoded.f k t231 t232 t216 t217).bind fun t237 => (if t237 = true then (laws_FnExactTakeSymbol.j0 k l0 t215 t220 t222 t230 t235 (t235 != t220) a1_0 l1_1 t216 t217 t225 t226 t231 t232) else (laws_FnExactTakeSymbol.j0 k l0 t215 t220 t222 t230 t235 true a1_0 l1_1 t216 t217 t225 t226 t231 t232))) else (laws_FnExactTakeSymbol.j0 k l0 t215 t220 t222 t230 t235 true a1_0 l1_1 t216 t217 t225 t226 t231 t232)) = some r := H
    have A15 := Aside0.mk A150
    clear A150
    have HC16 := Aside0.mk H
    clear H
    go_enter Try.func7, Try.ntmps7
    try go_wp2_with (first | ((with_reducible refine gate_dst (N := 3) rfl ?_); refine box_event ?hg (N := 3) ?hd (cs := #[.int .i64 a1_0, .slice A1_1 l1_1.length c1_1]) (t := 47) ?hr ?_; (case hd => rfl); (case hg => rfl); (case hr => first | (go_simp; done) | (go_simp; rfl)); intro gb206 hg w17 hbox hb; have BK206 := xM (hbox); have GW206 := xM ((by rw [hg]; exact (below_size (yh HB)) : w.heap.size ≤ gb206)); have GE206 := xM ((by rw [hg]; exact (below_size (yh HB)) : w.heap.size ≤ gb206)); replace HB := xM (below_step (yh HB) hb); clear hb hbox hg; have hcz18_0 : w17.cell? ⟨gb206, 0, none⟩ = some (.int .i64 a1_0) := (blk_cell BK206.out 0).trans rfl; have hcz18_1 : w17.cell? ⟨gb206, 1, none⟩ = some (.slice A1_1 l1_1.length c1_1) := (blk_cell BK206.out 1).trans rfl; have hfz18_0 := blk_frozen BK206.out 0; have hfz18_1 := blk_frozen BK206.out 1) | ((with_reducible refine gate_callee (f := 31) rfl ?_); refine goesL_ (some 25) rfl rfl Try.func31 (by kernel_rfl) rfl #[.agg #[.int .i64 a1_0, .slice A1_1 l1_1.length c1_1], .int .i64 1048576] rfl (by (try simp only [List.map_toArray, List.map_cons, List.map_nil]); first | done | rfl | (simp only [List.length_drop, List.length_take]; rfl)) ?_; (with_reducible refine (laws_szCoded.calls a1_0 _ _ l1_1 1048576 t207 _ ?side1 ?side2 A5.out).mono ?_); (case side1 => repeat (first | exact (Kd.C_below HR1_1.out HB.out) | (with_reducible refine Kd.C_alloc ?_ _) | (with_reducible refine Kd.C_drewN ?_ _) | (with_reducible refine Kd.C_drew ?_))); (case side2 => exact HC1_1.out); rintro e w19 ⟨rfl, hb⟩; refine ⟨_, rfl, ?_⟩; replace BK206 := xM (xB (yb BK206) hb); replace HB := xM (below_step (yh HB) hb); (try clear hb)))
    replace BK206 := xM (blk_drew BK206.out)
    replace HB := xM (below_drew1 HB.out)
    refine start_ (n := 13) (S := fun w' => w'.cell? ⟨gb206, 0, none⟩ = some (.int .i64 a1_0) ∧ w'.cell? ⟨gb206, 1, none⟩ = some (.slice A1_1 l1_1.length c1_1)) (ds := []) #[false, false, false, false, false, false, false, false, false, false, false, false, false] (by kernel_rfl) rfl rfl ⟨(blk_cell BK206.out 0).trans rfl, (blk_cell BK206.out 1).trans rfl⟩ (fun hHeld => ?_); refine with_tabW laws_FnExactTakeSymbol.tab7 laws_FnExactTakeSymbol.bits7 (fun HT_ HW_ => ?_)
    generalize w19.drew = w20 at BK206 HB hHeld ⊢
    refine pure_ (i := 0) (N := some 29) (v := ?_) (a' := ?_) #[true, false, false, false, false, false, false, false, false, false, false, false, false] rfl rfl (any_of HT_.out (by kernel_rfl)) (fun _ _ _ h => h) (Or.inl ⟨by rfl, ?_⟩) ?_ ?_
    rotate_left
    ·intro w'
     go_simp
     with_reducible rfl
    rotate_left
    ·simp only [Act.put, List.setIfInBounds_toArray, List.set_cons_zero, List.set_cons_succ, i64_w, i32_w]
     rfl
    refine take_ (i := 2) (N := some 31) (v := ?_) (a' := ?_) #[true, false, true, false, false, false, false, false, false, false, false, false, false] rfl rfl (take_ofW HT_.out HW_.out (by kernel_rfl)) (fun _ _ _ h => h) (Or.inl ⟨by rfl, ?_⟩) hHeld ?_ ?_
    rotate_left
    ·rintro w' ⟨s0, s1⟩
     go_simp
     with_reducible rfl
    rotate_left
    ·simp only [Act.put, List.setIfInBounds_toArray, List.set_cons_zero, List.set_cons_succ, i64_w, i32_w]
     rfl
    refine join_ (σ := Value × Value × Value × Nat) 3 #[true, true, true, true, true, true, true, true, true, true, false, false, false] (fun s_ => [(30, s_.1), (32, .agg #[.int .i64 t211, s_.2.1]), (33, .tuple #[.int .i64 t215, .agg #[.int .i64 t216, s_.2.2.1], .bool t220]), (7, .pointer (some ⟨s_.2.2.2, 0, none⟩)), (28, .tuple #[.int .i64 t215, .agg #[.int .i64 t216, s_.2.2.1], .bool t220]), (34, .int .i64 t215), (35, .agg #[.int .i64 t216, s_.2.2.1]), (36, .bool t220)]) (fun s_ w' => (w'.cell? ⟨gb206, 0, none⟩ = some (.int .i64 a1_0) ∧ w'.cell? ⟨gb206, 1, none⟩ = some (.slice A1_1 l1_1.length c1_1)) ∧ (Kd.R (Kd.int .i64) 3 w' w.heap.size (fun k_ => some k_ ≠ (s_.2.1 : Value).ownBlock ∧ some k_ ≠ (s_.2.2.1 : Value).ownBlock) s_.1 t208) ∧ (Kd.R (Kd.int .i64) 3 w' w.heap.size (fun k_ => some k_ ≠ (s_.1 : Value).ownBlock ∧ some k_ ≠ (s_.2.2.1 : Value).ownBlock) s_.2.1 t212) ∧ (Kd.R (Kd.int .i64) 3 w' w.heap.size (fun k_ => some k_ ≠ (s_.1 : Value).ownBlock ∧ some k_ ≠ (s_.2.1 : Value).ownBlock) s_.2.2.1 t217) ∧ (w'.heap[gb206]? = some (.cells #[.int .i64 a1_0, .slice A1_1 l1_1.length c1_1] 47 (0, 0))) ∧ (w'.heap[s_.2.2.2]? = some (.cells #[.int .i64 0, .slice none 0 0] 33 (0, 0))) ∧ (w.heap.size ≤ s_.2.2.2) ∧ (w.heap.size ≤ s_.2.2.2) ∧ (gb206 ≠ s_.2.2.2) ∧ (s_.2.2.2 ≠ gb206) ∧ (Below w.heap.size w w')) ?_ ?_
    rotate_left
    ·intro hCont
     refine two_ (i := 1) (j := 9) (Ni := some 30) (Nj := some 7) #[true, true, true, false, false, false, false, false, false, false, false, false, false] #[true, false, true, false, false, false, false, false, false, true, false, false, false] rfl rfl rfl rfl (two_of HT_.out (by kernel_rfl)) (by decide) (by decide) (fun K hK => ?_) (fun K hK => ?_)
     ·skip
      refine goes_ Try.func14 (by kernel_rfl) rfl #[.slice A0 l0.length c0] (by rfl) rfl rfl (by (try simp only [List.map_toArray, List.map_cons, List.map_nil]); first | done | rfl | (simp only [List.length_drop, List.length_take]; rfl)) ?_
      with_reducible refine (laws_toIntS.calls k _ _ l0 t208 _ ?side1 ?side2 A10.out).mono ?_
      (case side1 => repeat (first | exact (Kd.C_below HR0.out HB.out) | (with_reducible refine Kd.C_alloc ?_ _) | (with_reducible refine Kd.C_drewN ?_ _) | (with_reducible refine Kd.C_drew ?_)))
      (case side2 => exact HC0.out)
      rintro e w21 ⟨v209, rfl, ho0, hb⟩
      refine ⟨_, rfl, ?_⟩
      have HO210 := xM (Kd.R_lower ho0 (below_size (yh HB)))
      replace BK206 := xM (xB (yb BK206) hb)
      replace HB := xM (below_step (yh HB) hb)
      (try clear hb)
      (try clear hb2)
      (try clear hk)
      (try clear hi)
      (try clear ho0)
      refine hK.out _ _ ⟨(blk_cell BK206.out 0).trans rfl, (blk_cell BK206.out 1).trans rfl⟩ (fun hHeld => ?_)
      clear hK K
      refine norm_ (a' := ?_) ?_ ?_
      rotate_left
      ·show Act.put _ (some 30) _ = _
       simp only [Act.put, List.setIfInBounds_toArray, List.set_cons_zero, List.set_cons_succ, i64_w, i32_w]
       rfl
      refine two_ (i := 3) (j := 9) (Ni := some 32) (Nj := some 7) #[true, true, true, true, false, false, false, false, false, false, false, false, false] #[true, true, true, false, false, false, false, false, false, true, false, false, false] rfl rfl rfl rfl (two_of HT_.out (by kernel_rfl)) (by decide) (by decide) (fun K hK => ?_) (fun K hK => ?_)
      ·skip
       refine goes_ Try.func33 (by kernel_rfl) rfl #[.agg #[.int .i64 a1_0, .slice A1_1 l1_1.length c1_1]] (by rfl) rfl rfl (by (try simp only [List.map_toArray, List.map_cons, List.map_nil]); first | done | rfl | (simp only [List.length_drop, List.length_take]; rfl)) ?_
       with_reducible refine (laws_toCoded.calls k a1_0 _ _ l1_1 t211 t212 _ ?side1 ?side2 A11.out).mono ?_
       (case side1 => repeat (first | exact (Kd.C_below HR1_1.out HB.out) | (with_reducible refine Kd.C_alloc ?_ _) | (with_reducible refine Kd.C_drewN ?_ _) | (with_reducible refine Kd.C_drew ?_)))
       (case side2 => exact HC1_1.out)
       rintro e w22 ⟨v213, rfl, ho0, hb⟩
       refine ⟨_, rfl, ?_⟩
       have HO214 := xM (Kd.R_lower (Kd.R_new' ho0 (xL (yR HO210))) (below_size (yh HB)))
       replace HO210 := xM (Kd.R_elder' (yR HO210) (Kd.R_base ho0) hb)
       replace BK206 := xM (xB (yb BK206) hb)
       replace HB := xM (below_step (yh HB) hb)
       (try clear hb)
       (try clear hb2)
       (try clear hk)
       (try clear hi)
       (try clear ho0)
       obtain ⟨Ao23, co23, eo23⟩ := Kd.R_slice HO210.out
       (first | subst eo23 | (injection eo23 with f1_ f2_ f3_; have f4_ := f1_.symm; have f5_ := f3_.symm; clear f1_ f2_ f3_; subst f4_; subst f5_))
       obtain ⟨Ao24, co24, eo24⟩ := Kd.R_slice HO214.out
       (first | subst eo24 | (injection eo24 with f1_ f2_ f3_; have f4_ := f1_.symm; have f5_ := f3_.symm; clear f1_ f2_ f3_; subst f4_; subst f5_))
       refine hK.out _ _ ⟨(blk_cell BK206.out 0).trans rfl, (blk_cell BK206.out 1).trans rfl⟩ (fun hHeld => ?_)
       clear hK K
       refine norm_ (a' := ?_) ?_ ?_
       rotate_left
       ·show Act.put _ (some 32) _ = _
        simp only [Act.put, List.setIfInBounds_toArray, List.set_cons_zero, List.set_cons_succ, i64_w, i32_w]
        rfl
       refine two_ (i := 4) (j := 9) (Ni := some 33) (Nj := some 7) #[true, true, true, true, true, false, false, false, false, false, false, false, false] #[true, true, true, true, false, false, false, false, false, true, false, false, false] rfl rfl rfl rfl (two_of HT_.out (by kernel_rfl)) (by decide) (by decide) (fun K hK => ?_) (fun K hK => ?_)
       ·skip
        refine goes_ Try.func32 (by kernel_rfl) rfl #[.slice Ao23 t208.length co23, .agg #[.int .i64 t211, .slice Ao24 t212.length co24]] (by rfl) rfl rfl (by (try simp only [List.map_toArray, List.map_cons, List.map_nil]); first | done | rfl | (simp only [List.length_drop, List.length_take]; rfl)) ?_
        with_reducible refine (spec_TakeSymbol.calls k _ _ t208 t211 _ _ t212 t215 t216 t217 t220 _ ?side1 ?side2 ?side3 ?side4 A12.out).mono ?_
        (case side1 => repeat (first | exact (Kd.R_reads' HO210.out).2.2 | (with_reducible refine Kd.C_alloc ?_ _) | (with_reducible refine Kd.C_drewN ?_ _) | (with_reducible refine Kd.C_drew ?_)))
        (case side2 => exact (Kd.R_reads' HO210.out).2.1)
        (case side3 => repeat (first | exact (Kd.R_reads' HO214.out).2.2 | (with_reducible refine Kd.C_alloc ?_ _) | (with_reducible refine Kd.C_drewN ?_ _) | (with_reducible refine Kd.C_drew ?_)))
        (case side4 => exact (Kd.R_reads' HO214.out).2.1)
        rintro e w25 ⟨v218, rfl, ho0, hb⟩
        refine ⟨_, rfl, ?_⟩
        have HO219 := xM (Kd.R_lower (Kd.R_new' (Kd.R_new' ho0 (xL (yR HO210))) (xL (yR HO214))) (below_size (yh HB)))
        replace HO210 := xM (Kd.R_elder' (yR HO210) (Kd.R_base ho0) hb)
        replace HO214 := xM (Kd.R_elder' (yR HO214) (Kd.R_base ho0) hb)
        replace BK206 := xM (xB (yb BK206) hb)
        replace HB := xM (below_step (yh HB) hb)
        (try clear hb)
        (try clear hb2)
        (try clear hk)
        (try clear hi)
        (try clear ho0)
        refine hK.out _ _ ⟨(blk_cell BK206.out 0).trans rfl, (blk_cell BK206.out 1).trans rfl⟩ (fun hHeld => ?_)
        clear hK K
        refine norm_ (a' := ?_) ?_ ?_
        rotate_left
        ·show Act.put _ (some 33) _ = _
         simp only [Act.put, List.setIfInBounds_toArray, List.set_cons_zero, List.set_cons_succ, i64_w, i32_w]
         rfl
        refine pure_ (i := 5) (N := some 28) (v := ?_) (a' := ?_) #[true, true, true, true, true, true, false, false, false, false, false, false, false] rfl rfl (any_of HT_.out (by kernel_rfl)) (fun _ _ _ h => h) (Or.inl ⟨by rfl, ?_⟩) ?_ ?_
        rotate_left
        ·intro w'
         go_simp
         with_reducible rfl
        rotate_left
        ·simp only [Act.put, List.setIfInBounds_toArray, List.set_cons_zero, List.set_cons_succ, i64_w, i32_w]
         rfl
        refine pure_ (i := 6) (N := some 34) (v := ?_) (a' := ?_) #[true, true, true, true, true, true, true, false, false, false, false, false, false] rfl rfl (any_of HT_.out (by kernel_rfl)) (fun _ _ _ h => h) (Or.inl ⟨by rfl, ?_⟩) ?_ ?_
        rotate_left
        ·intro w'
         go_simp
         with_reducible rfl
        rotate_left
        ·simp only [Act.put, List.setIfInBounds_toArray, List.set_cons_zero, List.set_cons_succ, i64_w, i32_w]
         rfl
        refine pure_ (i := 7) (N := some 35) (v := ?_) (a' := ?_) #[true, true, true, true, true, true, true, true, false, false, false, false, false] rfl rfl (any_of HT_.out (by kernel_rfl)) (fun _ _ _ h => h) (Or.inl ⟨by rfl, ?_⟩) ?_ ?_
        rotate_left
        ·intro w'
         go_simp
         with_reducible rfl
        rotate_left
        ·simp only [Act.put, List.setIfInBounds_toArray, List.set_cons_zero, List.set_cons_succ, i64_w, i32_w]
         rfl
        refine pure_ (i := 8) (N := some 36) (v := ?_) (a' := ?_) #[true, true, true, true, true, true, true, true, true, false, false, false, false] rfl rfl (any_of HT_.out (by kernel_rfl)) (fun _ _ _ h => h) (Or.inl ⟨by rfl, ?_⟩) ?_ ?_
        rotate_left
        ·intro w'
         go_simp
         with_reducible rfl
        rotate_left
        ·simp only [Act.put, List.setIfInBounds_toArray, List.set_cons_zero, List.set_cons_succ, i64_w, i32_w]
         rfl
        refine one_ (i := 9) (N := some 7) #[true, true, true, true, true, true, true, true, true, true, false, false, false] rfl rfl (one_of HT_.out (by kernel_rfl)) (by decide) (fun K hK => ?_)
        refine box_step ?hg (N := 7) ?hd (cs := #[.int .i64 0, .slice none 0 0]) (t := 33) ?hr ?_; (case hd => rfl); (case hg => rfl); (case hr => first | (go_simp; done) | (go_simp; rfl))
        intro gb221 hg w26 hbox hb
        have BK221 := xM (hbox)
        have GW221 := xM ((by rw [hg]; exact (below_size (yh HB)) : w.heap.size ≤ gb221))
        have GE221 := xM ((by rw [hg]; exact (below_size (yh HB)) : w.heap.size ≤ gb221))
        have NB206_221 := xM ((by rw [hg]; exact Nat.ne_of_lt (blk_lt (yb BK206)) : gb206 ≠ gb221))
        have NB221_206 := xM ((by rw [hg]; exact Nat.ne_of_gt (blk_lt (yb BK206)) : gb221 ≠ gb206))
        replace HO210 := xM (xW (yR HO210) hb)
        replace HO214 := xM (xW (yR HO214) hb)
        replace HO219 := xM (xW (yR HO219) hb)
        replace BK206 := xM (xB (yb BK206) hb)
        replace HB := xM (below_step (yh HB) hb)
        clear hb hbox hg
        refine hK.out _ _ ⟨(blk_cell BK206.out 0).trans rfl, (blk_cell BK206.out 1).trans rfl⟩ (fun hHeld => ?_)
        clear hK K
        refine norm_ (a' := ?_) ?_ ?_
        rotate_left
        ·show Act.put _ (some 7) _ = _
         simp only [Act.put, List.setIfInBounds_toArray, List.set_cons_zero, List.set_cons_succ, i64_w, i32_w]
         rfl
        exact norm_ (by simp only [putAll, Act.put, List.setIfInBounds_toArray, List.set_cons_zero, List.set_cons_succ]) (hCont (.slice Ao23 t208.length co23, .slice Ao24 t212.length co24, v218, gb221) _ ⟨hHeld, (by (with_reducible repeat (first | apply xRA | apply xRN | apply xRD)); exact Kd.R_mono HO210.out (fun _ hk => ⟨hk.1.2, hk.2⟩)), (by (with_reducible repeat (first | apply xRA | apply xRN | apply xRD)); exact Kd.R_mono HO214.out (fun _ hk => ⟨hk.1.2, hk.2⟩)), (by (with_reducible repeat (first | apply xRA | apply xRN | apply xRD)); exact Kd.R_mono HO219.out (fun _ hk => ⟨hk.1.2, hk.2⟩)), (yb BK206), (yb BK221), GW221.out, GE221.out, NB206_221.out, NB221_206.out, (yh HB)⟩)
       ·skip
        refine box_step ?hg (N := 7) ?hd (cs := #[.int .i64 0, .slice none 0 0]) (t := 33) ?hr ?_; (case hd => rfl); (case hg => rfl); (case hr => first | (go_simp; done) | (go_simp; rfl))
        intro gb221 hg w23 hbox hb
        have BK221 := xM (hbox)
        have GW221 := xM ((by rw [hg]; exact (below_size (yh HB)) : w.heap.size ≤ gb221))
        have GE221 := xM ((by rw [hg]; exact (below_size (yh HB)) : w.heap.size ≤ gb221))
        have NB206_221 := xM ((by rw [hg]; exact Nat.ne_of_lt (blk_lt (yb BK206)) : gb206 ≠ gb221))
        have NB221_206 := xM ((by rw [hg]; exact Nat.ne_of_gt (blk_lt (yb BK206)) : gb221 ≠ gb206))
        replace HO210 := xM (xW (yR HO210) hb)
        replace HO214 := xM (xW (yR HO214) hb)
        replace BK206 := xM (xB (yb BK206) hb)
        replace HB := xM (below_step (yh HB) hb)
        clear hb hbox hg
        obtain ⟨Ao24, co24, eo24⟩ := Kd.R_slice HO210.out
        (first | subst eo24 | (injection eo24 with f1_ f2_ f3_; have f4_ := f1_.symm; have f5_ := f3_.symm; clear f1_ f2_ f3_; subst f4_; subst f5_))
        obtain ⟨Ao25, co25, eo25⟩ := Kd.R_slice HO214.out
        (first | subst eo25 | (injection eo25 with f1_ f2_ f3_; have f4_ := f1_.symm; have f5_ := f3_.symm; clear f1_ f2_ f3_; subst f4_; subst f5_))
        refine hK.out _ _ ⟨(blk_cell BK206.out 0).trans rfl, (blk_cell BK206.out 1).trans rfl⟩ (fun hHeld => ?_)
        clear hK K
        refine norm_ (a' := ?_) ?_ ?_
        rotate_left
        ·show Act.put _ (some 7) _ = _
         simp only [Act.put, List.setIfInBounds_toArray, List.set_cons_zero, List.set_cons_succ, i64_w, i32_w]
         rfl
        refine one_ (i := 4) (N := some 33) #[true, true, true, true, true, false, false, false, false, true, false, false, false] rfl rfl (one_of HT_.out (by kernel_rfl)) (by decide) (fun K hK => ?_)
        refine goes_ Try.func32 (by kernel_rfl) rfl #[.slice Ao24 t208.length co24, .agg #[.int .i64 t211, .slice Ao25 t212.length co25]] (by rfl) rfl rfl (by (try simp only [List.map_toArray, List.map_cons, List.map_nil]); first | done | rfl | (simp only [List.length_drop, List.length_take]; rfl)) ?_
        with_reducible refine (spec_TakeSymbol.calls k _ _ t208 t211 _ _ t212 t215 t216 t217 t220 _ ?side1 ?side2 ?side3 ?side4 A12.out).mono ?_
        (case side1 => repeat (first | exact (Kd.R_reads' HO210.out).2.2 | (with_reducible refine Kd.C_alloc ?_ _) | (with_reducible refine Kd.C_drewN ?_ _) | (with_reducible refine Kd.C_drew ?_)))
        (case side2 => exact (Kd.R_reads' HO210.out).2.1)
        (case side3 => repeat (first | exact (Kd.R_reads' HO214.out).2.2 | (with_reducible refine Kd.C_alloc ?_ _) | (with_reducible refine Kd.C_drewN ?_ _) | (with_reducible refine Kd.C_drew ?_)))
        (case side4 => exact (Kd.R_reads' HO214.out).2.1)
        rintro e w26 ⟨v218, rfl, ho0, hb⟩
        refine ⟨_, rfl, ?_⟩
        have HO219 := xM (Kd.R_lower (Kd.R_new' (Kd.R_new' ho0 (xL (yR HO210))) (xL (yR HO214))) (below_size (yh HB)))
        replace HO210 := xM (Kd.R_elder' (yR HO210) (Kd.R_base ho0) hb)
        replace HO214 := xM (Kd.R_elder' (yR HO214) (Kd.R_base ho0) hb)
        replace BK206 := xM (xB (yb BK206) hb)
        replace BK221 := xM (xB (yb BK221) hb)
        replace HB := xM (below_step (yh HB) hb)
        (try clear hb)
        (try clear hb2)
        (try clear hk)
        (try clear hi)
        (try clear ho0)
        refine hK.out _ _ ⟨(blk_cell BK206.out 0).trans rfl, (blk_cell BK206.out 1).trans rfl⟩ (fun hHeld => ?_)
        clear hK K
        refine norm_ (a' := ?_) ?_ ?_
        rotate_left
        ·show Act.put _ (some 33) _ = _
         simp only [Act.put, List.setIfInBounds_toArray, List.set_cons_zero, List.set_cons_succ, i64_w, i32_w]
         rfl
        refine pure_ (i := 5) (N := some 28) (v := ?_) (a' := ?_) #[true, true, true, true, true, true, false, false, false, true, false, false, false] rfl rfl (any_of HT_.out (by kernel_rfl)) (fun _ _ _ h => h) (Or.inl ⟨by rfl, ?_⟩) ?_ ?_
        rotate_left
        ·intro w'
         go_simp
         with_reducible rfl
        rotate_left
        ·simp only [Act.put, List.setIfInBounds_toArray, List.set_cons_zero, List.set_cons_succ, i64_w, i32_w]
         rfl
        refine pure_ (i := 6) (N := some 34) (v := ?_) (a' := ?_) #[true, true, true, true, true, true, true, false, false, true, false, false, false] rfl rfl (any_of HT_.out (by kernel_rfl)) (fun _ _ _ h => h) (Or.inl ⟨by rfl, ?_⟩) ?_ ?_
        rotate_left
        ·intro w'
         go_simp
         with_reducible rfl
        rotate_left
        ·simp only [Act.put, List.setIfInBounds_toArray, List.set_cons_zero, List.set_cons_succ, i64_w, i32_w]
         rfl
        refine pure_ (i := 7) (N := some 35) (v := ?_) (a' := ?_) #[true, true, true, true, true, true, true, true, false, true, false, false, false] rfl rfl (any_of HT_.out (by kernel_rfl)) (fun _ _ _ h => h) (Or.inl ⟨by rfl, ?_⟩) ?_ ?_
        rotate_left
        ·intro w'
         go_simp
         with_reducible rfl
        rotate_left
        ·simp only [Act.put, List.setIfInBounds_toArray, List.set_cons_zero, List.set_cons_succ, i64_w, i32_w]
         rfl
        refine pure_ (i := 8) (N := some 36) (v := ?_) (a' := ?_) #[true, true, true, true, true, true, true, true, true, true, false, false, false] rfl rfl (any_of HT_.out (by kernel_rfl)) (fun _ _ _ h => h) (Or.inl ⟨by rfl, ?_⟩) ?_ ?_
        rotate_left
        ·intro w'
         go_simp
         with_reducible rfl
        rotate_left
        ·simp only [Act.put, List.setIfInBounds_toArray, List.set_cons_zero, List.set_cons_succ, i64_w, i32_w]
         rfl
        exact norm_ (by simp only [putAll, Act.put, List.setIfInBounds_toArray, List.set_cons_zero, List.set_cons_succ]) (hCont (.slice Ao24 t208.length co24, .slice Ao25 t212.length co25, v218, gb221) _ ⟨hHeld, (by (with_reducible repeat (first | apply xRA | apply xRN | apply xRD)); exact Kd.R_mono HO210.out (fun _ hk => ⟨hk.1.2, hk.2⟩)), (by (with_reducible repeat (first | apply xRA | apply xRN | apply xRD)); exact Kd.R_mono HO214.out (fun _ hk => ⟨hk.1.2, hk.2⟩)), (by (with_reducible repeat (first | apply xRA | apply xRN | apply xRD)); exact Kd.R_mono HO219.out (fun _ hk => ⟨hk.1.2, hk.2⟩)), (yb BK206), (yb BK221), GW221.out, GE221.out, NB206_221.out, NB221_206.out, (yh HB)⟩)
      ·skip
       refine box_step ?hg (N := 7) ?hd (cs := #[.int .i64 0, .slice none 0 0]) (t := 33) ?hr ?_; (case hd => rfl); (case hg => rfl); (case hr => first | (go_simp; done) | (go_simp; rfl))
       intro gb221 hg w22 hbox hb
       have BK221 := xM (hbox)
       have GW221 := xM ((by rw [hg]; exact (below_size (yh HB)) : w.heap.size ≤ gb221))
       have GE221 := xM ((by rw [hg]; exact (below_size (yh HB)) : w.heap.size ≤ gb221))
       have NB206_221 := xM ((by rw [hg]; exact Nat.ne_of_lt (blk_lt (yb BK206)) : gb206 ≠ gb221))
       have NB221_206 := xM ((by rw [hg]; exact Nat.ne_of_gt (blk_lt (yb BK206)) : gb221 ≠ gb206))
       replace HO210 := xM (xW (yR HO210) hb)
       replace BK206 := xM (xB (yb BK206) hb)
       replace HB := xM (below_step (yh HB) hb)
       clear hb hbox hg
       refine hK.out _ _ ⟨(blk_cell BK206.out 0).trans rfl, (blk_cell BK206.out 1).trans rfl⟩ (fun hHeld => ?_)
       clear hK K
       refine norm_ (a' := ?_) ?_ ?_
       rotate_left
       ·show Act.put _ (some 7) _ = _
        simp only [Act.put, List.setIfInBounds_toArray, List.set_cons_zero, List.set_cons_succ, i64_w, i32_w]
        rfl
       refine one_ (i := 3) (N := some 32) #[true, true, true, true, false, false, false, false, false, true, false, false, false] rfl rfl (one_of HT_.out (by kernel_rfl)) (by decide) (fun K hK => ?_)
       refine goes_ Try.func33 (by kernel_rfl) rfl #[.agg #[.int .i64 a1_0, .slice A1_1 l1_1.length c1_1]] (by rfl) rfl rfl (by (try simp only [List.map_toArray, List.map_cons, List.map_nil]); first | done | rfl | (simp only [List.length_drop, List.length_take]; rfl)) ?_
       with_reducible refine (laws_toCoded.calls k a1_0 _ _ l1_1 t211 t212 _ ?side1 ?side2 A11.out).mono ?_
       (case side1 => repeat (first | exact (Kd.C_below HR1_1.out HB.out) | (with_reducible refine Kd.C_alloc ?_ _) | (with_reducible refine Kd.C_drewN ?_ _) | (with_reducible refine Kd.C_drew ?_)))
       (case side2 => exact HC1_1.out)
       rintro e w23 ⟨v213, rfl, ho0, hb⟩
       refine ⟨_, rfl, ?_⟩
       have HO214 := xM (Kd.R_lower (Kd.R_new' ho0 (xL (yR HO210))) (below_size (yh HB)))
       replace HO210 := xM (Kd.R_elder' (yR HO210) (Kd.R_base ho0) hb)
       replace BK206 := xM (xB (yb BK206) hb)
       replace BK221 := xM (xB (yb BK221) hb)
       replace HB := xM (below_step (yh HB) hb)
       (try clear hb)
       (try clear hb2)
       (try clear hk)
       (try clear hi)
       (try clear ho0)
       obtain ⟨Ao24, co24, eo24⟩ := Kd.R_slice HO210.out
       (first | subst eo24 | (injection eo24 with f1_ f2_ f3_; have f4_ := f1_.symm; have f5_ := f3_.symm; clear f1_ f2_ f3_; subst f4_; subst f5_))
       obtain ⟨Ao25, co25, eo25⟩ := Kd.R_slice HO214.out
       (first | subst eo25 | (injection eo25 with f1_ f2_ f3_; have f4_ := f1_.symm; have f5_ := f3_.symm; clear f1_ f2_ f3_; subst f4_; subst f5_))
       refine hK.out _ _ ⟨(blk_cell BK206.out 0).trans rfl, (blk_cell BK206.out 1).trans rfl⟩ (fun hHeld => ?_)
       clear hK K
       refine norm_ (a' := ?_) ?_ ?_
       rotate_left
       ·show Act.put _ (some 32) _ = _
        simp only [Act.put, List.setIfInBounds_toArray, List.set_cons_zero, List.set_cons_succ, i64_w, i32_w]
        rfl
       refine one_ (i := 4) (N := some 33) #[true, true, true, true, true, false, false, false, false, true, false, false, false] rfl rfl (one_of HT_.out (by kernel_rfl)) (by decide) (fun K hK => ?_)
       refine goes_ Try.func32 (by kernel_rfl) rfl #[.slice Ao24 t208.length co24, .agg #[.int .i64 t211, .slice Ao25 t212.length co25]] (by rfl) rfl rfl (by (try simp only [List.map_toArray, List.map_cons, List.map_nil]); first | done | rfl | (simp only [List.length_drop, List.length_take]; rfl)) ?_
       with_reducible refine (spec_TakeSymbol.calls k _ _ t208 t211 _ _ t212 t215 t216 t217 t220 _ ?side1 ?side2 ?side3 ?side4 A12.out).mono ?_
       (case side1 => repeat (first | exact (Kd.R_reads' HO210.out).2.2 | (with_reducible refine Kd.C_alloc ?_ _) | (with_reducible refine Kd.C_drewN ?_ _) | (with_reducible refine Kd.C_drew ?_)))
       (case side2 => exact (Kd.R_reads' HO210.out).2.1)
       (case side3 => repeat (first | exact (Kd.R_reads' HO214.out).2.2 | (with_reducible refine Kd.C_alloc ?_ _) | (with_reducible refine Kd.C_drewN ?_ _) | (with_reducible refine Kd.C_drew ?_)))
       (case side4 => exact (Kd.R_reads' HO214.out).2.1)
       rintro e w26 ⟨v218, rfl, ho0, hb⟩
       refine ⟨_, rfl, ?_⟩
       have HO219 := xM (Kd.R_lower (Kd.R_new' (Kd.R_new' ho0 (xL (yR HO210))) (xL (yR HO214))) (below_size (yh HB)))
       replace HO210 := xM (Kd.R_elder' (yR HO210) (Kd.R_base ho0) hb)
       replace HO214 := xM (Kd.R_elder' (yR HO214) (Kd.R_base ho0) hb)
       replace BK206 := xM (xB (yb BK206) hb)
       replace BK221 := xM (xB (yb BK221) hb)
       replace HB := xM (below_step (yh HB) hb)
       (try clear hb)
       (try clear hb2)
       (try clear hk)
       (try clear hi)
       (try clear ho0)
       refine hK.out _ _ ⟨(blk_cell BK206.out 0).trans rfl, (blk_cell BK206.out 1).trans rfl⟩ (fun hHeld => ?_)
       clear hK K
       refine norm_ (a' := ?_) ?_ ?_
       rotate_left
       ·show Act.put _ (some 33) _ = _
        simp only [Act.put, List.setIfInBounds_toArray, List.set_cons_zero, List.set_cons_succ, i64_w, i32_w]
        rfl
       refine pure_ (i := 5) (N := some 28) (v := ?_) (a' := ?_) #[true, true, true, true, true, true, false, false, false, true, false, false, false] rfl rfl (any_of HT_.out (by kernel_rfl)) (fun _ _ _ h => h) (Or.inl ⟨by rfl, ?_⟩) ?_ ?_
       rotate_left
       ·intro w'
        go_simp
        with_reducible rfl
       rotate_left
       ·simp only [Act.put, List.setIfInBounds_toArray, List.set_cons_zero, List.set_cons_succ, i64_w, i32_w]
        rfl
       refine pure_ (i := 6) (N := some 34) (v := ?_) (a' := ?_) #[true, true, true, true, true, true, true, false, false, true, false, false, false] rfl rfl (any_of HT_.out (by kernel_rfl)) (fun _ _ _ h => h) (Or.inl ⟨by rfl, ?_⟩) ?_ ?_
       rotate_left
       ·intro w'
        go_simp
        with_reducible rfl
       rotate_left
       ·simp only [Act.put, List.setIfInBounds_toArray, List.set_cons_zero, List.set_cons_succ, i64_w, i32_w]
        rfl
       refine pure_ (i := 7) (N := some 35) (v := ?_) (a' := ?_) #[true, true, true, true, true, true, true, true, false, true, false, false, false] rfl rfl (any_of HT_.out (by kernel_rfl)) (fun _ _ _ h => h) (Or.inl ⟨by rfl, ?_⟩) ?_ ?_
       rotate_left
       ·intro w'
        go_simp
        with_reducible rfl
       rotate_left
       ·simp only [Act.put, List.setIfInBounds_toArray, List.set_cons_zero, List.set_cons_succ, i64_w, i32_w]
        rfl
       refine pure_ (i := 8) (N := some 36) (v := ?_) (a' := ?_) #[true, true, true, true, true, true, true, true, true, true, false, false, false] rfl rfl (any_of HT_.out (by kernel_rfl)) (fun _ _ _ h => h) (Or.inl ⟨by rfl, ?_⟩) ?_ ?_
       rotate_left
       ·intro w'
        go_simp
        with_reducible rfl
       rotate_left
       ·simp only [Act.put, List.setIfInBounds_toArray, List.set_cons_zero, List.set_cons_succ, i64_w, i32_w]
        rfl
       exact norm_ (by simp only [putAll, Act.put, List.setIfInBounds_toArray, List.set_cons_zero, List.set_cons_succ]) (hCont (.slice Ao24 t208.length co24, .slice Ao25 t212.length co25, v218, gb221) _ ⟨hHeld, (by (with_reducible repeat (first | apply xRA | apply xRN | apply xRD)); exact Kd.R_mono HO210.out (fun _ hk => ⟨hk.1.2, hk.2⟩)), (by (with_reducible repeat (first | apply xRA | apply xRN | apply xRD)); exact Kd.R_mono HO214.out (fun _ hk => ⟨hk.1.2, hk.2⟩)), (by (with_reducible repeat (first | apply xRA | apply xRN | apply xRD)); exact Kd.R_mono HO219.out (fun _ hk => ⟨hk.1.2, hk.2⟩)), (yb BK206), (yb BK221), GW221.out, GE221.out, NB206_221.out, NB221_206.out, (yh HB)⟩)
     ·skip
      refine box_step ?hg (N := 7) ?hd (cs := #[.int .i64 0, .slice none 0 0]) (t := 33) ?hr ?_; (case hd => rfl); (case hg => rfl); (case hr => first | (go_simp; done) | (go_simp; rfl))
      intro gb221 hg w21 hbox hb
      have BK221 := xM (hbox)
      have GW221 := xM ((by rw [hg]; exact (below_size (yh HB)) : w.heap.size ≤ gb221))
      have GE221 := xM ((by rw [hg]; exact (below_size (yh HB)) : w.heap.size ≤ gb221))
      have NB206_221 := xM ((by rw [hg]; exact Nat.ne_of_lt (blk_lt (yb BK206)) : gb206 ≠ gb221))
      have NB221_206 := xM ((by rw [hg]; exact Nat.ne_of_gt (blk_lt (yb BK206)) : gb221 ≠ gb206))
      replace BK206 := xM (xB (yb BK206) hb)
      replace HB := xM (below_step (yh HB) hb)
      clear hb hbox hg
      refine hK.out _ _ ⟨(blk_cell BK206.out 0).trans rfl, (blk_cell BK206.out 1).trans rfl⟩ (fun hHeld => ?_)
      clear hK K
      refine norm_ (a' := ?_) ?_ ?_
      rotate_left
      ·show Act.put _ (some 7) _ = _
       simp only [Act.put, List.setIfInBounds_toArray, List.set_cons_zero, List.set_cons_succ, i64_w, i32_w]
       rfl
      refine one_ (i := 1) (N := some 30) #[true, true, true, false, false, false, false, false, false, true, false, false, false] rfl rfl (one_of HT_.out (by kernel_rfl)) (by decide) (fun K hK => ?_)
      refine goes_ Try.func14 (by kernel_rfl) rfl #[.slice A0 l0.length c0] (by rfl) rfl rfl (by (try simp only [List.map_toArray, List.map_cons, List.map_nil]); first | done | rfl | (simp only [List.length_drop, List.length_take]; rfl)) ?_
      with_reducible refine (laws_toIntS.calls k _ _ l0 t208 _ ?side1 ?side2 A10.out).mono ?_
      (case side1 => repeat (first | exact (Kd.C_below HR0.out HB.out) | (with_reducible refine Kd.C_alloc ?_ _) | (with_reducible refine Kd.C_drewN ?_ _) | (with_reducible refine Kd.C_drew ?_)))
      (case side2 => exact HC0.out)
      rintro e w22 ⟨v209, rfl, ho0, hb⟩
      refine ⟨_, rfl, ?_⟩
      have HO210 := xM (Kd.R_lower ho0 (below_size (yh HB)))
      replace BK206 := xM (xB (yb BK206) hb)
      replace BK221 := xM (xB (yb BK221) hb)
      replace HB := xM (below_step (yh HB) hb)
      (try clear hb)
      (try clear hb2)
      (try clear hk)
      (try clear hi)
      (try clear ho0)
      refine hK.out _ _ ⟨(blk_cell BK206.out 0).trans rfl, (blk_cell BK206.out 1).trans rfl⟩ (fun hHeld => ?_)
      clear hK K
      refine norm_ (a' := ?_) ?_ ?_
      rotate_left
      ·show Act.put _ (some 30) _ = _
       simp only [Act.put, List.setIfInBounds_toArray, List.set_cons_zero, List.set_cons_succ, i64_w, i32_w]
       rfl
      refine one_ (i := 3) (N := some 32) #[true, true, true, true, false, false, false, false, false, true, false, false, false] rfl rfl (one_of HT_.out (by kernel_rfl)) (by decide) (fun K hK => ?_)
      refine goes_ Try.func33 (by kernel_rfl) rfl #[.agg #[.int .i64 a1_0, .slice A1_1 l1_1.length c1_1]] (by rfl) rfl rfl (by (try simp only [List.map_toArray, List.map_cons, List.map_nil]); first | done | rfl | (simp only [List.length_drop, List.length_take]; rfl)) ?_
      with_reducible refine (laws_toCoded.calls k a1_0 _ _ l1_1 t211 t212 _ ?side1 ?side2 A11.out).mono ?_
      (case side1 => repeat (first | exact (Kd.C_below HR1_1.out HB.out) | (with_reducible refine Kd.C_alloc ?_ _) | (with_reducible refine Kd.C_drewN ?_ _) | (with_reducible refine Kd.C_drew ?_)))
      (case side2 => exact HC1_1.out)
      rintro e w23 ⟨v213, rfl, ho0, hb⟩
      refine ⟨_, rfl, ?_⟩
      have HO214 := xM (Kd.R_lower (Kd.R_new' ho0 (xL (yR HO210))) (below_size (yh HB)))
      replace HO210 := xM (Kd.R_elder' (yR HO210) (Kd.R_base ho0) hb)
      replace BK206 := xM (xB (yb BK206) hb)
      replace BK221 := xM (xB (yb BK221) hb)
      replace HB := xM (below_step (yh HB) hb)
      (try clear hb)
      (try clear hb2)
      (try clear hk)
      (try clear hi)
      (try clear ho0)
      obtain ⟨Ao24, co24, eo24⟩ := Kd.R_slice HO210.out
      (first | subst eo24 | (injection eo24 with f1_ f2_ f3_; have f4_ := f1_.symm; have f5_ := f3_.symm; clear f1_ f2_ f3_; subst f4_; subst f5_))
      obtain ⟨Ao25, co25, eo25⟩ := Kd.R_slice HO214.out
      (first | subst eo25 | (injection eo25 with f1_ f2_ f3_; have f4_ := f1_.symm; have f5_ := f3_.symm; clear f1_ f2_ f3_; subst f4_; subst f5_))
      refine hK.out _ _ ⟨(blk_cell BK206.out 0).trans rfl, (blk_cell BK206.out 1).trans rfl⟩ (fun hHeld => ?_)
      clear hK K
      refine norm_ (a' := ?_) ?_ ?_
      rotate_left
      ·show Act.put _ (some 32) _ = _
       simp only [Act.put, List.setIfInBounds_toArray, List.set_cons_zero, List.set_cons_succ, i64_w, i32_w]
       rfl
      refine one_ (i := 4) (N := some 33) #[true, true, true, true, true, false, false, false, false, true, false, false, false] rfl rfl (one_of HT_.out (by kernel_rfl)) (by decide) (fun K hK => ?_)
      refine goes_ Try.func32 (by kernel_rfl) rfl #[.slice Ao24 t208.length co24, .agg #[.int .i64 t211, .slice Ao25 t212.length co25]] (by rfl) rfl rfl (by (try simp only [List.map_toArray, List.map_cons, List.map_nil]); first | done | rfl | (simp only [List.length_drop, List.length_take]; rfl)) ?_
      with_reducible refine (spec_TakeSymbol.calls k _ _ t208 t211 _ _ t212 t215 t216 t217 t220 _ ?side1 ?side2 ?side3 ?side4 A12.out).mono ?_
      (case side1 => repeat (first | exact (Kd.R_reads' HO210.out).2.2 | (with_reducible refine Kd.C_alloc ?_ _) | (with_reducible refine Kd.C_drewN ?_ _) | (with_reducible refine Kd.C_drew ?_)))
      (case side2 => exact (Kd.R_reads' HO210.out).2.1)
      (case side3 => repeat (first | exact (Kd.R_reads' HO214.out).2.2 | (with_reducible refine Kd.C_alloc ?_ _) | (with_reducible refine Kd.C_drewN ?_ _) | (with_reducible refine Kd.C_drew ?_)))
      (case side4 => exact (Kd.R_reads' HO214.out).2.1)
      rintro e w26 ⟨v218, rfl, ho0, hb⟩
      refine ⟨_, rfl, ?_⟩
      have HO219 := xM (Kd.R_lower (Kd.R_new' (Kd.R_new' ho0 (xL (yR HO210))) (xL (yR HO214))) (below_size (yh HB)))
      replace HO210 := xM (Kd.R_elder' (yR HO210) (Kd.R_base ho0) hb)
      replace HO214 := xM (Kd.R_elder' (yR HO214) (Kd.R_base ho0) hb)
      replace BK206 := xM (xB (yb BK206) hb)
      replace BK221 := xM (xB (yb BK221) hb)
      replace HB := xM (below_step (yh HB) hb)
      (try clear hb)
      (try clear hb2)
      (try clear hk)
      (try clear hi)
      (try clear ho0)
      refine hK.out _ _ ⟨(blk_cell BK206.out 0).trans rfl, (blk_cell BK206.out 1).trans rfl⟩ (fun hHeld => ?_)
      clear hK K
      refine norm_ (a' := ?_) ?_ ?_
      rotate_left
      ·show Act.put _ (some 33) _ = _
       simp only [Act.put, List.setIfInBounds_toArray, List.set_cons_zero, List.set_cons_succ, i64_w, i32_w]
       rfl
      refine pure_ (i := 5) (N := some 28) (v := ?_) (a' := ?_) #[true, true, true, true, true, true, false, false, false, true, false, false, false] rfl rfl (any_of HT_.out (by kernel_rfl)) (fun _ _ _ h => h) (Or.inl ⟨by rfl, ?_⟩) ?_ ?_
      rotate_left
      ·intro w'
       go_simp
       with_reducible rfl
      rotate_left
      ·simp only [Act.put, List.setIfInBounds_toArray, List.set_cons_zero, List.set_cons_succ, i64_w, i32_w]
       rfl
      refine pure_ (i := 6) (N := some 34) (v := ?_) (a' := ?_) #[true, true, true, true, true, true, true, false, false, true, false, false, false] rfl rfl (any_of HT_.out (by kernel_rfl)) (fun _ _ _ h => h) (Or.inl ⟨by rfl, ?_⟩) ?_ ?_
      rotate_left
      ·intro w'
       go_simp
       with_reducible rfl
      rotate_left
      ·simp only [Act.put, List.setIfInBounds_toArray, List.set_cons_zero, List.set_cons_succ, i64_w, i32_w]
       rfl
      refine pure_ (i := 7) (N := some 35) (v := ?_) (a' := ?_) #[true, true, true, true, true, true, true, true, false, true, false, false, false] rfl rfl (any_of HT_.out (by kernel_rfl)) (fun _ _ _ h => h) (Or.inl ⟨by rfl, ?_⟩) ?_ ?_
      rotate_left
      ·intro w'
       go_simp
       with_reducible rfl
      rotate_left
      ·simp only [Act.put, List.setIfInBounds_toArray, List.set_cons_zero, List.set_cons_succ, i64_w, i32_w]
       rfl
      refine pure_ (i := 8) (N := some 36) (v := ?_) (a' := ?_) #[true, true, true, true, true, true, true, true, true, true, false, false, false] rfl rfl (any_of HT_.out (by kernel_rfl)) (fun _ _ _ h => h) (Or.inl ⟨by rfl, ?_⟩) ?_ ?_
      rotate_left
      ·intro w'
       go_simp
       with_reducible rfl
      rotate_left
      ·simp only [Act.put, List.setIfInBounds_toArray, List.set_cons_zero, List.set_cons_succ, i64_w, i32_w]
       rfl
      exact norm_ (by simp only [putAll, Act.put, List.setIfInBounds_toArray, List.set_cons_zero, List.set_cons_succ]) (hCont (.slice Ao24 t208.length co24, .slice Ao25 t212.length co25, v218, gb221) _ ⟨hHeld, (by (with_reducible repeat (first | apply xRA | apply xRN | apply xRD)); exact Kd.R_mono HO210.out (fun _ hk => ⟨hk.1.2, hk.2⟩)), (by (with_reducible repeat (first | apply xRA | apply xRN | apply xRD)); exact Kd.R_mono HO214.out (fun _ hk => ⟨hk.1.2, hk.2⟩)), (by (with_reducible repeat (first | apply xRA | apply xRN | apply xRD)); exact Kd.R_mono HO219.out (fun _ hk => ⟨hk.1.2, hk.2⟩)), (yb BK206), (yb BK221), GW221.out, GE221.out, NB206_221.out, NB221_206.out, (yh HB)⟩)
    rintro ⟨v209, v213, v218, gb221⟩ w27 ⟨hS_, h0_, h1_, h2_, h3_, h4_, h5_, h6_, h7_, h8_, h9_⟩
    have n0_ : Aside0 (Kd.R (Kd.int .i64) 3 w27 w.heap.size (fun k_ => some k_ ≠ (v213 : Value).ownBlock ∧ some k_ ≠ (v218 : Value).ownBlock) v209 t208) := ⟨h0_⟩
    have n1_ : Aside0 (Kd.R (Kd.int .i64) 3 w27 w.heap.size (fun k_ => some k_ ≠ (v209 : Value).ownBlock ∧ some k_ ≠ (v218 : Value).ownBlock) v213 t212) := ⟨h1_⟩
    have n2_ : Aside0 (Kd.R (Kd.int .i64) 3 w27 w.heap.size (fun k_ => some k_ ≠ (v209 : Value).ownBlock ∧ some k_ ≠ (v213 : Value).ownBlock) v218 t217) := ⟨h2_⟩
    have n3_ : Aside0 (w27.heap[gb206]? = some (.cells #[.int .i64 a1_0, .slice A1_1 l1_1.length c1_1] 47 (0, 0))) := ⟨h3_⟩
    have n4_ : Aside0 (w27.heap[gb221]? = some (.cells #[.int .i64 0, .slice none 0 0] 33 (0, 0))) := ⟨h4_⟩
    have n5_ : Aside0 (w.heap.size ≤ gb221) := ⟨h5_⟩
    have n6_ : Aside0 (w.heap.size ≤ gb221) := ⟨h6_⟩
    have n7_ : Aside0 (gb206 ≠ gb221) := ⟨h7_⟩
    have n8_ : Aside0 (gb221 ≠ gb206) := ⟨h8_⟩
    have n9_ : Aside0 (Below w.heap.size w w27) := ⟨h9_⟩
    clear BK206
    clear HB
    clear h0_ h1_ h2_ h3_ h4_ h5_ h6_ h7_ h8_ h9_
    have HO210 := n0_
    have HO214 := n1_
    have HO219 := n2_
    have BK206 := n3_
    have BK221 := n4_
    have GW221 := n5_
    have GE221 := n6_
    have NB206_221 := n7_
    have NB221_206 := n8_
    have HB := n9_
    clear n0_ n1_ n2_ n3_ n4_ n5_ n6_ n7_ n8_ n9_
    have hHeld : w27.cell? ⟨gb206, 0, none⟩ = some (.int .i64 a1_0) ∧ w27.cell? ⟨gb206, 1, none⟩ = some (.slice A1_1 l1_1.length c1_1) := hS_
    obtain ⟨Ao29, co29, eo29⟩ := Kd.R_slice HO219.out
    (first | subst eo29 | (injection eo29 with f1_ f2_ f3_; have f4_ := f1_.symm; have f5_ := f3_.symm; clear f1_ f2_ f3_; subst f4_; subst f5_))
    refine norm_ (a' := ?_) ?_ ?_
    rotate_left
    ·simp only [putAll, Act.put, List.setIfInBounds_toArray, List.set_cons_zero, List.set_cons_succ]
     rfl
    refine pure_ (i := 10) (N := some 6) (v := ?_) (a' := ?_) #[true, true, true, true, true, true, true, true, true, true, true, false, false] rfl rfl (any_of HT_.out (by kernel_rfl)) (fun _ _ _ h => h) (Or.inl ⟨by rfl, ?_⟩) ?_ ?_
    rotate_left
    ·intro w'
     go_simp
     with_reducible rfl
    rotate_left
    ·simp only [Act.put, List.setIfInBounds_toArray, List.set_cons_zero, List.set_cons_succ, i64_w, i32_w]
     rfl
    refine one_ (i := 11) (N := none) #[true, true, true, true, true, true, true, true, true, true, true, true, false] rfl rfl (one_of HT_.out (by kernel_rfl)) (by decide) (fun K hK => ?_)
    have hs28 : w27.cell? ⟨gb221, 0, none⟩ = some (.int .i64 0) := (blk_cell BK221.out 0).trans rfl
    have hfs28 := blk_frozen BK221.out 0
    have hns28_0 := NB206_221.out
    have hms28_0 := NB221_206.out
    have hs30 : w27.cell? ⟨gb221, 1, none⟩ = some (.slice none 0 0) := (blk_cell BK221.out 1).trans rfl
    have hfs30 := blk_frozen BK221.out 1
    have hns30_0 := NB206_221.out
    have hms30_0 := NB221_206.out
    refine skip_ (w1 := ?_) (by rfl) rfl ?_ ?_
    rotate_left
    ·go_simp
     rfl
    refine hK.out _ _ ⟨((cell_far (p := ⟨gb221, _, none⟩) NB206_221.out _).trans (((cell_far (p := ⟨gb221, _, none⟩) NB206_221.out _).trans (hHeld.1)))), ((cell_far (p := ⟨gb221, _, none⟩) NB206_221.out _).trans (((cell_far (p := ⟨gb221, _, none⟩) NB206_221.out _).trans (hHeld.2))))⟩ (fun hHeld => ?_)
    clear hK K
    refine pure_ (i := 12) (N := some 8) (v := ?_) (a' := ?_) #[true, true, true, true, true, true, true, true, true, true, true, true, true] rfl rfl (any_of HT_.out (by kernel_rfl)) (fun _ _ _ h => h) (Or.inl ⟨by rfl, ?_⟩) ?_ ?_
    rotate_left
    ·intro w'
     go_simp
     with_reducible rfl
    rotate_left
    ·simp only [Act.put, List.setIfInBounds_toArray, List.set_cons_zero, List.set_cons_succ, i64_w, i32_w]
     rfl
    refine done_ (done_of HT_.out (by kernel_rfl)) ?_
    go_upto_region 11 with (first | ((with_reducible refine gate_callee (f := 14) rfl ?_); refine goesL_ (some 38) rfl rfl Try.func14 (by kernel_rfl) rfl #[.slice A0 l0.length c0] rfl (by (try simp only [List.map_toArray, List.map_cons, List.map_nil]); first | done | rfl | (simp only [List.length_drop, List.length_take]; rfl)) ?_; (with_reducible refine (laws_toIntS.calls k _ _ l0 t222 _ ?side1 ?side2 A13.out).mono ?_); (case side1 => exact Kd.C_below HR0.out (yh HB)); (case side2 => exact HC0.out); rintro e w31 ⟨v223, rfl, ho0, hb⟩; refine ⟨_, rfl, ?_⟩; have HO224 := xM (Kd.R_lower (Kd.R_new' (Kd.R_new' (Kd.R_new' ho0 (xL (by (with_reducible repeat (first | apply xRA | apply xRN | apply xRD)); exact (xO (xF (p := ⟨gb221, 1, none⟩) (xF (p := ⟨gb221, 0, none⟩) (Kd.R_types HO210.out BK221.out (by decide)) (fun _ hk => hk.2) (.int .i64 t216)) (fun _ hk => hk.2) (.slice Ao29 t217.length co29)) (fun _ h_ => h_.1))))) (xL (by (with_reducible repeat (first | apply xRA | apply xRN | apply xRD)); exact (xO (xF (p := ⟨gb221, 1, none⟩) (xF (p := ⟨gb221, 0, none⟩) (Kd.R_types HO214.out BK221.out (by decide)) (fun _ hk => hk.2) (.int .i64 t216)) (fun _ hk => hk.2) (.slice Ao29 t217.length co29)) (fun _ h_ => h_.1))))) (xL (by (with_reducible repeat (first | apply xRA | apply xRN | apply xRD)); exact (xO (xF (p := ⟨gb221, 1, none⟩) (xF (p := ⟨gb221, 0, none⟩) (Kd.R_types HO219.out BK221.out (by decide)) (fun _ hk => hk.2) (.int .i64 t216)) (fun _ hk => hk.2) (.slice Ao29 t217.length co29)) (fun _ h_ => h_.1))))) (below_size (yh HB))); replace HO210 := xM (Kd.R_elder' (by (with_reducible repeat (first | apply xRA | apply xRN | apply xRD)); exact (xO (xF (p := ⟨gb221, 1, none⟩) (xF (p := ⟨gb221, 0, none⟩) (Kd.R_types HO210.out BK221.out (by decide)) (fun _ hk => hk.2) (.int .i64 t216)) (fun _ hk => hk.2) (.slice Ao29 t217.length co29)) (fun _ h_ => h_.1))) (Kd.R_base ho0) hb); replace HO214 := xM (Kd.R_elder' (by (with_reducible repeat (first | apply xRA | apply xRN | apply xRD)); exact (xO (xF (p := ⟨gb221, 1, none⟩) (xF (p := ⟨gb221, 0, none⟩) (Kd.R_types HO214.out BK221.out (by decide)) (fun _ hk => hk.2) (.int .i64 t216)) (fun _ hk => hk.2) (.slice Ao29 t217.length co29)) (fun _ h_ => h_.1))) (Kd.R_base ho0) hb); replace HO219 := xM (Kd.R_elder' (by (with_reducible repeat (first | apply xRA | apply xRN | apply xRD)); exact (xO (xF (p := ⟨gb221, 1, none⟩) (xF (p := ⟨gb221, 0, none⟩) (Kd.R_types HO219.out BK221.out (by decide)) (fun _ hk => hk.2) (.int .i64 t216)) (fun _ hk => hk.2) (.slice Ao29 t217.length co29)) (fun _ h_ => h_.1))) (Kd.R_base ho0) hb); replace BK206 := xM (xB (g := gb206) (o := .cells #[.int .i64 a1_0, .slice A1_1 l1_1.length c1_1] 47 (0, 0)) (by (with_reducible repeat (first | apply xbN | apply xbD | apply xbA)); refine blk_far ?_ NB206_221.out _; (with_reducible repeat (first | apply xbN | apply xbD | apply xbA)); refine blk_far ?_ NB206_221.out _; (with_reducible repeat (first | apply xbN | apply xbD | apply xbA)); exact BK206.out) hb); replace BK221 := xM (xB (g := gb221) (o := .cells #[.int .i64 t216, .slice Ao29 t217.length co29] 33 (0, 0)) (by (with_reducible repeat (first | apply xbN | apply xbD | apply xbA)); refine blk_put (cs := #[.int .i64 t216, .slice none 0 0]) ?_ 1 _ rfl; (with_reducible repeat (first | apply xbN | apply xbD | apply xbA)); refine blk_put (cs := #[.int .i64 0, .slice none 0 0]) ?_ 0 _ rfl; (with_reducible repeat (first | apply xbN | apply xbD | apply xbA)); exact BK221.out) hb); replace HB := xM (below_step (yh HB) hb); (try clear hb); (try clear ho0); have hnb32 := NB206_221.out; have hnc32 := NB221_206.out; have hcz33_0 : w31.cell? ⟨gb206, 0, none⟩ = some (.int .i64 a1_0) := (blk_cell BK206.out 0).trans rfl; have hcz33_1 : w31.cell? ⟨gb206, 1, none⟩ = some (.slice A1_1 l1_1.length c1_1) := (blk_cell BK206.out 1).trans rfl; have hfz33_0 := blk_frozen BK206.out 0; have hfz33_1 := blk_frozen BK206.out 1) | ((with_reducible refine gate_callee (f := 33) rfl ?_); refine goesL_ (some 40) rfl rfl Try.func33 (by kernel_rfl) rfl #[.agg #[.int .i64 a1_0, .slice A1_1 l1_1.length c1_1]] rfl (by (try simp only [List.map_toArray, List.map_cons, List.map_nil]); first | done | rfl | (simp only [List.length_drop, List.length_take]; rfl)) ?_; (with_reducible refine (laws_toCoded.calls k a1_0 _ _ l1_1 t225 t226 _ ?side1 ?side2 A14.out).mono ?_); (case side1 => repeat (first | exact (Kd.C_below HR1_1.out HB.out) | (with_reducible refine Kd.C_alloc ?_ _) | (with_reducible refine Kd.C_drewN ?_ _) | (with_reducible refine Kd.C_drew ?_))); (case side2 => exact HC1_1.out); rintro e w34 ⟨v227, rfl, ho0, hb⟩; refine ⟨_, rfl, ?_⟩; have HO228 := xM (Kd.R_lower (Kd.R_new' (Kd.R_new' (Kd.R_new' (Kd.R_new' ho0 (xL (yR HO210))) (xL (yR HO214))) (xL (yR HO219))) (xL (yR HO224))) (below_size (yh HB))); replace HO210 := xM (Kd.R_elder' (yR HO210) (Kd.R_base ho0) hb); replace HO214 := xM (Kd.R_elder' (yR HO214) (Kd.R_base ho0) hb); replace HO219 := xM (Kd.R_elder' (yR HO219) (Kd.R_base ho0) hb); replace HO224 := xM (Kd.R_elder' (yR HO224) (Kd.R_base ho0) hb); replace BK206 := xM (xB (yb BK206) hb); replace BK221 := xM (xB (yb BK221) hb); replace HB := xM (below_step (yh HB) hb); (try clear hb); (try clear ho0)) | ((with_reducible refine gate_dst (N := 10) rfl ?_); refine box_event ?hg (N := 10) ?hd (cs := #[.int .i64 0, .slice none 0 0]) (t := 33) ?hr ?_; (case hd => rfl); (case hg => rfl); (case hr => first | (go_simp; done) | (go_simp; rfl)); intro gb229 hg w35 hbox hb; have BK229 := xM (hbox); have GW229 := xM ((by rw [hg]; exact (below_size (yh HB)) : w.heap.size ≤ gb229)); have GE229 := xM ((by rw [hg]; exact (below_size (yh HB)) : w.heap.size ≤ gb229)); have NB206_229 := xM ((by rw [hg]; exact Nat.ne_of_lt (blk_lt (yb BK206)) : gb206 ≠ gb229)); have NB229_206 := xM ((by rw [hg]; exact Nat.ne_of_gt (blk_lt (yb BK206)) : gb229 ≠ gb206)); have NB221_229 := xM ((by rw [hg]; exact Nat.ne_of_lt (blk_lt (yb BK221)) : gb221 ≠ gb229)); have NB229_221 := xM ((by rw [hg]; exact Nat.ne_of_gt (blk_lt (yb BK221)) : gb229 ≠ gb221)); replace HO210 := xM (xW (yR HO210) hb); replace HO214 := xM (xW (yR HO214) hb); replace HO219 := xM (xW (yR HO219) hb); replace HO224 := xM (xW (yR HO224) hb); replace HO228 := xM (xW (yR HO228) hb); replace BK206 := xM (xB (yb BK206) hb); replace BK221 := xM (xB (yb BK221) hb); replace HB := xM (below_step (yh HB) hb); clear hb hbox hg; have hnb36 := NB229_206.out; have hnc36 := NB206_229.out; have hnb37 := NB229_221.out; have hnc37 := NB221_229.out; have hcz38_0 : w35.cell? ⟨gb229, 0, none⟩ = some (.int .i64 0) := (blk_cell BK229.out 0).trans rfl; have hcz38_1 : w35.cell? ⟨gb229, 1, none⟩ = some (.slice none 0 0) := (blk_cell BK229.out 1).trans rfl; have hfz38_0 := blk_frozen BK229.out 0; have hfz38_1 := blk_frozen BK229.out 1; obtain ⟨Ao39, co39, eo39⟩ := Kd.R_slice HO228.out; subst eo39; obtain ⟨Ao40, co40, eo40⟩ := Kd.R_slice HO224.out; subst eo40) | ((with_reducible refine gate_callee (f := 34) rfl ?_); refine goesL_ (some 44) rfl rfl Try.func34 (by kernel_rfl) rfl #[.slice Ao40 t222.length co40, .agg #[.int .i64 t225, .slice Ao39 t226.length co39]] rfl (by (try simp only [List.map_toArray, List.map_cons, List.map_nil]); first | done | rfl | (simp only [List.length_drop, List.length_take]; rfl)) ?_; (with_reducible refine (impl_TakeSymbol.calls k _ _ t222 t225 _ _ t226 t230 t231 t232 t235 _ ?side1 ?side2 ?side3 ?side4 A15.out).mono ?_); (case side1 => refine (Kd.R_reads' (e := 3) (base := w.heap.size) (ok := fun k_ => ((((True ∧ some k_ ≠ (v209 : Value).ownBlock) ∧ some k_ ≠ (v213 : Value).ownBlock) ∧ some k_ ≠ (.slice Ao29 t217.length co29 : Value).ownBlock) ∧ some k_ ≠ (.slice Ao39 t226.length co39 : Value).ownBlock)) (n := t222.length) (c := co40) ?_).2.2; exact (by (with_reducible repeat (first | apply xRA | apply xRN | apply xRD)); exact (xO (xF (p := ⟨gb229, 1, none⟩) (xF (p := ⟨gb229, 0, none⟩) (Kd.R_types HO224.out BK229.out (by decide)) (fun _ hk => hk.2) (.int .i64 t225)) (fun _ hk => hk.2) (.slice Ao39 t226.length co39)) (fun _ h_ => h_.1)))); (case side2 => exact (Kd.R_reads' HO224.out).2.1); (case side3 => refine (Kd.R_reads' (e := 3) (base := w.heap.size) (ok := fun k_ => ((((True ∧ some k_ ≠ (v209 : Value).ownBlock) ∧ some k_ ≠ (v213 : Value).ownBlock) ∧ some k_ ≠ (.slice Ao29 t217.length co29 : Value).ownBlock) ∧ some k_ ≠ (.slice Ao40 t222.length co40 : Value).ownBlock)) (n := t226.length) (c := co39) ?_).2.2; exact (by (with_reducible repeat (first | apply xRA | apply xRN | apply xRD)); exact (xO (xF (p := ⟨gb229, 1, none⟩) (xF (p := ⟨gb229, 0, none⟩) (Kd.R_types HO228.out BK229.out (by decide)) (fun _ hk => hk.2) (.int .i64 t225)) (fun _ hk => hk.2) (.slice Ao39 t226.length co39)) (fun _ h_ => h_.1)))); (case side4 => exact (Kd.R_reads' HO228.out).2.1); rintro e w41 ⟨v233, rfl, ho0, hb⟩; refine ⟨_, rfl, ?_⟩; have HO234 := xM (Kd.R_lower (Kd.R_new' (Kd.R_new' (Kd.R_new' (Kd.R_new' (Kd.R_new' ho0 (xL (by (with_reducible repeat (first | apply xRA | apply xRN | apply xRD)); exact (xO (xF (p := ⟨gb229, 1, none⟩) (xF (p := ⟨gb229, 0, none⟩) (Kd.R_types HO210.out BK229.out (by decide)) (fun _ hk => hk.2) (.int .i64 t225)) (fun _ hk => hk.2) (.slice Ao39 t226.length co39)) (fun _ h_ => h_.1))))) (xL (by (with_reducible repeat (first | apply xRA | apply xRN | apply xRD)); exact (xO (xF (p := ⟨gb229, 1, none⟩) (xF (p := ⟨gb229, 0, none⟩) (Kd.R_types HO214.out BK229.out (by decide)) (fun _ hk => hk.2) (.int .i64 t225)) (fun _ hk => hk.2) (.slice Ao39 t226.length co39)) (fun _ h_ => h_.1))))) (xL (by (with_reducible repeat (first | apply xRA | apply xRN | apply xRD)); exact (xO (xF (p := ⟨gb229, 1, none⟩) (xF (p := ⟨gb229, 0, none⟩) (Kd.R_types HO219.out BK229.out (by decide)) (fun _ hk => hk.2) (.int .i64 t225)) (fun _ hk => hk.2) (.slice Ao39 t226.length co39)) (fun _ h_ => h_.1))))) (xL (by (with_reducible repeat (first | apply xRA | apply xRN | apply xRD)); exact (xO (xF (p := ⟨gb229, 1, none⟩) (xF (p := ⟨gb229, 0, none⟩) (Kd.R_types HO224.out BK229.out (by decide)) (fun _ hk => hk.2) (.int .i64 t225)) (fun _ hk => hk.2) (.slice Ao39 t226.length co39)) (fun _ h_ => h_.1))))) (xL (by (with_reducible repeat (first | apply xRA | apply xRN | apply xRD)); exact (xO (xF (p := ⟨gb229, 1, none⟩) (xF (p := ⟨gb229, 0, none⟩) (Kd.R_types HO228.out BK229.out (by decide)) (fun _ hk => hk.2) (.int .i64 t225)) (fun _ hk => hk.2) (.slice Ao39 t226.length co39)) (fun _ h_ => h_.1))))) (below_size (yh HB))); replace HO210 := xM (Kd.R_elder' (by (with_reducible repeat (first | apply xRA | apply xRN | apply xRD)); exact (xO (xF (p := ⟨gb229, 1, none⟩) (xF (p := ⟨gb229, 0, none⟩) (Kd.R_types HO210.out BK229.out (by decide)) (fun _ hk => hk.2) (.int .i64 t225)) (fun _ hk => hk.2) (.slice Ao39 t226.length co39)) (fun _ h_ => h_.1))) (Kd.R_base ho0) hb); replace HO214 := xM (Kd.R_elder' (by (with_reducible repeat (first | apply xRA | apply xRN | apply xRD)); exact (xO (xF (p := ⟨gb229, 1, none⟩) (xF (p := ⟨gb229, 0, none⟩) (Kd.R_types HO214.out BK229.out (by decide)) (fun _ hk => hk.2) (.int .i64 t225)) (fun _ hk => hk.2) (.slice Ao39 t226.length co39)) (fun _ h_ => h_.1))) (Kd.R_base ho0) hb); replace HO219 := xM (Kd.R_elder' (by (with_reducible repeat (first | apply xRA | apply xRN | apply xRD)); exact (xO (xF (p := ⟨gb229, 1, none⟩) (xF (p := ⟨gb229, 0, none⟩) (Kd.R_types HO219.out BK229.out (by decide)) (fun _ hk => hk.2) (.int .i64 t225)) (fun _ hk => hk.2) (.slice Ao39 t226.length co39)) (fun _ h_ => h_.1))) (Kd.R_base ho0) hb); replace HO224 := xM (Kd.R_elder' (by (with_reducible repeat (first | apply xRA | apply xRN | apply xRD)); exact (xO (xF (p := ⟨gb229, 1, none⟩) (xF (p := ⟨gb229, 0, none⟩) (Kd.R_types HO224.out BK229.out (by decide)) (fun _ hk => hk.2) (.int .i64 t225)) (fun _ hk => hk.2) (.slice Ao39 t226.length co39)) (fun _ h_ => h_.1))) (Kd.R_base ho0) hb); replace HO228 := xM (Kd.R_elder' (by (with_reducible repeat (first | apply xRA | apply xRN | apply xRD)); exact (xO (xF (p := ⟨gb229, 1, none⟩) (xF (p := ⟨gb229, 0, none⟩) (Kd.R_types HO228.out BK229.out (by decide)) (fun _ hk => hk.2) (.int .i64 t225)) (fun _ hk => hk.2) (.slice Ao39 t226.length co39)) (fun _ h_ => h_.1))) (Kd.R_base ho0) hb); replace BK206 := xM (xB (g := gb206) (o := .cells #[.int .i64 a1_0, .slice A1_1 l1_1.length c1_1] 47 (0, 0)) (by (with_reducible repeat (first | apply xbN | apply xbD | apply xbA)); refine blk_far ?_ NB206_229.out _; (with_reducible repeat (first | apply xbN | apply xbD | apply xbA)); refine blk_far ?_ NB206_229.out _; (with_reducible repeat (first | apply xbN | apply xbD | apply xbA)); exact BK206.out) hb); replace BK221 := xM (xB (g := gb221) (o := .cells #[.int .i64 t216, .slice Ao29 t217.length co29] 33 (0, 0)) (by (with_reducible repeat (first | apply xbN | apply xbD | apply xbA)); refine blk_far ?_ NB221_229.out _; (with_reducible repeat (first | apply xbN | apply xbD | apply xbA)); refine blk_far ?_ NB221_229.out _; (with_reducible repeat (first | apply xbN | apply xbD | apply xbA)); exact BK221.out) hb); replace BK229 := xM (xB (g := gb229) (o := .cells #[.int .i64 t225, .slice Ao39 t226.length co39] 33 (0, 0)) (by (with_reducible repeat (first | apply xbN | apply xbD | apply xbA)); refine blk_put (cs := #[.int .i64 t225, .slice none 0 0]) ?_ 1 _ rfl; (with_reducible repeat (first | apply xbN | apply xbD | apply xbA)); refine blk_put (cs := #[.int .i64 0, .slice none 0 0]) ?_ 0 _ rfl; (with_reducible repeat (first | apply xbN | apply xbD | apply xbA)); exact BK229.out) hb); replace HB := xM (below_step (yh HB) hb); (try clear hb); (try clear ho0)) | ((with_reducible refine gate_dst (N := 12) rfl ?_); refine box_event ?hg (N := 12) ?hd (cs := #[.int .i64 0, .slice none 0 0]) (t := 33) ?hr ?_; (case hd => rfl); (case hg => rfl); (case hr => first | (go_simp; done) | (go_simp; rfl)); intro gb236 hg w42 hbox hb; have BK236 := xM (hbox); have GW236 := xM ((by rw [hg]; exact (below_size (yh HB)) : w.heap.size ≤ gb236)); have GE236 := xM ((by rw [hg]; exact (below_size (yh HB)) : w.heap.size ≤ gb236)); have NB206_236 := xM ((by rw [hg]; exact Nat.ne_of_lt (blk_lt (yb BK206)) : gb206 ≠ gb236)); have NB236_206 := xM ((by rw [hg]; exact Nat.ne_of_gt (blk_lt (yb BK206)) : gb236 ≠ gb206)); have NB221_236 := xM ((by rw [hg]; exact Nat.ne_of_lt (blk_lt (yb BK221)) : gb221 ≠ gb236)); have NB236_221 := xM ((by rw [hg]; exact Nat.ne_of_gt (blk_lt (yb BK221)) : gb236 ≠ gb221)); have NB229_236 := xM ((by rw [hg]; exact Nat.ne_of_lt (blk_lt (yb BK229)) : gb229 ≠ gb236)); have NB236_229 := xM ((by rw [hg]; exact Nat.ne_of_gt (blk_lt (yb BK229)) : gb236 ≠ gb229)); replace HO210 := xM (xW (yR HO210) hb); replace HO214 := xM (xW (yR HO214) hb); replace HO219 := xM (xW (yR HO219) hb); replace HO224 := xM (xW (yR HO224) hb); replace HO228 := xM (xW (yR HO228) hb); replace HO234 := xM (xW (yR HO234) hb); replace BK206 := xM (xB (yb BK206) hb); replace BK221 := xM (xB (yb BK221) hb); replace BK229 := xM (xB (yb BK229) hb); replace HB := xM (below_step (yh HB) hb); clear hb hbox hg; have hnb43 := NB236_206.out; have hnc43 := NB206_236.out; have hnb44 := NB236_221.out; have hnc44 := NB221_236.out; have hnb45 := NB236_229.out; have hnc45 := NB229_236.out; have hcz46_0 : w42.cell? ⟨gb236, 0, none⟩ = some (.int .i64 0) := (blk_cell BK236.out 0).trans rfl; have hcz46_1 : w42.cell? ⟨gb236, 1, none⟩ = some (.slice none 0 0) := (blk_cell BK236.out 1).trans rfl; have hfz46_0 := blk_frozen BK236.out 0; have hfz46_1 := blk_frozen BK236.out 1; obtain ⟨Ao47, co47, eo47⟩ := Kd.R_slice HO234.out; subst eo47))
    (try simp only [Act.put, List.setIfInBounds_toArray, List.set_cons_zero, List.set_cons_succ])
    go_cut [61] (fun v61 wc => ∃ (kq : Nat) (x61_15 : Bool), v61 = .bool x61_15 ∧ Aside0 (laws_FnExactTakeSymbol.j0 kq l0 t215 t220 t222 t230 t235 x61_15 a1_0 l1_1 t216 t217 t225 t226 t231 t232 = some r) ∧ Aside0 (kq ≤ k) ∧ Aside0 (Kd.R (Kd.int .i64) 3 wc w.heap.size (fun k_ => some k_ ≠ ((.slice Ao29 t217.length co29) : Value).ownBlock ∧ some k_ ≠ ((.slice Ao39 t226.length co39) : Value).ownBlock ∧ some k_ ≠ ((.slice Ao47 t232.length co47) : Value).ownBlock) (.slice Ao40 t222.length co40) t222) ∧ Aside0 (Kd.R (Kd.int .i64) 3 wc w.heap.size (fun k_ => some k_ ≠ ((.slice Ao40 t222.length co40) : Value).ownBlock ∧ some k_ ≠ ((.slice Ao39 t226.length co39) : Value).ownBlock ∧ some k_ ≠ ((.slice Ao47 t232.length co47) : Value).ownBlock) (.slice Ao29 t217.length co29) t217) ∧ Aside0 (Kd.R (Kd.int .i64) 3 wc w.heap.size (fun k_ => some k_ ≠ ((.slice Ao40 t222.length co40) : Value).ownBlock ∧ some k_ ≠ ((.slice Ao29 t217.length co29) : Value).ownBlock ∧ some k_ ≠ ((.slice Ao47 t232.length co47) : Value).ownBlock) (.slice Ao39 t226.length co39) t226) ∧ Aside0 (Kd.R (Kd.int .i64) 3 wc w.heap.size (fun k_ => some k_ ≠ ((.slice Ao40 t222.length co40) : Value).ownBlock ∧ some k_ ≠ ((.slice Ao29 t217.length co29) : Value).ownBlock ∧ some k_ ≠ ((.slice Ao39 t226.length co39) : Value).ownBlock) (.slice Ao47 t232.length co47) t232) ∧ Aside0 (wc.heap[gb206]? = some (.cells #[.int .i64 a1_0, (.slice A1_1 l1_1.length c1_1)] 47 (0, 0))) ∧ Aside0 (wc.heap[gb221]? = some (.cells #[.int .i64 t216, (.slice Ao29 t217.length co29)] 33 (0, 0))) ∧ Aside0 (wc.heap[gb229]? = some (.cells #[.int .i64 t225, (.slice Ao39 t226.length co39)] 33 (0, 0))) ∧ Aside0 (wc.heap[gb236]? = some (.cells #[.int .i64 t231, (.slice Ao47 t232.length co47)] 33 (0, 0))) ∧ Aside0 (Below w.heap.size w wc))
    case first =>
     have H := HC16.out
     clear HC16
     by_cases c48 : t230 = t215
     ·rw [if_pos c48] at H
      have c48b0 : (t230 == t215) = true := beq_iff_eq.mpr c48
      have c48b1 : (t230 != t215) = false := bne_eq_false_iff_eq.mpr c48
      clear c48
      (first | rw [c48b0] | (simp only [i64_w, i32_w]; rw [c48b0]) | skip)
      replace H := Option.bind_eq_some_iff.mp H
      obtain ⟨t237, A490, H⟩ := H
      replace H : (if t237 = true then (laws_FnExactTakeSymbol.j0 k l0 t215 t220 t222 t230 t235 (t235 != t220) a1_0 l1_1 t216 t217 t225 t226 t231 t232) else (laws_FnExactTakeSymbol.j0 k l0 t215 t220 t222 t230 t235 true a1_0 l1_1 t216 t217 t225 t226 t231 t232)) = some r := H
      have A49 := Aside0.mk A490
      clear A490
      by_cases c50 : t237 = true
      ·subst c50
       have H1 : (laws_FnExactTakeSymbol.j0 k l0 t215 t220 t222 t230 t235 (t235 != t220) a1_0 l1_1 t216 t217 t225 t226 t231 t232) = some r := by rw [if_pos rfl] at H; exact H
       clear H
       have H := H1
       clear H1
       have H' := Aside0.mk H
       clear H
       have hnb51 := NB236_206.out
       have hnc51 := NB206_236.out
       have hnb52 := NB236_221.out
       have hnc52 := NB221_236.out
       have hnb53 := NB236_229.out
       have hnc53 := NB229_236.out
       have hcz54_0 : w42.cell? ⟨gb236, 0, none⟩ = some (.int .i64 0) := (blk_cell BK236.out 0).trans rfl
       have hcz54_1 : w42.cell? ⟨gb236, 1, none⟩ = some (.slice none 0 0) := (blk_cell BK236.out 1).trans rfl
       have hfz54_0 := blk_frozen BK236.out 0
       have hfz54_1 := blk_frozen BK236.out 1
       have hnb55 := NB221_206.out
       have hnc55 := NB206_221.out
       have hnb56 := NB221_229.out
       have hnc56 := NB229_221.out
       have hcz57_0 : w42.cell? ⟨gb221, 0, none⟩ = some (.int .i64 t216) := (blk_cell BK221.out 0).trans rfl
       have hcz57_1 : w42.cell? ⟨gb221, 1, none⟩ = some (.slice Ao29 t217.length co29) := (blk_cell BK221.out 1).trans rfl
       have hfz57_0 := blk_frozen BK221.out 0
       have hfz57_1 := blk_frozen BK221.out 1
       go_wp2_with (first | (go_at_call 23; (with_reducible refine (laws_eqCoded.calls k t231 _ _ t232 t216 _ _ t217 true _ ?side1 ?side2 ?side3 ?side4 A49.out).mono ?_); (case side1 => refine (Kd.R_reads' (e := 3) (base := w.heap.size) (ok := fun k_ => (((((True ∧ some k_ ≠ (v209 : Value).ownBlock) ∧ some k_ ≠ (v213 : Value).ownBlock) ∧ some k_ ≠ (.slice Ao29 t217.length co29 : Value).ownBlock) ∧ some k_ ≠ (.slice Ao40 t222.length co40 : Value).ownBlock) ∧ some k_ ≠ (.slice Ao39 t226.length co39 : Value).ownBlock)) (n := t232.length) (c := co47) ?_).2.2; exact (by (with_reducible repeat (first | apply xRA | apply xRN | apply xRD)); exact (xO (xF (p := ⟨gb236, 1, none⟩) (xF (p := ⟨gb236, 0, none⟩) (Kd.R_types HO234.out BK236.out (by decide)) (fun _ hk => hk.2) (.int .i64 t231)) (fun _ hk => hk.2) (.slice Ao47 t232.length co47)) (fun _ h_ => h_.1)))); (case side2 => exact (Kd.R_reads' HO234.out).2.1); (case side3 => refine (Kd.R_reads' (e := 3) (base := w.heap.size) (ok := fun k_ => ((((some k_ ≠ (v209 : Value).ownBlock ∧ some k_ ≠ (v213 : Value).ownBlock) ∧ some k_ ≠ (.slice Ao40 t222.length co40 : Value).ownBlock) ∧ some k_ ≠ (.slice Ao39 t226.length co39 : Value).ownBlock) ∧ some k_ ≠ (.slice Ao47 t232.length co47 : Value).ownBlock)) (n := t217.length) (c := co29) ?_).2.2; exact (by (with_reducible repeat (first | apply xRA | apply xRN | apply xRD)); exact (xO (xF (p := ⟨gb236, 1, none⟩) (xF (p := ⟨gb236, 0, none⟩) (Kd.R_types HO219.out BK236.out (by decide)) (fun _ hk => hk.2) (.int .i64 t231)) (fun _ hk => hk.2) (.slice Ao47 t232.length co47)) (fun _ h_ => h_.1)))); (case side4 => exact (Kd.R_reads' HO219.out).2.1); rintro e w58 ⟨rfl, hb⟩; replace HO210 := xM (xW (by (with_reducible repeat (first | apply xRA | apply xRN | apply xRD)); exact (xO (xF (p := ⟨gb236, 1, none⟩) (xF (p := ⟨gb236, 0, none⟩) (Kd.R_types HO210.out BK236.out (by decide)) (fun _ hk => hk.2) (.int .i64 t231)) (fun _ hk => hk.2) (.slice Ao47 t232.length co47)) (fun _ h_ => h_.1))) hb); replace HO214 := xM (xW (by (with_reducible repeat (first | apply xRA | apply xRN | apply xRD)); exact (xO (xF (p := ⟨gb236, 1, none⟩) (xF (p := ⟨gb236, 0, none⟩) (Kd.R_types HO214.out BK236.out (by decide)) (fun _ hk => hk.2) (.int .i64 t231)) (fun _ hk => hk.2) (.slice Ao47 t232.length co47)) (fun _ h_ => h_.1))) hb); replace HO219 := xM (xW (by (with_reducible repeat (first | apply xRA | apply xRN | apply xRD)); exact (xO (xF (p := ⟨gb236, 1, none⟩) (xF (p := ⟨gb236, 0, none⟩) (Kd.R_types HO219.out BK236.out (by decide)) (fun _ hk => hk.2) (.int .i64 t231)) (fun _ hk => hk.2) (.slice Ao47 t232.length co47)) (fun _ h_ => h_.1))) hb); replace HO224 := xM (xW (by (with_reducible repeat (first | apply xRA | apply xRN | apply xRD)); exact (xO (xF (p := ⟨gb236, 1, none⟩) (xF (p := ⟨gb236, 0, none⟩) (Kd.R_types HO224.out BK236.out (by decide)) (fun _ hk => hk.2) (.int .i64 t231)) (fun _ hk => hk.2) (.slice Ao47 t232.length co47)) (fun _ h_ => h_.1))) hb); replace HO228 := xM (xW (by (with_reducible repeat (first | apply xRA | apply xRN | apply xRD)); exact (xO (xF (p := ⟨gb236, 1, none⟩) (xF (p := ⟨gb236, 0, none⟩) (Kd.R_types HO228.out BK236.out (by decide)) (fun _ hk => hk.2) (.int .i64 t231)) (fun _ hk => hk.2) (.slice Ao47 t232.length co47)) (fun _ h_ => h_.1))) hb); replace HO234 := xM (xW (by (with_reducible repeat (first | apply xRA | apply xRN | apply xRD)); exact (xO (xF (p := ⟨gb236, 1, none⟩) (xF (p := ⟨gb236, 0, none⟩) (Kd.R_types HO234.out BK236.out (by decide)) (fun _ hk => hk.2) (.int .i64 t231)) (fun _ hk => hk.2) (.slice Ao47 t232.length co47)) (fun _ h_ => h_.1))) hb); replace BK206 := xM (xB (g := gb206) (o := .cells #[.int .i64 a1_0, .slice A1_1 l1_1.length c1_1] 47 (0, 0)) (by (with_reducible repeat (first | apply xbN | apply xbD | apply xbA)); refine blk_far ?_ NB206_236.out _; (with_reducible repeat (first | apply xbN | apply xbD | apply xbA)); refine blk_far ?_ NB206_236.out _; (with_reducible repeat (first | apply xbN | apply xbD | apply xbA)); exact BK206.out) hb); replace BK221 := xM (xB (g := gb221) (o := .cells #[.int .i64 t216, .slice Ao29 t217.length co29] 33 (0, 0)) (by (with_reducible repeat (first | apply xbN | apply xbD | apply xbA)); refine blk_far ?_ NB221_236.out _; (with_reducible repeat (first | apply xbN | apply xbD | apply xbA)); refine blk_far ?_ NB221_236.out _; (with_reducible repeat (first | apply xbN | apply xbD | apply xbA)); exact BK221.out) hb); replace BK229 := xM (xB (g := gb229) (o := .cells #[.int .i64 t225, .slice Ao39 t226.length co39] 33 (0, 0)) (by (with_reducible repeat (first | apply xbN | apply xbD | apply xbA)); refine blk_far ?_ NB229_236.out _; (with_reducible repeat (first | apply xbN | apply xbD | apply xbA)); refine blk_far ?_ NB229_236.out _; (with_reducible repeat (first | apply xbN | apply xbD | apply xbA)); exact BK229.out) hb); replace BK236 := xM (xB (g := gb236) (o := .cells #[.int .i64 t231, .slice Ao47 t232.length co47] 33 (0, 0)) (by (with_reducible repeat (first | apply xbN | apply xbD | apply xbA)); refine blk_put (cs := #[.int .i64 t231, .slice none 0 0]) ?_ 1 _ rfl; (with_reducible repeat (first | apply xbN | apply xbD | apply xbA)); refine blk_put (cs := #[.int .i64 0, .slice none 0 0]) ?_ 0 _ rfl; (with_reducible repeat (first | apply xbN | apply xbD | apply xbA)); exact BK236.out) hb); replace HB := xM (below_step (yh HB) hb); (try clear hb)))
       go_meet
       case rel => exact ⟨_, ((t235 != t220)), (by first | rfl | (simp; done) | (simp [*]; done)), H', ⟨by first | omega | exact Nat.le_refl _⟩, ⟨by (with_reducible repeat (first | apply xRA | apply xRN | apply xRD)); exact Kd.R_mono HO224.out (fun _ hk => ⟨hk.1.1.2, ⟨hk.1.2, hk.2⟩⟩)⟩, ⟨by (with_reducible repeat (first | apply xRA | apply xRN | apply xRD)); exact Kd.R_mono HO219.out (fun _ hk => ⟨hk.1.1.2, ⟨hk.1.2, hk.2⟩⟩)⟩, ⟨by (with_reducible repeat (first | apply xRA | apply xRN | apply xRD)); exact Kd.R_mono HO228.out (fun _ hk => ⟨hk.1.2, ⟨hk.1.1.2, hk.2⟩⟩)⟩, ⟨by (with_reducible repeat (first | apply xRA | apply xRN | apply xRD)); exact Kd.R_mono HO234.out (fun _ hk => ⟨hk.1.2, ⟨hk.1.1.2, hk.2⟩⟩)⟩, ⟨by (with_reducible repeat (first | apply xbN | apply xbD | apply xbA)); exact BK206.out⟩, ⟨by (with_reducible repeat (first | apply xbN | apply xbD | apply xbA)); exact BK221.out⟩, ⟨by (with_reducible repeat (first | apply xbN | apply xbD | apply xbA)); exact BK229.out⟩, ⟨by (with_reducible repeat (first | apply xbN | apply xbD | apply xbA)); exact BK236.out⟩, ⟨yh HB⟩⟩
      ·replace c50 := Bool.eq_false_iff.mpr c50
       subst c50
       have H1 : (laws_FnExactTakeSymbol.j0 k l0 t215 t220 t222 t230 t235 true a1_0 l1_1 t216 t217 t225 t226 t231 t232) = some r := by rw [if_neg (show ¬ (false = true) by decide)] at H; exact H
       clear H
       have H := H1
       clear H1
       have H' := Aside0.mk H
       clear H
       have hnb59 := NB236_206.out
       have hnc59 := NB206_236.out
       have hnb60 := NB236_221.out
       have hnc60 := NB221_236.out
       have hnb61 := NB236_229.out
       have hnc61 := NB229_236.out
       have hcz62_0 : w42.cell? ⟨gb236, 0, none⟩ = some (.int .i64 0) := (blk_cell BK236.out 0).trans rfl
       have hcz62_1 : w42.cell? ⟨gb236, 1, none⟩ = some (.slice none 0 0) := (blk_cell BK236.out 1).trans rfl
       have hfz62_0 := blk_frozen BK236.out 0
       have hfz62_1 := blk_frozen BK236.out 1
       have hnb63 := NB221_206.out
       have hnc63 := NB206_221.out
       have hnb64 := NB221_229.out
       have hnc64 := NB229_221.out
       have hcz65_0 : w42.cell? ⟨gb221, 0, none⟩ = some (.int .i64 t216) := (blk_cell BK221.out 0).trans rfl
       have hcz65_1 : w42.cell? ⟨gb221, 1, none⟩ = some (.slice Ao29 t217.length co29) := (blk_cell BK221.out 1).trans rfl
       have hfz65_0 := blk_frozen BK221.out 0
       have hfz65_1 := blk_frozen BK221.out 1
       go_wp2_with (first | (go_at_call 23; (with_reducible refine (laws_eqCoded.calls k t231 _ _ t232 t216 _ _ t217 false _ ?side1 ?side2 ?side3 ?side4 A49.out).mono ?_); (case side1 => refine (Kd.R_reads' (e := 3) (base := w.heap.size) (ok := fun k_ => (((((True ∧ some k_ ≠ (v209 : Value).ownBlock) ∧ some k_ ≠ (v213 : Value).ownBlock) ∧ some k_ ≠ (.slice Ao29 t217.length co29 : Value).ownBlock) ∧ some k_ ≠ (.slice Ao40 t222.length co40 : Value).ownBlock) ∧ some k_ ≠ (.slice Ao39 t226.length co39 : Value).ownBlock)) (n := t232.length) (c := co47) ?_).2.2; exact (by (with_reducible repeat (first | apply xRA | apply xRN | apply xRD)); exact (xO (xF (p := ⟨gb236, 1, none⟩) (xF (p := ⟨gb236, 0, none⟩) (Kd.R_types HO234.out BK236.out (by decide)) (fun _ hk => hk.2) (.int .i64 t231)) (fun _ hk => hk.2) (.slice Ao47 t232.length co47)) (fun _ h_ => h_.1)))); (case side2 => exact (Kd.R_reads' HO234.out).2.1); (case side3 => refine (Kd.R_reads' (e := 3) (base := w.heap.size) (ok := fun k_ => ((((some k_ ≠ (v209 : Value).ownBlock ∧ some k_ ≠ (v213 : Value).ownBlock) ∧ some k_ ≠ (.slice Ao40 t222.length co40 : Value).ownBlock) ∧ some k_ ≠ (.slice Ao39 t226.length co39 : Value).ownBlock) ∧ some k_ ≠ (.slice Ao47 t232.length co47 : Value).ownBlock)) (n := t217.length) (c := co29) ?_).2.2; exact (by (with_reducible repeat (first | apply xRA | apply xRN | apply xRD)); exact (xO (xF (p := ⟨gb236, 1, none⟩) (xF (p := ⟨gb236, 0, none⟩) (Kd.R_types HO219.out BK236.out (by decide)) (fun _ hk => hk.2) (.int .i64 t231)) (fun _ hk => hk.2) (.slice Ao47 t232.length co47)) (fun _ h_ => h_.1)))); (case side4 => exact (Kd.R_reads' HO219.out).2.1); rintro e w66 ⟨rfl, hb⟩; replace HO210 := xM (xW (by (with_reducible repeat (first | apply xRA | apply xRN | apply xRD)); exact (xO (xF (p := ⟨gb236, 1, none⟩) (xF (p := ⟨gb236, 0, none⟩) (Kd.R_types HO210.out BK236.out (by decide)) (fun _ hk => hk.2) (.int .i64 t231)) (fun _ hk => hk.2) (.slice Ao47 t232.length co47)) (fun _ h_ => h_.1))) hb); replace HO214 := xM (xW (by (with_reducible repeat (first | apply xRA | apply xRN | apply xRD)); exact (xO (xF (p := ⟨gb236, 1, none⟩) (xF (p := ⟨gb236, 0, none⟩) (Kd.R_types HO214.out BK236.out (by decide)) (fun _ hk => hk.2) (.int .i64 t231)) (fun _ hk => hk.2) (.slice Ao47 t232.length co47)) (fun _ h_ => h_.1))) hb); replace HO219 := xM (xW (by (with_reducible repeat (first | apply xRA | apply xRN | apply xRD)); exact (xO (xF (p := ⟨gb236, 1, none⟩) (xF (p := ⟨gb236, 0, none⟩) (Kd.R_types HO219.out BK236.out (by decide)) (fun _ hk => hk.2) (.int .i64 t231)) (fun _ hk => hk.2) (.slice Ao47 t232.length co47)) (fun _ h_ => h_.1))) hb); replace HO224 := xM (xW (by (with_reducible repeat (first | apply xRA | apply xRN | apply xRD)); exact (xO (xF (p := ⟨gb236, 1, none⟩) (xF (p := ⟨gb236, 0, none⟩) (Kd.R_types HO224.out BK236.out (by decide)) (fun _ hk => hk.2) (.int .i64 t231)) (fun _ hk => hk.2) (.slice Ao47 t232.length co47)) (fun _ h_ => h_.1))) hb); replace HO228 := xM (xW (by (with_reducible repeat (first | apply xRA | apply xRN | apply xRD)); exact (xO (xF (p := ⟨gb236, 1, none⟩) (xF (p := ⟨gb236, 0, none⟩) (Kd.R_types HO228.out BK236.out (by decide)) (fun _ hk => hk.2) (.int .i64 t231)) (fun _ hk => hk.2) (.slice Ao47 t232.length co47)) (fun _ h_ => h_.1))) hb); replace HO234 := xM (xW (by (with_reducible repeat (first | apply xRA | apply xRN | apply xRD)); exact (xO (xF (p := ⟨gb236, 1, none⟩) (xF (p := ⟨gb236, 0, none⟩) (Kd.R_types HO234.out BK236.out (by decide)) (fun _ hk => hk.2) (.int .i64 t231)) (fun _ hk => hk.2) (.slice Ao47 t232.length co47)) (fun _ h_ => h_.1))) hb); replace BK206 := xM (xB (g := gb206) (o := .cells #[.int .i64 a1_0, .slice A1_1 l1_1.length c1_1] 47 (0, 0)) (by (with_reducible repeat (first | apply xbN | apply xbD | apply xbA)); refine blk_far ?_ NB206_236.out _; (with_reducible repeat (first | apply xbN | apply xbD | apply xbA)); refine blk_far ?_ NB206_236.out _; (with_reducible repeat (first | apply xbN | apply xbD | apply xbA)); exact BK206.out) hb); replace BK221 := xM (xB (g := gb221) (o := .cells #[.int .i64 t216, .slice Ao29 t217.length co29] 33 (0, 0)) (by (with_reducible repeat (first | apply xbN | apply xbD | apply xbA)); refine blk_far ?_ NB221_236.out _; (with_reducible repeat (first | apply xbN | apply xbD | apply xbA)); refine blk_far ?_ NB221_236.out _; (with_reducible repeat (first | apply xbN | apply xbD | apply xbA)); exact BK221.out) hb); replace BK229 := xM (xB (g := gb229) (o := .cells #[.int .i64 t225, .slice Ao39 t226.length co39] 33 (0, 0)) (by (with_reducible repeat (first | apply xbN | apply xbD | apply xbA)); refine blk_far ?_ NB229_236.out _; (with_reducible repeat (first | apply xbN | apply xbD | apply xbA)); refine blk_far ?_ NB229_236.out _; (with_reducible repeat (first | apply xbN | apply xbD | apply xbA)); exact BK229.out) hb); replace BK236 := xM (xB (g := gb236) (o := .cells #[.int .i64 t231, .slice Ao47 t232.length co47] 33 (0, 0)) (by (with_reducible repeat (first | apply xbN | apply xbD | apply xbA)); refine blk_put (cs := #[.int .i64 t231, .slice none 0 0]) ?_ 1 _ rfl; (with_reducible repeat (first | apply xbN | apply xbD | apply xbA)); refine blk_put (cs := #[.int .i64 0, .slice none 0 0]) ?_ 0 _ rfl; (with_reducible repeat (first | apply xbN | apply xbD | apply xbA)); exact BK236.out) hb); replace HB := xM (below_step (yh HB) hb); (try clear hb)))
       go_meet
       case rel => exact ⟨_, (true), (by first | rfl | (simp; done) | (simp [*]; done)), H', ⟨by first | omega | exact Nat.le_refl _⟩, ⟨by (with_reducible repeat (first | apply xRA | apply xRN | apply xRD)); exact Kd.R_mono HO224.out (fun _ hk => ⟨hk.1.1.2, ⟨hk.1.2, hk.2⟩⟩)⟩, ⟨by (with_reducible repeat (first | apply xRA | apply xRN | apply xRD)); exact Kd.R_mono HO219.out (fun _ hk => ⟨hk.1.1.2, ⟨hk.1.2, hk.2⟩⟩)⟩, ⟨by (with_reducible repeat (first | apply xRA | apply xRN | apply xRD)); exact Kd.R_mono HO228.out (fun _ hk => ⟨hk.1.2, ⟨hk.1.1.2, hk.2⟩⟩)⟩, ⟨by (with_reducible repeat (first | apply xRA | apply xRN | apply xRD)); exact Kd.R_mono HO234.out (fun _ hk => ⟨hk.1.2, ⟨hk.1.1.2, hk.2⟩⟩)⟩, ⟨by (with_reducible repeat (first | apply xbN | apply xbD | apply xbA)); exact BK206.out⟩, ⟨by (with_reducible repeat (first | apply xbN | apply xbD | apply xbA)); exact BK221.out⟩, ⟨by (with_reducible repeat (first | apply xbN | apply xbD | apply xbA)); exact BK229.out⟩, ⟨by (with_reducible repeat (first | apply xbN | apply xbD | apply xbA)); exact BK236.out⟩, ⟨yh HB⟩⟩
     ·rw [if_neg c48] at H
      have c48b0 : (t230 == t215) = false := beq_eq_false_iff_ne.mpr c48
      have c48b1 : (t230 != t215) = true := bne_iff_ne.mpr c48
      (first | rw [c48b0] | (simp only [i64_w, i32_w]; rw [c48b0]) | skip)
      have H' := Aside0.mk H
      clear H
      go_wp2
      go_meet
      case rel => exact ⟨_, (true), (by first | rfl | (simp; done) | (simp [*]; done)), H', ⟨by first | omega | exact Nat.le_refl _⟩, ⟨by (with_reducible repeat (first | apply xRA | apply xRN | apply xRD)); exact xO (xF (p := ⟨gb236, 1, none⟩) (xF (p := ⟨gb236, 0, none⟩) (Kd.R_types HO224.out BK236.out (by decide)) (fun _ hk => hk.2) (.int .i64 t231)) (fun _ hk => hk.2) (.slice Ao47 t232.length co47)) (fun _ hk => ⟨hk.1.1.1.2, ⟨hk.1.1.2, hk.1.2⟩⟩)⟩, ⟨by (with_reducible repeat (first | apply xRA | apply xRN | apply xRD)); exact xO (xF (p := ⟨gb236, 1, none⟩) (xF (p := ⟨gb236, 0, none⟩) (Kd.R_types HO219.out BK236.out (by decide)) (fun _ hk => hk.2) (.int .i64 t231)) (fun _ hk => hk.2) (.slice Ao47 t232.length co47)) (fun _ hk => ⟨hk.1.1.1.2, ⟨hk.1.1.2, hk.1.2⟩⟩)⟩, ⟨by (with_reducible repeat (first | apply xRA | apply xRN | apply xRD)); exact xO (xF (p := ⟨gb236, 1, none⟩) (xF (p := ⟨gb236, 0, none⟩) (Kd.R_types HO228.out BK236.out (by decide)) (fun _ hk => hk.2) (.int .i64 t231)) (fun _ hk => hk.2) (.slice Ao47 t232.length co47)) (fun _ hk => ⟨hk.1.1.2, ⟨hk.1.1.1.2, hk.1.2⟩⟩)⟩, ⟨by (with_reducible repeat (first | apply xRA | apply xRN | apply xRD)); exact xO (xF (p := ⟨gb236, 1, none⟩) (xF (p := ⟨gb236, 0, none⟩) (Kd.R_types HO234.out BK236.out (by decide)) (fun _ hk => hk.2) (.int .i64 t231)) (fun _ hk => hk.2) (.slice Ao47 t232.length co47)) (fun _ hk => ⟨hk.1.1.2, ⟨hk.1.1.1.2, hk.1.2⟩⟩)⟩, ⟨by (with_reducible repeat (first | apply xbN | apply xbD | apply xbA)); refine blk_far ?_ NB206_236.out _; (with_reducible repeat (first | apply xbN | apply xbD | apply xbA)); refine blk_far ?_ NB206_236.out _; (with_reducible repeat (first | apply xbN | apply xbD | apply xbA)); exact BK206.out⟩, ⟨by (with_reducible repeat (first | apply xbN | apply xbD | apply xbA)); refine blk_far ?_ NB221_236.out _; (with_reducible repeat (first | apply xbN | apply xbD | apply xbA)); refine blk_far ?_ NB221_236.out _; (with_reducible repeat (first | apply xbN | apply xbD | apply xbA)); exact BK221.out⟩, ⟨by (with_reducible repeat (first | apply xbN | apply xbD | apply xbA)); refine blk_far ?_ NB229_236.out _; (with_reducible repeat (first | apply xbN | apply xbD | apply xbA)); refine blk_far ?_ NB229_236.out _; (with_reducible repeat (first | apply xbN | apply xbD | apply xbA)); exact BK229.out⟩, ⟨by (with_reducible repeat (first | apply xbN | apply xbD | apply xbA)); refine blk_put (cs := #[.int .i64 t231, .slice none 0 0]) ?_ 1 _ rfl; (with_reducible repeat (first | apply xbN | apply xbD | apply xbA)); refine blk_put (cs := #[.int .i64 0, .slice none 0 0]) ?_ 0 _ rfl; (with_reducible repeat (first | apply xbN | apply xbD | apply xbA)); exact BK236.out⟩, ⟨yh HB⟩⟩
    case rest =>
     clear HC16
     try clear c1
     try clear p2
     try clear c3
     try clear c4
     try clear c5
     try clear c6
     try clear c14
     try clear c32
     try clear c33
     try clear c34
     try clear c36
     try clear c37
     try clear c43
     try clear c44
     try clear c45
     try clear c48
     try clear c48b0
     try clear c48b1
     try clear c50
     try clear c51
     try clear c52
     try clear c53
     try clear c55
     try clear c56
     try clear c59
     try clear c60
     try clear c61
     try clear c63
     try clear c64
     try clear hcz33_0
     try clear hcz33_1
     try clear hcz38_0
     try clear hcz38_1
     try clear hcz46_0
     try clear hcz46_1
     try clear hcz54_0
     try clear hcz54_1
     try clear hcz57_0
     try clear hcz57_1
     try clear hcz62_0
     try clear hcz62_1
     try clear hcz65_0
     try clear hcz65_1
     try clear hfz33_0
     try clear hfz33_1
     try clear hfz38_0
     try clear hfz38_1
     try clear hfz46_0
     try clear hfz46_1
     try clear hfz54_0
     try clear hfz54_1
     try clear hfz57_0
     try clear hfz57_1
     try clear hfz62_0
     try clear hfz62_1
     try clear hfz65_0
     try clear hfz65_1
     obtain ⟨kq, x61_15, rfl, HA, HJ15, HO_9, HO_222001, HO_230001, HO_237001, BK206, BK221, BK229, BK236, HB⟩ := hcut
     cases kq with
     | zero => exact absurd HA.out (by simp [laws_FnExactTakeSymbol.j0])
     | succ kj15 =>
      have H := HA.out
      clear HA
      simp only [laws_FnExactTakeSymbol.j0] at H
      by_cases c67 : x61_15 = true
      ·subst c67
       have H1 : (some false) = some r := by rw [if_pos rfl] at H; exact H
       clear H
       have H := H1
       clear H1
       obtain rfl := Option.some.inj H
       go_wp2
       go_ret
       exact ⟨by first | rfl | (simp [errW_none, errW_some] <;> rfl) | (simp [*, errW_none, errW_some] <;> rfl), by repeat (first | (with_reducible first | exact HB.out | apply xa | apply xn | apply xd | refine xs ?_ GE206.out | refine xs ?_ GE221.out | refine xs ?_ GE229.out | refine xs ?_ GE236.out) | exact HB.out)⟩
      ·replace c67 := Bool.eq_false_iff.mpr c67
       subst c67
       have H1 : ((laws_toIntS.f kj15 l0).bind fun t238 => ((laws_eqIntS.f kj15 t222 t238).bind fun t241 => (if t241 = true then ((laws_toCoded.f kj15 a1_0 l1_1).bind fun bt242 => ((laws_eqCoded.f kj15 t225 t226 bt242.1 bt242.2).bind fun t246 => (if t246 = true then ((laws_markIntS.f kj15 t222 1).bind fun bt247 => ((laws_markCoded.f kj15 t225 t226 bt247.1).bind fun bt249 => (if bt249.1 < 0 then (laws_FnExactTakeSymbol.j1 kj15 l0 t215 t220 true a1_0 l1_1 t216 t217 t231 t232) else (if t230 = t215 then ((laws_eqCoded.f kj15 t231 t232 t216 t217).bind fun t251 => (if t251 = true then (laws_FnExactTakeSymbol.j1 kj15 l0 t215 t220 (t235 != t220) a1_0 l1_1 t216 t217 t231 t232) else (laws_FnExactTakeSymbol.j1 kj15 l0 t215 t220 true a1_0 l1_1 t216 t217 t231 t232))) else (laws_FnExactTakeSymbol.j1 kj15 l0 t215 t220 true a1_0 l1_1 t216 t217 t231 t232))))) else (some false)))) else (some false)))) = some r := by rw [if_neg (show ¬ (false = true) by decide)] at H; exact H
       clear H
       have H := H1
       clear H1
       replace H := Option.bind_eq_some_iff.mp H
       obtain ⟨t238, A680, H⟩ := H
       replace H : ((laws_eqIntS.f kj15 t222 t238).bind fun t241 => (if t241 = true then ((laws_toCoded.f kj15 a1_0 l1_1).bind fun bt242 => ((laws_eqCoded.f kj15 t225 t226 bt242.1 bt242.2).bind fun t246 => (if t246 = true then ((laws_markIntS.f kj15 t222 1).bind fun bt247 => ((laws_markCoded.f kj15 t225 t226 bt247.1).bind fun bt249 => (if bt249.1 < 0 then (laws_FnExactTakeSymbol.j1 kj15 l0 t215 t220 true a1_0 l1_1 t216 t217 t231 t232) else (if t230 = t215 then ((laws_eqCoded.f kj15 t231 t232 t216 t217).bind fun t251 => (if t251 = true then (laws_FnExactTakeSymbol.j1 kj15 l0 t215 t220 (t235 != t220) a1_0 l1_1 t216 t217 t231 t232) else (laws_FnExactTakeSymbol.j1 kj15 l0 t215 t220 true a1_0 l1_1 t216 t217 t231 t232))) else (laws_FnExactTakeSymbol.j1 kj15 l0 t215 t220 true a1_0 l1_1 t216 t217 t231 t232))))) else (some false)))) else (some false))) = some r := H
       have A68 := Aside0.mk A680
       clear A680
       replace H := Option.bind_eq_some_iff.mp H
       obtain ⟨t241, A690, H⟩ := H
       replace H : (if t241 = true then ((laws_toCoded.f kj15 a1_0 l1_1).bind fun bt242 => ((laws_eqCoded.f kj15 t225 t226 bt242.1 bt242.2).bind fun t246 => (if t246 = true then ((laws_markIntS.f kj15 t222 1).bind fun bt247 => ((laws_markCoded.f kj15 t225 t226 bt247.1).bind fun bt249 => (if bt249.1 < 0 then (laws_FnExactTakeSymbol.j1 kj15 l0 t215 t220 true a1_0 l1_1 t216 t217 t231 t232) else (if t230 = t215 then ((laws_eqCoded.f kj15 t231 t232 t216 t217).bind fun t251 => (if t251 = true then (laws_FnExactTakeSymbol.j1 kj15 l0 t215 t220 (t235 != t220) a1_0 l1_1 t216 t217 t231 t232) else (laws_FnExactTakeSymbol.j1 kj15 l0 t215 t220 true a1_0 l1_1 t216 t217 t231 t232))) else (laws_FnExactTakeSymbol.j1 kj15 l0 t215 t220 true a1_0 l1_1 t216 t217 t231 t232))))) else (some false)))) else (some false)) = some r := H
       have A69 := Aside0.mk A690
       clear A690
       by_cases c70 : t241 = true
       ·subst c70
        have H1 : ((laws_toCoded.f kj15 a1_0 l1_1).bind fun bt242 => ((laws_eqCoded.f kj15 t225 t226 bt242.1 bt242.2).bind fun t246 => (if t246 = true then ((laws_markIntS.f kj15 t222 1).bind fun bt247 => ((laws_markCoded.f kj15 t225 t226 bt247.1).bind fun bt249 => (if bt249.1 < 0 then (laws_FnExactTakeSymbol.j1 kj15 l0 t215 t220 true a1_0 l1_1 t216 t217 t231 t232) else (if t230 = t215 then ((laws_eqCoded.f kj15 t231 t232 t216 t217).bind fun t251 => (if t251 = true then (laws_FnExactTakeSymbol.j1 kj15 l0 t215 t220 (t235 != t220) a1_0 l1_1 t216 t217 t231 t232) else (laws_FnExactTakeSymbol.j1 kj15 l0 t215 t220 true a1_0 l1_1 t216 t217 t231 t232))) else (laws_FnExactTakeSymbol.j1 kj15 l0 t215 t220 true a1_0 l1_1 t216 t217 t231 t232))))) else (some false)))) = some r := by rw [if_pos rfl] at H; exact H
        clear H
        have H := H1
        clear H1
        replace H := Option.bind_eq_some_iff.mp H
        obtain ⟨⟨t242, t243⟩, A710, H⟩ := H
        replace H : ((laws_eqCoded.f kj15 t225 t226 t242 t243).bind fun t246 => (if t246 = true then ((laws_markIntS.f kj15 t222 1).bind fun bt247 => ((laws_markCoded.f kj15 t225 t226 bt247.1).bind fun bt249 => (if bt249.1 < 0 then (laws_FnExactTakeSymbol.j1 kj15 l0 t215 t220 true a1_0 l1_1 t216 t217 t231 t232) else (if t230 = t215 then ((laws_eqCoded.f kj15 t231 t232 t216 t217).bind fun t251 => (if t251 = true then (laws_FnExactTakeSymbol.j1 kj15 l0 t215 t220 (t235 != t220) a1_0 l1_1 t216 t217 t231 t232) else (laws_FnExactTakeSymbol.j1 kj15 l0 t215 t220 true a1_0 l1_1 t216 t217 t231 t232))) else (laws_FnExactTakeSymbol.j1 kj15 l0 t215 t220 true a1_0 l1_1 t216 t217 t231 t232))))) else (some false))) = some r := H
        have A71 := Aside0.mk A710
        clear A710
        replace H := Option.bind_eq_some_iff.mp H
        obtain ⟨t246, A720, H⟩ := H
        replace H : (if t246 = true then ((laws_markIntS.f kj15 t222 1).bind fun bt247 => ((laws_markCoded.f kj15 t225 t226 bt247.1).bind fun bt249 => (if bt249.1 < 0 then (laws_FnExactTakeSymbol.j1 kj15 l0 t215 t220 true a1_0 l1_1 t216 t217 t231 t232) else (if t230 = t215 then ((laws_eqCoded.f kj15 t231 t232 t216 t217).bind fun t251 => (if t251 = true then (laws_FnExactTakeSymbol.j1 kj15 l0 t215 t220 (t235 != t220) a1_0 l1_1 t216 t217 t231 t232) else (laws_FnExactTakeSymbol.j1 kj15 l0 t215 t220 true a1_0 l1_1 t216 t217 t231 t232))) else (laws_FnExactTakeSymbol.j1 kj15 l0 t215 t220 true a1_0 l1_1 t216 t217 t231 t232))))) else (some false)) = some r := H
        have A72 := Aside0.mk A720
        clear A720
        by_cases c73 : t246 = true
        ·subst c73
         have H1 : ((laws_markIntS.f kj15 t222 1).bind fun bt247 => ((laws_markCoded.f kj15 t225 t226 bt247.1).bind fun bt249 => (if bt249.1 < 0 then (laws_FnExactTakeSymbol.j1 kj15 l0 t215 t220 true a1_0 l1_1 t216 t217 t231 t232) else (if t230 = t215 then ((laws_eqCoded.f kj15 t231 t232 t216 t217).bind fun t251 => (if t251 = true then (laws_FnExactTakeSymbol.j1 kj15 l0 t215 t220 (t235 != t220) a1_0 l1_1 t216 t217 t231 t232) else (laws_FnExactTakeSymbol.j1 kj15 l0 t215 t220 true a1_0 l1_1 t216 t217 t231 t232))) else (laws_FnExactTakeSymbol.j1 kj15 l0 t215 t220 true a1_0 l1_1 t216 t217 t231 t232))))) = some r := by rw [if_pos rfl] at H; exact H
         clear H
         have H := H1
         clear H1
         replace H := Option.bind_eq_some_iff.mp H
         obtain ⟨⟨t247, t248⟩, A740, H⟩ := H
         replace H : ((laws_markCoded.f kj15 t225 t226 t247).bind fun bt249 => (if bt249.1 < 0 then (laws_FnExactTakeSymbol.j1 kj15 l0 t215 t220 true a1_0 l1_1 t216 t217 t231 t232) else (if t230 = t215 then ((laws_eqCoded.f kj15 t231 t232 t216 t217).bind fun t251 => (if t251 = true then (laws_FnExactTakeSymbol.j1 kj15 l0 t215 t220 (t235 != t220) a1_0 l1_1 t216 t217 t231 t232) else (laws_FnExactTakeSymbol.j1 kj15 l0 t215 t220 true a1_0 l1_1 t216 t217 t231 t232))) else (laws_FnExactTakeSymbol.j1 kj15 l0 t215 t220 true a1_0 l1_1 t216 t217 t231 t232)))) = some r := H
         have A74 := Aside0.mk A740
         clear A740
         replace H := Option.bind_eq_some_iff.mp H
         obtain ⟨⟨t249, t250⟩, A750, H⟩ := H
         replace H : (if t249 < 0 then (laws_FnExactTakeSymbol.j1 kj15 l0 t215 t220 true a1_0 l1_1 t216 t217 t231 t232) else (if t230 = t215 then ((laws_eqCoded.f kj15 t231 t232 t216 t217).bind fun t251 => (if t251 = true then (laws_FnExactTakeSymbol.j1 kj15 l0 t215 t220 (t235 != t220) a1_0 l1_1 t216 t217 t231 t232) else (laws_FnExactTakeSymbol.j1 kj15 l0 t215 t220 true a1_0 l1_1 t216 t217 t231 t232))) else (laws_FnExactTakeSymbol.j1 kj15 l0 t215 t220 true a1_0 l1_1 t216 t217 t231 t232))) = some r := H
         have A75 := Aside0.mk A750
         clear A750
         have HC76 := Aside0.mk H
         clear H
         try go_wp2_with (first | ((with_reducible refine gate_callee (f := 14) rfl ?_); refine goesL_ (some 64) rfl rfl Try.func14 (by kernel_rfl) rfl #[.slice A0 l0.length c0] rfl (by (try simp only [List.map_toArray, List.map_cons, List.map_nil]); first | done | rfl | (simp only [List.length_drop, List.length_take]; rfl)) ?_; (with_reducible refine (laws_toIntS.calls kj15 _ _ l0 t238 _ ?side1 ?side2 A68.out).mono ?_); (case side1 => repeat (first | exact (Kd.C_below HR0.out HB.out) | (with_reducible refine Kd.C_alloc ?_ _) | (with_reducible refine Kd.C_drewN ?_ _) | (with_reducible refine Kd.C_drew ?_))); (case side2 => exact HC0.out); rintro e w77 ⟨v239, rfl, ho0, hb⟩; refine ⟨_, rfl, ?_⟩; have HO240 := xM (Kd.R_lower (Kd.R_new' (Kd.R_new' (Kd.R_new' (Kd.R_new' ho0 (xL (yR HO_9))) (xL (yR HO_222001))) (xL (yR HO_230001))) (xL (yR HO_237001))) (below_size (yh HB))); replace HO_9 := xM (Kd.R_elder' (yR HO_9) (Kd.R_base ho0) hb); replace HO_222001 := xM (Kd.R_elder' (yR HO_222001) (Kd.R_base ho0) hb); replace HO_230001 := xM (Kd.R_elder' (yR HO_230001) (Kd.R_base ho0) hb); replace HO_237001 := xM (Kd.R_elder' (yR HO_237001) (Kd.R_base ho0) hb); replace BK206 := xM (xB (yb BK206) hb); replace BK221 := xM (xB (yb BK221) hb); replace BK229 := xM (xB (yb BK229) hb); replace BK236 := xM (xB (yb BK236) hb); replace HB := xM (below_step (yh HB) hb); (try clear hb); (try clear ho0); obtain ⟨Ao78, co78, eo78⟩ := Kd.R_slice HO240.out; subst eo78) | ((with_reducible refine gate_callee (f := 16) rfl ?_); refine goesL_ (some 65) rfl rfl Try.func16 (by kernel_rfl) rfl #[.slice Ao40 t222.length co40, .slice Ao78 t238.length co78] rfl (by (try simp only [List.map_toArray, List.map_cons, List.map_nil]); first | done | rfl | (simp only [List.length_drop, List.length_take]; rfl)) ?_; (with_reducible refine (laws_eqIntS.calls kj15 _ _ t222 _ _ t238 true _ ?side1 ?side2 ?side3 ?side4 A69.out).mono ?_); (case side1 => repeat (first | exact (Kd.R_reads' HO_9.out).2.2 | (with_reducible refine Kd.C_alloc ?_ _) | (with_reducible refine Kd.C_drewN ?_ _) | (with_reducible refine Kd.C_drew ?_))); (case side2 => exact (Kd.R_reads' HO_9.out).2.1); (case side3 => repeat (first | exact (Kd.R_reads' HO240.out).2.2 | (with_reducible refine Kd.C_alloc ?_ _) | (with_reducible refine Kd.C_drewN ?_ _) | (with_reducible refine Kd.C_drew ?_))); (case side4 => exact (Kd.R_reads' HO240.out).2.1); rintro e w' ⟨rfl, ⟨nd, rfl⟩⟩; refine ⟨_, rfl, ?_⟩))
         (try (rw [drewN_self w77]; generalize hq_ : World.drewN w77 _ = w77; have n0_ := xM (Kd.R_at hq_ HO_9.out); have n1_ := xM (Kd.R_at hq_ HO_222001.out); have n2_ := xM (Kd.R_at hq_ HO_230001.out); have n3_ := xM (Kd.R_at hq_ HO_237001.out); have n4_ := xM (Kd.R_at hq_ HO240.out); have n5_ := xM (blk_at hq_ BK206.out); have n6_ := xM (blk_at hq_ BK221.out); have n7_ := xM (blk_at hq_ BK229.out); have n8_ := xM (blk_at hq_ BK236.out); have n9_ := xM (below_at hq_ HB.out); clear hq_ HO_9 HO_222001 HO_230001 HO_237001 HO240 BK206 BK221 BK229 BK236 HB; have HO_9 := n0_; have HO_222001 := n1_; have HO_230001 := n2_; have HO_237001 := n3_; have HO240 := n4_; have BK206 := n5_; have BK221 := n6_; have BK229 := n7_; have BK236 := n8_; have HB := n9_; clear n0_ n1_ n2_ n3_ n4_ n5_ n6_ n7_ n8_ n9_))
         replace HO_9 := xM (Kd.R_drew HO_9.out)
         replace HO_222001 := xM (Kd.R_drew HO_222001.out)
         replace HO_230001 := xM (Kd.R_drew HO_230001.out)
         replace HO_237001 := xM (Kd.R_drew HO_237001.out)
         replace HO240 := xM (Kd.R_drew HO240.out)
         replace BK206 := xM (blk_drew BK206.out)
         replace BK221 := xM (blk_drew BK221.out)
         replace BK229 := xM (blk_drew BK229.out)
         replace BK236 := xM (blk_drew BK236.out)
         replace HB := xM (below_drew1 HB.out)
         refine start_ (n := 5) (S := fun w' => w'.cell? ⟨gb229, 0, none⟩ = some (.int .i64 t225) ∧ w'.cell? ⟨gb229, 1, none⟩ = some (.slice Ao39 t226.length co39) ∧ w'.cell? ⟨gb206, 0, none⟩ = some (.int .i64 a1_0) ∧ w'.cell? ⟨gb206, 1, none⟩ = some (.slice A1_1 l1_1.length c1_1)) (ds := []) #[false, false, false, false, false] (by kernel_rfl) rfl rfl ⟨(blk_cell BK229.out 0).trans rfl, (blk_cell BK229.out 1).trans rfl, (blk_cell BK206.out 0).trans rfl, (blk_cell BK206.out 1).trans rfl⟩ (fun hHeld => ?_)
         generalize w77.drew = w79 at HO_9 HO_222001 HO_230001 HO_237001 HO240 BK206 BK221 BK229 BK236 HB hHeld ⊢
         refine take_ (i := 0) (N := some 67) (v := ?_) (a' := ?_) #[true, false, false, false, false] rfl rfl (by kernel_rfl) (fun _ _ _ h => h) (Or.inl ⟨by rfl, ?_⟩) hHeld ?_ ?_
         rotate_left
         ·rintro w' ⟨s0, s1, s2, s3⟩
          go_simp
          with_reducible rfl
         rotate_left
         ·simp only [Act.put, List.setIfInBounds_toArray, List.set_cons_zero, List.set_cons_succ, i64_w, i32_w]
          rfl
         refine take_ (i := 1) (N := some 68) (v := ?_) (a' := ?_) #[true, true, false, false, false] rfl rfl (by kernel_rfl) (fun _ _ _ h => h) (Or.inl ⟨by rfl, ?_⟩) hHeld ?_ ?_
         rotate_left
         ·rintro w' ⟨s0, s1, s2, s3⟩
          go_simp
          with_reducible rfl
         rotate_left
         ·simp only [Act.put, List.setIfInBounds_toArray, List.set_cons_zero, List.set_cons_succ, i64_w, i32_w]
          rfl
         refine one_ (i := 2) (N := some 69) #[true, true, true, false, false] rfl rfl (by kernel_rfl) (by decide) (fun K hK => ?_)
         refine goes_ Try.func33 (by kernel_rfl) rfl #[.agg #[.int .i64 a1_0, .slice A1_1 l1_1.length c1_1]] (by rfl) rfl rfl (by (try simp only [List.map_toArray, List.map_cons, List.map_nil]); first | done | rfl | (simp only [List.length_drop, List.length_take]; rfl)) ?_
         with_reducible refine (laws_toCoded.calls kj15 a1_0 _ _ l1_1 t242 t243 _ ?side1 ?side2 A71.out).mono ?_
         (case side1 => repeat (first | exact (Kd.C_below HR1_1.out HB.out) | (with_reducible refine Kd.C_alloc ?_ _) | (with_reducible refine Kd.C_drewN ?_ _) | (with_reducible refine Kd.C_drew ?_)))
         (case side2 => exact HC1_1.out)
         rintro e w80 ⟨v244, rfl, ho0, hb⟩
         refine ⟨_, rfl, ?_⟩
         have HO245 := xM (Kd.R_lower (Kd.R_new' (Kd.R_new' (Kd.R_new' (Kd.R_new' (Kd.R_new' ho0 (xL (yR HO_9))) (xL (yR HO_222001))) (xL (yR HO_230001))) (xL (yR HO_237001))) (xL (yR HO240))) (below_size (yh HB)))
         replace HO_9 := xM (Kd.R_elder' (yR HO_9) (Kd.R_base ho0) hb)
         replace HO_222001 := xM (Kd.R_elder' (yR HO_222001) (Kd.R_base ho0) hb)
         replace HO_230001 := xM (Kd.R_elder' (yR HO_230001) (Kd.R_base ho0) hb)
         replace HO_237001 := xM (Kd.R_elder' (yR HO_237001) (Kd.R_base ho0) hb)
         replace HO240 := xM (Kd.R_elder' (yR HO240) (Kd.R_base ho0) hb)
         replace BK206 := xM (xB (yb BK206) hb)
         replace BK221 := xM (xB (yb BK221) hb)
         replace BK229 := xM (xB (yb BK229) hb)
         replace BK236 := xM (xB (yb BK236) hb)
         replace HB := xM (below_step (yh HB) hb)
         (try clear hb)
         (try clear hb2)
         (try clear hk)
         (try clear hi)
         (try clear ho0)
         obtain ⟨Ao81, co81, eo81⟩ := Kd.R_slice HO245.out
         (first | subst eo81 | (injection eo81 with f1_ f2_ f3_; have f4_ := f1_.symm; have f5_ := f3_.symm; clear f1_ f2_ f3_; subst f4_; subst f5_))
         refine hK.out _ _ ⟨(blk_cell BK229.out 0).trans rfl, (blk_cell BK229.out 1).trans rfl, (blk_cell BK206.out 0).trans rfl, (blk_cell BK206.out 1).trans rfl⟩ (fun hHeld => ?_)
         clear hK K
         refine norm_ (a' := ?_) ?_ ?_
         rotate_left
         ·show Act.put _ (some 69) _ = _
          simp only [Act.put, List.setIfInBounds_toArray, List.set_cons_zero, List.set_cons_succ, i64_w, i32_w]
          rfl
         refine one_ (i := 3) (N := some 70) #[true, true, true, true, false] rfl rfl (by kernel_rfl) (by decide) (fun K hK => ?_)
         refine goes_ Try.func23 (by kernel_rfl) rfl #[.agg #[.int .i64 t225, .slice Ao39 t226.length co39], .agg #[.int .i64 t242, .slice Ao81 t243.length co81]] (by rfl) rfl rfl (by (try simp only [List.map_toArray, List.map_cons, List.map_nil]); first | done | rfl | (simp only [List.length_drop, List.length_take]; rfl)) ?_
         with_reducible refine (laws_eqCoded.calls kj15 t225 _ _ t226 t242 _ _ t243 true _ ?side1 ?side2 ?side3 ?side4 A72.out).mono ?_
         (case side1 => repeat (first | exact (Kd.R_reads' HO_230001.out).2.2 | (with_reducible refine Kd.C_alloc ?_ _) | (with_reducible refine Kd.C_drewN ?_ _) | (with_reducible refine Kd.C_drew ?_)))
         (case side2 => exact (Kd.R_reads' HO_230001.out).2.1)
         (case side3 => repeat (first | exact (Kd.R_reads' HO245.out).2.2 | (with_reducible refine Kd.C_alloc ?_ _) | (with_reducible refine Kd.C_drewN ?_ _) | (with_reducible refine Kd.C_drew ?_)))
         (case side4 => exact (Kd.R_reads' HO245.out).2.1)
         rintro e w82 ⟨rfl, hb⟩
         refine ⟨_, rfl, ?_⟩
         replace HO_9 := xM (xW (yR HO_9) hb)
         replace HO_222001 := xM (xW (yR HO_222001) hb)
         replace HO_230001 := xM (xW (yR HO_230001) hb)
         replace HO_237001 := xM (xW (yR HO_237001) hb)
         replace HO240 := xM (xW (yR HO240) hb)
         replace HO245 := xM (xW (yR HO245) hb)
         replace BK206 := xM (xB (yb BK206) hb)
         replace BK221 := xM (xB (yb BK221) hb)
         replace BK229 := xM (xB (yb BK229) hb)
         replace BK236 := xM (xB (yb BK236) hb)
         replace HB := xM (below_step (yh HB) hb)
         (try clear hb)
         (try clear hb2)
         (try clear hk)
         (try clear hi)
         refine hK.out _ _ ⟨(blk_cell BK229.out 0).trans rfl, (blk_cell BK229.out 1).trans rfl, (blk_cell BK206.out 0).trans rfl, (blk_cell BK206.out 1).trans rfl⟩ (fun hHeld => ?_)
         clear hK K
         refine norm_ (a' := ?_) ?_ ?_
         rotate_left
         ·show Act.put _ (some 70) _ = _
          simp only [Act.put, List.setIfInBounds_toArray, List.set_cons_zero, List.set_cons_succ, i64_w, i32_w]
          rfl
         refine pure_ (i := 4) (N := some 71) (v := ?_) (a' := ?_) #[true, true, true, true, true] rfl rfl (by kernel_rfl) (fun _ _ _ h => h) (Or.inl ⟨by rfl, ?_⟩) ?_ ?_
         rotate_left
         ·intro w'
          go_simp
          with_reducible rfl
         rotate_left
         ·simp only [Act.put, List.setIfInBounds_toArray, List.set_cons_zero, List.set_cons_succ, i64_w, i32_w]
          rfl
         refine done_ (by kernel_rfl) ?_
         go_upto_region 20 with (first | ((with_reducible refine gate_callee (f := 17) rfl ?_); refine goesL_ (some 74) rfl rfl Try.func17 (by kernel_rfl) rfl #[.slice Ao40 t222.length co40, .int .i64 1] rfl (by (try simp only [List.map_toArray, List.map_cons, List.map_nil]); first | done | rfl | (simp only [List.length_drop, List.length_take]; rfl)) ?_; (with_reducible refine (laws_markIntS.calls kj15 (fun k_ => some k_ = (.slice Ao40 t222.length co40 : Value).ownBlock) (.slice Ao40 t222.length co40) t222 1 t247 t248 w _ ?side1 ?side2 A74.out).mono ?_); (case side1 => repeat (first | (with_reducible first | exact HB.out | apply xa | apply xn | apply xd | refine xs ?_ GE206.out | refine xs ?_ GE221.out | refine xs ?_ GE229.out | refine xs ?_ GE236.out) | exact HB.out)); (case side2 => exact Kd.R_tight rfl HO_9.out); rintro e w83 ⟨rfl, hy0, hb, hkp⟩; refine ⟨_, rfl, ?_⟩; replace HO_222001 := xM (xO (ok' := fun k_ => some k_ ≠ (.slice Ao40 t222.length co40 : Value).ownBlock ∧ some k_ ≠ (.slice Ao39 t226.length co39 : Value).ownBlock ∧ some k_ ≠ (.slice Ao47 t232.length co47 : Value).ownBlock ∧ some k_ ≠ (.slice Ao78 t238.length co78 : Value).ownBlock ∧ some k_ ≠ (.slice Ao81 t243.length co81 : Value).ownBlock) (Kd.R_keptB (HO_222001.out) hkp (fun k_ hk_ hs_ => (hk_.1.1.1) hs_)) (fun k_ hk_ => ⟨hk_.1.1.1.1, hk_.1.1.1.2.1, hk_.1.1.1.2.2, hk_.1.1.2, hk_.1.2⟩)); replace HO_230001 := xM (xO (ok' := fun k_ => some k_ ≠ (.slice Ao40 t222.length co40 : Value).ownBlock ∧ some k_ ≠ (.slice Ao29 t217.length co29 : Value).ownBlock ∧ some k_ ≠ (.slice Ao47 t232.length co47 : Value).ownBlock ∧ some k_ ≠ (.slice Ao78 t238.length co78 : Value).ownBlock ∧ some k_ ≠ (.slice Ao81 t243.length co81 : Value).ownBlock) (Kd.R_keptB (HO_230001.out) hkp (fun k_ hk_ hs_ => (hk_.1.1.1) hs_)) (fun k_ hk_ => ⟨hk_.1.1.1.1, hk_.1.1.1.2.1, hk_.1.1.1.2.2, hk_.1.1.2, hk_.1.2⟩)); replace HO_237001 := xM (xO (ok' := fun k_ => some k_ ≠ (.slice Ao40 t222.length co40 : Value).ownBlock ∧ some k_ ≠ (.slice Ao29 t217.length co29 : Value).ownBlock ∧ some k_ ≠ (.slice Ao39 t226.length co39 : Value).ownBlock ∧ some k_ ≠ (.slice Ao78 t238.length co78 : Value).ownBlock ∧ some k_ ≠ (.slice Ao81 t243.length co81 : Value).ownBlock) (Kd.R_keptB (HO_237001.out) hkp (fun k_ hk_ hs_ => (hk_.1.1.1) hs_)) (fun k_ hk_ => ⟨hk_.1.1.1.1, hk_.1.1.1.2.1, hk_.1.1.1.2.2, hk_.1.1.2, hk_.1.2⟩)); replace BK206 := xM (blk_kept (yb BK206) hkp (fun hs_ => (fun e_ => (Kd.R_ne HO_9.out BK206.out (by decide)) e_) hs_)); replace BK221 := xM (blk_kept (yb BK221) hkp (fun hs_ => (fun e_ => (Kd.R_ne HO_9.out BK221.out (by decide)) e_) hs_)); replace BK229 := xM (blk_kept (yb BK229) hkp (fun hs_ => (fun e_ => (Kd.R_ne HO_9.out BK229.out (by decide)) e_) hs_)); replace BK236 := xM (blk_kept (yb BK236) hkp (fun hs_ => (fun e_ => (Kd.R_ne HO_9.out BK236.out (by decide)) e_) hs_)); replace HO_9 := xM (Kd.R_reok rfl hy0 (fun k_ e_ => HO_9.out.1 k_ e_)); replace HO240 := xM (xO (ok' := fun k_ => some k_ ≠ (.slice Ao40 t222.length co40 : Value).ownBlock ∧ some k_ ≠ (.slice Ao29 t217.length co29 : Value).ownBlock ∧ some k_ ≠ (.slice Ao39 t226.length co39 : Value).ownBlock ∧ some k_ ≠ (.slice Ao47 t232.length co47 : Value).ownBlock ∧ some k_ ≠ (.slice Ao81 t243.length co81 : Value).ownBlock) (Kd.R_keptB (HO240.out) hkp (fun k_ hk_ hs_ => (hk_.1.1.1.1.2) hs_)) (fun k_ hk_ => ⟨hk_.1.1.1.1.1.2, hk_.1.1.1.1.2, hk_.1.1.1.2, hk_.1.1.2, hk_.1.2⟩)); replace HO245 := xM (xO (ok' := fun k_ => some k_ ≠ (.slice Ao40 t222.length co40 : Value).ownBlock ∧ some k_ ≠ (.slice Ao29 t217.length co29 : Value).ownBlock ∧ some k_ ≠ (.slice Ao39 t226.length co39 : Value).ownBlock ∧ some k_ ≠ (.slice Ao47 t232.length co47 : Value).ownBlock ∧ some k_ ≠ (.slice Ao78 t238.length co78 : Value).ownBlock) (Kd.R_keptB (HO245.out) hkp (fun k_ hk_ hs_ => (hk_.1.1.1.1.2) hs_)) (fun k_ hk_ => ⟨hk_.1.1.1.1.1.2, hk_.1.1.1.1.2, hk_.1.1.1.2, hk_.1.1.2, hk_.1.2⟩)); replace HB := xM (hb); (try clear hb); (try clear hkp); (try clear hy0); have hnb84 := NB229_206.out; have hnc84 := NB206_229.out; have hnb85 := NB229_221.out; have hnc85 := NB221_229.out; have hnb86 := NB229_236.out; have hnc86 := NB236_229.out; have hcz87_0 : w83.cell? ⟨gb229, 0, none⟩ = some (.int .i64 t225) := (blk_cell BK229.out 0).trans rfl; have hcz87_1 : w83.cell? ⟨gb229, 1, none⟩ = some (.slice Ao39 t226.length co39) := (blk_cell BK229.out 1).trans rfl; have hfz87_0 := blk_frozen BK229.out 0; have hfz87_1 := blk_frozen BK229.out 1) | ((with_reducible refine gate_callee (f := 24) rfl ?_); refine goesL_ (some 77) rfl rfl Try.func24 (by kernel_rfl) rfl #[.agg #[.int .i64 t225, .slice Ao39 t226.length co39], .int .i64 t247] rfl (by (try simp only [List.map_toArray, List.map_cons, List.map_nil]); first | done | rfl | (simp only [List.length_drop, List.length_take]; rfl)) ?_; (with_reducible refine (laws_markCoded.calls kj15 t225 (fun k_ => some k_ = (.slice Ao39 t226.length co39 : Value).ownBlock) (.slice Ao39 t226.length co39) t226 t247 t249 t250 w _ ?side1 ?side2 A75.out).mono ?_); (case side1 => repeat (first | (with_reducible first | exact HB.out | apply xa | apply xn | apply xd | refine xs ?_ GE206.out | refine xs ?_ GE221.out | refine xs ?_ GE229.out | refine xs ?_ GE236.out) | exact HB.out)); (case side2 => exact Kd.R_tight rfl HO_230001.out); rintro e w88 ⟨rfl, hy0, hb, hkp⟩; refine ⟨_, rfl, ?_⟩; replace HO_9 := xM (xO (ok' := fun k_ => some k_ ≠ (.slice Ao29 t217.length co29 : Value).ownBlock ∧ some k_ ≠ (.slice Ao39 t226.length co39 : Value).ownBlock ∧ some k_ ≠ (.slice Ao47 t232.length co47 : Value).ownBlock ∧ some k_ ≠ (.slice Ao78 t238.length co78 : Value).ownBlock ∧ some k_ ≠ (.slice Ao81 t243.length co81 : Value).ownBlock) (Kd.R_keptB (HO_9.out) hkp (fun k_ hk_ hs_ => (hk_.1.1.2.1) hs_)) (fun k_ hk_ => ⟨hk_.1.1.1.1, hk_.1.1.1.2.1, hk_.1.1.1.2.2, hk_.1.1.2, hk_.1.2⟩)); replace HO_222001 := xM (xO (ok' := fun k_ => some k_ ≠ (.slice Ao40 t222.length co40 : Value).ownBlock ∧ some k_ ≠ (.slice Ao39 t226.length co39 : Value).ownBlock ∧ some k_ ≠ (.slice Ao47 t232.length co47 : Value).ownBlock ∧ some k_ ≠ (.slice Ao78 t238.length co78 : Value).ownBlock ∧ some k_ ≠ (.slice Ao81 t243.length co81 : Value).ownBlock) (Kd.R_keptB (HO_222001.out) hkp (fun k_ hk_ hs_ => (hk_.2.1) hs_)) (fun k_ hk_ => ⟨hk_.1.1, hk_.1.2.1, hk_.1.2.2.1, hk_.1.2.2.2.1, hk_.1.2.2.2.2⟩)); replace HO_237001 := xM (xO (ok' := fun k_ => some k_ ≠ (.slice Ao40 t222.length co40 : Value).ownBlock ∧ some k_ ≠ (.slice Ao29 t217.length co29 : Value).ownBlock ∧ some k_ ≠ (.slice Ao39 t226.length co39 : Value).ownBlock ∧ some k_ ≠ (.slice Ao78 t238.length co78 : Value).ownBlock ∧ some k_ ≠ (.slice Ao81 t243.length co81 : Value).ownBlock) (Kd.R_keptB (HO_237001.out) hkp (fun k_ hk_ hs_ => (hk_.2.2.1) hs_)) (fun k_ hk_ => ⟨hk_.1.1, hk_.1.2.1, hk_.1.2.2.1, hk_.1.2.2.2.1, hk_.1.2.2.2.2⟩)); replace BK206 := xM (blk_kept (yb BK206) hkp (fun hs_ => (fun e_ => (Kd.R_ne HO_230001.out BK206.out (by decide)) e_) hs_)); replace BK221 := xM (blk_kept (yb BK221) hkp (fun hs_ => (fun e_ => (Kd.R_ne HO_230001.out BK221.out (by decide)) e_) hs_)); replace BK229 := xM (blk_kept (yb BK229) hkp (fun hs_ => (fun e_ => (Kd.R_ne HO_230001.out BK229.out (by decide)) e_) hs_)); replace BK236 := xM (blk_kept (yb BK236) hkp (fun hs_ => (fun e_ => (Kd.R_ne HO_230001.out BK236.out (by decide)) e_) hs_)); replace HO_230001 := xM (Kd.R_reok rfl hy0 (fun k_ e_ => HO_230001.out.1 k_ e_)); replace HO240 := xM (xO (ok' := fun k_ => some k_ ≠ (.slice Ao40 t222.length co40 : Value).ownBlock ∧ some k_ ≠ (.slice Ao29 t217.length co29 : Value).ownBlock ∧ some k_ ≠ (.slice Ao39 t226.length co39 : Value).ownBlock ∧ some k_ ≠ (.slice Ao47 t232.length co47 : Value).ownBlock ∧ some k_ ≠ (.slice Ao81 t243.length co81 : Value).ownBlock) (Kd.R_keptB (HO240.out) hkp (fun k_ hk_ hs_ => (hk_.2.2.1) hs_)) (fun k_ hk_ => ⟨hk_.1.1, hk_.1.2.1, hk_.1.2.2.1, hk_.1.2.2.2.1, hk_.1.2.2.2.2⟩)); replace HO245 := xM (xO (ok' := fun k_ => some k_ ≠ (.slice Ao40 t222.length co40 : Value).ownBlock ∧ some k_ ≠ (.slice Ao29 t217.length co29 : Value).ownBlock ∧ some k_ ≠ (.slice Ao39 t226.length co39 : Value).ownBlock ∧ some k_ ≠ (.slice Ao47 t232.length co47 : Value).ownBlock ∧ some k_ ≠ (.slice Ao78 t238.length co78 : Value).ownBlock) (Kd.R_keptB (HO245.out) hkp (fun k_ hk_ hs_ => (hk_.2.2.1) hs_)) (fun k_ hk_ => ⟨hk_.1.1, hk_.1.2.1, hk_.1.2.2.1, hk_.1.2.2.2.1, hk_.1.2.2.2.2⟩)); replace HB := xM (hb); (try clear hb); (try clear hkp); (try clear hy0)))
         (try simp only [Act.put, List.setIfInBounds_toArray, List.set_cons_zero, List.set_cons_succ])
         go_cut [95] (fun v95 wc => ∃ (kq : Nat) (x95_75 : Bool), v95 = .bool x95_75 ∧ Aside0 (laws_FnExactTakeSymbol.j1 kq l0 t215 t220 x95_75 a1_0 l1_1 t216 t217 t231 t232 = some r) ∧ Aside0 (kq ≤ kj15) ∧ Aside0 (Kd.R (Kd.int .i64) 3 wc w.heap.size (fun k_ => some k_ ≠ ((.slice Ao39 t226.length co39) : Value).ownBlock ∧ some k_ ≠ ((.slice Ao47 t232.length co47) : Value).ownBlock) (.slice Ao29 t217.length co29) t217) ∧ Aside0 (Kd.R (Kd.int .i64) 3 wc w.heap.size (fun k_ => some k_ ≠ ((.slice Ao29 t217.length co29) : Value).ownBlock ∧ some k_ ≠ ((.slice Ao47 t232.length co47) : Value).ownBlock) (.slice Ao39 t226.length co39) t250) ∧ Aside0 (Kd.R (Kd.int .i64) 3 wc w.heap.size (fun k_ => some k_ ≠ ((.slice Ao29 t217.length co29) : Value).ownBlock ∧ some k_ ≠ ((.slice Ao39 t226.length co39) : Value).ownBlock) (.slice Ao47 t232.length co47) t232) ∧ Aside0 (wc.heap[gb206]? = some (.cells #[.int .i64 a1_0, (.slice A1_1 l1_1.length c1_1)] 47 (0, 0))) ∧ Aside0 (wc.heap[gb221]? = some (.cells #[.int .i64 t216, (.slice Ao29 t217.length co29)] 33 (0, 0))) ∧ Aside0 (wc.heap[gb229]? = some (.cells #[.int .i64 t225, (.slice Ao39 t226.length co39)] 33 (0, 0))) ∧ Aside0 (wc.heap[gb236]? = some (.cells #[.int .i64 t231, (.slice Ao47 t232.length co47)] 33 (0, 0))) ∧ Aside0 (Below w.heap.size w wc))
         case first =>
          have H := HC76.out
          clear HC76
          by_cases c89 : t249 < 0
          ·rw [if_pos c89] at H
           have c89b0 : decide (t249 < 0) = true := decide_eq_true c89
           clear c89
           (first | rw [c89b0] | (simp only [i64_w, i32_w]; rw [c89b0]) | skip)
           have H' := Aside0.mk H
           clear H
           go_wp2
           go_meet
           case rel => exact ⟨_, (true), (by first | rfl | (simp; done) | (simp [*]; done)), H', ⟨by have := HJ15.out; first | omega | exact Nat.le_refl _⟩, ⟨by (with_reducible repeat (first | apply xRA | apply xRN | apply xRD)); exact Kd.R_mono HO_222001.out (fun _ hk => ⟨hk.2.1, hk.2.2.1⟩)⟩, ⟨by (with_reducible repeat (first | apply xRA | apply xRN | apply xRD)); exact Kd.R_mono HO_230001.out (fun _ hk => ⟨hk.2.1, hk.2.2.1⟩)⟩, ⟨by (with_reducible repeat (first | apply xRA | apply xRN | apply xRD)); exact Kd.R_mono HO_237001.out (fun _ hk => ⟨hk.2.1, hk.2.2.1⟩)⟩, ⟨by (with_reducible repeat (first | apply xbN | apply xbD | apply xbA)); exact BK206.out⟩, ⟨by (with_reducible repeat (first | apply xbN | apply xbD | apply xbA)); exact BK221.out⟩, ⟨by (with_reducible repeat (first | apply xbN | apply xbD | apply xbA)); exact BK229.out⟩, ⟨by (with_reducible repeat (first | apply xbN | apply xbD | apply xbA)); exact BK236.out⟩, ⟨yh HB⟩⟩
          ·rw [if_neg c89] at H
           have c89b0 : decide (t249 < 0) = false := decide_eq_false c89
           clear c89
           (first | rw [c89b0] | (simp only [i64_w, i32_w]; rw [c89b0]) | skip)
           by_cases c90 : t230 = t215
           ·rw [if_pos c90] at H
            have c90b0 : (t230 == t215) = true := beq_iff_eq.mpr c90
            have c90b1 : (t230 != t215) = false := bne_eq_false_iff_eq.mpr c90
            clear c90
            replace H := Option.bind_eq_some_iff.mp H
            obtain ⟨t251, A910, H⟩ := H
            replace H : (if t251 = true then (laws_FnExactTakeSymbol.j1 kj15 l0 t215 t220 (t235 != t220) a1_0 l1_1 t216 t217 t231 t232) else (laws_FnExactTakeSymbol.j1 kj15 l0 t215 t220 true a1_0 l1_1 t216 t217 t231 t232)) = some r := H
            have A91 := Aside0.mk A910
            clear A910
            by_cases c92 : t251 = true
            ·subst c92
             have H1 : (laws_FnExactTakeSymbol.j1 kj15 l0 t215 t220 (t235 != t220) a1_0 l1_1 t216 t217 t231 t232) = some r := by rw [if_pos rfl] at H; exact H
             clear H
             have H := H1
             clear H1
             have H' := Aside0.mk H
             clear H
             have hnb93 := NB236_206.out
             have hnc93 := NB206_236.out
             have hnb94 := NB236_221.out
             have hnc94 := NB221_236.out
             have hnb95 := NB236_229.out
             have hnc95 := NB229_236.out
             have hcz96_0 : w88.cell? ⟨gb236, 0, none⟩ = some (.int .i64 t231) := (blk_cell BK236.out 0).trans rfl
             have hcz96_1 : w88.cell? ⟨gb236, 1, none⟩ = some (.slice Ao47 t232.length co47) := (blk_cell BK236.out 1).trans rfl
             have hfz96_0 := blk_frozen BK236.out 0
             have hfz96_1 := blk_frozen BK236.out 1
             have hnb97 := NB221_206.out
             have hnc97 := NB206_221.out
             have hnb98 := NB221_229.out
             have hnc98 := NB229_221.out
             have hcz99_0 : w88.cell? ⟨gb221, 0, none⟩ = some (.int .i64 t216) := (blk_cell BK221.out 0).trans rfl
             have hcz99_1 : w88.cell? ⟨gb221, 1, none⟩ = some (.slice Ao29 t217.length co29) := (blk_cell BK221.out 1).trans rfl
             have hfz99_0 := blk_frozen BK221.out 0
             have hfz99_1 := blk_frozen BK221.out 1
             go_wp2_with (first | (go_at_call 23; (with_reducible refine (laws_eqCoded.calls kj15 t231 _ _ t232 t216 _ _ t217 true _ ?side1 ?side2 ?side3 ?side4 A91.out).mono ?_); (case side1 => repeat (first | exact (Kd.R_reads' HO_237001.out).2.2 | (with_reducible refine Kd.C_alloc ?_ _) | (with_reducible refine Kd.C_drewN ?_ _) | (with_reducible refine Kd.C_drew ?_))); (case side2 => exact (Kd.R_reads' HO_237001.out).2.1); (case side3 => repeat (first | exact (Kd.R_reads' HO_222001.out).2.2 | (with_reducible refine Kd.C_alloc ?_ _) | (with_reducible refine Kd.C_drewN ?_ _) | (with_reducible refine Kd.C_drew ?_))); (case side4 => exact (Kd.R_reads' HO_222001.out).2.1); rintro e w100 ⟨rfl, hb⟩; replace HO_9 := xM (xW (yR HO_9) hb); replace HO_222001 := xM (xW (yR HO_222001) hb); replace HO_230001 := xM (xW (yR HO_230001) hb); replace HO_237001 := xM (xW (yR HO_237001) hb); replace HO240 := xM (xW (yR HO240) hb); replace HO245 := xM (xW (yR HO245) hb); replace BK206 := xM (xB (yb BK206) hb); replace BK221 := xM (xB (yb BK221) hb); replace BK229 := xM (xB (yb BK229) hb); replace BK236 := xM (xB (yb BK236) hb); replace HB := xM (below_step (yh HB) hb); (try clear hb)))
             go_meet
             case rel => exact ⟨_, ((t235 != t220)), (by first | rfl | (simp; done) | (simp [*]; done)), H', ⟨by have := HJ15.out; first | omega | exact Nat.le_refl _⟩, ⟨by (with_reducible repeat (first | apply xRA | apply xRN | apply xRD)); exact Kd.R_mono HO_222001.out (fun _ hk => ⟨hk.2.1, hk.2.2.1⟩)⟩, ⟨by (with_reducible repeat (first | apply xRA | apply xRN | apply xRD)); exact Kd.R_mono HO_230001.out (fun _ hk => ⟨hk.2.1, hk.2.2.1⟩)⟩, ⟨by (with_reducible repeat (first | apply xRA | apply xRN | apply xRD)); exact Kd.R_mono HO_237001.out (fun _ hk => ⟨hk.2.1, hk.2.2.1⟩)⟩, ⟨by (with_reducible repeat (first | apply xbN | apply xbD | apply xbA)); exact BK206.out⟩, ⟨by (with_reducible repeat (first | apply xbN | apply xbD | apply xbA)); exact BK221.out⟩, ⟨by (with_reducible repeat (first | apply xbN | apply xbD | apply xbA)); exact BK229.out⟩, ⟨by (with_reducible repeat (first | apply xbN | apply xbD | apply xbA)); exact BK236.out⟩, ⟨yh HB⟩⟩
            ·replace c92 := Bool.eq_false_iff.mpr c92
             subst c92
             have H1 : (laws_FnExactTakeSymbol.j1 kj15 l0 t215 t220 true a1_0 l1_1 t216 t217 t231 t232) = some r := by rw [if_neg (show ¬ (false = true) by decide)] at H; exact H
             clear H
             have H := H1
             clear H1
             have H' := Aside0.mk H
             clear H
             have hnb101 := NB236_206.out
             have hnc101 := NB206_236.out
             have hnb102 := NB236_221.out
             have hnc102 := NB221_236.out
             have hnb103 := NB236_229.out
             have hnc103 := NB229_236.out
             have hcz104_0 : w88.cell? ⟨gb236, 0, none⟩ = some (.int .i64 t231) := (blk_cell BK236.out 0).trans rfl
             have hcz104_1 : w88.cell? ⟨gb236, 1, none⟩ = some (.slice Ao47 t232.length co47) := (blk_cell BK236.out 1).trans rfl
             have hfz104_0 := blk_frozen BK236.out 0
             have hfz104_1 := blk_frozen BK236.out 1
             have hnb105 := NB221_206.out
             have hnc105 := NB206_221.out
             have hnb106 := NB221_229.out
             have hnc106 := NB229_221.out
             have hcz107_0 : w88.cell? ⟨gb221, 0, none⟩ = some (.int .i64 t216) := (blk_cell BK221.out 0).trans rfl
             have hcz107_1 : w88.cell? ⟨gb221, 1, none⟩ = some (.slice Ao29 t217.length co29) := (blk_cell BK221.out 1).trans rfl
             have hfz107_0 := blk_frozen BK221.out 0
             have hfz107_1 := blk_frozen BK221.out 1
             go_wp2_with (first | (go_at_call 23; (with_reducible refine (laws_eqCoded.calls kj15 t231 _ _ t232 t216 _ _ t217 false _ ?side1 ?side2 ?side3 ?side4 A91.out).mono ?_); (case side1 => repeat (first | exact (Kd.R_reads' HO_237001.out).2.2 | (with_reducible refine Kd.C_alloc ?_ _) | (with_reducible refine Kd.C_drewN ?_ _) | (with_reducible refine Kd.C_drew ?_))); (case side2 => exact (Kd.R_reads' HO_237001.out).2.1); (case side3 => repeat (first | exact (Kd.R_reads' HO_222001.out).2.2 | (with_reducible refine Kd.C_alloc ?_ _) | (with_reducible refine Kd.C_drewN ?_ _) | (with_reducible refine Kd.C_drew ?_))); (case side4 => exact (Kd.R_reads' HO_222001.out).2.1); rintro e w108 ⟨rfl, hb⟩; replace HO_9 := xM (xW (yR HO_9) hb); replace HO_222001 := xM (xW (yR HO_222001) hb); replace HO_230001 := xM (xW (yR HO_230001) hb); replace HO_237001 := xM (xW (yR HO_237001) hb); replace HO240 := xM (xW (yR HO240) hb); replace HO245 := xM (xW (yR HO245) hb); replace BK206 := xM (xB (yb BK206) hb); replace BK221 := xM (xB (yb BK221) hb); replace BK229 := xM (xB (yb BK229) hb); replace BK236 := xM (xB (yb BK236) hb); replace HB := xM (below_step (yh HB) hb); (try clear hb)))
             go_meet
             case rel => exact ⟨_, (true), (by first | rfl | (simp; done) | (simp [*]; done)), H', ⟨by have := HJ15.out; first | omega | exact Nat.le_refl _⟩, ⟨by (with_reducible repeat (first | apply xRA | apply xRN | apply xRD)); exact Kd.R_mono HO_222001.out (fun _ hk => ⟨hk.2.1, hk.2.2.1⟩)⟩, ⟨by (with_reducible repeat (first | apply xRA | apply xRN | apply xRD)); exact Kd.R_mono HO_230001.out (fun _ hk => ⟨hk.2.1, hk.2.2.1⟩)⟩, ⟨by (with_reducible repeat (first | apply xRA | apply xRN | apply xRD)); exact Kd.R_mono HO_237001.out (fun _ hk => ⟨hk.2.1, hk.2.2.1⟩)⟩, ⟨by (with_reducible repeat (first | apply xbN | apply xbD | apply xbA)); exact BK206.out⟩, ⟨by (with_reducible repeat (first | apply xbN | apply xbD | apply xbA)); exact BK221.out⟩, ⟨by (with_reducible repeat (first | apply xbN | apply xbD | apply xbA)); exact BK229.out⟩, ⟨by (with_reducible repeat (first | apply xbN | apply xbD | apply xbA)); exact BK236.out⟩, ⟨yh HB⟩⟩
           ·rw [if_neg c90] at H
            have c90b0 : (t230 == t215) = false := beq_eq_false_iff_ne.mpr c90
            have c90b1 : (t230 != t215) = true := bne_iff_ne.mpr c90
            have H' := Aside0.mk H
            clear H
            go_wp2
            go_meet
            case rel => exact ⟨_, (true), (by first | rfl | (simp; done) | (simp [*]; done)), H', ⟨by have := HJ15.out; first | omega | exact Nat.le_refl _⟩, ⟨by (with_reducible repeat (first | apply xRA | apply xRN | apply xRD)); exact Kd.R_mono HO_222001.out (fun _ hk => ⟨hk.2.1, hk.2.2.1⟩)⟩, ⟨by (with_reducible repeat (first | apply xRA | apply xRN | apply xRD)); exact Kd.R_mono HO_230001.out (fun _ hk => ⟨hk.2.1, hk.2.2.1⟩)⟩, ⟨by (with_reducible repeat (first | apply xRA | apply xRN | apply xRD)); exact Kd.R_mono HO_237001.out (fun _ hk => ⟨hk.2.1, hk.2.2.1⟩)⟩, ⟨by (with_reducible repeat (first | apply xbN | apply xbD | apply xbA)); exact BK206.out⟩, ⟨by (with_reducible repeat (first | apply xbN | apply xbD | apply xbA)); exact BK221.out⟩, ⟨by (with_reducible repeat (first | apply xbN | apply xbD | apply xbA)); exact BK229.out⟩, ⟨by (with_reducible repeat (first | apply xbN | apply xbD | apply xbA)); exact BK236.out⟩, ⟨yh HB⟩⟩
         case rest =>
          clear HC76
          try clear c1
          try clear c2
          try clear p2
          try clear c3
          try clear c4
          try clear c5
          try clear c6
          try clear c7
          try clear c8
          try clear c9
          try clear c10
          try clear c14
          try clear c16
          try clear c17
          try clear c23
          try clear c24
          try clear c32
          try clear c33
          try clear c34
          try clear c36
          try clear c37
          try clear c43
          try clear c44
          try clear c45
          try clear c48
          try clear c48b0
          try clear c48b1
          try clear c50
          try clear c51
          try clear c52
          try clear c53
          try clear c55
          try clear c56
          try clear c59
          try clear c60
          try clear c61
          try clear c63
          try clear c64
          try clear c67
          try clear c70
          try clear c73
          try clear c84
          try clear c85
          try clear c86
          try clear c89
          try clear c89b0
          try clear c90
          try clear c90b0
          try clear c90b1
          try clear c92
          try clear c93
          try clear c94
          try clear c95
          try clear c97
          try clear c98
          try clear c101
          try clear c102
          try clear c103
          try clear c105
          try clear c106
          try clear hcz104_0
          try clear hcz104_1
          try clear hcz107_0
          try clear hcz107_1
          try clear hcz33_0
          try clear hcz33_1
          try clear hcz38_0
          try clear hcz38_1
          try clear hcz46_0
          try clear hcz46_1
          try clear hcz54_0
          try clear hcz54_1
          try clear hcz57_0
          try clear hcz57_1
          try clear hcz62_0
          try clear hcz62_1
          try clear hcz65_0
          try clear hcz65_1
          try clear hcz87_0
          try clear hcz87_1
          try clear hcz96_0
          try clear hcz96_1
          try clear hcz99_0
          try clear hcz99_1
          try clear hfz104_0
          try clear hfz104_1
          try clear hfz107_0
          try clear hfz107_1
          try clear hfz33_0
          try clear hfz33_1
          try clear hfz38_0
          try clear hfz38_1
          try clear hfz46_0
          try clear hfz46_1
          try clear hfz54_0
          try clear hfz54_1
          try clear hfz57_0
          try clear hfz57_1
          try clear hfz62_0
          try clear hfz62_1
          try clear hfz65_0
          try clear hfz65_1
          try clear hfz87_0
          try clear hfz87_1
          try clear hfz96_0
          try clear hfz96_1
          try clear hfz99_0
          try clear hfz99_1
          try clear p2
          obtain ⟨kq, x95_75, rfl, HA, HJ75, HO_222001, HO_230001, HO_237001, BK206, BK221, BK229, BK236, HB⟩ := hcut
          have hl230001_75 := (Kd.R_reads' HO_230001.out).1
          rw [hl230001_75] at HO_230001
          (try simp only [hl230001_75])
          (try simp only [hl230001_75] at BK206)
          (try simp only [hl230001_75] at BK221)
          (try simp only [hl230001_75] at BK229)
          (try simp only [hl230001_75] at BK236)
          (try simp only [hl230001_75] at HO_222001)
          (try simp only [hl230001_75] at HO_237001)
          cases kq with
          | zero => exact absurd HA.out (by simp [laws_FnExactTakeSymbol.j1])
          | succ kj75 =>
           have H := HA.out
           clear HA
           simp only [laws_FnExactTakeSymbol.j1] at H
           by_cases c109 : x95_75 = true
           ·subst c109
            have H1 : (some false) = some r := by rw [if_pos rfl] at H; exact H
            clear H
            have H := H1
            clear H1
            obtain rfl := Option.some.inj H
            go_wp2
            go_ret
            exact ⟨by first | rfl | (simp [errW_none, errW_some] <;> rfl) | (simp [*, errW_none, errW_some] <;> rfl), by repeat (first | (with_reducible first | exact HB.out | apply xa | apply xn | apply xd | refine xs ?_ GE206.out | refine xs ?_ GE221.out | refine xs ?_ GE229.out | refine xs ?_ GE236.out) | exact HB.out)⟩
           ·replace c109 := Bool.eq_false_iff.mpr c109
            subst c109
            have H1 : ((laws_markCoded.f kj75 t231 t232 1).bind fun bt252 => ((laws_heldCoded.f kj75 t231 bt252.2 1).bind fun t254 => (if t254 < 0 then (some false) else (if t254 = bt252.1 then ((laws_toIntS.f kj75 l0).bind fun t255 => ((laws_toCoded.f kj75 a1_0 l1_1).bind fun bt258 => ((impl_TakeSymbol.f kj75 t255 bt258.1 bt258.2).bind fun bt262 => (if bt262.1 = t215 then ((laws_eqCoded.f kj75 bt262.2.1 bt262.2.2.1 t216 t217).bind fun t269 => (if t269 = true then (laws_FnExactTakeSymbol.j2 kj75 bt252.1 (bt262.2.2.2 != t220) t231 bt252.2) else (laws_FnExactTakeSymbol.j2 kj75 bt252.1 true t231 bt252.2))) else (laws_FnExactTakeSymbol.j2 kj75 bt252.1 true t231 bt252.2))))) else (some false))))) = some r := by rw [if_neg (show ¬ (false = true) by decide)] at H; exact H
            clear H
            have H := H1
            clear H1
            replace H := Option.bind_eq_some_iff.mp H
            obtain ⟨⟨t252, t253⟩, A1100, H⟩ := H
            replace H : ((laws_heldCoded.f kj75 t231 t253 1).bind fun t254 => (if t254 < 0 then (some false) else (if t254 = t252 then ((laws_toIntS.f kj75 l0).bind fun t255 => ((laws_toCoded.f kj75 a1_0 l1_1).bind fun bt258 => ((impl_TakeSymbol.f kj75 t255 bt258.1 bt258.2).bind fun bt262 => (if bt262.1 = t215 then ((laws_eqCoded.f kj75 bt262.2.1 bt262.2.2.1 t216 t217).bind fun t269 => (if t269 = true then (laws_FnExactTakeSymbol.j2 kj75 t252 (bt262.2.2.2 != t220) t231 t253) else (laws_FnExactTakeSymbol.j2 kj75 t252 true t231 t253))) else (laws_FnExactTakeSymbol.j2 kj75 t252 true t231 t253))))) else (some false)))) = some r := H
            have A110 := Aside0.mk A1100
            clear A1100
            replace H := Option.bind_eq_some_iff.mp H
            obtain ⟨t254, A1110, H⟩ := H
            replace H : (if t254 < 0 then (some false) else (if t254 = t252 then ((laws_toIntS.f kj75 l0).bind fun t255 => ((laws_toCoded.f kj75 a1_0 l1_1).bind fun bt258 => ((impl_TakeSymbol.f kj75 t255 bt258.1 bt258.2).bind fun bt262 => (if bt262.1 = t215 then ((laws_eqCoded.f kj75 bt262.2.1 bt262.2.2.1 t216 t217).bind fun t269 => (if t269 = true then (laws_FnExactTakeSymbol.j2 kj75 t252 (bt262.2.2.2 != t220) t231 t253) else (laws_FnExactTakeSymbol.j2 kj75 t252 true t231 t253))) else (laws_FnExactTakeSymbol.j2 kj75 t252 true t231 t253))))) else (some false))) = some r := H
            have A111 := Aside0.mk A1110
            clear A1110
            by_cases c112 : t254 < 0
            ·rw [if_pos c112] at H
             have c112b0 : decide (t254 < 0) = true := decide_eq_true c112
             clear c112
             obtain rfl := Option.some.inj H
             have hnb113 := NB236_206.out
             have hnc113 := NB206_236.out
             have hnb114 := NB236_221.out
             have hnc114 := NB221_236.out
             have hnb115 := NB236_229.out
             have hnc115 := NB229_236.out
             have hcz116_0 : wc.cell? ⟨gb236, 0, none⟩ = some (.int .i64 t231) := (blk_cell BK236.out 0).trans rfl
             have hcz116_1 : wc.cell? ⟨gb236, 1, none⟩ = some (.slice Ao47 t232.length co47) := (blk_cell BK236.out 1).trans rfl
             have hfz116_0 := blk_frozen BK236.out 0
             have hfz116_1 := blk_frozen BK236.out 1
             go_wp2_with (first | ((with_reducible refine gate_callee (f := 24) rfl ?_); refine goesL_ (some 98) rfl rfl Try.func24 (by kernel_rfl) rfl #[.agg #[.int .i64 t231, .slice Ao47 t232.length co47], .int .i64 1] rfl (by (try simp only [List.map_toArray, List.map_cons, List.map_nil]); first | done | rfl | (simp only [List.length_drop, List.length_take]; rfl)) ?_; (with_reducible refine (laws_markCoded.calls kj75 t231 (fun k_ => some k_ = (.slice Ao47 t232.length co47 : Value).ownBlock) (.slice Ao47 t232.length co47) t232 1 t252 t253 w _ ?side1 ?side2 A110.out).mono ?_); (case side1 => repeat (first | (with_reducible first | exact HB.out | apply xa | apply xn | apply xd | refine xs ?_ GE206.out | refine xs ?_ GE221.out | refine xs ?_ GE229.out | refine xs ?_ GE236.out) | exact HB.out)); (case side2 => exact Kd.R_tight rfl HO_237001.out); rintro e w117 ⟨rfl, hy0, hb, hkp⟩; refine ⟨_, rfl, ?_⟩; replace HO_222001 := xM (xO (ok' := fun k_ => some k_ ≠ (.slice Ao39 t250.length co39 : Value).ownBlock ∧ some k_ ≠ (.slice Ao47 t232.length co47 : Value).ownBlock) (Kd.R_keptB (HO_222001.out) hkp (fun k_ hk_ hs_ => (hk_.2) hs_)) (fun k_ hk_ => ⟨hk_.1.1, hk_.1.2⟩)); replace HO_230001 := xM (xO (ok' := fun k_ => some k_ ≠ (.slice Ao29 t217.length co29 : Value).ownBlock ∧ some k_ ≠ (.slice Ao47 t232.length co47 : Value).ownBlock) (Kd.R_keptB (HO_230001.out) hkp (fun k_ hk_ hs_ => (hk_.2) hs_)) (fun k_ hk_ => ⟨hk_.1.1, hk_.1.2⟩)); replace BK206 := xM (blk_kept (yb BK206) hkp (fun hs_ => (fun e_ => (Kd.R_ne HO_237001.out BK206.out (by decide)) e_) hs_)); replace BK221 := xM (blk_kept (yb BK221) hkp (fun hs_ => (fun e_ => (Kd.R_ne HO_237001.out BK221.out (by decide)) e_) hs_)); replace BK229 := xM (blk_kept (yb BK229) hkp (fun hs_ => (fun e_ => (Kd.R_ne HO_237001.out BK229.out (by decide)) e_) hs_)); replace BK236 := xM (blk_kept (yb BK236) hkp (fun hs_ => (fun e_ => (Kd.R_ne HO_237001.out BK236.out (by decide)) e_) hs_)); replace HO_237001 := xM (Kd.R_reok rfl hy0 (fun k_ e_ => HO_237001.out.1 k_ e_)); replace HB := xM (hb); (try clear hb); (try clear hkp); (try clear hy0); have hcz118_0 : w117.cell? ⟨gb236, 0, none⟩ = some (.int .i64 t231) := (blk_cell BK236.out 0).trans rfl; have hcz118_1 : w117.cell? ⟨gb236, 1, none⟩ = some (.slice Ao47 t232.length co47) := (blk_cell BK236.out 1).trans rfl; have hfz118_0 := blk_frozen BK236.out 0; have hfz118_1 := blk_frozen BK236.out 1) | ((with_reducible refine gate_callee (f := 25) rfl ?_); refine goesL_ (some 101) rfl rfl Try.func25 (by kernel_rfl) rfl #[.agg #[.int .i64 t231, .slice Ao47 t253.length co47], .int .i64 1] rfl (by (try simp only [List.map_toArray, List.map_cons, List.map_nil]); first | done | (rw [show t253.length = t232.length from (Kd.R_reads' HO_237001.out).1.symm] <;> rfl) | rfl | (simp only [List.length_drop, List.length_take]; rfl)) ?_; (with_reducible refine (laws_heldCoded.calls kj75 t231 _ _ t253 1 t254 _ ?side1 ?side2 A111.out).mono ?_); (case side1 => repeat (first | exact (Kd.R_reads' HO_237001.out).2.2 | (with_reducible refine Kd.C_alloc ?_ _) | (with_reducible refine Kd.C_drewN ?_ _) | (with_reducible refine Kd.C_drew ?_))); (case side2 => rw [show t253.length = t232.length from (Kd.R_reads' HO_237001.out).1.symm]; exact (Kd.R_reads' HO_237001.out).2.1); rintro e w119 ⟨rfl, hb⟩; refine ⟨_, rfl, ?_⟩; replace HO_222001 := xM (xW (yR HO_222001) hb); replace HO_230001 := xM (xW (yR HO_230001) hb); replace HO_237001 := xM (xW (yR HO_237001) hb); replace BK206 := xM (xB (yb BK206) hb); replace BK221 := xM (xB (yb BK221) hb); replace BK229 := xM (xB (yb BK229) hb); replace BK236 := xM (xB (yb BK236) hb); replace HB := xM (below_step (yh HB) hb); (try clear hb)))
             go_ret
             exact ⟨by first | rfl | (simp [errW_none, errW_some] <;> rfl) | (simp [*, errW_none, errW_some] <;> rfl), by repeat (first | (with_reducible first | exact HB.out | apply xa | apply xn | apply xd | refine xs ?_ GE206.out | refine xs ?_ GE221.out | refine xs ?_ GE229.out | refine xs ?_ GE236.out) | exact HB.out)⟩
            ·rw [if_neg c112] at H
             have c112b0 : decide (t254 < 0) = false := decide_eq_false c112
             clear c112
             by_cases c120 : t254 = t252
             ·rw [if_pos c120] at H
              have c120b0 : (t254 == t252) = true := beq_iff_eq.mpr c120
              have c120b1 : (t254 != t252) = false := bne_eq_false_iff_eq.mpr c120
              clear c120
              replace H := Option.bind_eq_some_iff.mp H
              obtain ⟨t255, A1210, H⟩ := H
              replace H : ((laws_toCoded.f kj75 a1_0 l1_1).bind fun bt258 => ((impl_TakeSymbol.f kj75 t255 bt258.1 bt258.2).bind fun bt262 => (if bt262.1 = t215 then ((laws_eqCoded.f kj75 bt262.2.1 bt262.2.2.1 t216 t217).bind fun t269 => (if t269 = true then (laws_FnExactTakeSymbol.j2 kj75 t252 (bt262.2.2.2 != t220) t231 t253) else (laws_FnExactTakeSymbol.j2 kj75 t252 true t231 t253))) else (laws_FnExactTakeSymbol.j2 kj75 t252 true t231 t253)))) = some r := H
              have A121 := Aside0.mk A1210
              clear A1210
              replace H := Option.bind_eq_some_iff.mp H
              obtain ⟨⟨t258, t259⟩, A1220, H⟩ := H
              replace H : ((impl_TakeSymbol.f kj75 t255 t258 t259).bind fun bt262 => (if bt262.1 = t215 then ((laws_eqCoded.f kj75 bt262.2.1 bt262.2.2.1 t216 t217).bind fun t269 => (if t269 = true then (laws_FnExactTakeSymbol.j2 kj75 t252 (bt262.2.2.2 != t220) t231 t253) else (laws_FnExactTakeSymbol.j2 kj75 t252 true t231 t253))) else (laws_FnExactTakeSymbol.j2 kj75 t252 true t231 t253))) = some r := H
              have A122 := Aside0.mk A1220
              clear A1220
              replace H := Option.bind_eq_some_iff.mp H
              obtain ⟨⟨t262, t263, t264, t267⟩, A1230, H⟩ := H
              replace H : (if t262 = t215 then ((laws_eqCoded.f kj75 t263 t264 t216 t217).bind fun t269 => (if t269 = true then (laws_FnExactTakeSymbol.j2 kj75 t252 (t267 != t220) t231 t253) else (laws_FnExactTakeSymbol.j2 kj75 t252 true t231 t253))) else (laws_FnExactTakeSymbol.j2 kj75 t252 true t231 t253)) = some r := H
              have A123 := Aside0.mk A1230
              clear A1230
              have HC124 := Aside0.mk H
              clear H
              have hnb125 := NB236_206.out
              have hnc125 := NB206_236.out
              have hnb126 := NB236_221.out
              have hnc126 := NB221_236.out
              have hnb127 := NB236_229.out
              have hnc127 := NB229_236.out
              have hcz128_0 : wc.cell? ⟨gb236, 0, none⟩ = some (.int .i64 t231) := (blk_cell BK236.out 0).trans rfl
              have hcz128_1 : wc.cell? ⟨gb236, 1, none⟩ = some (.slice Ao47 t232.length co47) := (blk_cell BK236.out 1).trans rfl
              have hfz128_0 := blk_frozen BK236.out 0
              have hfz128_1 := blk_frozen BK236.out 1
              try go_wp2_with (first | ((with_reducible refine gate_callee (f := 24) rfl ?_); refine goesL_ (some 98) rfl rfl Try.func24 (by kernel_rfl) rfl #[.agg #[.int .i64 t231, .slice Ao47 t232.length co47], .int .i64 1] rfl (by (try simp only [List.map_toArray, List.map_cons, List.map_nil]); first | done | rfl | (simp only [List.length_drop, List.length_take]; rfl)) ?_; (with_reducible refine (laws_markCoded.calls kj75 t231 (fun k_ => some k_ = (.slice Ao47 t232.length co47 : Value).ownBlock) (.slice Ao47 t232.length co47) t232 1 t252 t253 w _ ?side1 ?side2 A110.out).mono ?_); (case side1 => repeat (first | (with_reducible first | exact HB.out | apply xa | apply xn | apply xd | refine xs ?_ GE206.out | refine xs ?_ GE221.out | refine xs ?_ GE229.out | refine xs ?_ GE236.out) | exact HB.out)); (case side2 => exact Kd.R_tight rfl HO_237001.out); rintro e w129 ⟨rfl, hy0, hb, hkp⟩; refine ⟨_, rfl, ?_⟩; replace HO_222001 := xM (xO (ok' := fun k_ => some k_ ≠ (.slice Ao39 t250.length co39 : Value).ownBlock ∧ some k_ ≠ (.slice Ao47 t232.length co47 : Value).ownBlock) (Kd.R_keptB (HO_222001.out) hkp (fun k_ hk_ hs_ => (hk_.2) hs_)) (fun k_ hk_ => ⟨hk_.1.1, hk_.1.2⟩)); replace HO_230001 := xM (xO (ok' := fun k_ => some k_ ≠ (.slice Ao29 t217.length co29 : Value).ownBlock ∧ some k_ ≠ (.slice Ao47 t232.length co47 : Value).ownBlock) (Kd.R_keptB (HO_230001.out) hkp (fun k_ hk_ hs_ => (hk_.2) hs_)) (fun k_ hk_ => ⟨hk_.1.1, hk_.1.2⟩)); replace BK206 := xM (blk_kept (yb BK206) hkp (fun hs_ => (fun e_ => (Kd.R_ne HO_237001.out BK206.out (by decide)) e_) hs_)); replace BK221 := xM (blk_kept (yb BK221) hkp (fun hs_ => (fun e_ => (Kd.R_ne HO_237001.out BK221.out (by decide)) e_) hs_)); replace BK229 := xM (blk_kept (yb BK229) hkp (fun hs_ => (fun e_ => (Kd.R_ne HO_237001.out BK229.out (by decide)) e_) hs_)); replace BK236 := xM (blk_kept (yb BK236) hkp (fun hs_ => (fun e_ => (Kd.R_ne HO_237001.out BK236.out (by decide)) e_) hs_)); replace HO_237001 := xM (Kd.R_reok rfl hy0 (fun k_ e_ => HO_237001.out.1 k_ e_)); replace HB := xM (hb); (try clear hb); (try clear hkp); (try clear hy0); have hcz130_0 : w129.cell? ⟨gb236, 0, none⟩ = some (.int .i64 t231) := (blk_cell BK236.out 0).trans rfl; have hcz130_1 : w129.cell? ⟨gb236, 1, none⟩ = some (.slice Ao47 t232.length co47) := (blk_cell BK236.out 1).trans rfl; have hfz130_0 := blk_frozen BK236.out 0; have hfz130_1 := blk_frozen BK236.out 1) | ((with_reducible refine gate_callee (f := 25) rfl ?_); refine goesL_ (some 101) rfl rfl Try.func25 (by kernel_rfl) rfl #[.agg #[.int .i64 t231, .slice Ao47 t253.length co47], .int .i64 1] rfl (by (try simp only [List.map_toArray, List.map_cons, List.map_nil]); first | done | (rw [show t253.length = t232.length from (Kd.R_reads' HO_237001.out).1.symm] <;> rfl) | rfl | (simp only [List.length_drop, List.length_take]; rfl)) ?_; (with_reducible refine (laws_heldCoded.calls kj75 t231 _ _ t253 1 t254 _ ?side1 ?side2 A111.out).mono ?_); (case side1 => repeat (first | exact (Kd.R_reads' HO_237001.out).2.2 | (with_reducible refine Kd.C_alloc ?_ _) | (with_reducible refine Kd.C_drewN ?_ _) | (with_reducible refine Kd.C_drew ?_))); (case side2 => rw [show t253.length = t232.length from (Kd.R_reads' HO_237001.out).1.symm]; exact (Kd.R_reads' HO_237001.out).2.1); rintro e w131 ⟨rfl, hb⟩; refine ⟨_, rfl, ?_⟩; replace HO_222001 := xM (xW (yR HO_222001) hb); replace HO_230001 := xM (xW (yR HO_230001) hb); replace HO_237001 := xM (xW (yR HO_237001) hb); replace BK206 := xM (xB (yb BK206) hb); replace BK221 := xM (xB (yb BK221) hb); replace BK229 := xM (xB (yb BK229) hb); replace BK236 := xM (xB (yb BK236) hb); replace HB := xM (below_step (yh HB) hb); (try clear hb)))
              replace HO_222001 := xM (Kd.R_drew HO_222001.out)
              replace HO_230001 := xM (Kd.R_drew HO_230001.out)
              replace HO_237001 := xM (Kd.R_drew HO_237001.out)
              replace BK206 := xM (blk_drew BK206.out)
              replace BK221 := xM (blk_drew BK221.out)
              replace BK229 := xM (blk_drew BK229.out)
              replace BK236 := xM (blk_drew BK236.out)
              replace HB := xM (below_drew1 HB.out)
              refine start_ (n := 13) (S := fun w' => w'.cell? ⟨gb206, 0, none⟩ = some (.int .i64 a1_0) ∧ w'.cell? ⟨gb206, 1, none⟩ = some (.slice A1_1 l1_1.length c1_1)) (ds := []) #[false, false, false, false, false, false, false, false, false, false, false, false, false] (by kernel_rfl) rfl rfl ⟨(blk_cell BK206.out 0).trans rfl, (blk_cell BK206.out 1).trans rfl⟩ (fun hHeld => ?_); refine with_tabW laws_FnExactTakeSymbol.tab30 laws_FnExactTakeSymbol.bits30 (fun HT_ HW_ => ?_)
              generalize w131.drew = w132 at HO_222001 HO_230001 HO_237001 BK206 BK221 BK229 BK236 HB hHeld ⊢
              refine pure_ (i := 0) (N := some 108) (v := ?_) (a' := ?_) #[true, false, false, false, false, false, false, false, false, false, false, false, false] rfl rfl (any_of HT_.out (by kernel_rfl)) (fun _ _ _ h => h) (Or.inl ⟨by rfl, ?_⟩) ?_ ?_
              rotate_left
              ·intro w'
               go_simp
               with_reducible rfl
              rotate_left
              ·simp only [Act.put, List.setIfInBounds_toArray, List.set_cons_zero, List.set_cons_succ, i64_w, i32_w]
               rfl
              refine take_ (i := 2) (N := some 110) (v := ?_) (a' := ?_) #[true, false, true, false, false, false, false, false, false, false, false, false, false] rfl rfl (take_ofW HT_.out HW_.out (by kernel_rfl)) (fun _ _ _ h => h) (Or.inl ⟨by rfl, ?_⟩) hHeld ?_ ?_
              rotate_left
              ·rintro w' ⟨s0, s1⟩
               go_simp
               with_reducible rfl
              rotate_left
              ·simp only [Act.put, List.setIfInBounds_toArray, List.set_cons_zero, List.set_cons_succ, i64_w, i32_w]
               rfl
              refine join_ (σ := Value × Value × Value × Nat) 3 #[true, true, true, true, true, true, true, true, true, true, false, false, false] (fun s_ => [(109, s_.1), (111, .agg #[.int .i64 t258, s_.2.1]), (112, .tuple #[.int .i64 t262, .agg #[.int .i64 t263, s_.2.2.1], .bool t267]), (18, .pointer (some ⟨s_.2.2.2, 0, none⟩)), (107, .tuple #[.int .i64 t262, .agg #[.int .i64 t263, s_.2.2.1], .bool t267]), (113, .int .i64 t262), (114, .agg #[.int .i64 t263, s_.2.2.1]), (115, .bool t267)]) (fun s_ w' => (w'.cell? ⟨gb206, 0, none⟩ = some (.int .i64 a1_0) ∧ w'.cell? ⟨gb206, 1, none⟩ = some (.slice A1_1 l1_1.length c1_1)) ∧ (Kd.R (Kd.int .i64) 3 w' w.heap.size (fun k_ => some k_ ≠ (s_.2.1 : Value).ownBlock ∧ some k_ ≠ (s_.2.2.1 : Value).ownBlock ∧ some k_ ≠ (.slice Ao29 t217.length co29 : Value).ownBlock ∧ some k_ ≠ (.slice Ao39 t250.length co39 : Value).ownBlock ∧ some k_ ≠ (.slice Ao47 t232.length co47 : Value).ownBlock) s_.1 t255) ∧ (Kd.R (Kd.int .i64) 3 w' w.heap.size (fun k_ => some k_ ≠ (s_.1 : Value).ownBlock ∧ some k_ ≠ (s_.2.2.1 : Value).ownBlock ∧ some k_ ≠ (.slice Ao29 t217.length co29 : Value).ownBlock ∧ some k_ ≠ (.slice Ao39 t250.length co39 : Value).ownBlock ∧ some k_ ≠ (.slice Ao47 t232.length co47 : Value).ownBlock) s_.2.1 t259) ∧ (Kd.R (Kd.int .i64) 3 w' w.heap.size (fun k_ => some k_ ≠ (s_.1 : Value).ownBlock ∧ some k_ ≠ (s_.2.1 : Value).ownBlock ∧ some k_ ≠ (.slice Ao29 t217.length co29 : Value).ownBlock ∧ some k_ ≠ (.slice Ao39 t250.length co39 : Value).ownBlock ∧ some k_ ≠ (.slice Ao47 t232.length co47 : Value).ownBlock) s_.2.2.1 t264) ∧ (Kd.R (Kd.int .i64) 3 w' w.heap.size (fun k_ => some k_ ≠ (s_.1 : Value).ownBlock ∧ some k_ ≠ (s_.2.1 : Value).ownBlock ∧ some k_ ≠ (s_.2.2.1 : Value).ownBlock ∧ some k_ ≠ (.slice Ao39 t250.length co39 : Value).ownBlock ∧ some k_ ≠ (.slice Ao47 t232.length co47 : Value).ownBlock) (.slice Ao29 t217.length co29) t217) ∧ (Kd.R (Kd.int .i64) 3 w' w.heap.size (fun k_ => some k_ ≠ (s_.1 : Value).ownBlock ∧ some k_ ≠ (s_.2.1 : Value).ownBlock ∧ some k_ ≠ (s_.2.2.1 : Value).ownBlock ∧ some k_ ≠ (.slice Ao29 t217.length co29 : Value).ownBlock ∧ some k_ ≠ (.slice Ao47 t232.length co47 : Value).ownBlock) (.slice Ao39 t250.length co39) t250) ∧ (Kd.R (Kd.int .i64) 3 w' w.heap.size (fun k_ => some k_ ≠ (s_.1 : Value).ownBlock ∧ some k_ ≠ (s_.2.1 : Value).ownBlock ∧ some k_ ≠ (s_.2.2.1 : Value).ownBlock ∧ some k_ ≠ (.slice Ao29 t217.length co29 : Value).ownBlock ∧ some k_ ≠ (.slice Ao39 t250.length co39 : Value).ownBlock) (.slice Ao47 t232.length co47) t253) ∧ (w'.heap[gb206]? = some (.cells #[.int .i64 a1_0, .slice A1_1 l1_1.length c1_1] 47 (0, 0))) ∧ (w'.heap[gb221]? = some (.cells #[.int .i64 t216, .slice Ao29 t217.length co29] 33 (0, 0))) ∧ (w'.heap[gb229]? = some (.cells #[.int .i64 t225, .slice Ao39 t250.length co39] 33 (0, 0))) ∧ (w'.heap[gb236]? = some (.cells #[.int .i64 t231, .slice Ao47 t232.length co47] 33 (0, 0))) ∧ (w'.heap[s_.2.2.2]? = some (.cells #[.int .i64 0, .slice none 0 0] 33 (0, 0))) ∧ (w.heap.size ≤ s_.2.2.2) ∧ (w.heap.size ≤ s_.2.2.2) ∧ (gb206 ≠ s_.2.2.2) ∧ (s_.2.2.2 ≠ gb206) ∧ (gb221 ≠ s_.2.2.2) ∧ (s_.2.2.2 ≠ gb221) ∧ (gb229 ≠ s_.2.2.2) ∧ (s_.2.2.2 ≠ gb229) ∧ (gb236 ≠ s_.2.2.2) ∧ (s_.2.2.2 ≠ gb236) ∧ (Below w.heap.size w w')) ?_ ?_
              rotate_left
              ·intro hCont
               refine two_ (i := 1) (j := 9) (Ni := some 109) (Nj := some 18) #[true, true, true, false, false, false, false, false, false, false, false, false, false] #[true, false, true, false, false, false, false, false, false, true, false, false, false] rfl rfl rfl rfl (two_of HT_.out (by kernel_rfl)) (by decide) (by decide) (fun K hK => ?_) (fun K hK => ?_)
               ·skip
                refine goes_ Try.func14 (by kernel_rfl) rfl #[.slice A0 l0.length c0] (by rfl) rfl rfl (by (try simp only [List.map_toArray, List.map_cons, List.map_nil]); first | done | rfl | (simp only [List.length_drop, List.length_take]; rfl)) ?_
                with_reducible refine (laws_toIntS.calls kj75 _ _ l0 t255 _ ?side1 ?side2 A121.out).mono ?_
                (case side1 => repeat (first | exact (Kd.C_below HR0.out HB.out) | (with_reducible refine Kd.C_alloc ?_ _) | (with_reducible refine Kd.C_drewN ?_ _) | (with_reducible refine Kd.C_drew ?_)))
                (case side2 => exact HC0.out)
                rintro e w133 ⟨v256, rfl, ho0, hb⟩
                refine ⟨_, rfl, ?_⟩
                have HO257 := xM (Kd.R_lower (Kd.R_new' (Kd.R_new' (Kd.R_new' ho0 (xL (yR HO_222001))) (xL (yR HO_230001))) (xL (yR HO_237001))) (below_size (yh HB)))
                replace HO_222001 := xM (Kd.R_elder' (yR HO_222001) (Kd.R_base ho0) hb)
                replace HO_230001 := xM (Kd.R_elder' (yR HO_230001) (Kd.R_base ho0) hb)
                replace HO_237001 := xM (Kd.R_elder' (yR HO_237001) (Kd.R_base ho0) hb)
                replace BK206 := xM (xB (yb BK206) hb)
                replace BK221 := xM (xB (yb BK221) hb)
                replace BK229 := xM (xB (yb BK229) hb)
                replace BK236 := xM (xB (yb BK236) hb)
                replace HB := xM (below_step (yh HB) hb)
                (try clear hb)
                (try clear hb2)
                (try clear hk)
                (try clear hi)
                (try clear ho0)
                refine hK.out _ _ ⟨(blk_cell BK206.out 0).trans rfl, (blk_cell BK206.out 1).trans rfl⟩ (fun hHeld => ?_)
                clear hK K
                refine norm_ (a' := ?_) ?_ ?_
                rotate_left
                ·show Act.put _ (some 109) _ = _
                 simp only [Act.put, List.setIfInBounds_toArray, List.set_cons_zero, List.set_cons_succ, i64_w, i32_w]
                 rfl
                refine two_ (i := 3) (j := 9) (Ni := some 111) (Nj := some 18) #[true, true, true, true, false, false, false, false, false, false, false, false, false] #[true, true, true, false, false, false, false, false, false, true, false, false, false] rfl rfl rfl rfl (two_of HT_.out (by kernel_rfl)) (by decide) (by decide) (fun K hK => ?_) (fun K hK => ?_)
                ·skip
                 refine goes_ Try.func33 (by kernel_rfl) rfl #[.agg #[.int .i64 a1_0, .slice A1_1 l1_1.length c1_1]] (by rfl) rfl rfl (by (try simp only [List.map_toArray, List.map_cons, List.map_nil]); first | done | rfl | (simp only [List.length_drop, List.length_take]; rfl)) ?_
                 with_reducible refine (laws_toCoded.calls kj75 a1_0 _ _ l1_1 t258 t259 _ ?side1 ?side2 A122.out).mono ?_
                 (case side1 => repeat (first | exact (Kd.C_below HR1_1.out HB.out) | (with_reducible refine Kd.C_alloc ?_ _) | (with_reducible refine Kd.C_drewN ?_ _) | (with_reducible refine Kd.C_drew ?_)))
                 (case side2 => exact HC1_1.out)
                 rintro e w134 ⟨v260, rfl, ho0, hb⟩
                 refine ⟨_, rfl, ?_⟩
                 have HO261 := xM (Kd.R_lower (Kd.R_new' (Kd.R_new' (Kd.R_new' (Kd.R_new' ho0 (xL (yR HO_222001))) (xL (yR HO_230001))) (xL (yR HO_237001))) (xL (yR HO257))) (below_size (yh HB)))
                 replace HO_222001 := xM (Kd.R_elder' (yR HO_222001) (Kd.R_base ho0) hb)
                 replace HO_230001 := xM (Kd.R_elder' (yR HO_230001) (Kd.R_base ho0) hb)
                 replace HO_237001 := xM (Kd.R_elder' (yR HO_237001) (Kd.R_base ho0) hb)
                 replace HO257 := xM (Kd.R_elder' (yR HO257) (Kd.R_base ho0) hb)
                 replace BK206 := xM (xB (yb BK206) hb)
                 replace BK221 := xM (xB (yb BK221) hb)
                 replace BK229 := xM (xB (yb BK229) hb)
                 replace BK236 := xM (xB (yb BK236) hb)
                 replace HB := xM (below_step (yh HB) hb)
                 (try clear hb)
                 (try clear hb2)
                 (try clear hk)
                 (try clear hi)
                 (try clear ho0)
                 obtain ⟨Ao135, co135, eo135⟩ := Kd.R_slice HO257.out
                 (first | subst eo135 | (injection eo135 with f1_ f2_ f3_; have f4_ := f1_.symm; have f5_ := f3_.symm; clear f1_ f2_ f3_; subst f4_; subst f5_))
                 obtain ⟨Ao136, co136, eo136⟩ := Kd.R_slice HO261.out
                 (first | subst eo136 | (injection eo136 with f1_ f2_ f3_; have f4_ := f1_.symm; have f5_ := f3_.symm; clear f1_ f2_ f3_; subst f4_; subst f5_))
                 refine hK.out _ _ ⟨(blk_cell BK206.out 0).trans rfl, (blk_cell BK206.out 1).trans rfl⟩ (fun hHeld => ?_)
                 clear hK K
                 refine norm_ (a' := ?_) ?_ ?_
                 rotate_left
                 ·show Act.put _ (some 111) _ = _
                  simp only [Act.put, List.setIfInBounds_toArray, List.set_cons_zero, List.set_cons_succ, i64_w, i32_w]
                  rfl
                 refine two_ (i := 4) (j := 9) (Ni := some 112) (Nj := some 18) #[true, true, true, true, true, false, false, false, false, false, false, false, false] #[true, true, true, true, false, false, false, false, false, true, false, false, false] rfl rfl rfl rfl (two_of HT_.out (by kernel_rfl)) (by decide) (by decide) (fun K hK => ?_) (fun K hK => ?_)
                 ·skip
                  refine goes_ Try.func34 (by kernel_rfl) rfl #[.slice Ao135 t255.length co135, .agg #[.int .i64 t258, .slice Ao136 t259.length co136]] (by rfl) rfl rfl (by (try simp only [List.map_toArray, List.map_cons, List.map_nil]); first | done | rfl | (simp only [List.length_drop, List.length_take]; rfl)) ?_
                  with_reducible refine (impl_TakeSymbol.calls kj75 _ _ t255 t258 _ _ t259 t262 t263 t264 t267 _ ?side1 ?side2 ?side3 ?side4 A123.out).mono ?_
                  (case side1 => repeat (first | exact (Kd.R_reads' HO257.out).2.2 | (with_reducible refine Kd.C_alloc ?_ _) | (with_reducible refine Kd.C_drewN ?_ _) | (with_reducible refine Kd.C_drew ?_)))
                  (case side2 => exact (Kd.R_reads' HO257.out).2.1)
                  (case side3 => repeat (first | exact (Kd.R_reads' HO261.out).2.2 | (with_reducible refine Kd.C_alloc ?_ _) | (with_reducible refine Kd.C_drewN ?_ _) | (with_reducible refine Kd.C_drew ?_)))
                  (case side4 => exact (Kd.R_reads' HO261.out).2.1)
                  rintro e w137 ⟨v265, rfl, ho0, hb⟩
                  refine ⟨_, rfl, ?_⟩
                  have HO266 := xM (Kd.R_lower (Kd.R_new' (Kd.R_new' (Kd.R_new' (Kd.R_new' (Kd.R_new' ho0 (xL (yR HO_222001))) (xL (yR HO_230001))) (xL (yR HO_237001))) (xL (yR HO257))) (xL (yR HO261))) (below_size (yh HB)))
                  replace HO_222001 := xM (Kd.R_elder' (yR HO_222001) (Kd.R_base ho0) hb)
                  replace HO_230001 := xM (Kd.R_elder' (yR HO_230001) (Kd.R_base ho0) hb)
                  replace HO_237001 := xM (Kd.R_elder' (yR HO_237001) (Kd.R_base ho0) hb)
                  replace HO257 := xM (Kd.R_elder' (yR HO257) (Kd.R_base ho0) hb)
                  replace HO261 := xM (Kd.R_elder' (yR HO261) (Kd.R_base ho0) hb)
                  replace BK206 := xM (xB (yb BK206) hb)
                  replace BK221 := xM (xB (yb BK221) hb)
                  replace BK229 := xM (xB (yb BK229) hb)
                  replace BK236 := xM (xB (yb BK236) hb)
                  replace HB := xM (below_step (yh HB) hb)
                  (try clear hb)
                  (try clear hb2)
                  (try clear hk)
                  (try clear hi)
                  (try clear ho0)
                  refine hK.out _ _ ⟨(blk_cell BK206.out 0).trans rfl, (blk_cell BK206.out 1).trans rfl⟩ (fun hHeld => ?_)
                  clear hK K
                  refine norm_ (a' := ?_) ?_ ?_
                  rotate_left
                  ·show Act.put _ (some 112) _ = _
                   simp only [Act.put, List.setIfInBounds_toArray, List.set_cons_zero, List.set_cons_succ, i64_w, i32_w]
                   rfl
                  refine pure_ (i := 5) (N := some 107) (v := ?_) (a' := ?_) #[true, true, true, true, true, true, false, false, false, false, false, false, false] rfl rfl (any_of HT_.out (by kernel_rfl)) (fun _ _ _ h => h) (Or.inl ⟨by rfl, ?_⟩) ?_ ?_
                  rotate_left
                  ·intro w'
                   go_simp
                   with_reducible rfl
                  rotate_left
                  ·simp only [Act.put, List.setIfInBounds_toArray, List.set_cons_zero, List.set_cons_succ, i64_w, i32_w]
                   rfl
                  refine pure_ (i := 6) (N := some 113) (v := ?_) (a' := ?_) #[true, true, true, true, true, true, true, false, false, false, false, false, false] rfl rfl (any_of HT_.out (by kernel_rfl)) (fun _ _ _ h => h) (Or.inl ⟨by rfl, ?_⟩) ?_ ?_
                  rotate_left
                  ·intro w'
                   go_simp
                   with_reducible rfl
                  rotate_left
                  ·simp only [Act.put, List.setIfInBounds_toArray, List.set_cons_zero, List.set_cons_succ, i64_w, i32_w]
                   rfl
                  refine pure_ (i := 7) (N := some 114) (v := ?_) (a' := ?_) #[true, true, true, true, true, true, true, true, false, false, false, false, false] rfl rfl (any_of HT_.out (by kernel_rfl)) (fun _ _ _ h => h) (Or.inl ⟨by rfl, ?_⟩) ?_ ?_
                  rotate_left
                  ·intro w'
                   go_simp
                   with_reducible rfl
                  rotate_left
                  ·simp only [Act.put, List.setIfInBounds_toArray, List.set_cons_zero, List.set_cons_succ, i64_w, i32_w]
                   rfl
                  refine pure_ (i := 8) (N := some 115) (v := ?_) (a' := ?_) #[true, true, true, true, true, true, true, true, true, false, false, false, false] rfl rfl (any_of HT_.out (by kernel_rfl)) (fun _ _ _ h => h) (Or.inl ⟨by rfl, ?_⟩) ?_ ?_
                  rotate_left
                  ·intro w'
                   go_simp
                   with_reducible rfl
                  rotate_left
                  ·simp only [Act.put, List.setIfInBounds_toArray, List.set_cons_zero, List.set_cons_succ, i64_w, i32_w]
                   rfl
                  refine one_ (i := 9) (N := some 18) #[true, true, true, true, true, true, true, true, true, true, false, false, false] rfl rfl (one_of HT_.out (by kernel_rfl)) (by decide) (fun K hK => ?_)
                  refine box_step ?hg (N := 18) ?hd (cs := #[.int .i64 0, .slice none 0 0]) (t := 33) ?hr ?_; (case hd => rfl); (case hg => rfl); (case hr => first | (go_simp; done) | (go_simp; rfl))
                  intro gb268 hg w138 hbox hb
                  have BK268 := xM (hbox)
                  have GW268 := xM ((by rw [hg]; exact (below_size (yh HB)) : w.heap.size ≤ gb268))
                  have GE268 := xM ((by rw [hg]; exact (below_size (yh HB)) : w.heap.size ≤ gb268))
                  have NB206_268 := xM ((by rw [hg]; exact Nat.ne_of_lt (blk_lt (yb BK206)) : gb206 ≠ gb268))
                  have NB268_206 := xM ((by rw [hg]; exact Nat.ne_of_gt (blk_lt (yb BK206)) : gb268 ≠ gb206))
                  have NB221_268 := xM ((by rw [hg]; exact Nat.ne_of_lt (blk_lt (yb BK221)) : gb221 ≠ gb268))
                  have NB268_221 := xM ((by rw [hg]; exact Nat.ne_of_gt (blk_lt (yb BK221)) : gb268 ≠ gb221))
                  have NB229_268 := xM ((by rw [hg]; exact Nat.ne_of_lt (blk_lt (yb BK229)) : gb229 ≠ gb268))
                  have NB268_229 := xM ((by rw [hg]; exact Nat.ne_of_gt (blk_lt (yb BK229)) : gb268 ≠ gb229))
                  have NB236_268 := xM ((by rw [hg]; exact Nat.ne_of_lt (blk_lt (yb BK236)) : gb236 ≠ gb268))
                  have NB268_236 := xM ((by rw [hg]; exact Nat.ne_of_gt (blk_lt (yb BK236)) : gb268 ≠ gb236))
                  replace HO_222001 := xM (xW (yR HO_222001) hb)
                  replace HO_230001 := xM (xW (yR HO_230001) hb)
                  replace HO_237001 := xM (xW (yR HO_237001) hb)
                  replace HO257 := xM (xW (yR HO257) hb)
                  replace HO261 := xM (xW (yR HO261) hb)
                  replace HO266 := xM (xW (yR HO266) hb)
                  replace BK206 := xM (xB (yb BK206) hb)
                  replace BK221 := xM (xB (yb BK221) hb)
                  replace BK229 := xM (xB (yb BK229) hb)
                  replace BK236 := xM (xB (yb BK236) hb)
                  replace HB := xM (below_step (yh HB) hb)
                  clear hb hbox hg
                  refine hK.out _ _ ⟨(blk_cell BK206.out 0).trans rfl, (blk_cell BK206.out 1).trans rfl⟩ (fun hHeld => ?_)
                  clear hK K
                  refine norm_ (a' := ?_) ?_ ?_
                  rotate_left
                  ·show Act.put _ (some 18) _ = _
                   simp only [Act.put, List.setIfInBounds_toArray, List.set_cons_zero, List.set_cons_succ, i64_w, i32_w]
                   rfl
                  exact norm_ (by simp only [putAll, Act.put, List.setIfInBounds_toArray, List.set_cons_zero, List.set_cons_succ]) (hCont (.slice Ao135 t255.length co135, .slice Ao136 t259.length co136, v265, gb268) _ ⟨hHeld, (by (with_reducible repeat (first | apply xRA | apply xRN | apply xRD)); exact Kd.R_mono HO257.out (fun _ hk => ⟨hk.1.2, ⟨hk.2, ⟨hk.1.1.1.1.2, ⟨hk.1.1.1.2, hk.1.1.2⟩⟩⟩⟩)), (by (with_reducible repeat (first | apply xRA | apply xRN | apply xRD)); exact Kd.R_mono HO261.out (fun _ hk => ⟨hk.1.2, ⟨hk.2, ⟨hk.1.1.1.1.2, ⟨hk.1.1.1.2, hk.1.1.2⟩⟩⟩⟩)), (by (with_reducible repeat (first | apply xRA | apply xRN | apply xRD)); exact Kd.R_mono HO266.out (fun _ hk => ⟨hk.1.2, ⟨hk.2, ⟨hk.1.1.1.1.2, ⟨hk.1.1.1.2, hk.1.1.2⟩⟩⟩⟩)), (by (with_reducible repeat (first | apply xRA | apply xRN | apply xRD)); exact Kd.R_mono HO_222001.out (fun _ hk => ⟨hk.1.1.2, ⟨hk.1.2, ⟨hk.2, ⟨hk.1.1.1.1, hk.1.1.1.2⟩⟩⟩⟩)), (by (with_reducible repeat (first | apply xRA | apply xRN | apply xRD)); exact Kd.R_mono HO_230001.out (fun _ hk => ⟨hk.1.1.2, ⟨hk.1.2, ⟨hk.2, ⟨hk.1.1.1.1, hk.1.1.1.2⟩⟩⟩⟩)), (by (with_reducible repeat (first | apply xRA | apply xRN | apply xRD)); exact Kd.R_mono HO_237001.out (fun _ hk => ⟨hk.1.1.2, ⟨hk.1.2, ⟨hk.2, ⟨hk.1.1.1.1, hk.1.1.1.2⟩⟩⟩⟩)), (yb BK206), (yb BK221), (yb BK229), (yb BK236), (yb BK268), GW268.out, GE268.out, NB206_268.out, NB268_206.out, NB221_268.out, NB268_221.out, NB229_268.out, NB268_229.out, NB236_268.out, NB268_236.out, (yh HB)⟩)
                 ·skip
                  refine box_step ?hg (N := 18) ?hd (cs := #[.int .i64 0, .slice none 0 0]) (t := 33) ?hr ?_; (case hd => rfl); (case hg => rfl); (case hr => first | (go_simp; done) | (go_simp; rfl))
                  intro gb268 hg w135 hbox hb
                  have BK268 := xM (hbox)
                  have GW268 := xM ((by rw [hg]; exact (below_size (yh HB)) : w.heap.size ≤ gb268))
                  have GE268 := xM ((by rw [hg]; exact (below_size (yh HB)) : w.heap.size ≤ gb268))
                  have NB206_268 := xM ((by rw [hg]; exact Nat.ne_of_lt (blk_lt (yb BK206)) : gb206 ≠ gb268))
                  have NB268_206 := xM ((by rw [hg]; exact Nat.ne_of_gt (blk_lt (yb BK206)) : gb268 ≠ gb206))
                  have NB221_268 := xM ((by rw [hg]; exact Nat.ne_of_lt (blk_lt (yb BK221)) : gb221 ≠ gb268))
                  have NB268_221 := xM ((by rw [hg]; exact Nat.ne_of_gt (blk_lt (yb BK221)) : gb268 ≠ gb221))
                  have NB229_268 := xM ((by rw [hg]; exact Nat.ne_of_lt (blk_lt (yb BK229)) : gb229 ≠ gb268))
                  have NB268_229 := xM ((by rw [hg]; exact Nat.ne_of_gt (blk_lt (yb BK229)) : gb268 ≠ gb229))
                  have NB236_268 := xM ((by rw [hg]; exact Nat.ne_of_lt (blk_lt (yb BK236)) : gb236 ≠ gb268))
                  have NB268_236 := xM ((by rw [hg]; exact Nat.ne_of_gt (blk_lt (yb BK236)) : gb268 ≠ gb236))
                  replace HO_222001 := xM (xW (yR HO_222001) hb)
                  replace HO_230001 := xM (xW (yR HO_230001) hb)
                  replace HO_237001 := xM (xW (yR HO_237001) hb)
                  replace HO257 := xM (xW (yR HO257) hb)
                  replace HO261 := xM (xW (yR HO261) hb)
                  replace BK206 := xM (xB (yb BK206) hb)
                  replace BK221 := xM (xB (yb BK221) hb)
                  replace BK229 := xM (xB (yb BK229) hb)
                  replace BK236 := xM (xB (yb BK236) hb)
                  replace HB := xM (below_step (yh HB) hb)
                  clear hb hbox hg
                  obtain ⟨Ao136, co136, eo136⟩ := Kd.R_slice HO257.out
                  (first | subst eo136 | (injection eo136 with f1_ f2_ f3_; have f4_ := f1_.symm; have f5_ := f3_.symm; clear f1_ f2_ f3_; subst f4_; subst f5_))
                  obtain ⟨Ao137, co137, eo137⟩ := Kd.R_slice HO261.out
                  (first | subst eo137 | (injection eo137 with f1_ f2_ f3_; have f4_ := f1_.symm; have f5_ := f3_.symm; clear f1_ f2_ f3_; subst f4_; subst f5_))
                  refine hK.out _ _ ⟨(blk_cell BK206.out 0).trans rfl, (blk_cell BK206.out 1).trans rfl⟩ (fun hHeld => ?_)
                  clear hK K
                  refine norm_ (a' := ?_) ?_ ?_
                  rotate_left
                  ·show Act.put _ (some 18) _ = _
                   simp only [Act.put, List.setIfInBounds_toArray, List.set_cons_zero, List.set_cons_succ, i64_w, i32_w]
                   rfl
                  refine one_ (i := 4) (N := some 112) #[true, true, true, true, true, false, false, false, false, true, false, false, false] rfl rfl (one_of HT_.out (by kernel_rfl)) (by decide) (fun K hK => ?_)
                  refine goes_ Try.func34 (by kernel_rfl) rfl #[.slice Ao136 t255.length co136, .agg #[.int .i64 t258, .slice Ao137 t259.length co137]] (by rfl) rfl rfl (by (try simp only [List.map_toArray, List.map_cons, List.map_nil]); first | done | rfl | (simp only [List.length_drop, List.length_take]; rfl)) ?_
                  with_reducible refine (impl_TakeSymbol.calls kj75 _ _ t255 t258 _ _ t259 t262 t263 t264 t267 _ ?side1 ?side2 ?side3 ?side4 A123.out).mono ?_
                  (case side1 => repeat (first | exact (Kd.R_reads' HO257.out).2.2 | (with_reducible refine Kd.C_alloc ?_ _) | (with_reducible refine Kd.C_drewN ?_ _) | (with_reducible refine Kd.C_drew ?_)))
                  (case side2 => exact (Kd.R_reads' HO257.out).2.1)
                  (case side3 => repeat (first | exact (Kd.R_reads' HO261.out).2.2 | (with_reducible refine Kd.C_alloc ?_ _) | (with_reducible refine Kd.C_drewN ?_ _) | (with_reducible refine Kd.C_drew ?_)))
                  (case side4 => exact (Kd.R_reads' HO261.out).2.1)
                  rintro e w138 ⟨v265, rfl, ho0, hb⟩
                  refine ⟨_, rfl, ?_⟩
                  have HO266 := xM (Kd.R_lower (Kd.R_new' (Kd.R_new' (Kd.R_new' (Kd.R_new' (Kd.R_new' ho0 (xL (yR HO_222001))) (xL (yR HO_230001))) (xL (yR HO_237001))) (xL (yR HO257))) (xL (yR HO261))) (below_size (yh HB)))
                  replace HO_222001 := xM (Kd.R_elder' (yR HO_222001) (Kd.R_base ho0) hb)
                  replace HO_230001 := xM (Kd.R_elder' (yR HO_230001) (Kd.R_base ho0) hb)
                  replace HO_237001 := xM (Kd.R_elder' (yR HO_237001) (Kd.R_base ho0) hb)
                  replace HO257 := xM (Kd.R_elder' (yR HO257) (Kd.R_base ho0) hb)
                  replace HO261 := xM (Kd.R_elder' (yR HO261) (Kd.R_base ho0) hb)
                  replace BK206 := xM (xB (yb BK206) hb)
                  replace BK221 := xM (xB (yb BK221) hb)
                  replace BK229 := xM (xB (yb BK229) hb)
                  replace BK236 := xM (xB (yb BK236) hb)
                  replace BK268 := xM (xB (yb BK268) hb)
                  replace HB := xM (below_step (yh HB) hb)
                  (try clear hb)
                  (try clear hb2)
                  (try clear hk)
                  (try clear hi)
                  (try clear ho0)
                  refine hK.out _ _ ⟨(blk_cell BK206.out 0).trans rfl, (blk_cell BK206.out 1).trans rfl⟩ (fun hHeld => ?_)
                  clear hK K
                  refine norm_ (a' := ?_) ?_ ?_
                  rotate_left
                  ·show Act.put _ (some 112) _ = _
                   simp only [Act.put, List.setIfInBounds_toArray, List.set_cons_zero, List.set_cons_succ, i64_w, i32_w]
                   rfl
                  refine pure_ (i := 5) (N := some 107) (v := ?_) (a' := ?_) #[true, true, true, true, true, true, false, false, false, true, false, false, false] rfl rfl (any_of HT_.out (by kernel_rfl)) (fun _ _ _ h => h) (Or.inl ⟨by rfl, ?_⟩) ?_ ?_
                  rotate_left
                  ·intro w'
                   go_simp
                   with_reducible rfl
                  rotate_left
                  ·simp only [Act.put, List.setIfInBounds_toArray, List.set_cons_zero, List.set_cons_succ, i64_w, i32_w]
                   rfl
                  refine pure_ (i := 6) (N := some 113) (v := ?_) (a' := ?_) #[true, true, true, true, true, true, true, false, false, true, false, false, false] rfl rfl (any_of HT_.out (by kernel_rfl)) (fun _ _ _ h => h) (Or.inl ⟨by rfl, ?_⟩) ?_ ?_
                  rotate_left
                  ·intro w'
                   go_simp
                   with_reducible rfl
                  rotate_left
                  ·simp only [Act.put, List.setIfInBounds_toArray, List.set_cons_zero, List.set_cons_succ, i64_w, i32_w]
                   rfl
                  refine pure_ (i := 7) (N := some 114) (v := ?_) (a' := ?_) #[true, true, true, true, true, true, true, true, false, true, false, false, false] rfl rfl (any_of HT_.out (by kernel_rfl)) (fun _ _ _ h => h) (Or.inl ⟨by rfl, ?_⟩) ?_ ?_
                  rotate_left
                  ·intro w'
                   go_simp
                   with_reducible rfl
                  rotate_left
                  ·simp only [Act.put, List.setIfInBounds_toArray, List.set_cons_zero, List.set_cons_succ, i64_w, i32_w]
                   rfl
                  refine pure_ (i := 8) (N := some 115) (v := ?_) (a' := ?_) #[true, true, true, true, true, true, true, true, true, true, false, false, false] rfl rfl (any_of HT_.out (by kernel_rfl)) (fun _ _ _ h => h) (Or.inl ⟨by rfl, ?_⟩) ?_ ?_
                  rotate_left
                  ·intro w'
                   go_simp
                   with_reducible rfl
                  rotate_left
                  ·simp only [Act.put, List.setIfInBounds_toArray, List.set_cons_zero, List.set_cons_succ, i64_w, i32_w]
                   rfl
                  exact norm_ (by simp only [putAll, Act.put, List.setIfInBounds_toArray, List.set_cons_zero, List.set_cons_succ]) (hCont (.slice Ao136 t255.length co136, .slice Ao137 t259.length co137, v265, gb268) _ ⟨hHeld, (by (with_reducible repeat (first | apply xRA | apply xRN | apply xRD)); exact Kd.R_mono HO257.out (fun _ hk => ⟨hk.1.2, ⟨hk.2, ⟨hk.1.1.1.1.2, ⟨hk.1.1.1.2, hk.1.1.2⟩⟩⟩⟩)), (by (with_reducible repeat (first | apply xRA | apply xRN | apply xRD)); exact Kd.R_mono HO261.out (fun _ hk => ⟨hk.1.2, ⟨hk.2, ⟨hk.1.1.1.1.2, ⟨hk.1.1.1.2, hk.1.1.2⟩⟩⟩⟩)), (by (with_reducible repeat (first | apply xRA | apply xRN | apply xRD)); exact Kd.R_mono HO266.out (fun _ hk => ⟨hk.1.2, ⟨hk.2, ⟨hk.1.1.1.1.2, ⟨hk.1.1.1.2, hk.1.1.2⟩⟩⟩⟩)), (by (with_reducible repeat (first | apply xRA | apply xRN | apply xRD)); exact Kd.R_mono HO_222001.out (fun _ hk => ⟨hk.1.1.2, ⟨hk.1.2, ⟨hk.2, ⟨hk.1.1.1.1, hk.1.1.1.2⟩⟩⟩⟩)), (by (with_reducible repeat (first | apply xRA | apply xRN | apply xRD)); exact Kd.R_mono HO_230001.out (fun _ hk => ⟨hk.1.1.2, ⟨hk.1.2, ⟨hk.2, ⟨hk.1.1.1.1, hk.1.1.1.2⟩⟩⟩⟩)), (by (with_reducible repeat (first | apply xRA | apply xRN | apply xRD)); exact Kd.R_mono HO_237001.out (fun _ hk => ⟨hk.1.1.2, ⟨hk.1.2, ⟨hk.2, ⟨hk.1.1.1.1, hk.1.1.1.2⟩⟩⟩⟩)), (yb BK206), (yb BK221), (yb BK229), (yb BK236), (yb BK268), GW268.out, GE268.out, NB206_268.out, NB268_206.out, NB221_268.out, NB268_221.out, NB229_268.out, NB268_229.out, NB236_268.out, NB268_236.out, (yh HB)⟩)
                ·skip
                 refine box_step ?hg (N := 18) ?hd (cs := #[.int .i64 0, .slice none 0 0]) (t := 33) ?hr ?_; (case hd => rfl); (case hg => rfl); (case hr => first | (go_simp; done) | (go_simp; rfl))
                 intro gb268 hg w134 hbox hb
                 have BK268 := xM (hbox)
                 have GW268 := xM ((by rw [hg]; exact (below_size (yh HB)) : w.heap.size ≤ gb268))
                 have GE268 := xM ((by rw [hg]; exact (below_size (yh HB)) : w.heap.size ≤ gb268))
                 have NB206_268 := xM ((by rw [hg]; exact Nat.ne_of_lt (blk_lt (yb BK206)) : gb206 ≠ gb268))
                 have NB268_206 := xM ((by rw [hg]; exact Nat.ne_of_gt (blk_lt (yb BK206)) : gb268 ≠ gb206))
                 have NB221_268 := xM ((by rw [hg]; exact Nat.ne_of_lt (blk_lt (yb BK221)) : gb221 ≠ gb268))
                 have NB268_221 := xM ((by rw [hg]; exact Nat.ne_of_gt (blk_lt (yb BK221)) : gb268 ≠ gb221))
                 have NB229_268 := xM ((by rw [hg]; exact Nat.ne_of_lt (blk_lt (yb BK229)) : gb229 ≠ gb268))
                 have NB268_229 := xM ((by rw [hg]; exact Nat.ne_of_gt (blk_lt (yb BK229)) : gb268 ≠ gb229))
                 have NB236_268 := xM ((by rw [hg]; exact Nat.ne_of_lt (blk_lt (yb BK236)) : gb236 ≠ gb268))
                 have NB268_236 := xM ((by rw [hg]; exact Nat.ne_of_gt (blk_lt (yb BK236)) : gb268 ≠ gb236))
                 replace HO_222001 := xM (xW (yR HO_222001) hb)
                 replace HO_230001 := xM (xW (yR HO_230001) hb)
                 replace HO_237001 := xM (xW (yR HO_237001) hb)
                 replace HO257 := xM (xW (yR HO257) hb)
                 replace BK206 := xM (xB (yb BK206) hb)
                 replace BK221 := xM (xB (yb BK221) hb)
                 replace BK229 := xM (xB (yb BK229) hb)
                 replace BK236 := xM (xB (yb BK236) hb)
                 replace HB := xM (below_step (yh HB) hb)
                 clear hb hbox hg
                 refine hK.out _ _ ⟨(blk_cell BK206.out 0).trans rfl, (blk_cell BK206.out 1).trans rfl⟩ (fun hHeld => ?_)
                 clear hK K
                 refine norm_ (a' := ?_) ?_ ?_
                 rotate_left
                 ·show Act.put _ (some 18) _ = _
                  simp only [Act.put, List.setIfInBounds_toArray, List.set_cons_zero, List.set_cons_succ, i64_w, i32_w]
                  rfl
                 refine one_ (i := 3) (N := some 111) #[true, true, true, true, false, false, false, false, false, true, false, false, false] rfl rfl (one_of HT_.out (by kernel_rfl)) (by decide) (fun K hK => ?_)
                 refine goes_ Try.func33 (by kernel_rfl) rfl #[.agg #[.int .i64 a1_0, .slice A1_1 l1_1.length c1_1]] (by rfl) rfl rfl (by (try simp only [List.map_toArray, List.map_cons, List.map_nil]); first | done | rfl | (simp only [List.length_drop, List.length_take]; rfl)) ?_
                 with_reducible refine (laws_toCoded.calls kj75 a1_0 _ _ l1_1 t258 t259 _ ?side1 ?side2 A122.out).mono ?_
                 (case side1 => repeat (first | exact (Kd.C_below HR1_1.out HB.out) | (with_reducible refine Kd.C_alloc ?_ _) | (with_reducible refine Kd.C_drewN ?_ _) | (with_reducible refine Kd.C_drew ?_)))
                 (case side2 => exact HC1_1.out)
                 rintro e w135 ⟨v260, rfl, ho0, hb⟩
                 refine ⟨_, rfl, ?_⟩
                 have HO261 := xM (Kd.R_lower (Kd.R_new' (Kd.R_new' (Kd.R_new' (Kd.R_new' ho0 (xL (yR HO_222001))) (xL (yR HO_230001))) (xL (yR HO_237001))) (xL (yR HO257))) (below_size (yh HB)))
                 replace HO_222001 := xM (Kd.R_elder' (yR HO_222001) (Kd.R_base ho0) hb)
                 replace HO_230001 := xM (Kd.R_elder' (yR HO_230001) (Kd.R_base ho0) hb)
                 replace HO_237001 := xM (Kd.R_elder' (yR HO_237001) (Kd.R_base ho0) hb)
                 replace HO257 := xM (Kd.R_elder' (yR HO257) (Kd.R_base ho0) hb)
                 replace BK206 := xM (xB (yb BK206) hb)
                 replace BK221 := xM (xB (yb BK221) hb)
                 replace BK229 := xM (xB (yb BK229) hb)
                 replace BK236 := xM (xB (yb BK236) hb)
                 replace BK268 := xM (xB (yb BK268) hb)
                 replace HB := xM (below_step (yh HB) hb)
                 (try clear hb)
                 (try clear hb2)
                 (try clear hk)
                 (try clear hi)
                 (try clear ho0)
                 obtain ⟨Ao136, co136, eo136⟩ := Kd.R_slice HO257.out
                 (first | subst eo136 | (injection eo136 with f1_ f2_ f3_; have f4_ := f1_.symm; have f5_ := f3_.symm; clear f1_ f2_ f3_; subst f4_; subst f5_))
                 obtain ⟨Ao137, co137, eo137⟩ := Kd.R_slice HO261.out
                 (first | subst eo137 | (injection eo137 with f1_ f2_ f3_; have f4_ := f1_.symm; have f5_ := f3_.symm; clear f1_ f2_ f3_; subst f4_; subst f5_))
                 refine hK.out _ _ ⟨(blk_cell BK206.out 0).trans rfl, (blk_cell BK206.out 1).trans rfl⟩ (fun hHeld => ?_)
                 clear hK K
                 refine norm_ (a' := ?_) ?_ ?_
                 rotate_left
                 ·show Act.put _ (some 111) _ = _
                  simp only [Act.put, List.setIfInBounds_toArray, List.set_cons_zero, List.set_cons_succ, i64_w, i32_w]
                  rfl
                 refine one_ (i := 4) (N := some 112) #[true, true, true, true, true, false, false, false, false, true, false, false, false] rfl rfl (one_of HT_.out (by kernel_rfl)) (by decide) (fun K hK => ?_)
                 refine goes_ Try.func34 (by kernel_rfl) rfl #[.slice Ao136 t255.length co136, .agg #[.int .i64 t258, .slice Ao137 t259.length co137]] (by rfl) rfl rfl (by (try simp only [List.map_toArray, List.map_cons, List.map_nil]); first | done | rfl | (simp only [List.length_drop, List.length_take]; rfl)) ?_
                 with_reducible refine (impl_TakeSymbol.calls kj75 _ _ t255 t258 _ _ t259 t262 t263 t264 t267 _ ?side1 ?side2 ?side3 ?side4 A123.out).mono ?_
                 (case side1 => repeat (first | exact (Kd.R_reads' HO257.out).2.2 | (with_reducible refine Kd.C_alloc ?_ _) | (with_reducible refine Kd.C_drewN ?_ _) | (with_reducible refine Kd.C_drew ?_)))
                 (case side2 => exact (Kd.R_reads' HO257.out).2.1)
                 (case side3 => repeat (first | exact (Kd.R_reads' HO261.out).2.2 | (with_reducible refine Kd.C_alloc ?_ _) | (with_reducible refine Kd.C_drewN ?_ _) | (with_reducible refine Kd.C_drew ?_)))
                 (case side4 => exact (Kd.R_reads' HO261.out).2.1)
                 rintro e w138 ⟨v265, rfl, ho0, hb⟩
                 refine ⟨_, rfl, ?_⟩
                 have HO266 := xM (Kd.R_lower (Kd.R_new' (Kd.R_new' (Kd.R_new' (Kd.R_new' (Kd.R_new' ho0 (xL (yR HO_222001))) (xL (yR HO_230001))) (xL (yR HO_237001))) (xL (yR HO257))) (xL (yR HO261))) (below_size (yh HB)))
                 replace HO_222001 := xM (Kd.R_elder' (yR HO_222001) (Kd.R_base ho0) hb)
                 replace HO_230001 := xM (Kd.R_elder' (yR HO_230001) (Kd.R_base ho0) hb)
                 replace HO_237001 := xM (Kd.R_elder' (yR HO_237001) (Kd.R_base ho0) hb)
                 replace HO257 := xM (Kd.R_elder' (yR HO257) (Kd.R_base ho0) hb)
                 replace HO261 := xM (Kd.R_elder' (yR HO261) (Kd.R_base ho0) hb)
                 replace BK206 := xM (xB (yb BK206) hb)
                 replace BK221 := xM (xB (yb BK221) hb)
                 replace BK229 := xM (xB (yb BK229) hb)
                 replace BK236 := xM (xB (yb BK236) hb)
                 replace BK268 := xM (xB (yb BK268) hb)
                 replace HB := xM (below_step (yh HB) hb)
                 (try clear hb)
                 (try clear hb2)
                 (try clear hk)
                 (try clear hi)
                 (try clear ho0)
                 refine hK.out _ _ ⟨(blk_cell BK206.out 0).trans rfl, (blk_cell BK206.out 1).trans rfl⟩ (fun hHeld => ?_)
                 clear hK K
                 refine norm_ (a' := ?_) ?_ ?_
                 rotate_left
                 ·show Act.put _ (some 112) _ = _
                  simp only [Act.put, List.setIfInBounds_toArray, List.set_cons_zero, List.set_cons_succ, i64_w, i32_w]
                  rfl
                 refine pure_ (i := 5) (N := some 107) (v := ?_) (a' := ?_) #[true, true, true, true, true, true, false, false, false, true, false, false, false] rfl rfl (any_of HT_.out (by kernel_rfl)) (fun _ _ _ h => h) (Or.inl ⟨by rfl, ?_⟩) ?_ ?_
                 rotate_left
                 ·intro w'
                  go_simp
                  with_reducible rfl
                 rotate_left
                 ·simp only [Act.put, List.setIfInBounds_toArray, List.set_cons_zero, List.set_cons_succ, i64_w, i32_w]
                  rfl
                 refine pure_ (i := 6) (N := some 113) (v := ?_) (a' := ?_) #[true, true, true, true, true, true, true, false, false, true, false, false, false] rfl rfl (any_of HT_.out (by kernel_rfl)) (fun _ _ _ h => h) (Or.inl ⟨by rfl, ?_⟩) ?_ ?_
                 rotate_left
                 ·intro w'
                  go_simp
                  with_reducible rfl
                 rotate_left
                 ·simp only [Act.put, List.setIfInBounds_toArray, List.set_cons_zero, List.set_cons_succ, i64_w, i32_w]
                  rfl
                 refine pure_ (i := 7) (N := some 114) (v := ?_) (a' := ?_) #[true, true, true, true, true, true, true, true, false, true, false, false, false] rfl rfl (any_of HT_.out (by kernel_rfl)) (fun _ _ _ h => h) (Or.inl ⟨by rfl, ?_⟩) ?_ ?_
                 rotate_left
                 ·intro w'
                  go_simp
                  with_reducible rfl
                 rotate_left
                 ·simp only [Act.put, List.setIfInBounds_toArray, List.set_cons_zero, List.set_cons_succ, i64_w, i32_w]
                  rfl
                 refine pure_ (i := 8) (N := some 115) (v := ?_) (a' := ?_) #[true, true, true, true, true, true, true, true, true, true, false, false, false] rfl rfl (any_of HT_.out (by kernel_rfl)) (fun _ _ _ h => h) (Or.inl ⟨by rfl, ?_⟩) ?_ ?_
                 rotate_left
                 ·intro w'
                  go_simp
                  with_reducible rfl
                 rotate_left
                 ·simp only [Act.put, List.setIfInBounds_toArray, List.set_cons_zero, List.set_cons_succ, i64_w, i32_w]
                  rfl
                 exact norm_ (by simp only [putAll, Act.put, List.setIfInBounds_toArray, List.set_cons_zero, List.set_cons_succ]) (hCont (.slice Ao136 t255.length co136, .slice Ao137 t259.length co137, v265, gb268) _ ⟨hHeld, (by (with_reducible repeat (first | apply xRA | apply xRN | apply xRD)); exact Kd.R_mono HO257.out (fun _ hk => ⟨hk.1.2, ⟨hk.2, ⟨hk.1.1.1.1.2, ⟨hk.1.1.1.2, hk.1.1.2⟩⟩⟩⟩)), (by (with_reducible repeat (first | apply xRA | apply xRN | apply xRD)); exact Kd.R_mono HO261.out (fun _ hk => ⟨hk.1.2, ⟨hk.2, ⟨hk.1.1.1.1.2, ⟨hk.1.1.1.2, hk.1.1.2⟩⟩⟩⟩)), (by (with_reducible repeat (first | apply xRA | apply xRN | apply xRD)); exact Kd.R_mono HO266.out (fun _ hk => ⟨hk.1.2, ⟨hk.2, ⟨hk.1.1.1.1.2, ⟨hk.1.1.1.2, hk.1.1.2⟩⟩⟩⟩)), (by (with_reducible repeat (first | apply xRA | apply xRN | apply xRD)); exact Kd.R_mono HO_222001.out (fun _ hk => ⟨hk.1.1.2, ⟨hk.1.2, ⟨hk.2, ⟨hk.1.1.1.1, hk.1.1.1.2⟩⟩⟩⟩)), (by (with_reducible repeat (first | apply xRA | apply xRN | apply xRD)); exact Kd.R_mono HO_230001.out (fun _ hk => ⟨hk.1.1.2, ⟨hk.1.2, ⟨hk.2, ⟨hk.1.1.1.1, hk.1.1.1.2⟩⟩⟩⟩)), (by (with_reducible repeat (first | apply xRA | apply xRN | apply xRD)); exact Kd.R_mono HO_237001.out (fun _ hk => ⟨hk.1.1.2, ⟨hk.1.2, ⟨hk.2, ⟨hk.1.1.1.1, hk.1.1.1.2⟩⟩⟩⟩)), (yb BK206), (yb BK221), (yb BK229), (yb BK236), (yb BK268), GW268.out, GE268.out, NB206_268.out, NB268_206.out, NB221_268.out, NB268_221.out, NB229_268.out, NB268_229.out, NB236_268.out, NB268_236.out, (yh HB)⟩)
               ·skip
                refine box_step ?hg (N := 18) ?hd (cs := #[.int .i64 0, .slice none 0 0]) (t := 33) ?hr ?_; (case hd => rfl); (case hg => rfl); (case hr => first | (go_simp; done) | (go_simp; rfl))
                intro gb268 hg w133 hbox hb
                have BK268 := xM (hbox)
                have GW268 := xM ((by rw [hg]; exact (below_size (yh HB)) : w.heap.size ≤ gb268))
                have GE268 := xM ((by rw [hg]; exact (below_size (yh HB)) : w.heap.size ≤ gb268))
                have NB206_268 := xM ((by rw [hg]; exact Nat.ne_of_lt (blk_lt (yb BK206)) : gb206 ≠ gb268))
                have NB268_206 := xM ((by rw [hg]; exact Nat.ne_of_gt (blk_lt (yb BK206)) : gb268 ≠ gb206))
                have NB221_268 := xM ((by rw [hg]; exact Nat.ne_of_lt (blk_lt (yb BK221)) : gb221 ≠ gb268))
                have NB268_221 := xM ((by rw [hg]; exact Nat.ne_of_gt (blk_lt (yb BK221)) : gb268 ≠ gb221))
                have NB229_268 := xM ((by rw [hg]; exact Nat.ne_of_lt (blk_lt (yb BK229)) : gb229 ≠ gb268))
                have NB268_229 := xM ((by rw [hg]; exact Nat.ne_of_gt (blk_lt (yb BK229)) : gb268 ≠ gb229))
                have NB236_268 := xM ((by rw [hg]; exact Nat.ne_of_lt (blk_lt (yb BK236)) : gb236 ≠ gb268))
                have NB268_236 := xM ((by rw [hg]; exact Nat.ne_of_gt (blk_lt (yb BK236)) : gb268 ≠ gb236))
                replace HO_222001 := xM (xW (yR HO_222001) hb)
                replace HO_230001 := xM (xW (yR HO_230001) hb)
                replace HO_237001 := xM (xW (yR HO_237001) hb)
                replace BK206 := xM (xB (yb BK206) hb)
                replace BK221 := xM (xB (yb BK221) hb)
                replace BK229 := xM (xB (yb BK229) hb)
                replace BK236 := xM (xB (yb BK236) hb)
                replace HB := xM (below_step (yh HB) hb)
                clear hb hbox hg
                refine hK.out _ _ ⟨(blk_cell BK206.out 0).trans rfl, (blk_cell BK206.out 1).trans rfl⟩ (fun hHeld => ?_)
                clear hK K
                refine norm_ (a' := ?_) ?_ ?_
                rotate_left
                ·show Act.put _ (some 18) _ = _
                 simp only [Act.put, List.setIfInBounds_toArray, List.set_cons_zero, List.set_cons_succ, i64_w, i32_w]
                 rfl
                refine one_ (i := 1) (N := some 109) #[true, true, true, false, false, false, false, false, false, true, false, false, false] rfl rfl (one_of HT_.out (by kernel_rfl)) (by decide) (fun K hK => ?_)
                refine goes_ Try.func14 (by kernel_rfl) rfl #[.slice A0 l0.length c0] (by rfl) rfl rfl (by (try simp only [List.map_toArray, List.map_cons, List.map_nil]); first | done | rfl | (simp only [List.length_drop, List.length_take]; rfl)) ?_
                with_reducible refine (laws_toIntS.calls kj75 _ _ l0 t255 _ ?side1 ?side2 A121.out).mono ?_
                (case side1 => repeat (first | exact (Kd.C_below HR0.out HB.out) | (with_reducible refine Kd.C_alloc ?_ _) | (with_reducible refine Kd.C_drewN ?_ _) | (with_reducible refine Kd.C_drew ?_)))
                (case side2 => exact HC0.out)
                rintro e w134 ⟨v256, rfl, ho0, hb⟩
                refine ⟨_, rfl, ?_⟩
                have HO257 := xM (Kd.R_lower (Kd.R_new' (Kd.R_new' (Kd.R_new' ho0 (xL (yR HO_222001))) (xL (yR HO_230001))) (xL (yR HO_237001))) (below_size (yh HB)))
                replace HO_222001 := xM (Kd.R_elder' (yR HO_222001) (Kd.R_base ho0) hb)
                replace HO_230001 := xM (Kd.R_elder' (yR HO_230001) (Kd.R_base ho0) hb)
                replace HO_237001 := xM (Kd.R_elder' (yR HO_237001) (Kd.R_base ho0) hb)
                replace BK206 := xM (xB (yb BK206) hb)
                replace BK221 := xM (xB (yb BK221) hb)
                replace BK229 := xM (xB (yb BK229) hb)
                replace BK236 := xM (xB (yb BK236) hb)
                replace BK268 := xM (xB (yb BK268) hb)
                replace HB := xM (below_step (yh HB) hb)
                (try clear hb)
                (try clear hb2)
                (try clear hk)
                (try clear hi)
                (try clear ho0)
                refine hK.out _ _ ⟨(blk_cell BK206.out 0).trans rfl, (blk_cell BK206.out 1).trans rfl⟩ (fun hHeld => ?_)
                clear hK K
                refine norm_ (a' := ?_) ?_ ?_
                rotate_left
                ·show Act.put _ (some 109) _ = _
                 simp only [Act.put, List.setIfInBounds_toArray, List.set_cons_zero, List.set_cons_succ, i64_w, i32_w]
                 rfl
                refine one_ (i := 3) (N := some 111) #[true, true, true, true, false, false, false, false, false, true, false, false, false] rfl rfl (one_of HT_.out (by kernel_rfl)) (by decide) (fun K hK => ?_)
                refine goes_ Try.func33 (by kernel_rfl) rfl #[.agg #[.int .i64 a1_0, .slice A1_1 l1_1.length c1_1]] (by rfl) rfl rfl (by (try simp only [List.map_toArray, List.map_cons, List.map_nil]); first | done | rfl | (simp only [List.length_drop, List.length_take]; rfl)) ?_
                with_reducible refine (laws_toCoded.calls kj75 a1_0 _ _ l1_1 t258 t259 _ ?side1 ?side2 A122.out).mono ?_
                (case side1 => repeat (first | exact (Kd.C_below HR1_1.out HB.out) | (with_reducible refine Kd.C_alloc ?_ _) | (with_reducible refine Kd.C_drewN ?_ _) | (with_reducible refine Kd.C_drew ?_)))
                (case side2 => exact HC1_1.out)
                rintro e w135 ⟨v260, rfl, ho0, hb⟩
                refine ⟨_, rfl, ?_⟩
                have HO261 := xM (Kd.R_lower (Kd.R_new' (Kd.R_new' (Kd.R_new' (Kd.R_new' ho0 (xL (yR HO_222001))) (xL (yR HO_230001))) (xL (yR HO_237001))) (xL (yR HO257))) (below_size (yh HB)))
                replace HO_222001 := xM (Kd.R_elder' (yR HO_222001) (Kd.R_base ho0) hb)
                replace HO_230001 := xM (Kd.R_elder' (yR HO_230001) (Kd.R_base ho0) hb)
                replace HO_237001 := xM (Kd.R_elder' (yR HO_237001) (Kd.R_base ho0) hb)
                replace HO257 := xM (Kd.R_elder' (yR HO257) (Kd.R_base ho0) hb)
                replace BK206 := xM (xB (yb BK206) hb)
                replace BK221 := xM (xB (yb BK221) hb)
                replace BK229 := xM (xB (yb BK229) hb)
                replace BK236 := xM (xB (yb BK236) hb)
                replace BK268 := xM (xB (yb BK268) hb)
                replace HB := xM (below_step (yh HB) hb)
                (try clear hb)
                (try clear hb2)
                (try clear hk)
                (try clear hi)
                (try clear ho0)
                obtain ⟨Ao136, co136, eo136⟩ := Kd.R_slice HO257.out
                (first | subst eo136 | (injection eo136 with f1_ f2_ f3_; have f4_ := f1_.symm; have f5_ := f3_.symm; clear f1_ f2_ f3_; subst f4_; subst f5_))
                obtain ⟨Ao137, co137, eo137⟩ := Kd.R_slice HO261.out
                (first | subst eo137 | (injection eo137 with f1_ f2_ f3_; have f4_ := f1_.symm; have f5_ := f3_.symm; clear f1_ f2_ f3_; subst f4_; subst f5_))
                refine hK.out _ _ ⟨(blk_cell BK206.out 0).trans rfl, (blk_cell BK206.out 1).trans rfl⟩ (fun hHeld => ?_)
                clear hK K
                refine norm_ (a' := ?_) ?_ ?_
                rotate_left
                ·show Act.put _ (some 111) _ = _
                 simp only [Act.put, List.setIfInBounds_toArray, List.set_cons_zero, List.set_cons_succ, i64_w, i32_w]
                 rfl
                refine one_ (i := 4) (N := some 112) #[true, true, true, true, true, false, false, false, false, true, false, false, false] rfl rfl (one_of HT_.out (by kernel_rfl)) (by decide) (fun K hK => ?_)
                refine goes_ Try.func34 (by kernel_rfl) rfl #[.slice Ao136 t255.length co136, .agg #[.int .i64 t258, .slice Ao137 t259.length co137]] (by rfl) rfl rfl (by (try simp only [List.map_toArray, List.map_cons, List.map_nil]); first | done | rfl | (simp only [List.length_drop, List.length_take]; rfl)) ?_
                with_reducible refine (impl_TakeSymbol.calls kj75 _ _ t255 t258 _ _ t259 t262 t263 t264 t267 _ ?side1 ?side2 ?side3 ?side4 A123.out).mono ?_
                (case side1 => repeat (first | exact (Kd.R_reads' HO257.out).2.2 | (with_reducible refine Kd.C_alloc ?_ _) | (with_reducible refine Kd.C_drewN ?_ _) | (with_reducible refine Kd.C_drew ?_)))
                (case side2 => exact (Kd.R_reads' HO257.out).2.1)
                (case side3 => repeat (first | exact (Kd.R_reads' HO261.out).2.2 | (with_reducible refine Kd.C_alloc ?_ _) | (with_reducible refine Kd.C_drewN ?_ _) | (with_reducible refine Kd.C_drew ?_)))
                (case side4 => exact (Kd.R_reads' HO261.out).2.1)
                rintro e w138 ⟨v265, rfl, ho0, hb⟩
                refine ⟨_, rfl, ?_⟩
                have HO266 := xM (Kd.R_lower (Kd.R_new' (Kd.R_new' (Kd.R_new' (Kd.R_new' (Kd.R_new' ho0 (xL (yR HO_222001))) (xL (yR HO_230001))) (xL (yR HO_237001))) (xL (yR HO257))) (xL (yR HO261))) (below_size (yh HB)))
                replace HO_222001 := xM (Kd.R_elder' (yR HO_222001) (Kd.R_base ho0) hb)
                replace HO_230001 := xM (Kd.R_elder' (yR HO_230001) (Kd.R_base ho0) hb)
                replace HO_237001 := xM (Kd.R_elder' (yR HO_237001) (Kd.R_base ho0) hb)
                replace HO257 := xM (Kd.R_elder' (yR HO257) (Kd.R_base ho0) hb)
                replace HO261 := xM (Kd.R_elder' (yR HO261) (Kd.R_base ho0) hb)
                replace BK206 := xM (xB (yb BK206) hb)
                replace BK221 := xM (xB (yb BK221) hb)
                replace BK229 := xM (xB (yb BK229) hb)
                replace BK236 := xM (xB (yb BK236) hb)
                replace BK268 := xM (xB (yb BK268) hb)
                replace HB := xM (below_step (yh HB) hb)
                (try clear hb)
                (try clear hb2)
                (try clear hk)
                (try clear hi)
                (try clear ho0)
                refine hK.out _ _ ⟨(blk_cell BK206.out 0).trans rfl, (blk_cell BK206.out 1).trans rfl⟩ (fun hHeld => ?_)
                clear hK K
                refine norm_ (a' := ?_) ?_ ?_
                rotate_left
                ·show Act.put _ (some 112) _ = _
                 simp only [Act.put, List.setIfInBounds_toArray, List.set_cons_zero, List.set_cons_succ, i64_w, i32_w]
                 rfl
                refine pure_ (i := 5) (N := some 107) (v := ?_) (a' := ?_) #[true, true, true, true, true, true, false, false, false, true, false, false, false] rfl rfl (any_of HT_.out (by kernel_rfl)) (fun _ _ _ h => h) (Or.inl ⟨by rfl, ?_⟩) ?_ ?_
                rotate_left
                ·intro w'
                 go_simp
                 with_reducible rfl
                rotate_left
                ·simp only [Act.put, List.setIfInBounds_toArray, List.set_cons_zero, List.set_cons_succ, i64_w, i32_w]
                 rfl
                refine pure_ (i := 6) (N := some 113) (v := ?_) (a' := ?_) #[true, true, true, true, true, true, true, false, false, true, false, false, false] rfl rfl (any_of HT_.out (by kernel_rfl)) (fun _ _ _ h => h) (Or.inl ⟨by rfl, ?_⟩) ?_ ?_
                rotate_left
                ·intro w'
                 go_simp
                 with_reducible rfl
                rotate_left
                ·simp only [Act.put, List.setIfInBounds_toArray, List.set_cons_zero, List.set_cons_succ, i64_w, i32_w]
                 rfl
                refine pure_ (i := 7) (N := some 114) (v := ?_) (a' := ?_) #[true, true, true, true, true, true, true, true, false, true, false, false, false] rfl rfl (any_of HT_.out (by kernel_rfl)) (fun _ _ _ h => h) (Or.inl ⟨by rfl, ?_⟩) ?_ ?_
                rotate_left
                ·intro w'
                 go_simp
                 with_reducible rfl
                rotate_left
                ·simp only [Act.put, List.setIfInBounds_toArray, List.set_cons_zero, List.set_cons_succ, i64_w, i32_w]
                 rfl
                refine pure_ (i := 8) (N := some 115) (v := ?_) (a' := ?_) #[true, true, true, true, true, true, true, true, true, true, false, false, false] rfl rfl (any_of HT_.out (by kernel_rfl)) (fun _ _ _ h => h) (Or.inl ⟨by rfl, ?_⟩) ?_ ?_
                rotate_left
                ·intro w'
                 go_simp
                 with_reducible rfl
                rotate_left
                ·simp only [Act.put, List.setIfInBounds_toArray, List.set_cons_zero, List.set_cons_succ, i64_w, i32_w]
                 rfl
                exact norm_ (by simp only [putAll, Act.put, List.setIfInBounds_toArray, List.set_cons_zero, List.set_cons_succ]) (hCont (.slice Ao136 t255.length co136, .slice Ao137 t259.length co137, v265, gb268) _ ⟨hHeld, (by (with_reducible repeat (first | apply xRA | apply xRN | apply xRD)); exact Kd.R_mono HO257.out (fun _ hk => ⟨hk.1.2, ⟨hk.2, ⟨hk.1.1.1.1.2, ⟨hk.1.1.1.2, hk.1.1.2⟩⟩⟩⟩)), (by (with_reducible repeat (first | apply xRA | apply xRN | apply xRD)); exact Kd.R_mono HO261.out (fun _ hk => ⟨hk.1.2, ⟨hk.2, ⟨hk.1.1.1.1.2, ⟨hk.1.1.1.2, hk.1.1.2⟩⟩⟩⟩)), (by (with_reducible repeat (first | apply xRA | apply xRN | apply xRD)); exact Kd.R_mono HO266.out (fun _ hk => ⟨hk.1.2, ⟨hk.2, ⟨hk.1.1.1.1.2, ⟨hk.1.1.1.2, hk.1.1.2⟩⟩⟩⟩)), (by (with_reducible repeat (first | apply xRA | apply xRN | apply xRD)); exact Kd.R_mono HO_222001.out (fun _ hk => ⟨hk.1.1.2, ⟨hk.1.2, ⟨hk.2, ⟨hk.1.1.1.1, hk.1.1.1.2⟩⟩⟩⟩)), (by (with_reducible repeat (first | apply xRA | apply xRN | apply xRD)); exact Kd.R_mono HO_230001.out (fun _ hk => ⟨hk.1.1.2, ⟨hk.1.2, ⟨hk.2, ⟨hk.1.1.1.1, hk.1.1.1.2⟩⟩⟩⟩)), (by (with_reducible repeat (first | apply xRA | apply xRN | apply xRD)); exact Kd.R_mono HO_237001.out (fun _ hk => ⟨hk.1.1.2, ⟨hk.1.2, ⟨hk.2, ⟨hk.1.1.1.1, hk.1.1.1.2⟩⟩⟩⟩)), (yb BK206), (yb BK221), (yb BK229), (yb BK236), (yb BK268), GW268.out, GE268.out, NB206_268.out, NB268_206.out, NB221_268.out, NB268_221.out, NB229_268.out, NB268_229.out, NB236_268.out, NB268_236.out, (yh HB)⟩)
              rintro ⟨v256, v260, v265, gb268⟩ w139 ⟨hS_, h0_, h1_, h2_, h3_, h4_, h5_, h6_, h7_, h8_, h9_, h10_, h11_, h12_, h13_, h14_, h15_, h16_, h17_, h18_, h19_, h20_, h21_⟩
              have n0_ : Aside0 (Kd.R (Kd.int .i64) 3 w139 w.heap.size (fun k_ => some k_ ≠ (v260 : Value).ownBlock ∧ some k_ ≠ (v265 : Value).ownBlock ∧ some k_ ≠ (.slice Ao29 t217.length co29 : Value).ownBlock ∧ some k_ ≠ (.slice Ao39 t250.length co39 : Value).ownBlock ∧ some k_ ≠ (.slice Ao47 t232.length co47 : Value).ownBlock) v256 t255) := ⟨h0_⟩
              have n1_ : Aside0 (Kd.R (Kd.int .i64) 3 w139 w.heap.size (fun k_ => some k_ ≠ (v256 : Value).ownBlock ∧ some k_ ≠ (v265 : Value).ownBlock ∧ some k_ ≠ (.slice Ao29 t217.length co29 : Value).ownBlock ∧ some k_ ≠ (.slice Ao39 t250.length co39 : Value).ownBlock ∧ some k_ ≠ (.slice Ao47 t232.length co47 : Value).ownBlock) v260 t259) := ⟨h1_⟩
              have n2_ : Aside0 (Kd.R (Kd.int .i64) 3 w139 w.heap.size (fun k_ => some k_ ≠ (v256 : Value).ownBlock ∧ some k_ ≠ (v260 : Value).ownBlock ∧ some k_ ≠ (.slice Ao29 t217.length co29 : Value).ownBlock ∧ some k_ ≠ (.slice Ao39 t250.length co39 : Value).ownBlock ∧ some k_ ≠ (.slice Ao47 t232.length co47 : Value).ownBlock) v265 t264) := ⟨h2_⟩
              have n3_ : Aside0 (Kd.R (Kd.int .i64) 3 w139 w.heap.size (fun k_ => some k_ ≠ (v256 : Value).ownBlock ∧ some k_ ≠ (v260 : Value).ownBlock ∧ some k_ ≠ (v265 : Value).ownBlock ∧ some k_ ≠ (.slice Ao39 t250.length co39 : Value).ownBlock ∧ some k_ ≠ (.slice Ao47 t232.length co47 : Value).ownBlock) (.slice Ao29 t217.length co29) t217) := ⟨h3_⟩
              have n4_ : Aside0 (Kd.R (Kd.int .i64) 3 w139 w.heap.size (fun k_ => some k_ ≠ (v256 : Value).ownBlock ∧ some k_ ≠ (v260 : Value).ownBlock ∧ some k_ ≠ (v265 : Value).ownBlock ∧ some k_ ≠ (.slice Ao29 t217.length co29 : Value).ownBlock ∧ some k_ ≠ (.slice Ao47 t232.length co47 : Value).ownBlock) (.slice Ao39 t250.length co39) t250) := ⟨h4_⟩
              have n5_ : Aside0 (Kd.R (Kd.int .i64) 3 w139 w.heap.size (fun k_ => some k_ ≠ (v256 : Value).ownBlock ∧ some k_ ≠ (v260 : Value).ownBlock ∧ some k_ ≠ (v265 : Value).ownBlock ∧ some k_ ≠ (.slice Ao29 t217.length co29 : Value).ownBlock ∧ some k_ ≠ (.slice Ao39 t250.length co39 : Value).ownBlock) (.slice Ao47 t232.length co47) t253) := ⟨h5_⟩
              have n6_ : Aside0 (w139.heap[gb206]? = some (.cells #[.int .i64 a1_0, .slice A1_1 l1_1.length c1_1] 47 (0, 0))) := ⟨h6_⟩
              have n7_ : Aside0 (w139.heap[gb221]? = some (.cells #[.int .i64 t216, .slice Ao29 t217.length co29] 33 (0, 0))) := ⟨h7_⟩
              have n8_ : Aside0 (w139.heap[gb229]? = some (.cells #[.int .i64 t225, .slice Ao39 t250.length co39] 33 (0, 0))) := ⟨h8_⟩
              have n9_ : Aside0 (w139.heap[gb236]? = some (.cells #[.int .i64 t231, .slice Ao47 t232.length co47] 33 (0, 0))) := ⟨h9_⟩
              have n10_ : Aside0 (w139.heap[gb268]? = some (.cells #[.int .i64 0, .slice none 0 0] 33 (0, 0))) := ⟨h10_⟩
              have n11_ : Aside0 (w.heap.size ≤ gb268) := ⟨h11_⟩
              have n12_ : Aside0 (w.heap.size ≤ gb268) := ⟨h12_⟩
              have n13_ : Aside0 (gb206 ≠ gb268) := ⟨h13_⟩
              have n14_ : Aside0 (gb268 ≠ gb206) := ⟨h14_⟩
              have n15_ : Aside0 (gb221 ≠ gb268) := ⟨h15_⟩
              have n16_ : Aside0 (gb268 ≠ gb221) := ⟨h16_⟩
              have n17_ : Aside0 (gb229 ≠ gb268) := ⟨h17_⟩
              have n18_ : Aside0 (gb268 ≠ gb229) := ⟨h18_⟩
              have n19_ : Aside0 (gb236 ≠ gb268) := ⟨h19_⟩
              have n20_ : Aside0 (gb268 ≠ gb236) := ⟨h20_⟩
              have n21_ : Aside0 (Below w.heap.size w w139) := ⟨h21_⟩
              clear HO_222001
              clear HO_230001
              clear HO_237001
              clear BK206
              clear BK221
              clear BK229
              clear BK236
              clear HB
              clear h0_ h1_ h2_ h3_ h4_ h5_ h6_ h7_ h8_ h9_ h10_ h11_ h12_ h13_ h14_ h15_ h16_ h17_ h18_ h19_ h20_ h21_
              have HO257 := n0_
              have HO261 := n1_
              have HO266 := n2_
              have HO_222001 := n3_
              have HO_230001 := n4_
              have HO_237001 := n5_
              have BK206 := n6_
              have BK221 := n7_
              have BK229 := n8_
              have BK236 := n9_
              have BK268 := n10_
              have GW268 := n11_
              have GE268 := n12_
              have NB206_268 := n13_
              have NB268_206 := n14_
              have NB221_268 := n15_
              have NB268_221 := n16_
              have NB229_268 := n17_
              have NB268_229 := n18_
              have NB236_268 := n19_
              have NB268_236 := n20_
              have HB := n21_
              clear n0_ n1_ n2_ n3_ n4_ n5_ n6_ n7_ n8_ n9_ n10_ n11_ n12_ n13_ n14_ n15_ n16_ n17_ n18_ n19_ n20_ n21_
              have hHeld : w139.cell? ⟨gb206, 0, none⟩ = some (.int .i64 a1_0) ∧ w139.cell? ⟨gb206, 1, none⟩ = some (.slice A1_1 l1_1.length c1_1) := hS_
              obtain ⟨Ao141, co141, eo141⟩ := Kd.R_slice HO266.out
              (first | subst eo141 | (injection eo141 with f1_ f2_ f3_; have f4_ := f1_.symm; have f5_ := f3_.symm; clear f1_ f2_ f3_; subst f4_; subst f5_))
              refine norm_ (a' := ?_) ?_ ?_
              rotate_left
              ·simp only [putAll, Act.put, List.setIfInBounds_toArray, List.set_cons_zero, List.set_cons_succ]
               rfl
              refine pure_ (i := 10) (N := some 17) (v := ?_) (a' := ?_) #[true, true, true, true, true, true, true, true, true, true, true, false, false] rfl rfl (any_of HT_.out (by kernel_rfl)) (fun _ _ _ h => h) (Or.inl ⟨by rfl, ?_⟩) ?_ ?_
              rotate_left
              ·intro w'
               go_simp
               with_reducible rfl
              rotate_left
              ·simp only [Act.put, List.setIfInBounds_toArray, List.set_cons_zero, List.set_cons_succ, i64_w, i32_w]
               rfl
              refine one_ (i := 11) (N := none) #[true, true, true, true, true, true, true, true, true, true, true, true, false] rfl rfl (one_of HT_.out (by kernel_rfl)) (by decide) (fun K hK => ?_)
              have hs140 : w139.cell? ⟨gb268, 0, none⟩ = some (.int .i64 0) := (blk_cell BK268.out 0).trans rfl
              have hfs140 := blk_frozen BK268.out 0
              have hns140_0 := NB206_268.out
              have hns140_1 := NB221_268.out
              have hns140_2 := NB229_268.out
              have hns140_3 := NB236_268.out
              have hms140_0 := NB268_206.out
              have hms140_1 := NB268_221.out
              have hms140_2 := NB268_229.out
              have hms140_3 := NB268_236.out
              have hs142 : w139.cell? ⟨gb268, 1, none⟩ = some (.slice none 0 0) := (blk_cell BK268.out 1).trans rfl
              have hfs142 := blk_frozen BK268.out 1
              have hns142_0 := NB206_268.out
              have hns142_1 := NB221_268.out
              have hns142_2 := NB229_268.out
              have hns142_3 := NB236_268.out
              have hms142_0 := NB268_206.out
              have hms142_1 := NB268_221.out
              have hms142_2 := NB268_229.out
              have hms142_3 := NB268_236.out
              refine skip_ (w1 := ?_) (by rfl) rfl ?_ ?_
              rotate_left
              ·go_simp
               rfl
              refine hK.out _ _ ⟨((cell_far (p := ⟨gb268, _, none⟩) NB206_268.out _).trans (((cell_far (p := ⟨gb268, _, none⟩) NB206_268.out _).trans (hHeld.1)))), ((cell_far (p := ⟨gb268, _, none⟩) NB206_268.out _).trans (((cell_far (p := ⟨gb268, _, none⟩) NB206_268.out _).trans (hHeld.2))))⟩ (fun hHeld => ?_)
              clear hK K
              refine pure_ (i := 12) (N := some 19) (v := ?_) (a' := ?_) #[true, true, true, true, true, true, true, true, true, true, true, true, true] rfl rfl (any_of HT_.out (by kernel_rfl)) (fun _ _ _ h => h) (Or.inl ⟨by rfl, ?_⟩) ?_ ?_
              rotate_left
              ·intro w'
               go_simp
               with_reducible rfl
              rotate_left
              ·simp only [Act.put, List.setIfInBounds_toArray, List.set_cons_zero, List.set_cons_succ, i64_w, i32_w]
               rfl
              refine done_ (done_of HT_.out (by kernel_rfl)) ?_
              go_upto_region 31 with (fail)
              go_cut [129] (fun v129 wc => ∃ (kq : Nat) (x129_123 : Bool), v129 = .bool x129_123 ∧ Aside0 (laws_FnExactTakeSymbol.j2 kq t252 x129_123 t231 t253 = some r) ∧ Aside0 (kq ≤ kj75) ∧ Aside0 (Kd.R (Kd.int .i64) 3 wc w.heap.size (fun k_ => some k_ ≠ ((.slice Ao39 t250.length co39) : Value).ownBlock ∧ some k_ ≠ ((.slice Ao47 t232.length co47) : Value).ownBlock ∧ some k_ ≠ ((.slice Ao141 t264.length co141) : Value).ownBlock) (.slice Ao29 t217.length co29) t217) ∧ Aside0 (Kd.R (Kd.int .i64) 3 wc w.heap.size (fun k_ => some k_ ≠ ((.slice Ao29 t217.length co29) : Value).ownBlock ∧ some k_ ≠ ((.slice Ao47 t232.length co47) : Value).ownBlock ∧ some k_ ≠ ((.slice Ao141 t264.length co141) : Value).ownBlock) (.slice Ao39 t250.length co39) t250) ∧ Aside0 (Kd.R (Kd.int .i64) 3 wc w.heap.size (fun k_ => some k_ ≠ ((.slice Ao29 t217.length co29) : Value).ownBlock ∧ some k_ ≠ ((.slice Ao39 t250.length co39) : Value).ownBlock ∧ some k_ ≠ ((.slice Ao141 t264.length co141) : Value).ownBlock) (.slice Ao47 t232.length co47) t253) ∧ Aside0 (Kd.R (Kd.int .i64) 3 wc w.heap.size (fun k_ => some k_ ≠ ((.slice Ao29 t217.length co29) : Value).ownBlock ∧ some k_ ≠ ((.slice Ao39 t250.length co39) : Value).ownBlock ∧ some k_ ≠ ((.slice Ao47 t232.length co47) : Value).ownBlock) (.slice Ao141 t264.length co141) t264) ∧ Aside0 (wc.heap[gb206]? = some (.cells #[.int .i64 a1_0, (.slice A1_1 l1_1.length c1_1)] 47 (0, 0))) ∧ Aside0 (wc.heap[gb221]? = some (.cells #[.int .i64 t216, (.slice Ao29 t217.length co29)] 33 (0, 0))) ∧ Aside0 (wc.heap[gb229]? = some (.cells #[.int .i64 t225, (.slice Ao39 t250.length co39)] 33 (0, 0))) ∧ Aside0 (wc.heap[gb236]? = some (.cells #[.int .i64 t231, (.slice Ao47 t232.length co47)] 33 (0, 0))) ∧ Aside0 (wc.heap[gb268]? = some (.cells #[.int .i64 t263, (.slice Ao141 t264.length co141)] 33 (0, 0))) ∧ Aside0 (Below w.heap.size w wc))
              case first =>
               have H := HC124.out
               clear HC124
               by_cases c143 : t262 = t215
               ·rw [if_pos c143] at H
                have c143b0 : (t262 == t215) = true := beq_iff_eq.mpr c143
                have c143b1 : (t262 != t215) = false := bne_eq_false_iff_eq.mpr c143
                clear c143
                (first | rw [c143b0] | (simp only [i64_w, i32_w]; rw [c143b0]) | skip)
                replace H := Option.bind_eq_some_iff.mp H
                obtain ⟨t269, A1440, H⟩ := H
                replace H : (if t269 = true then (laws_FnExactTakeSymbol.j2 kj75 t252 (t267 != t220) t231 t253) else (laws_FnExactTakeSymbol.j2 kj75 t252 true t231 t253)) = some r := H
                have A144 := Aside0.mk A1440
                clear A1440
                by_cases c145 : t269 = true
                ·subst c145
                 have H1 : (laws_FnExactTakeSymbol.j2 kj75 t252 (t267 != t220) t231 t253) = some r := by rw [if_pos rfl] at H; exact H
                 clear H
                 have H := H1
                 clear H1
                 have H' := Aside0.mk H
                 clear H
                 have hnb146 := NB268_206.out
                 have hnc146 := NB206_268.out
                 have hnb147 := NB268_221.out
                 have hnc147 := NB221_268.out
                 have hnb148 := NB268_229.out
                 have hnc148 := NB229_268.out
                 have hnb149 := NB268_236.out
                 have hnc149 := NB236_268.out
                 have hcz150_0 : w139.cell? ⟨gb268, 0, none⟩ = some (.int .i64 0) := (blk_cell BK268.out 0).trans rfl
                 have hcz150_1 : w139.cell? ⟨gb268, 1, none⟩ = some (.slice none 0 0) := (blk_cell BK268.out 1).trans rfl
                 have hfz150_0 := blk_frozen BK268.out 0
                 have hfz150_1 := blk_frozen BK268.out 1
                 have hnb151 := NB221_206.out
                 have hnc151 := NB206_221.out
                 have hnb152 := NB221_229.out
                 have hnc152 := NB229_221.out
                 have hnb153 := NB221_236.out
                 have hnc153 := NB236_221.out
                 have hcz154_0 : w139.cell? ⟨gb221, 0, none⟩ = some (.int .i64 t216) := (blk_cell BK221.out 0).trans rfl
                 have hcz154_1 : w139.cell? ⟨gb221, 1, none⟩ = some (.slice Ao29 t217.length co29) := (blk_cell BK221.out 1).trans rfl
                 have hfz154_0 := blk_frozen BK221.out 0
                 have hfz154_1 := blk_frozen BK221.out 1
                 go_wp2_with (first | (go_at_call 23; (with_reducible refine (laws_eqCoded.calls kj75 t263 _ _ t264 t216 _ _ t217 true _ ?side1 ?side2 ?side3 ?side4 A144.out).mono ?_); (case side1 => refine (Kd.R_reads' (e := 3) (base := w.heap.size) (ok := fun k_ => (some k_ ≠ (v256 : Value).ownBlock ∧ (some k_ ≠ (v260 : Value).ownBlock ∧ (some k_ ≠ (.slice Ao29 t217.length co29 : Value).ownBlock ∧ (some k_ ≠ (.slice Ao39 t250.length co39 : Value).ownBlock ∧ some k_ ≠ (.slice Ao47 t232.length co47 : Value).ownBlock))))) (n := t264.length) (c := co141) ?_).2.2; exact (by (with_reducible repeat (first | apply xRA | apply xRN | apply xRD)); exact (xO (xF (p := ⟨gb268, 1, none⟩) (xF (p := ⟨gb268, 0, none⟩) (Kd.R_types HO266.out BK268.out (by decide)) (fun _ hk => hk.2) (.int .i64 t263)) (fun _ hk => hk.2) (.slice Ao141 t264.length co141)) (fun _ h_ => h_.1)))); (case side2 => exact (Kd.R_reads' HO266.out).2.1); (case side3 => refine (Kd.R_reads' (e := 3) (base := w.heap.size) (ok := fun k_ => (some k_ ≠ (v256 : Value).ownBlock ∧ (some k_ ≠ (v260 : Value).ownBlock ∧ (some k_ ≠ (.slice Ao141 t264.length co141 : Value).ownBlock ∧ (some k_ ≠ (.slice Ao39 t250.length co39 : Value).ownBlock ∧ some k_ ≠ (.slice Ao47 t232.length co47 : Value).ownBlock))))) (n := t217.length) (c := co29) ?_).2.2; exact (by (with_reducible repeat (first | apply xRA | apply xRN | apply xRD)); exact (xO (xF (p := ⟨gb268, 1, none⟩) (xF (p := ⟨gb268, 0, none⟩) (Kd.R_types HO_222001.out BK268.out (by decide)) (fun _ hk => hk.2) (.int .i64 t263)) (fun _ hk => hk.2) (.slice Ao141 t264.length co141)) (fun _ h_ => h_.1)))); (case side4 => exact (Kd.R_reads' HO_222001.out).2.1); rintro e w155 ⟨rfl, hb⟩; replace HO_222001 := xM (xW (by (with_reducible repeat (first | apply xRA | apply xRN | apply xRD)); exact (xO (xF (p := ⟨gb268, 1, none⟩) (xF (p := ⟨gb268, 0, none⟩) (Kd.R_types HO_222001.out BK268.out (by decide)) (fun _ hk => hk.2) (.int .i64 t263)) (fun _ hk => hk.2) (.slice Ao141 t264.length co141)) (fun _ h_ => h_.1))) hb); replace HO_230001 := xM (xW (by (with_reducible repeat (first | apply xRA | apply xRN | apply xRD)); exact (xO (xF (p := ⟨gb268, 1, none⟩) (xF (p := ⟨gb268, 0, none⟩) (Kd.R_types HO_230001.out BK268.out (by decide)) (fun _ hk => hk.2) (.int .i64 t263)) (fun _ hk => hk.2) (.slice Ao141 t264.length co141)) (fun _ h_ => h_.1))) hb); replace HO_237001 := xM (xW (by (with_reducible repeat (first | apply xRA | apply xRN | apply xRD)); exact (xO (xF (p := ⟨gb268, 1, none⟩) (xF (p := ⟨gb268, 0, none⟩) (Kd.R_types HO_237001.out BK268.out (by decide)) (fun _ hk => hk.2) (.int .i64 t263)) (fun _ hk => hk.2) (.slice Ao141 t264.length co141)) (fun _ h_ => h_.1))) hb); replace HO257 := xM (xW (by (with_reducible repeat (first | apply xRA | apply xRN | apply xRD)); exact (xO (xF (p := ⟨gb268, 1, none⟩) (xF (p := ⟨gb268, 0, none⟩) (Kd.R_types HO257.out BK268.out (by decide)) (fun _ hk => hk.2) (.int .i64 t263)) (fun _ hk => hk.2) (.slice Ao141 t264.length co141)) (fun _ h_ => h_.1))) hb); replace HO261 := xM (xW (by (with_reducible repeat (first | apply xRA | apply xRN | apply xRD)); exact (xO (xF (p := ⟨gb268, 1, none⟩) (xF (p := ⟨gb268, 0, none⟩) (Kd.R_types HO261.out BK268.out (by decide)) (fun _ hk => hk.2) (.int .i64 t263)) (fun _ hk => hk.2) (.slice Ao141 t264.length co141)) (fun _ h_ => h_.1))) hb); replace HO266 := xM (xW (by (with_reducible repeat (first | apply xRA | apply xRN | apply xRD)); exact (xO (xF (p := ⟨gb268, 1, none⟩) (xF (p := ⟨gb268, 0, none⟩) (Kd.R_types HO266.out BK268.out (by decide)) (fun _ hk => hk.2) (.int .i64 t263)) (fun _ hk => hk.2) (.slice Ao141 t264.length co141)) (fun _ h_ => h_.1))) hb); replace BK206 := xM (xB (g := gb206) (o := .cells #[.int .i64 a1_0, .slice A1_1 l1_1.length c1_1] 47 (0, 0)) (by (with_reducible repeat (first | apply xbN | apply xbD | apply xbA)); refine blk_far ?_ NB206_268.out _; (with_reducible repeat (first | apply xbN | apply xbD | apply xbA)); refine blk_far ?_ NB206_268.out _; (with_reducible repeat (first | apply xbN | apply xbD | apply xbA)); exact BK206.out) hb); replace BK221 := xM (xB (g := gb221) (o := .cells #[.int .i64 t216, .slice Ao29 t217.length co29] 33 (0, 0)) (by (with_reducible repeat (first | apply xbN | apply xbD | apply xbA)); refine blk_far ?_ NB221_268.out _; (with_reducible repeat (first | apply xbN | apply xbD | apply xbA)); refine blk_far ?_ NB221_268.out _; (with_reducible repeat (first | apply xbN | apply xbD | apply xbA)); exact BK221.out) hb); replace BK229 := xM (xB (g := gb229) (o := .cells #[.int .i64 t225, .slice Ao39 t250.length co39] 33 (0, 0)) (by (with_reducible repeat (first | apply xbN | apply xbD | apply xbA)); refine blk_far ?_ NB229_268.out _; (with_reducible repeat (first | apply xbN | apply xbD | apply xbA)); refine blk_far ?_ NB229_268.out _; (with_reducible repeat (first | apply xbN | apply xbD | apply xbA)); exact BK229.out) hb); replace BK236 := xM (xB (g := gb236) (o := .cells #[.int .i64 t231, .slice Ao47 t232.length co47] 33 (0, 0)) (by (with_reducible repeat (first | apply xbN | apply xbD | apply xbA)); refine blk_far ?_ NB236_268.out _; (with_reducible repeat (first | apply xbN | apply xbD | apply xbA)); refine blk_far ?_ NB236_268.out _; (with_reducible repeat (first | apply xbN | apply xbD | apply xbA)); exact BK236.out) hb); replace BK268 := xM (xB (g := gb268) (o := .cells #[.int .i64 t263, .slice Ao141 t264.length co141] 33 (0, 0)) (by (with_reducible repeat (first | apply xbN | apply xbD | apply xbA)); refine blk_put (cs := #[.int .i64 t263, .slice none 0 0]) ?_ 1 _ rfl; (with_reducible repeat (first | apply xbN | apply xbD | apply xbA)); refine blk_put (cs := #[.int .i64 0, .slice none 0 0]) ?_ 0 _ rfl; (with_reducible repeat (first | apply xbN | apply xbD | apply xbA)); exact BK268.out) hb); replace HB := xM (below_step (yh HB) hb); (try clear hb)))
                 go_meet
                 case rel => exact ⟨_, ((t267 != t220)), (by first | rfl | (simp; done) | (simp [*]; done)), H', ⟨by have := HJ15.out; have := HJ75.out; first | omega | exact Nat.le_refl _⟩, ⟨by (try simp only [hl230001_75]); (with_reducible repeat (first | apply xRA | apply xRN | apply xRD)); exact Kd.R_mono HO_222001.out (fun _ hk => ⟨hk.2.2.2.1, ⟨hk.2.2.2.2, hk.2.2.1⟩⟩)⟩, ⟨by (try simp only [hl230001_75]); (with_reducible repeat (first | apply xRA | apply xRN | apply xRD)); exact Kd.R_mono HO_230001.out (fun _ hk => ⟨hk.2.2.2.1, ⟨hk.2.2.2.2, hk.2.2.1⟩⟩)⟩, ⟨by (try simp only [hl230001_75]); (with_reducible repeat (first | apply xRA | apply xRN | apply xRD)); exact Kd.R_mono HO_237001.out (fun _ hk => ⟨hk.2.2.2.1, ⟨hk.2.2.2.2, hk.2.2.1⟩⟩)⟩, ⟨by (try simp only [hl230001_75]); (with_reducible repeat (first | apply xRA | apply xRN | apply xRD)); exact Kd.R_mono HO266.out (fun _ hk => ⟨hk.2.2.1, ⟨hk.2.2.2.1, hk.2.2.2.2⟩⟩)⟩, ⟨by (try simp only [hl230001_75]); (with_reducible repeat (first | apply xbN | apply xbD | apply xbA)); exact BK206.out⟩, ⟨by (try simp only [hl230001_75]); (with_reducible repeat (first | apply xbN | apply xbD | apply xbA)); exact BK221.out⟩, ⟨by (try simp only [hl230001_75]); (with_reducible repeat (first | apply xbN | apply xbD | apply xbA)); exact BK229.out⟩, ⟨by (try simp only [hl230001_75]); (with_reducible repeat (first | apply xbN | apply xbD | apply xbA)); exact BK236.out⟩, ⟨by (try simp only [hl230001_75]); (with_reducible repeat (first | apply xbN | apply xbD | apply xbA)); exact BK268.out⟩, ⟨yh HB⟩⟩
                ·replace c145 := Bool.eq_false_iff.mpr c145
                 subst c145
                 have H1 : (laws_FnExactTakeSymbol.j2 kj75 t252 true t231 t253) = some r := by rw [if_neg (show ¬ (false = true) by decide)] at H; exact H
                 clear H
                 have H := H1
                 clear H1
                 have H' := Aside0.mk H
                 clear H
                 have hnb156 := NB268_206.out
                 have hnc156 := NB206_268.out
                 have hnb157 := NB268_221.out
                 have hnc157 := NB221_268.out
                 have hnb158 := NB268_229.out
                 have hnc158 := NB229_268.out
                 have hnb159 := NB268_236.out
                 have hnc159 := NB236_268.out
                 have hcz160_0 : w139.cell? ⟨gb268, 0, none⟩ = some (.int .i64 0) := (blk_cell BK268.out 0).trans rfl
                 have hcz160_1 : w139.cell? ⟨gb268, 1, none⟩ = some (.slice none 0 0) := (blk_cell BK268.out 1).trans rfl
                 have hfz160_0 := blk_frozen BK268.out 0
                 have hfz160_1 := blk_frozen BK268.out 1
                 have hnb161 := NB221_206.out
                 have hnc161 := NB206_221.out
                 have hnb162 := NB221_229.out
                 have hnc162 := NB229_221.out
                 have hnb163 := NB221_236.out
                 have hnc163 := NB236_221.out
                 have hcz164_0 : w139.cell? ⟨gb221, 0, none⟩ = some (.int .i64 t216) := (blk_cell BK221.out 0).trans rfl
                 have hcz164_1 : w139.cell? ⟨gb221, 1, none⟩ = some (.slice Ao29 t217.length co29) := (blk_cell BK221.out 1).trans rfl
                 have hfz164_0 := blk_frozen BK221.out 0
                 have hfz164_1 := blk_frozen BK221.out 1
                 go_wp2_with (first | (go_at_call 23; (with_reducible refine (laws_eqCoded.calls kj75 t263 _ _ t264 t216 _ _ t217 false _ ?side1 ?side2 ?side3 ?side4 A144.out).mono ?_); (case side1 => refine (Kd.R_reads' (e := 3) (base := w.heap.size) (ok := fun k_ => (some k_ ≠ (v256 : Value).ownBlock ∧ (some k_ ≠ (v260 : Value).ownBlock ∧ (some k_ ≠ (.slice Ao29 t217.length co29 : Value).ownBlock ∧ (some k_ ≠ (.slice Ao39 t250.length co39 : Value).ownBlock ∧ some k_ ≠ (.slice Ao47 t232.length co47 : Value).ownBlock))))) (n := t264.length) (c := co141) ?_).2.2; exact (by (with_reducible repeat (first | apply xRA | apply xRN | apply xRD)); exact (xO (xF (p := ⟨gb268, 1, none⟩) (xF (p := ⟨gb268, 0, none⟩) (Kd.R_types HO266.out BK268.out (by decide)) (fun _ hk => hk.2) (.int .i64 t263)) (fun _ hk => hk.2) (.slice Ao141 t264.length co141)) (fun _ h_ => h_.1)))); (case side2 => exact (Kd.R_reads' HO266.out).2.1); (case side3 => refine (Kd.R_reads' (e := 3) (base := w.heap.size) (ok := fun k_ => (some k_ ≠ (v256 : Value).ownBlock ∧ (some k_ ≠ (v260 : Value).ownBlock ∧ (some k_ ≠ (.slice Ao141 t264.length co141 : Value).ownBlock ∧ (some k_ ≠ (.slice Ao39 t250.length co39 : Value).ownBlock ∧ some k_ ≠ (.slice Ao47 t232.length co47 : Value).ownBlock))))) (n := t217.length) (c := co29) ?_).2.2; exact (by (with_reducible repeat (first | apply xRA | apply xRN | apply xRD)); exact (xO (xF (p := ⟨gb268, 1, none⟩) (xF (p := ⟨gb268, 0, none⟩) (Kd.R_types HO_222001.out BK268.out (by decide)) (fun _ hk => hk.2) (.int .i64 t263)) (fun _ hk => hk.2) (.slice Ao141 t264.length co141)) (fun _ h_ => h_.1)))); (case side4 => exact (Kd.R_reads' HO_222001.out).2.1); rintro e w165 ⟨rfl, hb⟩; replace HO_222001 := xM (xW (by (with_reducible repeat (first | apply xRA | apply xRN | apply xRD)); exact (xO (xF (p := ⟨gb268, 1, none⟩) (xF (p := ⟨gb268, 0, none⟩) (Kd.R_types HO_222001.out BK268.out (by decide)) (fun _ hk => hk.2) (.int .i64 t263)) (fun _ hk => hk.2) (.slice Ao141 t264.length co141)) (fun _ h_ => h_.1))) hb); replace HO_230001 := xM (xW (by (with_reducible repeat (first | apply xRA | apply xRN | apply xRD)); exact (xO (xF (p := ⟨gb268, 1, none⟩) (xF (p := ⟨gb268, 0, none⟩) (Kd.R_types HO_230001.out BK268.out (by decide)) (fun _ hk => hk.2) (.int .i64 t263)) (fun _ hk => hk.2) (.slice Ao141 t264.length co141)) (fun _ h_ => h_.1))) hb); replace HO_237001 := xM (xW (by (with_reducible repeat (first | apply xRA | apply xRN | apply xRD)); exact (xO (xF (p := ⟨gb268, 1, none⟩) (xF (p := ⟨gb268, 0, none⟩) (Kd.R_types HO_237001.out BK268.out (by decide)) (fun _ hk => hk.2) (.int .i64 t263)) (fun _ hk => hk.2) (.slice Ao141 t264.length co141)) (fun _ h_ => h_.1))) hb); replace HO257 := xM (xW (by (with_reducible repeat (first | apply xRA | apply xRN | apply xRD)); exact (xO (xF (p := ⟨gb268, 1, none⟩) (xF (p := ⟨gb268, 0, none⟩) (Kd.R_types HO257.out BK268.out (by decide)) (fun _ hk => hk.2) (.int .i64 t263)) (fun _ hk => hk.2) (.slice Ao141 t264.length co141)) (fun _ h_ => h_.1))) hb); replace HO261 := xM (xW (by (with_reducible repeat (first | apply xRA | apply xRN | apply xRD)); exact (xO (xF (p := ⟨gb268, 1, none⟩) (xF (p := ⟨gb268, 0, none⟩) (Kd.R_types HO261.out BK268.out (by decide)) (fun _ hk => hk.2) (.int .i64 t263)) (fun _ hk => hk.2) (.slice Ao141 t264.length co141)) (fun _ h_ => h_.1))) hb); replace HO266 := xM (xW (by (with_reducible repeat (first | apply xRA | apply xRN | apply xRD)); exact (xO (xF (p := ⟨gb268, 1, none⟩) (xF (p := ⟨gb268, 0, none⟩) (Kd.R_types HO266.out BK268.out (by decide)) (fun _ hk => hk.2) (.int .i64 t263)) (fun _ hk => hk.2) (.slice Ao141 t264.length co141)) (fun _ h_ => h_.1))) hb); replace BK206 := xM (xB (g := gb206) (o := .cells #[.int .i64 a1_0, .slice A1_1 l1_1.length c1_1] 47 (0, 0)) (by (with_reducible repeat (first | apply xbN | apply xbD | apply xbA)); refine blk_far ?_ NB206_268.out _; (with_reducible repeat (first | apply xbN | apply xbD | apply xbA)); refine blk_far ?_ NB206_268.out _; (with_reducible repeat (first | apply xbN | apply xbD | apply xbA)); exact BK206.out) hb); replace BK221 := xM (xB (g := gb221) (o := .cells #[.int .i64 t216, .slice Ao29 t217.length co29] 33 (0, 0)) (by (with_reducible repeat (first | apply xbN | apply xbD | apply xbA)); refine blk_far ?_ NB221_268.out _; (with_reducible repeat (first | apply xbN | apply xbD | apply xbA)); refine blk_far ?_ NB221_268.out _; (with_reducible repeat (first | apply xbN | apply xbD | apply xbA)); exact BK221.out) hb); replace BK229 := xM (xB (g := gb229) (o := .cells #[.int .i64 t225, .slice Ao39 t250.length co39] 33 (0, 0)) (by (with_reducible repeat (first | apply xbN | apply xbD | apply xbA)); refine blk_far ?_ NB229_268.out _; (with_reducible repeat (first | apply xbN | apply xbD | apply xbA)); refine blk_far ?_ NB229_268.out _; (with_reducible repeat (first | apply xbN | apply xbD | apply xbA)); exact BK229.out) hb); replace BK236 := xM (xB (g := gb236) (o := .cells #[.int .i64 t231, .slice Ao47 t232.length co47] 33 (0, 0)) (by (with_reducible repeat (first | apply xbN | apply xbD | apply xbA)); refine blk_far ?_ NB236_268.out _; (with_reducible repeat (first | apply xbN | apply xbD | apply xbA)); refine blk_far ?_ NB236_268.out _; (with_reducible repeat (first | apply xbN | apply xbD | apply xbA)); exact BK236.out) hb); replace BK268 := xM (xB (g := gb268) (o := .cells #[.int .i64 t263, .slice Ao141 t264.length co141] 33 (0, 0)) (by (with_reducible repeat (first | apply xbN | apply xbD | apply xbA)); refine blk_put (cs := #[.int .i64 t263, .slice none 0 0]) ?_ 1 _ rfl; (with_reducible repeat (first | apply xbN | apply xbD | apply xbA)); refine blk_put (cs := #[.int .i64 0, .slice none 0 0]) ?_ 0 _ rfl; (with_reducible repeat (first | apply xbN | apply xbD | apply xbA)); exact BK268.out) hb); replace HB := xM (below_step (yh HB) hb); (try clear hb)))
                 go_meet
                 case rel => exact ⟨_, (true), (by first | rfl | (simp; done) | (simp [*]; done)), H', ⟨by have := HJ15.out; have := HJ75.out; first | omega | exact Nat.le_refl _⟩, ⟨by (try simp only [hl230001_75]); (with_reducible repeat (first | apply xRA | apply xRN | apply xRD)); exact Kd.R_mono HO_222001.out (fun _ hk => ⟨hk.2.2.2.1, ⟨hk.2.2.2.2, hk.2.2.1⟩⟩)⟩, ⟨by (try simp only [hl230001_75]); (with_reducible repeat (first | apply xRA | apply xRN | apply xRD)); exact Kd.R_mono HO_230001.out (fun _ hk => ⟨hk.2.2.2.1, ⟨hk.2.2.2.2, hk.2.2.1⟩⟩)⟩, ⟨by (try simp only [hl230001_75]); (with_reducible repeat (first | apply xRA | apply xRN | apply xRD)); exact Kd.R_mono HO_237001.out (fun _ hk => ⟨hk.2.2.2.1, ⟨hk.2.2.2.2, hk.2.2.1⟩⟩)⟩, ⟨by (try simp only [hl230001_75]); (with_reducible repeat (first | apply xRA | apply xRN | apply xRD)); exact Kd.R_mono HO266.out (fun _ hk => ⟨hk.2.2.1, ⟨hk.2.2.2.1, hk.2.2.2.2⟩⟩)⟩, ⟨by (try simp only [hl230001_75]); (with_reducible repeat (first | apply xbN | apply xbD | apply xbA)); exact BK206.out⟩, ⟨by (try simp only [hl230001_75]); (with_reducible repeat (first | apply xbN | apply xbD | apply xbA)); exact BK221.out⟩, ⟨by (try simp only [hl230001_75]); (with_reducible repeat (first | apply xbN | apply xbD | apply xbA)); exact BK229.out⟩, ⟨by (try simp only [hl230001_75]); (with_reducible repeat (first | apply xbN | apply xbD | apply xbA)); exact BK236.out⟩, ⟨by (try simp only [hl230001_75]); (with_reducible repeat (first | apply xbN | apply xbD | apply xbA)); exact BK268.out⟩, ⟨yh HB⟩⟩
               ·rw [if_neg c143] at H
                have c143b0 : (t262 == t215) = false := beq_eq_false_iff_ne.mpr c143
                have c143b1 : (t262 != t215) = true := bne_iff_ne.mpr c143
                (first | rw [c143b0] | (simp only [i64_w, i32_w]; rw [c143b0]) | skip)
                have H' := Aside0.mk H
                clear H
                go_wp2
                go_meet
                case rel => exact ⟨_, (true), (by first | rfl | (simp; done) | (simp [*]; done)), H', ⟨by have := HJ15.out; have := HJ75.out; first | omega | exact Nat.le_refl _⟩, ⟨by (try simp only [hl230001_75]); (with_reducible repeat (first | apply xRA | apply xRN | apply xRD)); exact xO (xF (p := ⟨gb268, 1, none⟩) (xF (p := ⟨gb268, 0, none⟩) (Kd.R_types HO_222001.out BK268.out (by decide)) (fun _ hk => hk.2) (.int .i64 t263)) (fun _ hk => hk.2) (.slice Ao141 t264.length co141)) (fun _ hk => ⟨hk.1.2.2.2.1, ⟨hk.1.2.2.2.2, hk.1.2.2.1⟩⟩)⟩, ⟨by (try simp only [hl230001_75]); (with_reducible repeat (first | apply xRA | apply xRN | apply xRD)); exact xO (xF (p := ⟨gb268, 1, none⟩) (xF (p := ⟨gb268, 0, none⟩) (Kd.R_types HO_230001.out BK268.out (by decide)) (fun _ hk => hk.2) (.int .i64 t263)) (fun _ hk => hk.2) (.slice Ao141 t264.length co141)) (fun _ hk => ⟨hk.1.2.2.2.1, ⟨hk.1.2.2.2.2, hk.1.2.2.1⟩⟩)⟩, ⟨by (try simp only [hl230001_75]); (with_reducible repeat (first | apply xRA | apply xRN | apply xRD)); exact xO (xF (p := ⟨gb268, 1, none⟩) (xF (p := ⟨gb268, 0, none⟩) (Kd.R_types HO_237001.out BK268.out (by decide)) (fun _ hk => hk.2) (.int .i64 t263)) (fun _ hk => hk.2) (.slice Ao141 t264.length co141)) (fun _ hk => ⟨hk.1.2.2.2.1, ⟨hk.1.2.2.2.2, hk.1.2.2.1⟩⟩)⟩, ⟨by (try simp only [hl230001_75]); (with_reducible repeat (first | apply xRA | apply xRN | apply xRD)); exact xO (xF (p := ⟨gb268, 1, none⟩) (xF (p := ⟨gb268, 0, none⟩) (Kd.R_types HO266.out BK268.out (by decide)) (fun _ hk => hk.2) (.int .i64 t263)) (fun _ hk => hk.2) (.slice Ao141 t264.length co141)) (fun _ hk => ⟨hk.1.2.2.1, ⟨hk.1.2.2.2.1, hk.1.2.2.2.2⟩⟩)⟩, ⟨by (try simp only [hl230001_75]); (with_reducible repeat (first | apply xbN | apply xbD | apply xbA)); refine blk_far ?_ NB206_268.out _; (with_reducible repeat (first | apply xbN | apply xbD | apply xbA)); refine blk_far ?_ NB206_268.out _; (with_reducible repeat (first | apply xbN | apply xbD | apply xbA)); exact BK206.out⟩, ⟨by (try simp only [hl230001_75]); (with_reducible repeat (first | apply xbN | apply xbD | apply xbA)); refine blk_far ?_ NB221_268.out _; (with_reducible repeat (first | apply xbN | apply xbD | apply xbA)); refine blk_far ?_ NB221_268.out _; (with_reducible repeat (first | apply xbN | apply xbD | apply xbA)); exact BK221.out⟩, ⟨by (try simp only [hl230001_75]); (with_reducible repeat (first | apply xbN | apply xbD | apply xbA)); refine blk_far ?_ NB229_268.out _; (with_reducible repeat (first | apply xbN | apply xbD | apply xbA)); refine blk_far ?_ NB229_268.out _; (with_reducible repeat (first | apply xbN | apply xbD | apply xbA)); exact BK229.out⟩, ⟨by (try simp only [hl230001_75]); (with_reducible repeat (first | apply xbN | apply xbD | apply xbA)); refine blk_far ?_ NB236_268.out _; (with_reducible repeat (first | apply xbN | apply xbD | apply xbA)); refine blk_far ?_ NB236_268.out _; (with_reducible repeat (first | apply xbN | apply xbD | apply xbA)); exact BK236.out⟩, ⟨by (try simp only [hl230001_75]); (with_reducible repeat (first | apply xbN | apply xbD | apply xbA)); refine blk_put (cs := #[.int .i64 t263, .slice none 0 0]) ?_ 1 _ rfl; (with_reducible repeat (first | apply xbN | apply xbD | apply xbA)); refine blk_put (cs := #[.int .i64 0, .slice none 0 0]) ?_ 0 _ rfl; (with_reducible repeat (first | apply xbN | apply xbD | apply xbA)); exact BK268.out⟩, ⟨yh HB⟩⟩
              case rest =>
               clear HC124
               try clear c1
               try clear p2
               try clear c3
               try clear c14
               try clear c15
               try clear c16
               try clear c33
               try clear c34
               try clear c143
               try clear c143b0
               try clear c143b1
               try clear c145
               try clear c146
               try clear c147
               try clear c148
               try clear c149
               try clear c151
               try clear c152
               try clear c153
               try clear c156
               try clear c157
               try clear c158
               try clear c159
               try clear c161
               try clear c162
               try clear c163
               try clear hcz150_0
               try clear hcz150_1
               try clear hcz154_0
               try clear hcz154_1
               try clear hcz160_0
               try clear hcz160_1
               try clear hcz164_0
               try clear hcz164_1
               try clear hfz150_0
               try clear hfz150_1
               try clear hfz154_0
               try clear hfz154_1
               try clear hfz160_0
               try clear hfz160_1
               try clear hfz164_0
               try clear hfz164_1
               obtain ⟨kq, x129_123, rfl, HA, HJ123, HO_222001, HO_230001, HO_237001, HO_269001, BK206, BK221, BK229, BK236, BK268, HB⟩ := hcut
               have hl237001_123 := (Kd.R_reads' HO_237001.out).1
               rw [hl237001_123] at HO_237001
               (try simp only [hl237001_123])
               (try simp only [hl237001_123] at BK206)
               (try simp only [hl237001_123] at BK221)
               (try simp only [hl237001_123] at BK229)
               (try simp only [hl237001_123] at BK236)
               (try simp only [hl237001_123] at BK268)
               (try simp only [hl237001_123] at HO_222001)
               (try simp only [hl237001_123] at HO_230001)
               (try simp only [hl237001_123] at HO_269001)
               cases kq with
               | zero => exact absurd HA.out (by simp [laws_FnExactTakeSymbol.j2])
               | succ kj123 =>
                have H := HA.out
                clear HA
                simp only [laws_FnExactTakeSymbol.j2] at H
                by_cases c166 : x129_123 = true
                ·subst c166
                 have H1 : (some false) = some r := by rw [if_pos rfl] at H; exact H
                 clear H
                 have H := H1
                 clear H1
                 obtain rfl := Option.some.inj H
                 go_wp2
                 go_ret
                 exact ⟨by first | rfl | (simp [errW_none, errW_some] <;> rfl) | (simp [*, errW_none, errW_some] <;> rfl), by repeat (first | (with_reducible first | exact HB.out | apply xa | apply xn | apply xd | refine xs ?_ GE206.out | refine xs ?_ GE221.out | refine xs ?_ GE229.out | refine xs ?_ GE236.out | refine xs ?_ GE268.out) | exact HB.out)⟩
                ·replace c166 := Bool.eq_false_iff.mpr c166
                 subst c166
                 have H1 : ((laws_heldCoded.f kj123 t231 t253 1).bind fun t270 => (if t270 < 0 then (some false) else (if t270 = t252 then (some true) else (some false)))) = some r := by rw [if_neg (show ¬ (false = true) by decide)] at H; exact H
                 clear H
                 have H := H1
                 clear H1
                 replace H := Option.bind_eq_some_iff.mp H
                 obtain ⟨t270, A1670, H⟩ := H
                 replace H : (if t270 < 0 then (some false) else (if t270 = t252 then (some true) else (some false))) = some r := H
                 have A167 := Aside0.mk A1670
                 clear A1670
                 by_cases c168 : t270 < 0
                 ·rw [if_pos c168] at H
                  have c168b0 : decide (t270 < 0) = true := decide_eq_true c168
                  clear c168
                  obtain rfl := Option.some.inj H
                  have hnb169 := NB236_206.out
                  have hnc169 := NB206_236.out
                  have hnb170 := NB236_221.out
                  have hnc170 := NB221_236.out
                  have hnb171 := NB236_229.out
                  have hnc171 := NB229_236.out
                  have hnb172 := NB236_268.out
                  have hnc172 := NB268_236.out
                  have hcz173_0 : wc.cell? ⟨gb236, 0, none⟩ = some (.int .i64 t231) := (blk_cell BK236.out 0).trans rfl
                  have hcz173_1 : wc.cell? ⟨gb236, 1, none⟩ = some (.slice Ao47 t253.length co47) := (blk_cell BK236.out 1).trans rfl
                  have hfz173_0 := blk_frozen BK236.out 0
                  have hfz173_1 := blk_frozen BK236.out 1
                  go_wp2_with (first | ((with_reducible refine gate_callee (f := 25) rfl ?_); refine goesL_ (some 132) rfl rfl Try.func25 (by kernel_rfl) rfl #[.agg #[.int .i64 t231, .slice Ao47 t253.length co47], .int .i64 1] rfl (by (try simp only [List.map_toArray, List.map_cons, List.map_nil]); first | done | rfl | (simp only [List.length_drop, List.length_take]; rfl)) ?_; (with_reducible refine (laws_heldCoded.calls kj123 t231 _ _ t253 1 t270 _ ?side1 ?side2 A167.out).mono ?_); (case side1 => repeat (first | exact (Kd.R_reads' HO_237001.out).2.2 | (with_reducible refine Kd.C_alloc ?_ _) | (with_reducible refine Kd.C_drewN ?_ _) | (with_reducible refine Kd.C_drew ?_))); (case side2 => exact (Kd.R_reads' HO_237001.out).2.1); rintro e w174 ⟨rfl, hb⟩; refine ⟨_, rfl, ?_⟩; replace HO_222001 := xM (xW (yR HO_222001) hb); replace HO_230001 := xM (xW (yR HO_230001) hb); replace HO_237001 := xM (xW (yR HO_237001) hb); replace HO_269001 := xM (xW (yR HO_269001) hb); replace BK206 := xM (xB (yb BK206) hb); replace BK221 := xM (xB (yb BK221) hb); replace BK229 := xM (xB (yb BK229) hb); replace BK236 := xM (xB (yb BK236) hb); replace BK268 := xM (xB (yb BK268) hb); replace HB := xM (below_step (yh HB) hb); (try clear hb)))
                  go_ret
                  exact ⟨by first | rfl | (simp [errW_none, errW_some] <;> rfl) | (simp [*, errW_none, errW_some] <;> rfl), by repeat (first | (with_reducible first | exact HB.out | apply xa | apply xn | apply xd | refine xs ?_ GE206.out | refine xs ?_ GE221.out | refine xs ?_ GE229.out | refine xs ?_ GE236.out | refine xs ?_ GE268.out) | exact HB.out)⟩
                 ·rw [if_neg c168] at H
                  have c168b0 : decide (t270 < 0) = false := decide_eq_false c168
                  clear c168
                  by_cases c175 : t270 = t252
                  ·rw [if_pos c175] at H
                   have c175b0 : (t270 == t252) = true := beq_iff_eq.mpr c175
                   have c175b1 : (t270 != t252) = false := bne_eq_false_iff_eq.mpr c175
                   clear c175
                   obtain rfl := Option.some.inj H
                   have hnb176 := NB236_206.out
                   have hnc176 := NB206_236.out
                   have hnb177 := NB236_221.out
                   have hnc177 := NB221_236.out
                   have hnb178 := NB236_229.out
                   have hnc178 := NB229_236.out
                   have hnb179 := NB236_268.out
                   have hnc179 := NB268_236.out
                   have hcz180_0 : wc.cell? ⟨gb236, 0, none⟩ = some (.int .i64 t231) := (blk_cell BK236.out 0).trans rfl
                   have hcz180_1 : wc.cell? ⟨gb236, 1, none⟩ = some (.slice Ao47 t253.length co47) := (blk_cell BK236.out 1).trans rfl
                   have hfz180_0 := blk_frozen BK236.out 0
                   have hfz180_1 := blk_frozen BK236.out 1
                   go_wp2_with (first | ((with_reducible refine gate_callee (f := 25) rfl ?_); refine goesL_ (some 132) rfl rfl Try.func25 (by kernel_rfl) rfl #[.agg #[.int .i64 t231, .slice Ao47 t253.length co47], .int .i64 1] rfl (by (try simp only [List.map_toArray, List.map_cons, List.map_nil]); first | done | rfl | (simp only [List.length_drop, List.length_take]; rfl)) ?_; (with_reducible refine (laws_heldCoded.calls kj123 t231 _ _ t253 1 t270 _ ?side1 ?side2 A167.out).mono ?_); (case side1 => repeat (first | exact (Kd.R_reads' HO_237001.out).2.2 | (with_reducible refine Kd.C_alloc ?_ _) | (with_reducible refine Kd.C_drewN ?_ _) | (with_reducible refine Kd.C_drew ?_))); (case side2 => exact (Kd.R_reads' HO_237001.out).2.1); rintro e w181 ⟨rfl, hb⟩; refine ⟨_, rfl, ?_⟩; replace HO_222001 := xM (xW (yR HO_222001) hb); replace HO_230001 := xM (xW (yR HO_230001) hb); replace HO_237001 := xM (xW (yR HO_237001) hb); replace HO_269001 := xM (xW (yR HO_269001) hb); replace BK206 := xM (xB (yb BK206) hb); replace BK221 := xM (xB (yb BK221) hb); replace BK229 := xM (xB (yb BK229) hb); replace BK236 := xM (xB (yb BK236) hb); replace BK268 := xM (xB (yb BK268) hb); replace HB := xM (below_step (yh HB) hb); (try clear hb)))
                   go_ret
                   exact ⟨by first | rfl | (simp [errW_none, errW_some] <;> rfl) | (simp [*, errW_none, errW_some] <;> rfl), by repeat (first | (with_reducible first | exact HB.out | apply xa | apply xn | apply xd | refine xs ?_ GE206.out | refine xs ?_ GE221.out | refine xs ?_ GE229.out | refine xs ?_ GE236.out | refine xs ?_ GE268.out) | exact HB.out)⟩
                  ·rw [if_neg c175] at H
                   have c175b0 : (t270 == t252) = false := beq_eq_false_iff_ne.mpr c175
                   have c175b1 : (t270 != t252) = true := bne_iff_ne.mpr c175
                   obtain rfl := Option.some.inj H
                   have hnb182 := NB236_206.out
                   have hnc182 := NB206_236.out
                   have hnb183 := NB236_221.out
                   have hnc183 := NB221_236.out
                   have hnb184 := NB236_229.out
                   have hnc184 := NB229_236.out
                   have hnb185 := NB236_268.out
                   have hnc185 := NB268_236.out
                   have hcz186_0 : wc.cell? ⟨gb236, 0, none⟩ = some (.int .i64 t231) := (blk_cell BK236.out 0).trans rfl
                   have hcz186_1 : wc.cell? ⟨gb236, 1, none⟩ = some (.slice Ao47 t253.length co47) := (blk_cell BK236.out 1).trans rfl
                   have hfz186_0 := blk_frozen BK236.out 0
                   have hfz186_1 := blk_frozen BK236.out 1
                   go_wp2_with (first | ((with_reducible refine gate_callee (f := 25) rfl ?_); refine goesL_ (some 132) rfl rfl Try.func25 (by kernel_rfl) rfl #[.agg #[.int .i64 t231, .slice Ao47 t253.length co47], .int .i64 1] rfl (by (try simp only [List.map_toArray, List.map_cons, List.map_nil]); first | done | rfl | (simp only [List.length_drop, List.length_take]; rfl)) ?_; (with_reducible refine (laws_heldCoded.calls kj123 t231 _ _ t253 1 t270 _ ?side1 ?side2 A167.out).mono ?_); (case side1 => repeat (first | exact (Kd.R_reads' HO_237001.out).2.2 | (with_reducible refine Kd.C_alloc ?_ _) | (with_reducible refine Kd.C_drewN ?_ _) | (with_reducible refine Kd.C_drew ?_))); (case side2 => exact (Kd.R_reads' HO_237001.out).2.1); rintro e w187 ⟨rfl, hb⟩; refine ⟨_, rfl, ?_⟩; replace HO_222001 := xM (xW (yR HO_222001) hb); replace HO_230001 := xM (xW (yR HO_230001) hb); replace HO_237001 := xM (xW (yR HO_237001) hb); replace HO_269001 := xM (xW (yR HO_269001) hb); replace BK206 := xM (xB (yb BK206) hb); replace BK221 := xM (xB (yb BK221) hb); replace BK229 := xM (xB (yb BK229) hb); replace BK236 := xM (xB (yb BK236) hb); replace BK268 := xM (xB (yb BK268) hb); replace HB := xM (below_step (yh HB) hb); (try clear hb)))
                   go_ret
                   exact ⟨by first | rfl | (simp [errW_none, errW_some] <;> rfl) | (simp [*, errW_none, errW_some] <;> rfl), by repeat (first | (with_reducible first | exact HB.out | apply xa | apply xn | apply xd | refine xs ?_ GE206.out | refine xs ?_ GE221.out | refine xs ?_ GE229.out | refine xs ?_ GE236.out | refine xs ?_ GE268.out) | exact HB.out)⟩
             ·rw [if_neg c120] at H
              have c120b0 : (t254 == t252) = false := beq_eq_false_iff_ne.mpr c120
              have c120b1 : (t254 != t252) = true := bne_iff_ne.mpr c120
              obtain rfl := Option.some.inj H
              have hnb188 := NB236_206.out
              have hnc188 := NB206_236.out
              have hnb189 := NB236_221.out
              have hnc189 := NB221_236.out
              have hnb190 := NB236_229.out
              have hnc190 := NB229_236.out
              have hcz191_0 : wc.cell? ⟨gb236, 0, none⟩ = some (.int .i64 t231) := (blk_cell BK236.out 0).trans rfl
              have hcz191_1 : wc.cell? ⟨gb236, 1, none⟩ = some (.slice Ao47 t232.length co47) := (blk_cell BK236.out 1).trans rfl
              have hfz191_0 := blk_frozen BK236.out 0
              have hfz191_1 := blk_frozen BK236.out 1
              go_wp2_with (first | ((with_reducible refine gate_callee (f := 24) rfl ?_); refine goesL_ (some 98) rfl rfl Try.func24 (by kernel_rfl) rfl #[.agg #[.int .i64 t231, .slice Ao47 t232.length co47], .int .i64 1] rfl (by (try simp only [List.map_toArray, List.map_cons, List.map_nil]); first | done | rfl | (simp only [List.length_drop, List.length_take]; rfl)) ?_; (with_reducible refine (laws_markCoded.calls kj75 t231 (fun k_ => some k_ = (.slice Ao47 t232.length co47 : Value).ownBlock) (.slice Ao47 t232.length co47) t232 1 t252 t253 w _ ?side1 ?side2 A110.out).mono ?_); (case side1 => repeat (first | (with_reducible first | exact HB.out | apply xa | apply xn | apply xd | refine xs ?_ GE206.out | refine xs ?_ GE221.out | refine xs ?_ GE229.out | refine xs ?_ GE236.out) | exact HB.out)); (case side2 => exact Kd.R_tight rfl HO_237001.out); rintro e w192 ⟨rfl, hy0, hb, hkp⟩; refine ⟨_, rfl, ?_⟩; replace HO_222001 := xM (xO (ok' := fun k_ => some k_ ≠ (.slice Ao39 t250.length co39 : Value).ownBlock ∧ some k_ ≠ (.slice Ao47 t232.length co47 : Value).ownBlock) (Kd.R_keptB (HO_222001.out) hkp (fun k_ hk_ hs_ => (hk_.2) hs_)) (fun k_ hk_ => ⟨hk_.1.1, hk_.1.2⟩)); replace HO_230001 := xM (xO (ok' := fun k_ => some k_ ≠ (.slice Ao29 t217.length co29 : Value).ownBlock ∧ some k_ ≠ (.slice Ao47 t232.length co47 : Value).ownBlock) (Kd.R_keptB (HO_230001.out) hkp (fun k_ hk_ hs_ => (hk_.2) hs_)) (fun k_ hk_ => ⟨hk_.1.1, hk_.1.2⟩)); replace BK206 := xM (blk_kept (yb BK206) hkp (fun hs_ => (fun e_ => (Kd.R_ne HO_237001.out BK206.out (by decide)) e_) hs_)); replace BK221 := xM (blk_kept (yb BK221) hkp (fun hs_ => (fun e_ => (Kd.R_ne HO_237001.out BK221.out (by decide)) e_) hs_)); replace BK229 := xM (blk_kept (yb BK229) hkp (fun hs_ => (fun e_ => (Kd.R_ne HO_237001.out BK229.out (by decide)) e_) hs_)); replace BK236 := xM (blk_kept (yb BK236) hkp (fun hs_ => (fun e_ => (Kd.R_ne HO_237001.out BK236.out (by decide)) e_) hs_)); replace HO_237001 := xM (Kd.R_reok rfl hy0 (fun k_ e_ => HO_237001.out.1 k_ e_)); replace HB := xM (hb); (try clear hb); (try clear hkp); (try clear hy0); have hcz193_0 : w192.cell? ⟨gb236, 0, none⟩ = some (.int .i64 t231) := (blk_cell BK236.out 0).trans rfl; have hcz193_1 : w192.cell? ⟨gb236, 1, none⟩ = some (.slice Ao47 t232.length co47) := (blk_cell BK236.out 1).trans rfl; have hfz193_0 := blk_frozen BK236.out 0; have hfz193_1 := blk_frozen BK236.out 1) | ((with_reducible refine gate_callee (f := 25) rfl ?_); refine goesL_ (some 101) rfl rfl Try.func25 (by kernel_rfl) rfl #[.agg #[.int .i64 t231, .slice Ao47 t253.length co47], .int .i64 1] rfl (by (try simp only [List.map_toArray, List.map_cons, List.map_nil]); first | done | (rw [show t253.length = t232.length from (Kd.R_reads' HO_237001.out).1.symm] <;> rfl) | rfl | (simp only [List.length_drop, List.length_take]; rfl)) ?_; (with_reducible refine (laws_heldCoded.calls kj75 t231 _ _ t253 1 t254 _ ?side1 ?side2 A111.out).mono ?_); (case side1 => repeat (first | exact (Kd.R_reads' HO_237001.out).2.2 | (with_reducible refine Kd.C_alloc ?_ _) | (with_reducible refine Kd.C_drewN ?_ _) | (with_reducible refine Kd.C_drew ?_))); (case side2 => rw [show t253.length = t232.length from (Kd.R_reads' HO_237001.out).1.symm]; exact (Kd.R_reads' HO_237001.out).2.1); rintro e w194 ⟨rfl, hb⟩; refine ⟨_, rfl, ?_⟩; replace HO_222001 := xM (xW (yR HO_222001) hb); replace HO_230001 := xM (xW (yR HO_230001) hb); replace HO_237001 := xM (xW (yR HO_237001) hb); replace BK206 := xM (xB (yb BK206) hb); replace BK221 := xM (xB (yb BK221) hb); replace BK229 := xM (xB (yb BK229) hb); replace BK236 := xM (xB (yb BK236) hb); replace HB := xM (below_step (yh HB) hb); (try clear hb)))
              go_ret
              exact ⟨by first | rfl | (simp [errW_none, errW_some] <;> rfl) | (simp [*, errW_none, errW_some] <;> rfl), by repeat (first | (with_reducible first | exact HB.out | apply xa | apply xn | apply xd | refine xs ?_ GE206.out | refine xs ?_ GE221.out | refine xs ?_ GE229.out | refine xs ?_ GE236.out) | exact HB.out)⟩
        ·replace c73 := Bool.eq_false_iff.mpr c73
         subst c73
         have H1 : (some false) = some r := by rw [if_neg (show ¬ (false = true) by decide)] at H; exact H
         clear H
         have H := H1
         clear H1
         obtain rfl := Option.some.inj H
         try go_wp2_with (first | ((with_reducible refine gate_callee (f := 14) rfl ?_); refine goesL_ (some 64) rfl rfl Try.func14 (by kernel_rfl) rfl #[.slice A0 l0.length c0] rfl (by (try simp only [List.map_toArray, List.map_cons, List.map_nil]); first | done | rfl | (simp only [List.length_drop, List.length_take]; rfl)) ?_; (with_reducible refine (laws_toIntS.calls kj15 _ _ l0 t238 _ ?side1 ?side2 A68.out).mono ?_); (case side1 => repeat (first | exact (Kd.C_below HR0.out HB.out) | (with_reducible refine Kd.C_alloc ?_ _) | (with_reducible refine Kd.C_drewN ?_ _) | (with_reducible refine Kd.C_drew ?_))); (case side2 => exact HC0.out); rintro e w195 ⟨v239, rfl, ho0, hb⟩; refine ⟨_, rfl, ?_⟩; have HO240 := xM (Kd.R_lower (Kd.R_new' (Kd.R_new' (Kd.R_new' (Kd.R_new' ho0 (xL (yR HO_9))) (xL (yR HO_222001))) (xL (yR HO_230001))) (xL (yR HO_237001))) (below_size (yh HB))); replace HO_9 := xM (Kd.R_elder' (yR HO_9) (Kd.R_base ho0) hb); replace HO_222001 := xM (Kd.R_elder' (yR HO_222001) (Kd.R_base ho0) hb); replace HO_230001 := xM (Kd.R_elder' (yR HO_230001) (Kd.R_base ho0) hb); replace HO_237001 := xM (Kd.R_elder' (yR HO_237001) (Kd.R_base ho0) hb); replace BK206 := xM (xB (yb BK206) hb); replace BK221 := xM (xB (yb BK221) hb); replace BK229 := xM (xB (yb BK229) hb); replace BK236 := xM (xB (yb BK236) hb); replace HB := xM (below_step (yh HB) hb); (try clear hb); (try clear ho0); obtain ⟨Ao196, co196, eo196⟩ := Kd.R_slice HO240.out; subst eo196) | ((with_reducible refine gate_callee (f := 16) rfl ?_); refine goesL_ (some 65) rfl rfl Try.func16 (by kernel_rfl) rfl #[.slice Ao40 t222.length co40, .slice Ao196 t238.length co196] rfl (by (try simp only [List.map_toArray, List.map_cons, List.map_nil]); first | done | rfl | (simp only [List.length_drop, List.length_take]; rfl)) ?_; (with_reducible refine (laws_eqIntS.calls kj15 _ _ t222 _ _ t238 true _ ?side1 ?side2 ?side3 ?side4 A69.out).mono ?_); (case side1 => repeat (first | exact (Kd.R_reads' HO_9.out).2.2 | (with_reducible refine Kd.C_alloc ?_ _) | (with_reducible refine Kd.C_drewN ?_ _) | (with_reducible refine Kd.C_drew ?_))); (case side2 => exact (Kd.R_reads' HO_9.out).2.1); (case side3 => repeat (first | exact (Kd.R_reads' HO240.out).2.2 | (with_reducible refine Kd.C_alloc ?_ _) | (with_reducible refine Kd.C_drewN ?_ _) | (with_reducible refine Kd.C_drew ?_))); (case side4 => exact (Kd.R_reads' HO240.out).2.1); rintro e w' ⟨rfl, ⟨nd, rfl⟩⟩; refine ⟨_, rfl, ?_⟩))
         (try (rw [drewN_self w195]; generalize hq_ : World.drewN w195 _ = w195; have n0_ := xM (Kd.R_at hq_ HO_9.out); have n1_ := xM (Kd.R_at hq_ HO_222001.out); have n2_ := xM (Kd.R_at hq_ HO_230001.out); have n3_ := xM (Kd.R_at hq_ HO_237001.out); have n4_ := xM (Kd.R_at hq_ HO240.out); have n5_ := xM (blk_at hq_ BK206.out); have n6_ := xM (blk_at hq_ BK221.out); have n7_ := xM (blk_at hq_ BK229.out); have n8_ := xM (blk_at hq_ BK236.out); have n9_ := xM (below_at hq_ HB.out); clear hq_ HO_9 HO_222001 HO_230001 HO_237001 HO240 BK206 BK221 BK229 BK236 HB; have HO_9 := n0_; have HO_222001 := n1_; have HO_230001 := n2_; have HO_237001 := n3_; have HO240 := n4_; have BK206 := n5_; have BK221 := n6_; have BK229 := n7_; have BK236 := n8_; have HB := n9_; clear n0_ n1_ n2_ n3_ n4_ n5_ n6_ n7_ n8_ n9_))
         replace HO_9 := xM (Kd.R_drew HO_9.out)
         replace HO_222001 := xM (Kd.R_drew HO_222001.out)
         replace HO_230001 := xM (Kd.R_drew HO_230001.out)
         replace HO_237001 := xM (Kd.R_drew HO_237001.out)
         replace HO240 := xM (Kd.R_drew HO240.out)
         replace BK206 := xM (blk_drew BK206.out)
         replace BK221 := xM (blk_drew BK221.out)
         replace BK229 := xM (blk_drew BK229.out)
         replace BK236 := xM (blk_drew BK236.out)
         replace HB := xM (below_drew1 HB.out)
         refine start_ (n := 5) (S := fun w' => w'.cell? ⟨gb229, 0, none⟩ = some (.int .i64 t225) ∧ w'.cell? ⟨gb229, 1, none⟩ = some (.slice Ao39 t226.length co39) ∧ w'.cell? ⟨gb206, 0, none⟩ = some (.int .i64 a1_0) ∧ w'.cell? ⟨gb206, 1, none⟩ = some (.slice A1_1 l1_1.length c1_1)) (ds := []) #[false, false, false, false, false] (by kernel_rfl) rfl rfl ⟨(blk_cell BK229.out 0).trans rfl, (blk_cell BK229.out 1).trans rfl, (blk_cell BK206.out 0).trans rfl, (blk_cell BK206.out 1).trans rfl⟩ (fun hHeld => ?_)
         generalize w195.drew = w197 at HO_9 HO_222001 HO_230001 HO_237001 HO240 BK206 BK221 BK229 BK236 HB hHeld ⊢
         refine take_ (i := 0) (N := some 67) (v := ?_) (a' := ?_) #[true, false, false, false, false] rfl rfl (by kernel_rfl) (fun _ _ _ h => h) (Or.inl ⟨by rfl, ?_⟩) hHeld ?_ ?_
         rotate_left
         ·rintro w' ⟨s0, s1, s2, s3⟩
          go_simp
          with_reducible rfl
         rotate_left
         ·simp only [Act.put, List.setIfInBounds_toArray, List.set_cons_zero, List.set_cons_succ, i64_w, i32_w]
          rfl
         refine take_ (i := 1) (N := some 68) (v := ?_) (a' := ?_) #[true, true, false, false, false] rfl rfl (by kernel_rfl) (fun _ _ _ h => h) (Or.inl ⟨by rfl, ?_⟩) hHeld ?_ ?_
         rotate_left
         ·rintro w' ⟨s0, s1, s2, s3⟩
          go_simp
          with_reducible rfl
         rotate_left
         ·simp only [Act.put, List.setIfInBounds_toArray, List.set_cons_zero, List.set_cons_succ, i64_w, i32_w]
          rfl
         refine one_ (i := 2) (N := some 69) #[true, true, true, false, false] rfl rfl (by kernel_rfl) (by decide) (fun K hK => ?_)
         refine goes_ Try.func33 (by kernel_rfl) rfl #[.agg #[.int .i64 a1_0, .slice A1_1 l1_1.length c1_1]] (by rfl) rfl rfl (by (try simp only [List.map_toArray, List.map_cons, List.map_nil]); first | done | rfl | (simp only [List.length_drop, List.length_take]; rfl)) ?_
         with_reducible refine (laws_toCoded.calls kj15 a1_0 _ _ l1_1 t242 t243 _ ?side1 ?side2 A71.out).mono ?_
         (case side1 => repeat (first | exact (Kd.C_below HR1_1.out HB.out) | (with_reducible refine Kd.C_alloc ?_ _) | (with_reducible refine Kd.C_drewN ?_ _) | (with_reducible refine Kd.C_drew ?_)))
         (case side2 => exact HC1_1.out)
         rintro e w198 ⟨v244, rfl, ho0, hb⟩
         refine ⟨_, rfl, ?_⟩
         have HO245 := xM (Kd.R_lower (Kd.R_new' (Kd.R_new' (Kd.R_new' (Kd.R_new' (Kd.R_new' ho0 (xL (yR HO_9))) (xL (yR HO_222001))) (xL (yR HO_230001))) (xL (yR HO_237001))) (xL (yR HO240))) (below_size (yh HB)))
         replace HO_9 := xM (Kd.R_elder' (yR HO_9) (Kd.R_base ho0) hb)
         replace HO_222001 := xM (Kd.R_elder' (yR HO_222001) (Kd.R_base ho0) hb)
         replace HO_230001 := xM (Kd.R_elder' (yR HO_230001) (Kd.R_base ho0) hb)
         replace HO_237001 := xM (Kd.R_elder' (yR HO_237001) (Kd.R_base ho0) hb)
         replace HO240 := xM (Kd.R_elder' (yR HO240) (Kd.R_base ho0) hb)
         replace BK206 := xM (xB (yb BK206) hb)
         replace BK221 := xM (xB (yb BK221) hb)
         replace BK229 := xM (xB (yb BK229) hb)
         replace BK236 := xM (xB (yb BK236) hb)
         replace HB := xM (below_step (yh HB) hb)
         (try clear hb)
         (try clear hb2)
         (try clear hk)
         (try clear hi)
         (try clear ho0)
         obtain ⟨Ao199, co199, eo199⟩ := Kd.R_slice HO245.out
         (first | subst eo199 | (injection eo199 with f1_ f2_ f3_; have f4_ := f1_.symm; have f5_ := f3_.symm; clear f1_ f2_ f3_; subst f4_; subst f5_))
         refine hK.out _ _ ⟨(blk_cell BK229.out 0).trans rfl, (blk_cell BK229.out 1).trans rfl, (blk_cell BK206.out 0).trans rfl, (blk_cell BK206.out 1).trans rfl⟩ (fun hHeld => ?_)
         clear hK K
         refine norm_ (a' := ?_) ?_ ?_
         rotate_left
         ·show Act.put _ (some 69) _ = _
          simp only [Act.put, List.setIfInBounds_toArray, List.set_cons_zero, List.set_cons_succ, i64_w, i32_w]
          rfl
         refine one_ (i := 3) (N := some 70) #[true, true, true, true, false] rfl rfl (by kernel_rfl) (by decide) (fun K hK => ?_)
         refine goes_ Try.func23 (by kernel_rfl) rfl #[.agg #[.int .i64 t225, .slice Ao39 t226.length co39], .agg #[.int .i64 t242, .slice Ao199 t243.length co199]] (by rfl) rfl rfl (by (try simp only [List.map_toArray, List.map_cons, List.map_nil]); first | done | rfl | (simp only [List.length_drop, List.length_take]; rfl)) ?_
         with_reducible refine (laws_eqCoded.calls kj15 t225 _ _ t226 t242 _ _ t243 false _ ?side1 ?side2 ?side3 ?side4 A72.out).mono ?_
         (case side1 => repeat (first | exact (Kd.R_reads' HO_230001.out).2.2 | (with_reducible refine Kd.C_alloc ?_ _) | (with_reducible refine Kd.C_drewN ?_ _) | (with_reducible refine Kd.C_drew ?_)))
         (case side2 => exact (Kd.R_reads' HO_230001.out).2.1)
         (case side3 => repeat (first | exact (Kd.R_reads' HO245.out).2.2 | (with_reducible refine Kd.C_alloc ?_ _) | (with_reducible refine Kd.C_drewN ?_ _) | (with_reducible refine Kd.C_drew ?_)))
         (case side4 => exact (Kd.R_reads' HO245.out).2.1)
         rintro e w200 ⟨rfl, hb⟩
         refine ⟨_, rfl, ?_⟩
         replace HO_9 := xM (xW (yR HO_9) hb)
         replace HO_222001 := xM (xW (yR HO_222001) hb)
         replace HO_230001 := xM (xW (yR HO_230001) hb)
         replace HO_237001 := xM (xW (yR HO_237001) hb)
         replace HO240 := xM (xW (yR HO240) hb)
         replace HO245 := xM (xW (yR HO245) hb)
         replace BK206 := xM (xB (yb BK206) hb)
         replace BK221 := xM (xB (yb BK221) hb)
         replace BK229 := xM (xB (yb BK229) hb)
         replace BK236 := xM (xB (yb BK236) hb)
         replace HB := xM (below_step (yh HB) hb)
         (try clear hb)
         (try clear hb2)
         (try clear hk)
         (try clear hi)
         refine hK.out _ _ ⟨(blk_cell BK229.out 0).trans rfl, (blk_cell BK229.out 1).trans rfl, (blk_cell BK206.out 0).trans rfl, (blk_cell BK206.out 1).trans rfl⟩ (fun hHeld => ?_)
         clear hK K
         refine norm_ (a' := ?_) ?_ ?_
         rotate_left
         ·show Act.put _ (some 70) _ = _
          simp only [Act.put, List.setIfInBounds_toArray, List.set_cons_zero, List.set_cons_succ, i64_w, i32_w]
          rfl
         refine pure_ (i := 4) (N := some 71) (v := ?_) (a' := ?_) #[true, true, true, true, true] rfl rfl (by kernel_rfl) (fun _ _ _ h => h) (Or.inl ⟨by rfl, ?_⟩) ?_ ?_
         rotate_left
         ·intro w'
          go_simp
          with_reducible rfl
         rotate_left
         ·simp only [Act.put, List.setIfInBounds_toArray, List.set_cons_zero, List.set_cons_succ, i64_w, i32_w]
          rfl
         refine done_ (by kernel_rfl) ?_
         try go_wp2
         go_ret
         exact ⟨by first | rfl | (simp [errW_none, errW_some] <;> rfl) | (simp [*, errW_none, errW_some] <;> rfl), by repeat (first | (with_reducible first | exact HB.out | apply xa | apply xn | apply xd | refine xs ?_ GE206.out | refine xs ?_ GE221.out | refine xs ?_ GE229.out | refine xs ?_ GE236.out) | exact HB.out)⟩
       ·replace c70 := Bool.eq_false_iff.mpr c70
        subst c70
        have H1 : (some false) = some r := by rw [if_neg (show ¬ (false = true) by decide)] at H; exact H
        clear H
        have H := H1
        clear H1
        obtain rfl := Option.some.inj H
        go_wp2_with (first | ((with_reducible refine gate_callee (f := 14) rfl ?_); refine goesL_ (some 64) rfl rfl Try.func14 (by kernel_rfl) rfl #[.slice A0 l0.length c0] rfl (by (try simp only [List.map_toArray, List.map_cons, List.map_nil]); first | done | rfl | (simp only [List.length_drop, List.length_take]; rfl)) ?_; (with_reducible refine (laws_toIntS.calls kj15 _ _ l0 t238 _ ?side1 ?side2 A68.out).mono ?_); (case side1 => repeat (first | exact (Kd.C_below HR0.out HB.out) | (with_reducible refine Kd.C_alloc ?_ _) | (with_reducible refine Kd.C_drewN ?_ _) | (with_reducible refine Kd.C_drew ?_))); (case side2 => exact HC0.out); rintro e w201 ⟨v239, rfl, ho0, hb⟩; refine ⟨_, rfl, ?_⟩; have HO240 := xM (Kd.R_lower (Kd.R_new' (Kd.R_new' (Kd.R_new' (Kd.R_new' ho0 (xL (yR HO_9))) (xL (yR HO_222001))) (xL (yR HO_230001))) (xL (yR HO_237001))) (below_size (yh HB))); replace HO_9 := xM (Kd.R_elder' (yR HO_9) (Kd.R_base ho0) hb); replace HO_222001 := xM (Kd.R_elder' (yR HO_222001) (Kd.R_base ho0) hb); replace HO_230001 := xM (Kd.R_elder' (yR HO_230001) (Kd.R_base ho0) hb); replace HO_237001 := xM (Kd.R_elder' (yR HO_237001) (Kd.R_base ho0) hb); replace BK206 := xM (xB (yb BK206) hb); replace BK221 := xM (xB (yb BK221) hb); replace BK229 := xM (xB (yb BK229) hb); replace BK236 := xM (xB (yb BK236) hb); replace HB := xM (below_step (yh HB) hb); (try clear hb); (try clear ho0); obtain ⟨Ao202, co202, eo202⟩ := Kd.R_slice HO240.out; subst eo202) | ((with_reducible refine gate_callee (f := 16) rfl ?_); refine goesL_ (some 65) rfl rfl Try.func16 (by kernel_rfl) rfl #[.slice Ao40 t222.length co40, .slice Ao202 t238.length co202] rfl (by (try simp only [List.map_toArray, List.map_cons, List.map_nil]); first | done | rfl | (simp only [List.length_drop, List.length_take]; rfl)) ?_; (with_reducible refine (laws_eqIntS.calls kj15 _ _ t222 _ _ t238 false _ ?side1 ?side2 ?side3 ?side4 A69.out).mono ?_); (case side1 => repeat (first | exact (Kd.R_reads' HO_9.out).2.2 | (with_reducible refine Kd.C_alloc ?_ _) | (with_reducible refine Kd.C_drewN ?_ _) | (with_reducible refine Kd.C_drew ?_))); (case side2 => exact (Kd.R_reads' HO_9.out).2.1); (case side3 => repeat (first | exact (Kd.R_reads' HO240.out).2.2 | (with_reducible refine Kd.C_alloc ?_ _) | (with_reducible refine Kd.C_drewN ?_ _) | (with_reducible refine Kd.C_drew ?_))); (case side4 => exact (Kd.R_reads' HO240.out).2.1); rintro e w' ⟨rfl, ⟨nd, rfl⟩⟩; refine ⟨_, rfl, ?_⟩))
        go_ret
        exact ⟨by first | rfl | (simp [errW_none, errW_some] <;> rfl) | (simp [*, errW_none, errW_some] <;> rfl), by repeat (first | (with_reducible first | exact HB.out | apply xa | apply xn | apply xd | refine xs ?_ GE206.out | refine xs ?_ GE221.out | refine xs ?_ GE229.out | refine xs ?_ GE236.out) | exact HB.out)⟩

end Go.Proofs.Ytppgkkejddjacaa.PFnExactTakeSymbol

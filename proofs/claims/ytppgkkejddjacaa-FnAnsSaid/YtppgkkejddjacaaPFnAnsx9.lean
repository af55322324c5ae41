-- This text was written by the session's own program wip/tools/xprint.py, over the kit's print; Lean checks it.
import Derived.Test.YtppgkkejddjacaaPFnAnsx0
import Derived.Test.YtppgkkejddjacaaPFnAnsx1
namespace Go.Proofs.Ytppgkkejddjacaa.PFnAns
open Go.RowKit Go.Proofs.YtppgkkejddjacaaW.PrintWords Go.Proofs.YtppgkkejddjacaaW.PrintLast Go.Proofs.YtppgkkejddjacaaW.PrintMore
attribute [local go_sem] max2_int min2_int max_two min_two max_three min_three max_four min_four   -- for this text's walks alone
set_option linter.unusedVariables false
set_option linter.unusedSimpArgs false

/-! ### spec_CountsFor: function 13 -/
mutual
def spec_CountsFor.j0 : Nat → List Int → Int → Bool → Option (List Int × Bool)
  | 0, _, _, _ => none
  | k + 1, x0, x1, x22 => if x22 = true then (some (([] : List Int), false)) else (if 0 ≤ x1 then (if (x1 : Int).toNat ≤ 35184372088832 then (spec_CountsFor.l0 k x0 x1 (List.replicate (x1 : Int).toNat 0) x0 (x0.length : Int) 0) else (none)) else (none))
def spec_CountsFor.l0 : Nat → List Int → Int → List Int → List Int → Int → Int → Option (List Int × Bool)
  | 0, _, _, _, _, _, _ => none
  | k + 1, x0, x1, x6, x25, x26, x27 => if x27 < x26 then (if 0 ≤ x27 then (if x27 < (x25.length : Int) then ((spec_l1In.f (rd x25 x27) 0 (wrap64 (x1 - 1))).bind fun t289 => (if t289 = true then (if 0 ≤ (rd x25 x27) then (if (rd x25 x27) < (x6.length : Int) then (spec_CountsFor.l0 k x0 x1 (x6.set ((rd x25 x27) : Int).toNat (wrap64 ((rd x6 (rd x25 x27)) + 1))) x25 x26 (wrap64 (x27 + 1))) else (none)) else (none)) else (some (([] : List Int), false)))) else (none)) else (none)) else (spec_CountsFor.l1 k x0 (wrap64 (64 - x1)) (wrap64 (64 - x1)) ([] : List Int) x6 (x6.length : Int) 0)
def spec_CountsFor.l1 : Nat → List Int → Int → Int → List Int → List Int → Int → Int → Option (List Int × Bool)
  | 0, _, _, _, _, _, _, _ => none
  | k + 1, x0, x9, x10, x11, x46, x47, x48 => if x48 < x47 then (if 0 ≤ x48 then (if x48 < (x46.length : Int) then (if (x0.length : Int) > 0 then (if (x0.length : Int) = 0 then (none) else (if x11.length < 17592186044416 then (spec_CountsFor.l1 k x0 x9 (wrap64 (x10 - (wrap64 (Int.tdiv (wrap64 ((rd x46 x48) * x9)) (x0.length : Int))))) (x11 ++ [wrap64 (1 + (wrap64 (Int.tdiv (wrap64 ((rd x46 x48) * x9)) (x0.length : Int))))]) x46 x47 (wrap64 (x48 + 1))) else (none))) else (if x11.length < 17592186044416 then (spec_CountsFor.l1 k x0 x9 (wrap64 (x10 - 0)) (x11 ++ [1 + 0]) x46 x47 (wrap64 (x48 + 1))) else (none))) else (none)) else (none)) else (if 0 < (x11.length : Int) then (some ((x11.set (0 : Int).toNat (wrap64 ((rd x11 0) + x10))), true)) else (none))
end
def spec_CountsFor.f (k : Nat) (l0 : List Int) (a1 : Int) : Option (List Int × Bool) := (spec_l1In.f a1 1 12).bind fun t284 => (if t284 = true then (spec_CountsFor.j0 k l0 a1 (decide ((l0.length : Int) > 80))) else (spec_CountsFor.j0 k l0 a1 true))
theorem spec_CountsFor.mono_l : ∀ k, (∀ y0 y1 y2, LeO (spec_CountsFor.j0 k y0 y1 y2) (spec_CountsFor.j0 (k + 1) y0 y1 y2)) ∧ (∀ y0 y1 y2 y3 y4 y5, LeO (spec_CountsFor.l0 k y0 y1 y2 y3 y4 y5) (spec_CountsFor.l0 (k + 1) y0 y1 y2 y3 y4 y5)) ∧ (∀ y0 y1 y2 y3 y4 y5 y6, LeO (spec_CountsFor.l1 k y0 y1 y2 y3 y4 y5 y6) (spec_CountsFor.l1 (k + 1) y0 y1 y2 y3 y4 y5 y6))
  | 0 => ⟨fun _ _ _ r h => by simp [spec_CountsFor.j0] at h, fun _ _ _ _ _ _ r h => by simp [spec_CountsFor.l0] at h, fun _ _ _ _ _ _ _ r h => by simp [spec_CountsFor.l1] at h⟩
  | k + 1 => by
   obtain ⟨ih0, ih1, ih2⟩ := spec_CountsFor.mono_l k
   refine ⟨?_, ?_, ?_⟩
   ·intro y0 y1 y2
    unfold spec_CountsFor.j0
    repeat' first
    | (with_reducible exact ih0 _ _ _)
    | (with_reducible exact ih1 _ _ _ _ _ _)
    | (with_reducible exact ih2 _ _ _ _ _ _ _)
    | (with_reducible exact LeO.refl _)
    | (with_reducible exact LeO.none _)
    | (with_reducible refine LeO.ite ?_ ?_)
    | (with_reducible refine LeO.bind ?_ (fun _ => ?_))
    | exact ih0 _ _ _
    | exact ih1 _ _ _ _ _ _
    | exact ih2 _ _ _ _ _ _ _
    | exact LeO.none _
    | refine LeO.ite ?_ ?_
    | refine LeO.bind ?_ (fun _ => ?_)
   ·intro y0 y1 y2 y3 y4 y5
    unfold spec_CountsFor.l0
    repeat' first
    | (with_reducible exact ih0 _ _ _)
    | (with_reducible exact ih1 _ _ _ _ _ _)
    | (with_reducible exact ih2 _ _ _ _ _ _ _)
    | (with_reducible exact LeO.refl _)
    | (with_reducible exact LeO.none _)
    | (with_reducible refine LeO.ite ?_ ?_)
    | (with_reducible refine LeO.bind ?_ (fun _ => ?_))
    | exact ih0 _ _ _
    | exact ih1 _ _ _ _ _ _
    | exact ih2 _ _ _ _ _ _ _
    | exact LeO.none _
    | refine LeO.ite ?_ ?_
    | refine LeO.bind ?_ (fun _ => ?_)
   ·intro y0 y1 y2 y3 y4 y5 y6
    unfold spec_CountsFor.l1
    repeat' first
    | (with_reducible exact ih0 _ _ _)
    | (with_reducible exact ih1 _ _ _ _ _ _)
    | (with_reducible exact ih2 _ _ _ _ _ _ _)
    | (with_reducible exact LeO.refl _)
    | (with_reducible exact LeO.none _)
    | (with_reducible refine LeO.ite ?_ ?_)
    | (with_reducible refine LeO.bind ?_ (fun _ => ?_))
    | exact ih0 _ _ _
    | exact ih1 _ _ _ _ _ _
    | exact ih2 _ _ _ _ _ _ _
    | exact LeO.none _
    | refine LeO.ite ?_ ?_
    | refine LeO.bind ?_ (fun _ => ?_)
theorem spec_CountsFor.mono : ∀ a0 a1 k, LeO (spec_CountsFor.f k a0 a1) (spec_CountsFor.f (k + 1) a0 a1) := by
  intro a0 a1 k
  obtain ⟨ih0, ih1, ih2⟩ := spec_CountsFor.mono_l k
  unfold spec_CountsFor.f
  repeat' first
    | (with_reducible exact ih0 _ _ _)
    | (with_reducible exact ih1 _ _ _ _ _ _)
    | (with_reducible exact ih2 _ _ _ _ _ _ _)
    | (with_reducible exact LeO.refl _)
    | (with_reducible exact LeO.none _)
    | (with_reducible refine LeO.ite ?_ ?_)
    | (with_reducible refine LeO.bind ?_ (fun _ => ?_))
    | exact ih0 _ _ _
    | exact ih1 _ _ _ _ _ _
    | exact ih2 _ _ _ _ _ _ _
    | exact LeO.none _
    | refine LeO.ite ?_ ?_
    | refine LeO.bind ?_ (fun _ => ?_)
set_option maxHeartbeats 8000000 in
set_option maxRecDepth 100000 in
theorem spec_CountsFor.calls (k : Nat) (A0 : Option Addr) (c0 : Nat) (l0 : List Int) (a1 : Int) (r1 : List Int) (r2 : Bool) (w : World) (hr0 : Kd.C (Kd.int .i64) w A0 l0.length l0) (hc0 : l0.length ≤ c0) (h : spec_CountsFor.f k l0 a1 = some (r1, r2)) :
   Calls Try.prog 13 #[.slice A0 l0.length c0, .int .i64 a1] w fun e w' => ∃ v0_ : Value, e = .returned (.tuple #[v0_, .bool r2]) ∧ Kd.R (Kd.int .i64) 3 w' w.heap.size (fun _ => True) v0_ r1 ∧ Below w.heap.size w w' := by
  have HR0 := Aside0.mk hr0
  have HC0 := Aside0.mk hc0
  clear hr0 hc0
  have HB := xM (Below.refl w.heap.size w)
  have H : ((spec_l1In.f a1 1 12).bind fun t284 => (if t284 = true then (spec_CountsFor.j0 k l0 a1 (decide ((l0.length : Int) > 80))) else (spec_CountsFor.j0 k l0 a1 true))) = some (r1, r2) := h
  clear h
  have HC3 := Aside0.mk H
  clear H
  go_enter Try.func13, Try.ntmps13
  go_upto_region 1 with (fail)
  go_cut [22] (fun v22 wc => ∃ (kq : Nat) (x22_2 : Bool), v22 = .bool x22_2 ∧ Aside0 (spec_CountsFor.j0 kq l0 a1 x22_2 = some (r1, r2)) ∧ Aside0 (kq ≤ k) ∧ Aside0 (Below w.heap.size w wc))
  case first =>
   have H := HC3.out
   clear HC3
   replace H := Option.bind_eq_some_iff.mp H
   obtain ⟨t284, A40, H⟩ := H
   replace H : (if t284 = true then (spec_CountsFor.j0 k l0 a1 (decide ((l0.length : Int) > 80))) else (spec_CountsFor.j0 k l0 a1 true)) = some (r1, r2) := H
   have A4 := Aside0.mk A40
   clear A40
   by_cases c5 : t284 = true
   ·subst c5
    have H1 : (spec_CountsFor.j0 k l0 a1 (decide ((l0.length : Int) > 80))) = some (r1, r2) := by rw [if_pos rfl] at H; exact H
    clear H
    have H := H1
    clear H1
    have H' := Aside0.mk H
    clear H
    go_wp2_with (first | ((with_reducible refine gate_callee (f := 54) rfl ?_); refine goesL_ (some 16) rfl rfl Try.func54 (by kernel_rfl) rfl #[.int .i64 a1, .int .i64 1, .int .i64 12] rfl (by (try simp only [List.map_toArray, List.map_cons, List.map_nil]); first | done | rfl | (simp only [List.length_drop, List.length_take]; rfl)) ?_; (with_reducible refine (spec_l1In.calls a1 1 12 true _ A4.out).mono ?_); rintro e w' ⟨rfl, ⟨nd, rfl⟩⟩; refine ⟨_, rfl, ?_⟩))
    go_meet
    case rel => exact ⟨_, (decide ((l0.length : Int) > 80)), (by first | rfl | (simp; done) | (simp [*]; done)), H', ⟨by first | omega | exact Nat.le_refl _⟩, ⟨yh HB⟩⟩
   ·replace c5 := Bool.eq_false_iff.mpr c5
    subst c5
    have H1 : (spec_CountsFor.j0 k l0 a1 true) = some (r1, r2) := by rw [if_neg (show ¬ (false = true) by decide)] at H; exact H
    clear H
    have H := H1
    clear H1
    have H' := Aside0.mk H
    clear H
    go_wp2_with (first | ((with_reducible refine gate_callee (f := 54) rfl ?_); refine goesL_ (some 16) rfl rfl Try.func54 (by kernel_rfl) rfl #[.int .i64 a1, .int .i64 1, .int .i64 12] rfl (by (try simp only [List.map_toArray, List.map_cons, List.map_nil]); first | done | rfl | (simp only [List.length_drop, List.length_take]; rfl)) ?_; (with_reducible refine (spec_l1In.calls a1 1 12 false _ A4.out).mono ?_); rintro e w' ⟨rfl, ⟨nd, rfl⟩⟩; refine ⟨_, rfl, ?_⟩))
    go_meet
    case rel => exact ⟨_, (true), (by first | rfl | (simp; done) | (simp [*]; done)), H', ⟨by first | omega | exact Nat.le_refl _⟩, ⟨yh HB⟩⟩
  case rest =>
   clear HC3
   try clear c1
   try clear p2
   try clear c5
   obtain ⟨kq, x22_2, rfl, HA, HJ2, HB⟩ := hcut
   cases kq with
   | zero => exact absurd HA.out (by simp [spec_CountsFor.j0])
   | succ kj2 =>
    have H := HA.out
    clear HA
    simp only [spec_CountsFor.j0] at H
    by_cases c6 : x22_2 = true
    ·subst c6
     have H1 : (some (([] : List Int), false)) = some (r1, r2) := by rw [if_pos rfl] at H; exact H
     clear H
     have H := H1
     clear H1
     simp only [Option.some.injEq, Prod.mk.injEq] at H
     obtain ⟨rfl, rfl⟩ := H
     go_wp2
     go_ret2
     exact ⟨_, by first | rfl | (simp [errW_none, errW_some] <;> rfl) | (simp [*, errW_none, errW_some] <;> rfl), by first | exact Kd.R_nil _ _ _ _ _ | exact Kd.N_nil _ _ _ _ _ | exact Kd.V_nil _ _ _ _ _ | exact Kd.Q_nil _ _ _ _ _ | exact Kd.S_nil _ _ _ _ _, by repeat (first | (with_reducible first | exact HB.out | apply xa | apply xn | apply xd) | exact HB.out)⟩
    ·replace c6 := Bool.eq_false_iff.mpr c6
     subst c6
     have H1 : (if 0 ≤ a1 then (if (a1 : Int).toNat ≤ 35184372088832 then (spec_CountsFor.l0 kj2 l0 a1 (List.replicate (a1 : Int).toNat 0) l0 (l0.length : Int) 0) else (none)) else (none)) = some (r1, r2) := by rw [if_neg (show ¬ (false = true) by decide)] at H; exact H
     clear H
     have H := H1
     clear H1
     by_cases c7 : 0 ≤ a1
     ·rw [if_pos c7] at H
      have c7b0 := eq_true c7
      have c7b1 : decide (0 ≤ a1) = true := decide_eq_true c7
      clear c7
      by_cases c8 : (a1 : Int).toNat ≤ 35184372088832
      ·rw [if_pos c8] at H
       have c8b0 := eq_true c8
       have c8b1 : decide ((a1 : Int).toNat ≤ 35184372088832) = true := decide_eq_true c8
       clear c8
       obtain ⟨y285, hy285⟩ : ∃ y_ : List Int, y_ = (List.replicate (a1 : Int).toNat 0) := ⟨_, rfl⟩
       replace H : (spec_CountsFor.l0 kj2 l0 a1 y285 l0 (l0.length : Int) 0) = some (r1, r2) := by first | (rw [hy285]; with_reducible exact H) | (have H2_ := (Option.bind_some _ _).symm.trans H; rw [hy285]; with_reducible exact H2_) | (have H2_ := (Option.bind_some _ _).symm.trans H; with_reducible exact H2_) | with_reducible exact H | (rw [hy285]; exact H) | exact H
       have Ny285 := Aside0.mk hy285
       clear hy285
       have H' := Aside0.mk H
       clear H
       go_wp2_with (first | ((with_reducible refine gate_dst (N := 24) rfl ?_); (try (refine gate_guard (by rfl) ?_; dsimp only)); refine Kd.R_make (Kd.int .i64) _ 3 rfl (N := 24) rfl 22 _ _ rfl a1 rfl rfl Try.underlying22 (.int .i64 0) 8 info3 rfl (by decide) (by omega) 0 (ok := fun _ => True) (okp := fun _ => True) rfl (fun _ hk => hk) trivial (of_decide_eq_true (by first | (with_reducible assumption) | assumption)) (Nat.le_trans (Nat.mul_le_mul_right _ (of_decide_eq_true (by first | (with_reducible assumption) | assumption) : a1.toNat ≤ 35184372088832)) (by omega)) (Below.refl _ _) (Nat.le_refl _) ?_; intro v286 w9 ho10 hb hg_ hnew_; clear hg_ hnew_; (first | rw [← Ny285.out] at ho10 | (simp only [Int.reduceToNat] at ho10; rw [← Ny285.out] at ho10)); have HO287 := xM (Kd.R_lower ho10 (below_size (yh HB))); replace HB := xM (below_step (yh HB) hb); clear hb ho10))
       go_loopg [27] kj2 (fun kq v27 w' => ∃ (x6_2 : List Int) (x27_2 : Int), v27 = .int .i64 x27_2 ∧ Aside0 (spec_CountsFor.l0 kq l0 a1 x6_2 l0 (l0.length : Int) x27_2 = some (r1, r2)) ∧ Aside0 (kq ≤ kj2) ∧ Aside0 (Kd.R (Kd.int .i64) 3 w' w.heap.size (fun _ => True) v286 x6_2) ∧ Aside0 (Below w.heap.size w w'))
       case atStart => exact ⟨(y285), (0), (by first | rfl | (simp; done) | (simp [*]; done)), H', ⟨Nat.le_refl _⟩, ⟨yR HO287⟩, ⟨yh HB⟩⟩
       case round =>
        clear H'
        try clear c1
        try clear p2
        try clear c5
        try clear c6
        try clear c7
        try clear c7b0
        try clear c7b1
        try clear c8
        try clear c8b0
        try clear c8b1
        try clear p2
        obtain ⟨x6_2, x27_2, rfl, HA, HK2, HO_6, HB⟩ := hrel
        cases gk with
        | zero => exact absurd HA.out (by simp [spec_CountsFor.l0])
        | succ k2 =>
         have H := HA.out
         clear HA
         simp only [spec_CountsFor.l0] at H
         by_cases c11 : x27_2 < (l0.length : Int)
         ·rw [if_pos c11] at H
          have c11b0 : decide (x27_2 < (l0.length : Int)) = true := decide_eq_true c11
          clear c11
          by_cases c12 : 0 ≤ x27_2
          ·rw [if_pos c12] at H
           have c12b0 : decide (0 ≤ x27_2) = true := decide_eq_true c12
           clear c12
           by_cases c13 : x27_2 < (l0.length : Int)
           ·rw [if_pos c13] at H
            have c13b0 : decide (x27_2 < (l0.length : Int)) = true := decide_eq_true c13
            clear c13
            replace H := Option.bind_eq_some_iff.mp H
            obtain ⟨t289, A140, H⟩ := H
            replace H : (if t289 = true then (if 0 ≤ (rd l0 x27_2) then (if (rd l0 x27_2) < (x6_2.length : Int) then (spec_CountsFor.l0 k2 l0 a1 (x6_2.set ((rd l0 x27_2) : Int).toNat (wrap64 ((rd x6_2 (rd l0 x27_2)) + 1))) l0 (l0.length : Int) (wrap64 (x27_2 + 1))) else (none)) else (none)) else (some (([] : List Int), false))) = some (r1, r2) := H
            have A14 := Aside0.mk A140
            clear A140
            by_cases c15 : t289 = true
            ·subst c15
             have H1 : (if 0 ≤ (rd l0 x27_2) then (if (rd l0 x27_2) < (x6_2.length : Int) then (spec_CountsFor.l0 k2 l0 a1 (x6_2.set ((rd l0 x27_2) : Int).toNat (wrap64 ((rd x6_2 (rd l0 x27_2)) + 1))) l0 (l0.length : Int) (wrap64 (x27_2 + 1))) else (none)) else (none)) = some (r1, r2) := by rw [if_pos rfl] at H; exact H
             clear H
             have H := H1
             clear H1
             by_cases c16 : 0 ≤ (rd l0 x27_2)
             ·rw [if_pos c16] at H
              have c16b0 : decide (0 ≤ (rd l0 x27_2)) = true := decide_eq_true c16
              clear c16
              by_cases c17 : (rd l0 x27_2) < (x6_2.length : Int)
              ·rw [if_pos c17] at H
               have c17b0 : decide ((rd l0 x27_2) < (x6_2.length : Int)) = true := decide_eq_true c17
               clear c17
               obtain ⟨y291, hy291⟩ : ∃ y_ : List Int, y_ = (x6_2.set ((rd l0 x27_2) : Int).toNat (wrap64 ((rd x6_2 (rd l0 x27_2)) + 1))) := ⟨_, rfl⟩
               replace H : (spec_CountsFor.l0 k2 l0 a1 y291 l0 (l0.length : Int) (wrap64 (x27_2 + 1))) = some (r1, r2) := by first | (rw [hy291]; with_reducible exact H) | (have H2_ := (Option.bind_some _ _).symm.trans H; rw [hy291]; with_reducible exact H2_) | (have H2_ := (Option.bind_some _ _).symm.trans H; with_reducible exact H2_) | with_reducible exact H | (rw [hy291]; exact H) | exact H
               have Ny291 := Aside0.mk hy291
               clear hy291
               have H' := Aside0.mk H
               clear H
               have p288 : 0 ≤ (x27_2 : Int) := of_decide_eq_true (by first | (with_reducible assumption) | assumption)
               have q288 : x27_2 < (l0.length : Int) := of_decide_eq_true (by first | (with_reducible assumption) | assumption)
               obtain ⟨ad288, e288, hx288_0⟩ := Kd.at_int HR0.out x27_2 p288 q288
               cases e288
               replace hx288_0 := (HB.out.cell (World.block_lt_of_cell? w _ hx288_0)).trans hx288_0
               replace p288 := eq_true p288
               replace q288 := eq_true q288
               go_wp2_with (first | ((with_reducible refine gate_callee (f := 54) rfl ?_); refine goesL_ (some 34) rfl rfl Try.func54 (by kernel_rfl) rfl #[.int .i64 (rd l0 x27_2), .int .i64 0, .int .i64 (wrap64 (a1 - 1))] rfl (by (try simp only [List.map_toArray, List.map_cons, List.map_nil]); first | done | rfl | (simp only [List.length_drop, List.length_take]; rfl)) ?_; (with_reducible refine (spec_l1In.calls (rd l0 x27_2) 0 (wrap64 (a1 - 1)) true _ A14.out).mono ?_); rintro e w' ⟨rfl, ⟨nd, rfl⟩⟩; refine ⟨_, rfl, ?_⟩; (try (rw [drewN_self wr]; generalize hq_ : World.drewN wr _ = wr; have n0_ := xM (Kd.R_at hq_ HO_6.out); have n1_ := xM (below_at hq_ HB.out); clear hq_ HO_6 HB; have HO_6 := n0_; have HB := n1_; clear n0_ n1_)); obtain ⟨Ao19, co19, eo19⟩ := Kd.R_slice HO_6.out; subst eo19; have p290 : 0 ≤ ((rd l0 x27_2) : Int) := of_decide_eq_true (by first | (with_reducible assumption) | assumption); have q290 : (rd l0 x27_2) < (x6_2.length : Int) := of_decide_eq_true (by first | (with_reducible assumption) | assumption); obtain ⟨ad290, e290, hx290_0⟩ := Kd.at_int (Kd.R_reads' HO_6.out).2.2 (rd l0 x27_2) p290 q290; cases e290; replace p290 := eq_true p290; replace q290 := eq_true q290; have p18 : 0 ≤ ((rd l0 x27_2) : Int) := of_decide_eq_true (by first | (with_reducible assumption) | assumption); have q18 : ((rd l0 x27_2) : Int) < ((x6_2.length : Int) : Int) := of_decide_eq_true (by first | (with_reducible assumption) | assumption); obtain ⟨go18, co18, eo18, gb18, gl18, cl18, HG18⟩ := Kd.R_form HO_6.out (by omega); (first | cases eo18 | (injection eo18 with ea_ en_ ec_; (first | subst ea_ | (injection ea_ with ea_; subst ea_)); subst ec_; clear en_)); have GB18 := Aside0.mk gb18; have GG18 := Aside0.mk HG18; clear gb18 gl18 HG18; (first | simp only [add_plain] at hx290_0 | skip); obtain ⟨hx18_0, hf18_0⟩ := Kd.R_celln 0 HO_6.out ((rd l0 x27_2) : Int) p18 q18; replace p18 := eq_true p18; replace q18 := eq_true q18; obtain ⟨hy20_, hz20_⟩ := Kd.R_celln 0 HO_6.out ((rd l0 x27_2) : Int) (of_decide_eq_true (by first | (with_reducible assumption) | assumption)) (of_decide_eq_true (by first | (with_reducible assumption) | assumption)); have HP20 := Kd.R_putg HO_6.out ((rd l0 x27_2) : Int) (wrap64 ((rd x6_2 (rd l0 x27_2)) + 1))) | ((with_reducible refine gate_store (t := 3) (p := 41) rfl ?_); refine store_event (t := 3) (p := 41) (v := ?vo_w21) (w1 := (wr.setCell ⟨go18, ((rd l0 x27_2) : Int).toNat, none⟩ (.int .i64 (wrap64 ((rd x6_2 (rd l0 x27_2)) + 1))))) ?hg ?ho ?hn ?hr ?_; (case ho => rfl); (case hg => rfl); (case hn => rfl); (case hr => first | (go_simp; done) | (go_simp; rfl)); intro w21 hw; have hg : wr.grownBy w21 (some go18) := (by rw [hw]; exact HP20.2); have hp_ : Kd.R (Kd.int .i64) 3 w21 w.heap.size (fun _ => True) (.slice (some ⟨go18, 0, none⟩) x6_2.length co19) y291 := (by rw [hw, Ny291.out]; exact HP20.1); clear HP20; replace HO_6 := xM (hp_); replace HB := xM ((by rw [hw]; exact below_set (HB.out) GB18.out : Below w.heap.size w w21)); clear hg hw hp_))
               go_roundg k2
               case measure => have := HJ2.out; have := HK2.out; omega
               case rel => exact ⟨(y291), (wrap64 (x27_2 + 1)), (by first | rfl | (simp; done) | (simp [*]; done)), H', ⟨by have := HJ2.out; have := HK2.out; omega⟩, ⟨yR HO_6⟩, ⟨yh HB⟩⟩
              ·rw [if_neg c17] at H
               exact absurd H (by simp)
             ·rw [if_neg c16] at H
              exact absurd H (by simp)
            ·replace c15 := Bool.eq_false_iff.mpr c15
             subst c15
             have H1 : (some (([] : List Int), false)) = some (r1, r2) := by rw [if_neg (show ¬ (false = true) by decide)] at H; exact H
             clear H
             have H := H1
             clear H1
             simp only [Option.some.injEq, Prod.mk.injEq] at H
             obtain ⟨rfl, rfl⟩ := H
             have p288 : 0 ≤ (x27_2 : Int) := of_decide_eq_true (by first | (with_reducible assumption) | assumption)
             have q288 : x27_2 < (l0.length : Int) := of_decide_eq_true (by first | (with_reducible assumption) | assumption)
             obtain ⟨ad288, e288, hx288_0⟩ := Kd.at_int HR0.out x27_2 p288 q288
             cases e288
             replace hx288_0 := (HB.out.cell (World.block_lt_of_cell? w _ hx288_0)).trans hx288_0
             replace p288 := eq_true p288
             replace q288 := eq_true q288
             go_wp2_with (first | ((with_reducible refine gate_callee (f := 54) rfl ?_); refine goesL_ (some 34) rfl rfl Try.func54 (by kernel_rfl) rfl #[.int .i64 (rd l0 x27_2), .int .i64 0, .int .i64 (wrap64 (a1 - 1))] rfl (by (try simp only [List.map_toArray, List.map_cons, List.map_nil]); first | done | rfl | (simp only [List.length_drop, List.length_take]; rfl)) ?_; (with_reducible refine (spec_l1In.calls (rd l0 x27_2) 0 (wrap64 (a1 - 1)) false _ A14.out).mono ?_); rintro e w' ⟨rfl, ⟨nd, rfl⟩⟩; refine ⟨_, rfl, ?_⟩))
             go_ret2
             exact ⟨_, by first | rfl | (simp [errW_none, errW_some] <;> rfl) | (simp [*, errW_none, errW_some] <;> rfl), by first | exact Kd.R_nil _ _ _ _ _ | exact Kd.N_nil _ _ _ _ _ | exact Kd.V_nil _ _ _ _ _ | exact Kd.Q_nil _ _ _ _ _ | exact Kd.S_nil _ _ _ _ _, by repeat (first | (with_reducible first | exact HB.out | apply xa | apply xn | apply xd) | exact HB.out)⟩
           ·rw [if_neg c13] at H
            exact absurd H (by simp)
          ·rw [if_neg c12] at H
           exact absurd H (by simp)
         ·rw [if_neg c11] at H
          have c11b0 : decide (x27_2 < (l0.length : Int)) = false := decide_eq_false c11
          clear c11
          have H' := Aside0.mk H
          clear H
          obtain ⟨Ao22, co22, eo22⟩ := Kd.R_slice HO_6.out
          subst eo22
          go_wp2
          go_loopg [10, 11, 48] k2 (fun kq v10 v11 v48 w' => ∃ (x10_3 : Int) (x11_3 : List Int) (x48_3 : Int), v10 = .int .i64 x10_3 ∧ v48 = .int .i64 x48_3 ∧ Aside0 (spec_CountsFor.l1 kq l0 (wrap64 (64 - a1)) x10_3 x11_3 x6_2 (x6_2.length : Int) x48_3 = some (r1, r2)) ∧ Aside0 (kq ≤ k2) ∧ Aside0 (Kd.R (Kd.int .i64) 3 w' w.heap.size (fun k_ => some k_ ≠ ((.slice Ao22 x6_2.length co22) : Value).ownBlock) v11 x11_3) ∧ Aside0 (Kd.R (Kd.int .i64) 3 w' w.heap.size (fun k_ => some k_ ≠ (v11 : Value).ownBlock) (.slice Ao22 x6_2.length co22) x6_2) ∧ Aside0 (Below w.heap.size w w'))
          case atStart => exact ⟨(wrap64 (64 - a1)), (([] : List Int)), (0), (by first | rfl | (simp; done) | (simp [*]; done)), (by first | rfl | (simp; done) | (simp [*]; done)), H', ⟨Nat.le_refl _⟩, ⟨by first | exact Kd.R_nil _ _ _ _ _ | exact Kd.N_nil _ _ _ _ _ | exact Kd.V_nil _ _ _ _ _ | exact Kd.Q_nil _ _ _ _ _ | exact Kd.S_nil _ _ _ _ _⟩, ⟨by (with_reducible repeat (first | apply xRA | apply xRN | apply xRD)); exact Kd.R_mono HO_6.out (fun _ hk => (by simp [Value.ownBlock]))⟩, ⟨yh HB⟩⟩
          case round =>
           clear H'
           try clear c1
           try clear p1
           try clear q1
           try clear hx1
           try clear p2
           try clear q2
           try clear hx2
           try clear c5
           try clear c6
           try clear p6
           try clear c7
           try clear c7b0
           try clear c7b1
           try clear c8
           try clear c8b0
           try clear c8b1
           try clear c11
           try clear c11b0
           try clear c12
           try clear c12b0
           try clear c13
           try clear c13b0
           try clear c15
           try clear c16
           try clear c16b0
           try clear c17
           try clear c17b0
           try clear p18
           try clear q18
           try clear hx18
           try clear hf18
           try clear hx18_0
           try clear hx288_0
           try clear hx290_0
           try clear p18
           try clear p2
           try clear p288
           try clear p290
           try clear q18
           try clear q288
           try clear q290
           obtain ⟨x10_3, x11_3, x48_3, rfl, rfl, HA, HK3, HO_11, HO_46, HB⟩ := hrel
           cases gk with
           | zero => exact absurd HA.out (by simp [spec_CountsFor.l1])
           | succ k3 =>
            have H := HA.out
            clear HA
            simp only [spec_CountsFor.l1] at H
            by_cases c23 : x48_3 < (x6_2.length : Int)
            ·rw [if_pos c23] at H
             have c23b0 : decide (x48_3 < (x6_2.length : Int)) = true := decide_eq_true c23
             clear c23
             by_cases c24 : 0 ≤ x48_3
             ·rw [if_pos c24] at H
              have c24b0 : decide (0 ≤ x48_3) = true := decide_eq_true c24
              clear c24
              by_cases c25 : x48_3 < (x6_2.length : Int)
              ·rw [if_pos c25] at H
               have c25b0 : decide (x48_3 < (x6_2.length : Int)) = true := decide_eq_true c25
               clear c25
               by_cases c26 : (l0.length : Int) > 0
               ·rw [if_pos c26] at H
                have c26b0 : decide (0 < (l0.length : Int)) = true := decide_eq_true c26
                have c26b1 : decide (0 < l0.length) = true := decide_eq_true (by omega)
                clear c26
                by_cases c27 : (l0.length : Int) = 0
                ·rw [if_pos c27] at H
                 exact absurd H (by simp)
                ·rw [if_neg c27] at H
                 have c27b0 : ((l0.length : Int) == 0) = false := beq_eq_false_iff_ne.mpr c27
                 have c27b1 : ((l0.length : Int) != 0) = true := bne_iff_ne.mpr c27
                 have c27b2 : ¬ (l0 = []) := fun h_ => c27 (by rw [h_]; rfl)
                 by_cases c28 : x11_3.length < 17592186044416
                 ·rw [if_pos c28] at H
                  have LMc28 := Aside0.mk c28
                  clear c28
                  obtain ⟨y293, hy293⟩ : ∃ y_ : List Int, y_ = (x11_3 ++ [wrap64 (1 + (wrap64 (Int.tdiv (wrap64 ((rd x6_2 x48_3) * (wrap64 (64 - a1)))) (l0.length : Int))))]) := ⟨_, rfl⟩
                  replace H : (spec_CountsFor.l1 k3 l0 (wrap64 (64 - a1)) (wrap64 (x10_3 - (wrap64 (Int.tdiv (wrap64 ((rd x6_2 x48_3) * (wrap64 (64 - a1)))) (l0.length : Int))))) y293 x6_2 (x6_2.length : Int) (wrap64 (x48_3 + 1))) = some (r1, r2) := by first | (rw [hy293]; with_reducible exact H) | (have H2_ := (Option.bind_some _ _).symm.trans H; rw [hy293]; with_reducible exact H2_) | (have H2_ := (Option.bind_some _ _).symm.trans H; with_reducible exact H2_) | with_reducible exact H | (rw [hy293]; exact H) | exact H
                  have Ny293 := Aside0.mk hy293
                  clear hy293
                  have H' := Aside0.mk H
                  clear H
                  have p292 : 0 ≤ (x48_3 : Int) := of_decide_eq_true (by first | (with_reducible assumption) | assumption)
                  have q292 : x48_3 < (x6_2.length : Int) := of_decide_eq_true (by first | (with_reducible assumption) | assumption)
                  obtain ⟨ad292, e292, hx292_0⟩ := Kd.at_int (Kd.R_reads' HO_46.out).2.2 x48_3 p292 q292
                  cases e292
                  replace p292 := eq_true p292
                  replace q292 := eq_true q292
                  go_wp2_with (first | ((with_reducible refine gate_builtin (b := .append) (xs := #[.tmp 64, .tmp 67]) rfl ?_); (try (refine gate_guard (by rfl) ?_; dsimp only)); at_builtin; refine Kd.R_append (Kd.int .i64) (w0 := w) w.heap.size rfl (.tmp 64) (.tmp 67) 22 3 (.int .i64 0) 8 rfl Try.underlying22 info3 rfl (by decide) (by omega) u11 x11_3 (wrap64 (1 + (wrap64 (Int.tdiv (wrap64 ((rd x6_2 x48_3) * (wrap64 (64 - a1)))) (l0.length : Int))))) [.int .i64 (wrap64 (1 + (wrap64 (Int.tdiv (wrap64 ((rd x6_2 x48_3) * (wrap64 (64 - a1)))) (l0.length : Int)))))] (fun k_ => some k_ ≠ (.slice (some ad292) x6_2.length co22 : Value).ownBlock) (fun _ => False) rfl rfl ?aP (fun _ hk => hk.elim) ?aF ?aO ?aB ?aS ?aL ?_; (case aP => exact rfl); (case aB => exact (yh HB)); (case aF => exact (fun k_ hk => Kd.fresh' (xL (yR HO_46)) k_ hk)); (case aO => exact (yR HO_11)); (case aS => exact (below_size (yh HB))); (case aL => have := LMc28.out; omega); intro v294 w29 ho hb hg hat; rw [← Ny293.out] at ho; have n0_ := xM (Kd.R_after (ok := (fun _ => True)) (by (with_reducible repeat (first | apply xRA | apply xRN | apply xRD)); exact Kd.R_mono HO_46.out (fun _ hk => ⟨trivial, hk⟩)) hg hat); have n1_ := xM (hb); have n2_ := xM (ho); clear HO_46; clear HB; clear HO_11; have HO_46 := n0_; have HB := n1_; have HO295 := n2_; clear n0_ n1_ n2_; clear ho hb hg hat))
                  go_roundg k3
                  case measure => have := HJ2.out; have := HK2.out; have := HK3.out; omega
                  case rel => exact ⟨(wrap64 (x10_3 - (wrap64 (Int.tdiv (wrap64 ((rd x6_2 x48_3) * (wrap64 (64 - a1)))) (l0.length : Int))))), (y293), (wrap64 (x48_3 + 1)), (by first | rfl | (simp; done) | (simp [*]; done)), (by first | rfl | (simp; done) | (simp [*]; done)), H', ⟨by have := HJ2.out; have := HK2.out; have := HK3.out; omega⟩, ⟨yR HO295⟩, ⟨by (with_reducible repeat (first | apply xRA | apply xRN | apply xRD)); exact Kd.R_mono HO_46.out (fun _ hk => hk.2)⟩, ⟨yh HB⟩⟩
                 ·rw [if_neg c28] at H
                  exact absurd H (by simp)
               ·rw [if_neg c26] at H
                have c26b0 : decide (0 < (l0.length : Int)) = false := decide_eq_false c26
                have c26b1 : decide (0 < l0.length) = false := decide_eq_false (by omega)
                clear c26
                by_cases c30 : x11_3.length < 17592186044416
                ·rw [if_pos c30] at H
                 have LMc30 := Aside0.mk c30
                 clear c30
                 obtain ⟨y296, hy296⟩ : ∃ y_ : List Int, y_ = (x11_3 ++ [1 + 0]) := ⟨_, rfl⟩
                 replace H : (spec_CountsFor.l1 k3 l0 (wrap64 (64 - a1)) (wrap64 (x10_3 - 0)) y296 x6_2 (x6_2.length : Int) (wrap64 (x48_3 + 1))) = some (r1, r2) := by first | (rw [hy296]; with_reducible exact H) | (have H2_ := (Option.bind_some _ _).symm.trans H; rw [hy296]; with_reducible exact H2_) | (have H2_ := (Option.bind_some _ _).symm.trans H; with_reducible exact H2_) | with_reducible exact H | (rw [hy296]; exact H) | exact H
                 have Ny296 := Aside0.mk hy296
                 clear hy296
                 have H' := Aside0.mk H
                 clear H
                 have p292 : 0 ≤ (x48_3 : Int) := of_decide_eq_true (by first | (with_reducible assumption) | assumption)
                 have q292 : x48_3 < (x6_2.length : Int) := of_decide_eq_true (by first | (with_reducible assumption) | assumption)
                 obtain ⟨ad292, e292, hx292_0⟩ := Kd.at_int (Kd.R_reads' HO_46.out).2.2 x48_3 p292 q292
                 cases e292
                 replace p292 := eq_true p292
                 replace q292 := eq_true q292
                 go_wp2_with (first | ((with_reducible refine gate_builtin (b := .append) (xs := #[.tmp 64, .tmp 67]) rfl ?_); (try (refine gate_guard (by rfl) ?_; dsimp only)); at_builtin; refine Kd.R_append (Kd.int .i64) (w0 := w) w.heap.size rfl (.tmp 64) (.tmp 67) 22 3 (.int .i64 0) 8 rfl Try.underlying22 info3 rfl (by decide) (by omega) u11 x11_3 1 [.int .i64 1] (fun k_ => some k_ ≠ (.slice (some ad292) x6_2.length co22 : Value).ownBlock) (fun _ => False) rfl rfl ?aP (fun _ hk => hk.elim) ?aF ?aO ?aB ?aS ?aL ?_; (case aP => exact rfl); (case aB => exact (yh HB)); (case aF => exact (fun k_ hk => Kd.fresh' (xL (yR HO_46)) k_ hk)); (case aO => exact (yR HO_11)); (case aS => exact (below_size (yh HB))); (case aL => have := LMc30.out; omega); intro v297 w31 ho hb hg hat; rw [show x11_3 ++ [(1 : Int)] = x11_3 ++ [1 + 0] from rfl, ← Ny296.out] at ho; have n0_ := xM (Kd.R_after (ok := (fun _ => True)) (by (with_reducible repeat (first | apply xRA | apply xRN | apply xRD)); exact Kd.R_mono HO_46.out (fun _ hk => ⟨trivial, hk⟩)) hg hat); have n1_ := xM (hb); have n2_ := xM (ho); clear HO_46; clear HB; clear HO_11; have HO_46 := n0_; have HB := n1_; have HO298 := n2_; clear n0_ n1_ n2_; clear ho hb hg hat))
                 go_roundg k3
                 case measure => have := HJ2.out; have := HK2.out; have := HK3.out; omega
                 case rel => exact ⟨(wrap64 (x10_3 - 0)), (y296), (wrap64 (x48_3 + 1)), (by first | rfl | (simp; done) | (simp [*]; done)), (by first | rfl | (simp; done) | (simp [*]; done)), H', ⟨by have := HJ2.out; have := HK2.out; have := HK3.out; omega⟩, ⟨yR HO298⟩, ⟨by (with_reducible repeat (first | apply xRA | apply xRN | apply xRD)); exact Kd.R_mono HO_46.out (fun _ hk => hk.2)⟩, ⟨yh HB⟩⟩
                ·rw [if_neg c30] at H
                 exact absurd H (by simp)
              ·rw [if_neg c25] at H
               exact absurd H (by simp)
             ·rw [if_neg c24] at H
              exact absurd H (by simp)
            ·rw [if_neg c23] at H
             have c23b0 : decide (x48_3 < (x6_2.length : Int)) = false := decide_eq_false c23
             clear c23
             by_cases c32 : 0 < (x11_3.length : Int)
             ·rw [if_pos c32] at H
              have c32b0 : decide (0 < (x11_3.length : Int)) = true := decide_eq_true c32
              have c32b1 : decide (0 < x11_3.length) = true := decide_eq_true (by omega)
              clear c32
              obtain ⟨y300, hy300⟩ : ∃ y_ : List Int, y_ = (x11_3.set (0 : Int).toNat (wrap64 ((rd x11_3 0) + x10_3))) := ⟨_, rfl⟩
              replace H : (some (y300, true)) = some (r1, r2) := by first | (rw [hy300]; with_reducible exact H) | (have H2_ := (Option.bind_some _ _).symm.trans H; rw [hy300]; with_reducible exact H2_) | (have H2_ := (Option.bind_some _ _).symm.trans H; with_reducible exact H2_) | with_reducible exact H | (rw [hy300]; exact H) | exact H
              have Ny300 := Aside0.mk hy300
              clear hy300
              simp only [Option.some.injEq, Prod.mk.injEq] at H
              obtain ⟨rfl, rfl⟩ := H
              obtain ⟨Ao34, co34, eo34⟩ := Kd.R_slice HO_11.out
              subst eo34
              have p299 : 0 ≤ (0 : Int) := (by omega)
              have q299 : 0 < (x11_3.length : Int) := of_decide_eq_true (by first | (with_reducible assumption) | assumption)
              obtain ⟨ad299, e299, hx299_0⟩ := Kd.at_int (Kd.R_reads' HO_11.out).2.2 0 p299 q299
              cases e299
              have qi299 : (0 < x11_3.length) = True := eq_true (by omega)
              (try rw [show ((0 : Int)).toNat = 0 from rfl] at hx299_0)
              (try rw [Addr.add_zero'] at hx299_0)
              replace p299 := eq_true p299
              replace q299 := eq_true q299
              have p33 : 0 ≤ (0 : Int) := (by omega)
              have q33 : (0 : Int) < ((x11_3.length : Int) : Int) := of_decide_eq_true (by first | (with_reducible assumption) | assumption)
              have qi33 : (0 < x11_3.length) = True := eq_true (by omega)
              obtain ⟨go33, co33, eo33, gb33, gl33, cl33, HG33⟩ := Kd.R_form HO_11.out (by omega)
              (first | cases eo33 | (injection eo33 with ea_ en_ ec_; (first | subst ea_ | (injection ea_ with ea_; subst ea_)); subst ec_; clear en_))
              have GB33 := Aside0.mk gb33
              have GG33 := Aside0.mk HG33
              clear gb33 gl33 HG33
              (first | simp only [add_plain] at hx299_0 | skip)
              obtain ⟨hx33_0, hf33_0⟩ := Kd.R_celln 0 HO_11.out (0 : Int) p33 q33
              (try rw [show ((0 : Int)).toNat = 0 from rfl] at hx33_0)
              (try simp only [Nat.reduceMul, Nat.zero_mul, Nat.zero_add, Nat.reduceAdd] at hx33_0)
              (try rw [show ((0 : Int)).toNat = 0 from rfl] at hf33_0)
              (try simp only [Nat.reduceMul, Nat.zero_mul, Nat.zero_add, Nat.reduceAdd] at hf33_0)
              replace p33 := eq_true p33
              replace q33 := eq_true q33
              have HP35 := Kd.R_putg HO_11.out (0 : Int) (wrap64 ((rd x11_3 0) + x10_3))
              go_wp2_with (first | ((with_reducible refine gate_store (t := 3) (p := 75) rfl ?_); refine store_event (t := 3) (p := 75) (v := ?vo_w36) (w1 := (wr.setCell ⟨go33, (0 : Int).toNat, none⟩ (.int .i64 (wrap64 ((rd x11_3 0) + x10_3))))) ?hg ?ho ?hn ?hr ?_; (case ho => rfl); (case hg => rfl); (case hn => rfl); (case hr => first | (go_simp; done) | (go_simp; rfl)); intro w36 hw; have hg : wr.grownBy w36 (some go33) := (by rw [hw]; exact HP35.2); have hp_ : Kd.R (Kd.int .i64) 3 w36 w.heap.size (fun k_ => some k_ ≠ (.slice Ao22 x6_2.length co22 : Value).ownBlock) (.slice (some ⟨go33, 0, none⟩) x11_3.length co34) y300 := (by rw [hw, Ny300.out]; exact HP35.1); clear HP35; replace HO_11 := xM (hp_); replace HO_46 := xM (Kd.R_after (v := (.slice (some ⟨go33, 0, none⟩) x11_3.length co34)) (v1 := (.slice (some ⟨go33, 0, none⟩) x11_3.length co34)) (ok := (fun _ => True)) (by (with_reducible repeat (first | apply xRA | apply xRN | apply xRD)); exact Kd.R_mono HO_46.out (fun _ hk => ⟨trivial, hk⟩)) hg (.inl rfl)); replace HB := xM ((by rw [hw]; exact below_set (HB.out) GB33.out : Below w.heap.size w w36)); clear hg hw hp_))
              go_ret2
              exact ⟨_, by first | rfl | (simp [errW_none, errW_some] <;> rfl) | (simp [*, errW_none, errW_some] <;> rfl), by (with_reducible repeat (first | apply xRA | apply xRN | apply xRD)); exact Kd.R_mono HO_11.out (fun _ hk => trivial), by repeat (first | (with_reducible first | exact HB.out | apply xa | apply xn | apply xd) | exact HB.out)⟩
             ·rw [if_neg c32] at H
              exact absurd H (by simp)
      ·rw [if_neg c8] at H
       exact absurd H (by simp)
     ·rw [if_neg c7] at H
      exact absurd H (by simp)

end Go.Proofs.Ytppgkkejddjacaa.PFnAns

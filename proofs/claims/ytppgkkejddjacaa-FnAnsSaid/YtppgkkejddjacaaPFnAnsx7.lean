-- This text was written by the session's own program wip/tools/xprint.py, over the kit's print; Lean checks it.
import Derived.Test.YtppgkkejddjacaaPFnAnsx0
import Derived.Test.YtppgkkejddjacaaPFnAnsx1
import Derived.Test.YtppgkkejddjacaaPFnAnsx2
import Derived.Test.YtppgkkejddjacaaPFnAnsx5
import Derived.Test.YtppgkkejddjacaaPFnAnsx6
namespace Go.Proofs.Ytppgkkejddjacaa.PFnAns
open Go.RowKit Go.Proofs.YtppgkkejddjacaaW.PrintWords Go.Proofs.YtppgkkejddjacaaW.PrintLast Go.Proofs.YtppgkkejddjacaaW.PrintMore
attribute [local go_sem] max2_int min2_int max_two min_two max_three min_three max_four min_four   -- for this text's walks alone
set_option linter.unusedVariables false
set_option linter.unusedSimpArgs false

/-! ### impl_TakeSymbol: function 34 -/
def impl_TakeSymbol.j0 : Nat → List Int → Bool → Int → List Int → Option (Int × Int × List Int × Bool)
  | 0, _, _, _, _ => none
  | k + 1, x0, x17, x221000, x221001 => if x17 = true then (some (0, 0, ([] : List Int), false)) else ((impl_ownCoded.f x221000 x221001).bind fun bt224 => ((impl_taken.f k x0 bt224.1 bt224.2).bind fun bt228 => (if bt228.2.2.2 = true then (some (bt228.1, bt228.2.1, bt228.2.2.1, true)) else (some (0, 0, ([] : List Int), false)))))
def impl_TakeSymbol.f (k : Nat) (l0 : List Int) (a1_0 : Int) (l1_1 : List Int) : Option (Int × Int × List Int × Bool) := (impl_GoodCounts.f k l0).bind fun t222 => (if t222 = true then ((impl_isCoded.f a1_0 l1_1).bind fun t223 => (impl_TakeSymbol.j0 k l0 (!t223) a1_0 l1_1)) else (impl_TakeSymbol.j0 k l0 true a1_0 l1_1))
theorem impl_TakeSymbol.mono_l : ∀ k, (∀ y0 y1 y2 y3, LeO (impl_TakeSymbol.j0 k y0 y1 y2 y3) (impl_TakeSymbol.j0 (k + 1) y0 y1 y2 y3))
  | 0 => fun _ _ _ _ r h => by simp [impl_TakeSymbol.j0] at h
  | k + 1 => by
   have ih0 := impl_TakeSymbol.mono_l k
   ·intro y0 y1 y2 y3
    unfold impl_TakeSymbol.j0
    repeat' first
    | (with_reducible exact ih0 _ _ _ _)
    | (with_reducible exact impl_GoodCounts.mono _ _)
    | (with_reducible exact impl_taken.mono _ _ _ _)
    | (with_reducible exact LeO.refl _)
    | (with_reducible exact LeO.none _)
    | (with_reducible refine LeO.ite ?_ ?_)
    | (with_reducible refine LeO.bind ?_ (fun _ => ?_))
    | exact ih0 _ _ _ _
    | exact impl_GoodCounts.mono _ _
    | exact impl_taken.mono _ _ _ _
    | exact LeO.none _
    | refine LeO.ite ?_ ?_
    | refine LeO.bind ?_ (fun _ => ?_)
theorem impl_TakeSymbol.mono : ∀ a0 a1 a2 k, LeO (impl_TakeSymbol.f k a0 a1 a2) (impl_TakeSymbol.f (k + 1) a0 a1 a2) := by
  intro a0 a1 a2 k
  have ih0 := impl_TakeSymbol.mono_l k
  unfold impl_TakeSymbol.f
  repeat' first
    | (with_reducible exact ih0 _ _ _ _)
    | (with_reducible exact impl_GoodCounts.mono _ _)
    | (with_reducible exact impl_taken.mono _ _ _ _)
    | (with_reducible exact LeO.refl _)
    | (with_reducible exact LeO.none _)
    | (with_reducible refine LeO.ite ?_ ?_)
    | (with_reducible refine LeO.bind ?_ (fun _ => ?_))
    | exact ih0 _ _ _ _
    | exact impl_GoodCounts.mono _ _
    | exact impl_taken.mono _ _ _ _
    | exact LeO.none _
    | refine LeO.ite ?_ ?_
    | refine LeO.bind ?_ (fun _ => ?_)
set_option maxHeartbeats 8000000 in
set_option maxRecDepth 100000 in
theorem impl_TakeSymbol.calls (k : Nat) (A0 : Option Addr) (c0 : Nat) (l0 : List Int) (a1_0 : Int) (A1_1 : Option Addr) (c1_1 : Nat) (l1_1 : List Int) (r1 : Int) (r2 : Int) (r3 : List Int) (r4 : Bool) (w : World) (hr0 : Kd.C (Kd.int .i64) w A0 l0.length l0) (hc0 : l0.length ≤ c0) (hr1_1 : Kd.C (Kd.int .i64) w A1_1 l1_1.length l1_1) (hc1_1 : l1_1.length ≤ c1_1) (h : impl_TakeSymbol.f k l0 a1_0 l1_1 = some (r1, r2, r3, r4)) :
   Calls Try.prog 34 #[.slice A0 l0.length c0, .agg #[.int .i64 a1_0, .slice A1_1 l1_1.length c1_1]] w fun e w' => ∃ v2_ : Value, e = .returned (.tuple #[.int .i64 r1, .agg #[.int .i64 r2, v2_], .bool r4]) ∧ Kd.R (Kd.int .i64) 3 w' w.heap.size (fun _ => True) v2_ r3 ∧ Below w.heap.size w w' := by
  have hu33 := Try.underlying33
  have HR0 := Aside0.mk hr0
  have HC0 := Aside0.mk hc0
  clear hr0 hc0
  have HR1_1 := Aside0.mk hr1_1
  have HC1_1 := Aside0.mk hc1_1
  clear hr1_1 hc1_1
  have HB := xM (Below.refl w.heap.size w)
  have H : ((impl_GoodCounts.f k l0).bind fun t222 => (if t222 = true then ((impl_isCoded.f a1_0 l1_1).bind fun t223 => (impl_TakeSymbol.j0 k l0 (!t223) a1_0 l1_1)) else (impl_TakeSymbol.j0 k l0 true a1_0 l1_1))) = some (r1, r2, r3, r4) := h
  clear h
  have HC3 := Aside0.mk H
  clear H
  go_enter Try.func34, Try.ntmps34
  go_upto_region 1 with (first | ((with_reducible refine gate_dst (N := 3) rfl ?_); refine box_event ?hg (N := 3) ?hd (cs := #[.int .i64 a1_0, .slice A1_1 l1_1.length c1_1]) (t := 33) ?hr ?_; (case hd => rfl); (case hg => rfl); (case hr => first | (go_simp; done) | (go_simp; rfl)); intro gb220 hg w4 hbox hb; have BK220 := xM (hbox); have GW220 := xM ((by rw [hg]; exact (below_size (yh HB)) : w.heap.size ≤ gb220)); have GE220 := xM ((by rw [hg]; exact (below_size (yh HB)) : w.heap.size ≤ gb220)); replace HB := xM (below_step (yh HB) hb); clear hb hbox hg) | ((with_reducible refine gate_dst (N := 5) rfl ?_); refine box_event ?hg (N := 5) ?hd (cs := #[.int .i64 0, .slice none 0 0]) (t := 33) ?hr ?_; (case hd => rfl); (case hg => rfl); (case hr => first | (go_simp; done) | (go_simp; rfl)); intro gb221 hg w5 hbox hb; have BK221 := xM (hbox); have GW221 := xM ((by rw [hg]; exact (below_size (yh HB)) : w.heap.size ≤ gb221)); have GE221 := xM ((by rw [hg]; exact (below_size (yh HB)) : w.heap.size ≤ gb221)); have NB220_221 := xM ((by rw [hg]; exact Nat.ne_of_lt (blk_lt (yb BK220)) : gb220 ≠ gb221)); have NB221_220 := xM ((by rw [hg]; exact Nat.ne_of_gt (blk_lt (yb BK220)) : gb221 ≠ gb220)); replace BK220 := xM (xB (yb BK220) hb); replace HB := xM (below_step (yh HB) hb); clear hb hbox hg))
  (try simp only [Act.put, List.setIfInBounds_toArray, List.set_cons_zero, List.set_cons_succ])
  go_cut [17] (fun v17 wc => ∃ (kq : Nat) (x17_2 : Bool), v17 = .bool x17_2 ∧ Aside0 (impl_TakeSymbol.j0 kq l0 x17_2 a1_0 l1_1 = some (r1, r2, r3, r4)) ∧ Aside0 (kq ≤ k) ∧ Aside0 (wc.heap[gb220]? = some (.cells #[.int .i64 a1_0, (.slice A1_1 l1_1.length c1_1)] 33 (0, 0))) ∧ Aside0 (wc.heap[gb221]? = some (.cells #[.int .i64 0, (.slice none 0 0)] 33 (0, 0))) ∧ Aside0 (Below w.heap.size w wc))
  case first =>
   have H := HC3.out
   clear HC3
   replace H := Option.bind_eq_some_iff.mp H
   obtain ⟨t222, A60, H⟩ := H
   replace H : (if t222 = true then ((impl_isCoded.f a1_0 l1_1).bind fun t223 => (impl_TakeSymbol.j0 k l0 (!t223) a1_0 l1_1)) else (impl_TakeSymbol.j0 k l0 true a1_0 l1_1)) = some (r1, r2, r3, r4) := H
   have A6 := Aside0.mk A60
   clear A60
   by_cases c7 : t222 = true
   ·subst c7
    have H1 : ((impl_isCoded.f a1_0 l1_1).bind fun t223 => (impl_TakeSymbol.j0 k l0 (!t223) a1_0 l1_1)) = some (r1, r2, r3, r4) := by rw [if_pos rfl] at H; exact H
    clear H
    have H := H1
    clear H1
    replace H := Option.bind_eq_some_iff.mp H
    obtain ⟨t223, A80, H⟩ := H
    replace H : (impl_TakeSymbol.j0 k l0 (!t223) a1_0 l1_1) = some (r1, r2, r3, r4) := H
    have A8 := Aside0.mk A80
    clear A80
    have H' := Aside0.mk H
    clear H
    go_wp2_with (first | ((with_reducible refine gate_callee (f := 48) rfl ?_); refine goesL_ (some 11) rfl rfl Try.func48 (by kernel_rfl) rfl #[.slice A0 l0.length c0] rfl (by (try simp only [List.map_toArray, List.map_cons, List.map_nil]); first | done | rfl | (simp only [List.length_drop, List.length_take]; rfl)) ?_; (with_reducible refine (impl_GoodCounts.calls k _ _ l0 true _ ?side1 ?side2 A6.out).mono ?_); (case side1 => repeat (first | exact (Kd.C_below HR0.out HB.out) | (with_reducible refine Kd.C_alloc ?_ _) | (with_reducible refine Kd.C_drewN ?_ _) | (with_reducible refine Kd.C_drew ?_))); (case side2 => exact HC0.out); rintro e w' ⟨rfl, ⟨nd, rfl⟩⟩; refine ⟨_, rfl, ?_⟩; have hnb9 := NB220_221.out; have hnc9 := NB221_220.out; have hcz10_0 : w5.cell? ⟨gb220, 0, none⟩ = some (.int .i64 a1_0) := (blk_cell BK220.out 0).trans rfl; have hcz10_1 : w5.cell? ⟨gb220, 1, none⟩ = some (.slice A1_1 l1_1.length c1_1) := (blk_cell BK220.out 1).trans rfl; have hfz10_0 := blk_frozen BK220.out 0; have hfz10_1 := blk_frozen BK220.out 1) | (go_at_call 76; (with_reducible refine (impl_isCoded.calls a1_0 _ _ l1_1 t223 _ ?side1 ?side2 A8.out).mono ?_); (case side1 => repeat (first | exact (Kd.C_below HR1_1.out (yh HB)) | (with_reducible refine Kd.C_alloc ?_ _) | (with_reducible refine Kd.C_drewN ?_ _) | (with_reducible refine Kd.C_drew ?_))); (case side2 => exact HC1_1.out); rintro e w11 ⟨rfl, hb⟩; replace BK220 := xM (xB (yb BK220) hb); replace BK221 := xM (xB (yb BK221) hb); replace HB := xM (below_step (yh HB) hb); (try clear hb)))
    go_meet
    case rel => exact ⟨_, (!t223), (by first | rfl | (simp; done) | (simp [*]; done)), H', ⟨by first | omega | exact Nat.le_refl _⟩, ⟨by (with_reducible repeat (first | apply xbN | apply xbD | apply xbA)); exact BK220.out⟩, ⟨by (with_reducible repeat (first | apply xbN | apply xbD | apply xbA)); exact BK221.out⟩, ⟨yh HB⟩⟩
   ·replace c7 := Bool.eq_false_iff.mpr c7
    subst c7
    have H1 : (impl_TakeSymbol.j0 k l0 true a1_0 l1_1) = some (r1, r2, r3, r4) := by rw [if_neg (show ¬ (false = true) by decide)] at H; exact H
    clear H
    have H := H1
    clear H1
    have H' := Aside0.mk H
    clear H
    go_wp2_with (first | ((with_reducible refine gate_callee (f := 48) rfl ?_); refine goesL_ (some 11) rfl rfl Try.func48 (by kernel_rfl) rfl #[.slice A0 l0.length c0] rfl (by (try simp only [List.map_toArray, List.map_cons, List.map_nil]); first | done | rfl | (simp only [List.length_drop, List.length_take]; rfl)) ?_; (with_reducible refine (impl_GoodCounts.calls k _ _ l0 false _ ?side1 ?side2 A6.out).mono ?_); (case side1 => repeat (first | exact (Kd.C_below HR0.out HB.out) | (with_reducible refine Kd.C_alloc ?_ _) | (with_reducible refine Kd.C_drewN ?_ _) | (with_reducible refine Kd.C_drew ?_))); (case side2 => exact HC0.out); rintro e w' ⟨rfl, ⟨nd, rfl⟩⟩; refine ⟨_, rfl, ?_⟩))
    go_meet
    case rel => exact ⟨_, (true), (by first | rfl | (simp; done) | (simp [*]; done)), H', ⟨by first | omega | exact Nat.le_refl _⟩, ⟨by (with_reducible repeat (first | apply xbN | apply xbD | apply xbA)); exact BK220.out⟩, ⟨by (with_reducible repeat (first | apply xbN | apply xbD | apply xbA)); exact BK221.out⟩, ⟨yh HB⟩⟩
  case rest =>
   clear HC3
   try clear c1
   try clear p2
   try clear c3
   try clear c4
   try clear c7
   try clear c9
   try clear hcz10_0
   try clear hcz10_1
   try clear hfz10_0
   try clear hfz10_1
   obtain ⟨kq, x17_2, rfl, HA, HJ2, BK220, BK221, HB⟩ := hcut
   cases kq with
   | zero => exact absurd HA.out (by simp [impl_TakeSymbol.j0])
   | succ kj2 =>
    have H := HA.out
    clear HA
    simp only [impl_TakeSymbol.j0] at H
    by_cases c12 : x17_2 = true
    ·subst c12
     have H1 : (some (0, 0, ([] : List Int), false)) = some (r1, r2, r3, r4) := by rw [if_pos rfl] at H; exact H
     clear H
     have H := H1
     clear H1
     simp only [Option.some.injEq, Prod.mk.injEq] at H
     obtain ⟨rfl, rfl, rfl, rfl⟩ := H
     have hnb13 := NB221_220.out
     have hnc13 := NB220_221.out
     have hcz14_0 : wc.cell? ⟨gb221, 0, none⟩ = some (.int .i64 0) := (blk_cell BK221.out 0).trans rfl
     have hcz14_1 : wc.cell? ⟨gb221, 1, none⟩ = some (.slice none 0 0) := (blk_cell BK221.out 1).trans rfl
     have hfz14_0 := blk_frozen BK221.out 0
     have hfz14_1 := blk_frozen BK221.out 1
     go_wp2
     refine bodyPost_ret (results_list (rs := [.tmp 4, .cell 5 33, .tmp 6]) rfl (by simp) (.tmp (.cell gb221 33 #[.int .i64 0, .slice none 0 0] (0, 0) _ rfl (by (with_reducible repeat (first | apply xbN | apply xbD | apply xbA)); refine blk_put (cs := #[.int .i64 0, .slice none 0 0]) ?_ 1 _ rfl; (with_reducible repeat (first | apply xbN | apply xbD | apply xbA)); refine blk_put (cs := #[.int .i64 0, .slice none 0 0]) ?_ 0 _ rfl; (with_reducible repeat (first | apply xbN | apply xbD | apply xbA)); exact BK221.out) Try.underlying33 rfl (by kernel_rfl) (.tmp .nil)))) rfl ?_
     exact ⟨_, by first | rfl | (simp [errW_none, errW_some] <;> rfl) | (simp [*, errW_none, errW_some] <;> rfl), by first | exact Kd.R_nil _ _ _ _ _ | exact Kd.N_nil _ _ _ _ _ | exact Kd.V_nil _ _ _ _ _ | exact Kd.Q_nil _ _ _ _ _ | exact Kd.S_nil _ _ _ _ _, by repeat (first | (with_reducible first | exact HB.out | apply xa | apply xn | apply xd | refine xs ?_ GE220.out | refine xs ?_ GE221.out) | exact HB.out)⟩
    ·replace c12 := Bool.eq_false_iff.mpr c12
     subst c12
     have H1 : ((impl_ownCoded.f a1_0 l1_1).bind fun bt224 => ((impl_taken.f kj2 l0 bt224.1 bt224.2).bind fun bt228 => (if bt228.2.2.2 = true then (some (bt228.1, bt228.2.1, bt228.2.2.1, true)) else (some (0, 0, ([] : List Int), false))))) = some (r1, r2, r3, r4) := by rw [if_neg (show ¬ (false = true) by decide)] at H; exact H
     clear H
     have H := H1
     clear H1
     replace H := Option.bind_eq_some_iff.mp H
     obtain ⟨⟨t224, t225⟩, A150, H⟩ := H
     replace H : ((impl_taken.f kj2 l0 t224 t225).bind fun bt228 => (if bt228.2.2.2 = true then (some (bt228.1, bt228.2.1, bt228.2.2.1, true)) else (some (0, 0, ([] : List Int), false)))) = some (r1, r2, r3, r4) := H
     have A15 := Aside0.mk A150
     clear A150
     replace H := Option.bind_eq_some_iff.mp H
     obtain ⟨⟨t228, t229, t230, t233⟩, A160, H⟩ := H
     replace H : (if t233 = true then (some (t228, t229, t230, true)) else (some (0, 0, ([] : List Int), false))) = some (r1, r2, r3, r4) := H
     have A16 := Aside0.mk A160
     clear A160
     by_cases c17 : t233 = true
     ·subst c17
      have H1 : (some (t228, t229, t230, true)) = some (r1, r2, r3, r4) := by rw [if_pos rfl] at H; exact H
      clear H
      have H := H1
      clear H1
      simp only [Option.some.injEq, Prod.mk.injEq] at H
      obtain ⟨rfl, rfl, rfl, rfl⟩ := H
      have hnb18 := NB220_221.out
      have hnc18 := NB221_220.out
      have hcz19_0 : wc.cell? ⟨gb220, 0, none⟩ = some (.int .i64 a1_0) := (blk_cell BK220.out 0).trans rfl
      have hcz19_1 : wc.cell? ⟨gb220, 1, none⟩ = some (.slice A1_1 l1_1.length c1_1) := (blk_cell BK220.out 1).trans rfl
      have hfz19_0 := blk_frozen BK220.out 0
      have hfz19_1 := blk_frozen BK220.out 1
      try go_wp2_with (first | ((with_reducible refine gate_callee (f := 78) rfl ?_); refine goesL_ (some 22) rfl rfl Try.func78 (by kernel_rfl) rfl #[.agg #[.int .i64 a1_0, .slice A1_1 l1_1.length c1_1]] rfl (by (try simp only [List.map_toArray, List.map_cons, List.map_nil]); first | done | rfl | (simp only [List.length_drop, List.length_take]; rfl)) ?_; (with_reducible refine (impl_ownCoded.calls a1_0 _ _ l1_1 t224 t225 _ ?side1 ?side2 A15.out).mono ?_); (case side1 => repeat (first | exact (Kd.C_below HR1_1.out HB.out) | (with_reducible refine Kd.C_alloc ?_ _) | (with_reducible refine Kd.C_drewN ?_ _) | (with_reducible refine Kd.C_drew ?_))); (case side2 => exact HC1_1.out); rintro e w20 ⟨v226, rfl, ho0, hb⟩; refine ⟨_, rfl, ?_⟩; have HO227 := xM (Kd.R_lower ho0 (below_size (yh HB))); replace BK220 := xM (xB (yb BK220) hb); replace BK221 := xM (xB (yb BK221) hb); replace HB := xM (below_step (yh HB) hb); (try clear hb); (try clear ho0); obtain ⟨Ao21, co21, eo21⟩ := Kd.R_slice HO227.out; subst eo21) | ((with_reducible refine gate_callee (f := 77) rfl ?_); refine goesL_ (some 23) rfl rfl Try.func77 (by kernel_rfl) rfl #[.slice A0 l0.length c0, .agg #[.int .i64 t224, .slice Ao21 t225.length co21]] rfl (by (try simp only [List.map_toArray, List.map_cons, List.map_nil]); first | done | rfl | (simp only [List.length_drop, List.length_take]; rfl)) ?_; (with_reducible refine (impl_taken.calls kj2 _ _ l0 t224 (fun k_ => some k_ = (.slice Ao21 t225.length co21 : Value).ownBlock) (.slice Ao21 t225.length co21) t225 t228 t229 t230 true w _ ?side1 ?side2 ?side3 ?side4 A16.out).mono ?_); (case side1 => repeat (first | (with_reducible first | exact HB.out | apply xa | apply xn | apply xd | refine xs ?_ GE220.out | refine xs ?_ GE221.out) | exact HB.out)); (case side2 => exact Kd.C_kept_came (Kd.heap_int .i64) HR0.out (yh HB) (fun k_ hs_ => (fun e_ => Kd.R_base HO227.out k_ e_.symm) hs_)); (case side3 => exact HC0.out); (case side4 => exact Kd.R_tight rfl HO227.out); rintro e w22 ⟨v231, rfl, ho0, hb, hkp⟩; refine ⟨_, rfl, ?_⟩; have n0_ := xM (blk_kept (yb BK220) hkp (fun hs_ => (fun e_ => (Kd.R_ne HO227.out BK220.out (by decide)) e_) hs_)); have n1_ := xM (blk_kept (yb BK221) hkp (fun hs_ => (fun e_ => (Kd.R_ne HO227.out BK221.out (by decide)) e_) hs_)); have n2_ := xM (xO (ok' := fun k_ => True) ho0 (fun k_ hk_ => trivial)); have n3_ := xM (hb); clear BK220; clear BK221; clear HB; clear HO227; have BK220 := n0_; have BK221 := n1_; have HO232 := n2_; have HB := n3_; clear n0_ n1_ n2_ n3_; (try clear hb); (try clear hkp); (try clear ho0)) | ((with_reducible refine gate_dst (N := 8) rfl ?_); refine box_event ?hg (N := 8) ?hd (cs := #[.int .i64 0, .slice none 0 0]) (t := 33) ?hr ?_; (case hd => rfl); (case hg => rfl); (case hr => first | (go_simp; done) | (go_simp; rfl)); intro gb234 hg w23 hbox hb; have BK234 := xM (hbox); have GW234 := xM ((by rw [hg]; exact (below_size (yh HB)) : w.heap.size ≤ gb234)); have GE234 := xM ((by rw [hg]; exact (below_size (yh HB)) : w.heap.size ≤ gb234)); have NB220_234 := xM ((by rw [hg]; exact Nat.ne_of_lt (blk_lt (yb BK220)) : gb220 ≠ gb234)); have NB234_220 := xM ((by rw [hg]; exact Nat.ne_of_gt (blk_lt (yb BK220)) : gb234 ≠ gb220)); have NB221_234 := xM ((by rw [hg]; exact Nat.ne_of_lt (blk_lt (yb BK221)) : gb221 ≠ gb234)); have NB234_221 := xM ((by rw [hg]; exact Nat.ne_of_gt (blk_lt (yb BK221)) : gb234 ≠ gb221)); replace HO232 := xM (xW (yR HO232) hb); replace BK220 := xM (xB (yb BK220) hb); replace BK221 := xM (xB (yb BK221) hb); replace HB := xM (below_step (yh HB) hb); clear hb hbox hg; have hnb24 := NB234_220.out; have hnc24 := NB220_234.out; have hnb25 := NB234_221.out; have hnc25 := NB221_234.out; have hcz26_0 : w23.cell? ⟨gb234, 0, none⟩ = some (.int .i64 0) := (blk_cell BK234.out 0).trans rfl; have hcz26_1 : w23.cell? ⟨gb234, 1, none⟩ = some (.slice none 0 0) := (blk_cell BK234.out 1).trans rfl; have hfz26_0 := blk_frozen BK234.out 0; have hfz26_1 := blk_frozen BK234.out 1; obtain ⟨Ao27, co27, eo27⟩ := Kd.R_slice HO232.out; subst eo27))
      have n0_ : Aside0 (Kd.R (Kd.int .i64) 3 ((w23.setCell ⟨gb234, 0, none⟩ (.int .i64 t229)).setCell ⟨gb234, 1, none⟩ (.slice Ao27 t230.length co27)) w.heap.size (fun _ => True) (.slice Ao27 t230.length co27) t230) := ⟨by (with_reducible repeat (first | apply xRA | apply xRN | apply xRD)); exact xO (xF (p := ⟨gb234, 1, none⟩) (xF (p := ⟨gb234, 0, none⟩) (Kd.R_types HO232.out BK234.out (by decide)) (fun _ hk => hk.2) (.int .i64 t229)) (fun _ hk => hk.2) (.slice Ao27 t230.length co27)) (fun _ hk => trivial)⟩
      have n1_ : Aside0 (((w23.setCell ⟨gb234, 0, none⟩ (.int .i64 t229)).setCell ⟨gb234, 1, none⟩ (.slice Ao27 t230.length co27)).heap[gb220]? = some (.cells #[.int .i64 a1_0, .slice A1_1 l1_1.length c1_1] 33 (0, 0))) := ⟨by (with_reducible repeat (first | apply xbN | apply xbD | apply xbA)); refine blk_far ?_ NB220_234.out _; (with_reducible repeat (first | apply xbN | apply xbD | apply xbA)); refine blk_far ?_ NB220_234.out _; (with_reducible repeat (first | apply xbN | apply xbD | apply xbA)); exact BK220.out⟩
      have n2_ : Aside0 (((w23.setCell ⟨gb234, 0, none⟩ (.int .i64 t229)).setCell ⟨gb234, 1, none⟩ (.slice Ao27 t230.length co27)).heap[gb221]? = some (.cells #[.int .i64 0, .slice none 0 0] 33 (0, 0))) := ⟨by (with_reducible repeat (first | apply xbN | apply xbD | apply xbA)); refine blk_far ?_ NB221_234.out _; (with_reducible repeat (first | apply xbN | apply xbD | apply xbA)); refine blk_far ?_ NB221_234.out _; (with_reducible repeat (first | apply xbN | apply xbD | apply xbA)); exact BK221.out⟩
      have n3_ : Aside0 (((w23.setCell ⟨gb234, 0, none⟩ (.int .i64 t229)).setCell ⟨gb234, 1, none⟩ (.slice Ao27 t230.length co27)).heap[gb234]? = some (.cells #[.int .i64 t229, .slice Ao27 t230.length co27] 33 (0, 0))) := ⟨by (with_reducible repeat (first | apply xbN | apply xbD | apply xbA)); refine blk_put (cs := #[.int .i64 t229, .slice none 0 0]) ?_ 1 _ rfl; (with_reducible repeat (first | apply xbN | apply xbD | apply xbA)); refine blk_put (cs := #[.int .i64 0, .slice none 0 0]) ?_ 0 _ rfl; (with_reducible repeat (first | apply xbN | apply xbD | apply xbA)); exact BK234.out⟩
      have n4_ : Aside0 (Below w.heap.size w ((w23.setCell ⟨gb234, 0, none⟩ (.int .i64 t229)).setCell ⟨gb234, 1, none⟩ (.slice Ao27 t230.length co27))) := ⟨yh HB⟩
      (try clear HO232)
      (try clear BK220)
      (try clear BK221)
      (try clear BK234)
      (try clear HB)
      generalize ((w23.setCell ⟨gb234, 0, none⟩ (.int .i64 t229)).setCell ⟨gb234, 1, none⟩ (.slice Ao27 t230.length co27)) = w28 at n0_ n1_ n2_ n3_ n4_ ⊢
      have HO232 := n0_
      have BK220 := n1_
      have BK221 := n2_
      have BK234 := n3_
      have HB := n4_
      clear n0_ n1_ n2_ n3_ n4_
      replace HO232 := xM (Kd.R_drew HO232.out)
      replace BK220 := xM (blk_drew BK220.out)
      replace BK221 := xM (blk_drew BK221.out)
      replace BK234 := xM (blk_drew BK234.out)
      replace HB := xM (below_drew1 HB.out)
      refine start_ (n := 5) (S := fun w' => w'.cell? ⟨gb234, 0, none⟩ = some (.int .i64 t229) ∧ w'.cell? ⟨gb234, 1, none⟩ = some (.slice Ao27 t230.length co27)) (ds := []) #[false, false, false, false, false] (by kernel_rfl) rfl rfl ⟨(blk_cell BK234.out 0).trans rfl, (blk_cell BK234.out 1).trans rfl⟩ (fun hHeld => ?_)
      generalize w28.drew = w29 at HO232 BK220 BK221 BK234 HB hHeld ⊢
      refine pure_ (i := 0) (N := some 30) (v := ?_) (a' := ?_) #[true, false, false, false, false] rfl rfl (by kernel_rfl) (fun _ _ _ h => h) (Or.inl ⟨by rfl, ?_⟩) ?_ ?_
      rotate_left
      ·intro w'
       go_simp
       with_reducible rfl
      rotate_left
      ·simp only [Act.put, List.setIfInBounds_toArray, List.set_cons_zero, List.set_cons_succ, i64_w, i32_w]
       rfl
      refine pure_ (i := 2) (N := some 4) (v := ?_) (a' := ?_) #[true, false, true, false, false] rfl rfl (by kernel_rfl) (fun _ _ _ h => h) (Or.inl ⟨by rfl, ?_⟩) ?_ ?_
      rotate_left
      ·intro w'
       go_simp
       with_reducible rfl
      rotate_left
      ·simp only [Act.put, List.setIfInBounds_toArray, List.set_cons_zero, List.set_cons_succ, i64_w, i32_w]
       rfl
      refine take_ (i := 1) (N := some 31) (v := ?_) (a' := ?_) #[true, true, true, false, false] rfl rfl (by kernel_rfl) (fun _ _ _ h => h) (Or.inl ⟨by rfl, ?_⟩) hHeld ?_ ?_
      rotate_left
      ·rintro w' ⟨s0, s1⟩
       go_simp
       with_reducible rfl
      rotate_left
      ·simp only [Act.put, List.setIfInBounds_toArray, List.set_cons_zero, List.set_cons_succ, i64_w, i32_w]
       rfl
      refine one_ (i := 3) (N := none) #[true, true, true, true, false] rfl rfl (by kernel_rfl) (by decide) (fun K hK => ?_)
      have hs30 : w29.cell? ⟨gb221, 0, none⟩ = some (.int .i64 0) := (blk_cell BK221.out 0).trans rfl
      have hfs30 := blk_frozen BK221.out 0
      have hns30_0 := NB220_221.out
      have hns30_2 := NB234_221.out
      have hms30_0 := NB221_220.out
      have hms30_2 := NB221_234.out
      have hs31 : w29.cell? ⟨gb221, 1, none⟩ = some (.slice none 0 0) := (blk_cell BK221.out 1).trans rfl
      have hfs31 := blk_frozen BK221.out 1
      have hns31_0 := NB220_221.out
      have hns31_2 := NB234_221.out
      have hms31_0 := NB221_220.out
      have hms31_2 := NB221_234.out
      refine skip_ (w1 := ?_) (by rfl) rfl ?_ ?_
      rotate_left
      ·go_simp
       rfl
      refine hK.out _ _ ⟨((cell_far (p := ⟨gb221, _, none⟩) NB234_221.out _).trans (((cell_far (p := ⟨gb221, _, none⟩) NB234_221.out _).trans (hHeld.1)))), ((cell_far (p := ⟨gb221, _, none⟩) NB234_221.out _).trans (((cell_far (p := ⟨gb221, _, none⟩) NB234_221.out _).trans (hHeld.2))))⟩ (fun hHeld => ?_)
      clear hK K
      refine pure_ (i := 4) (N := some 6) (v := ?_) (a' := ?_) #[true, true, true, true, true] rfl rfl (by kernel_rfl) (fun _ _ _ h => h) (Or.inl ⟨by rfl, ?_⟩) ?_ ?_
      rotate_left
      ·intro w'
       go_simp
       with_reducible rfl
      rotate_left
      ·simp only [Act.put, List.setIfInBounds_toArray, List.set_cons_zero, List.set_cons_succ, i64_w, i32_w]
       rfl
      refine done_ (by kernel_rfl) ?_
      try go_wp2
      refine bodyPost_ret (results_list (rs := [.tmp 4, .cell 5 33, .tmp 6]) rfl (by simp) (.tmp (.cell gb221 33 #[.int .i64 t229, .slice Ao27 t230.length co27] (0, 0) _ rfl (by (with_reducible repeat (first | apply xbN | apply xbD | apply xbA)); refine blk_put (cs := #[.int .i64 t229, .slice none 0 0]) ?_ 1 _ rfl; (with_reducible repeat (first | apply xbN | apply xbD | apply xbA)); refine blk_put (cs := #[.int .i64 0, .slice none 0 0]) ?_ 0 _ rfl; (with_reducible repeat (first | apply xbN | apply xbD | apply xbA)); exact BK221.out) Try.underlying33 rfl (by kernel_rfl) (.tmp .nil)))) rfl ?_
      exact ⟨_, by first | rfl | (simp [errW_none, errW_some] <;> rfl) | (simp [*, errW_none, errW_some] <;> rfl), by (with_reducible repeat (first | apply xRA | apply xRN | apply xRD)); exact xO (xF (p := ⟨gb221, 1, none⟩) (xF (p := ⟨gb221, 0, none⟩) (Kd.R_types HO232.out BK221.out (by decide)) (fun _ hk => hk.2) (.int .i64 t229)) (fun _ hk => hk.2) (.slice Ao27 t230.length co27)) (fun _ hk => trivial), by repeat (first | (with_reducible first | exact HB.out | apply xa | apply xn | apply xd | refine xs ?_ GE220.out | refine xs ?_ GE221.out | refine xs ?_ GE234.out) | exact HB.out)⟩
     ·replace c17 := Bool.eq_false_iff.mpr c17
      subst c17
      have H1 : (some (0, 0, ([] : List Int), false)) = some (r1, r2, r3, r4) := by rw [if_neg (show ¬ (false = true) by decide)] at H; exact H
      clear H
      have H := H1
      clear H1
      simp only [Option.some.injEq, Prod.mk.injEq] at H
      obtain ⟨rfl, rfl, rfl, rfl⟩ := H
      have hnb32 := NB220_221.out
      have hnc32 := NB221_220.out
      have hcz33_0 : wc.cell? ⟨gb220, 0, none⟩ = some (.int .i64 a1_0) := (blk_cell BK220.out 0).trans rfl
      have hcz33_1 : wc.cell? ⟨gb220, 1, none⟩ = some (.slice A1_1 l1_1.length c1_1) := (blk_cell BK220.out 1).trans rfl
      have hfz33_0 := blk_frozen BK220.out 0
      have hfz33_1 := blk_frozen BK220.out 1
      go_wp2_with (first | ((with_reducible refine gate_callee (f := 78) rfl ?_); refine goesL_ (some 22) rfl rfl Try.func78 (by kernel_rfl) rfl #[.agg #[.int .i64 a1_0, .slice A1_1 l1_1.length c1_1]] rfl (by (try simp only [List.map_toArray, List.map_cons, List.map_nil]); first | done | rfl | (simp only [List.length_drop, List.length_take]; rfl)) ?_; (with_reducible refine (impl_ownCoded.calls a1_0 _ _ l1_1 t224 t225 _ ?side1 ?side2 A15.out).mono ?_); (case side1 => repeat (first | exact (Kd.C_below HR1_1.out HB.out) | (with_reducible refine Kd.C_alloc ?_ _) | (with_reducible refine Kd.C_drewN ?_ _) | (with_reducible refine Kd.C_drew ?_))); (case side2 => exact HC1_1.out); rintro e w34 ⟨v226, rfl, ho0, hb⟩; refine ⟨_, rfl, ?_⟩; have HO227 := xM (Kd.R_lower ho0 (below_size (yh HB))); replace BK220 := xM (xB (yb BK220) hb); replace BK221 := xM (xB (yb BK221) hb); replace HB := xM (below_step (yh HB) hb); (try clear hb); (try clear ho0); obtain ⟨Ao35, co35, eo35⟩ := Kd.R_slice HO227.out; subst eo35) | ((with_reducible refine gate_callee (f := 77) rfl ?_); refine goesL_ (some 23) rfl rfl Try.func77 (by kernel_rfl) rfl #[.slice A0 l0.length c0, .agg #[.int .i64 t224, .slice Ao35 t225.length co35]] rfl (by (try simp only [List.map_toArray, List.map_cons, List.map_nil]); first | done | rfl | (simp only [List.length_drop, List.length_take]; rfl)) ?_; (with_reducible refine (impl_taken.calls kj2 _ _ l0 t224 (fun k_ => some k_ = (.slice Ao35 t225.length co35 : Value).ownBlock) (.slice Ao35 t225.length co35) t225 t228 t229 t230 false w _ ?side1 ?side2 ?side3 ?side4 A16.out).mono ?_); (case side1 => repeat (first | (with_reducible first | exact HB.out | apply xa | apply xn | apply xd | refine xs ?_ GE220.out | refine xs ?_ GE221.out) | exact HB.out)); (case side2 => exact Kd.C_kept_came (Kd.heap_int .i64) HR0.out (yh HB) (fun k_ hs_ => (fun e_ => Kd.R_base HO227.out k_ e_.symm) hs_)); (case side3 => exact HC0.out); (case side4 => exact Kd.R_tight rfl HO227.out); rintro e w36 ⟨v231, rfl, ho0, hb, hkp⟩; refine ⟨_, rfl, ?_⟩; have n0_ := xM (blk_kept (yb BK220) hkp (fun hs_ => (fun e_ => (Kd.R_ne HO227.out BK220.out (by decide)) e_) hs_)); have n1_ := xM (blk_kept (yb BK221) hkp (fun hs_ => (fun e_ => (Kd.R_ne HO227.out BK221.out (by decide)) e_) hs_)); have n2_ := xM (xO (ok' := fun k_ => True) ho0 (fun k_ hk_ => trivial)); have n3_ := xM (hb); clear BK220; clear BK221; clear HB; clear HO227; have BK220 := n0_; have BK221 := n1_; have HO232 := n2_; have HB := n3_; clear n0_ n1_ n2_ n3_; (try clear hb); (try clear hkp); (try clear ho0)) | ((with_reducible refine gate_dst (N := 8) rfl ?_); refine box_event ?hg (N := 8) ?hd (cs := #[.int .i64 0, .slice none 0 0]) (t := 33) ?hr ?_; (case hd => rfl); (case hg => rfl); (case hr => first | (go_simp; done) | (go_simp; rfl)); intro gb234 hg w37 hbox hb; have BK234 := xM (hbox); have GW234 := xM ((by rw [hg]; exact (below_size (yh HB)) : w.heap.size ≤ gb234)); have GE234 := xM ((by rw [hg]; exact (below_size (yh HB)) : w.heap.size ≤ gb234)); have NB220_234 := xM ((by rw [hg]; exact Nat.ne_of_lt (blk_lt (yb BK220)) : gb220 ≠ gb234)); have NB234_220 := xM ((by rw [hg]; exact Nat.ne_of_gt (blk_lt (yb BK220)) : gb234 ≠ gb220)); have NB221_234 := xM ((by rw [hg]; exact Nat.ne_of_lt (blk_lt (yb BK221)) : gb221 ≠ gb234)); have NB234_221 := xM ((by rw [hg]; exact Nat.ne_of_gt (blk_lt (yb BK221)) : gb234 ≠ gb221)); replace HO232 := xM (xW (yR HO232) hb); replace BK220 := xM (xB (yb BK220) hb); replace BK221 := xM (xB (yb BK221) hb); replace HB := xM (below_step (yh HB) hb); clear hb hbox hg; have hnb38 := NB234_220.out; have hnc38 := NB220_234.out; have hnb39 := NB234_221.out; have hnc39 := NB221_234.out; have hcz40_0 : w37.cell? ⟨gb234, 0, none⟩ = some (.int .i64 0) := (blk_cell BK234.out 0).trans rfl; have hcz40_1 : w37.cell? ⟨gb234, 1, none⟩ = some (.slice none 0 0) := (blk_cell BK234.out 1).trans rfl; have hfz40_0 := blk_frozen BK234.out 0; have hfz40_1 := blk_frozen BK234.out 1; obtain ⟨Ao41, co41, eo41⟩ := Kd.R_slice HO232.out; subst eo41; have hcz42_0 : w37.cell? ⟨gb221, 0, none⟩ = some (.int .i64 0) := (blk_cell BK221.out 0).trans rfl; have hcz42_1 : w37.cell? ⟨gb221, 1, none⟩ = some (.slice none 0 0) := (blk_cell BK221.out 1).trans rfl; have hfz42_0 := blk_frozen BK221.out 0; have hfz42_1 := blk_frozen BK221.out 1))
      refine bodyPost_ret (results_list (rs := [.tmp 4, .cell 5 33, .tmp 6]) rfl (by simp) (.tmp (.cell gb221 33 #[.int .i64 0, .slice none 0 0] (0, 0) _ rfl (by (with_reducible repeat (first | apply xbN | apply xbD | apply xbA)); refine blk_put (cs := #[.int .i64 0, .slice none 0 0]) ?_ 1 _ rfl; (with_reducible repeat (first | apply xbN | apply xbD | apply xbA)); refine blk_put (cs := #[.int .i64 0, .slice none 0 0]) ?_ 0 _ rfl; (with_reducible repeat (first | apply xbN | apply xbD | apply xbA)); refine blk_far ?_ NB221_234.out _; (with_reducible repeat (first | apply xbN | apply xbD | apply xbA)); refine blk_far ?_ NB221_234.out _; (with_reducible repeat (first | apply xbN | apply xbD | apply xbA)); exact BK221.out) Try.underlying33 rfl (by kernel_rfl) (.tmp .nil)))) rfl ?_
      exact ⟨_, by first | rfl | (simp [errW_none, errW_some] <;> rfl) | (simp [*, errW_none, errW_some] <;> rfl), by first | exact Kd.R_nil _ _ _ _ _ | exact Kd.N_nil _ _ _ _ _ | exact Kd.V_nil _ _ _ _ _ | exact Kd.Q_nil _ _ _ _ _ | exact Kd.S_nil _ _ _ _ _, by repeat (first | (with_reducible first | exact HB.out | apply xa | apply xn | apply xd | refine xs ?_ GE220.out | refine xs ?_ GE221.out | refine xs ?_ GE234.out) | exact HB.out)⟩

/-! ### impl_DecodeSymbols: function 36 -/
mutual
def impl_DecodeSymbols.j0 : Nat → List Int → Int → Bool → Int → List Int → Option (List Int × Bool)
  | 0, _, _, _, _, _ => none
  | k + 1, x0, x2, x25, x236000, x236001 => if x25 = true then (some (([] : List Int), false)) else ((impl_ownCoded.f x236000 x236001).bind fun bt239 => (impl_DecodeSymbols.l0 k x0 (([] : List Int)) x2 0 bt239.1 bt239.2))
def impl_DecodeSymbols.l0 : Nat → List Int → List Int → Int → Int → Int → List Int → Option (List Int × Bool)
  | 0, _, _, _, _, _, _ => none
  | k + 1, x0, x9, x29, x30, x244000, x244001 => if x30 < x29 then ((impl_taken.f k x0 x244000 x244001).bind fun bt247 => (if bt247.2.2.2 = true then (if x9.length < 17592186044416 then (impl_DecodeSymbols.l0 k x0 (x9 ++ [bt247.1]) x29 (wrap64 (x30 + 1)) bt247.2.1 bt247.2.2.1) else (none)) else (some (([] : List Int), false)))) else (if x244000 = 4096 then (if (x244001.length : Int) > 0 then (some (([] : List Int), false)) else (some (x9, true))) else (some (([] : List Int), false)))
end
def impl_DecodeSymbols.f (k : Nat) (l0 : List Int) (a1_0 : Int) (l1_1 : List Int) (a2 : Int) : Option (List Int × Bool) := (impl_GoodCounts.f k l0).bind fun t236 => (if t236 = true then ((impl_isCoded.f a1_0 l1_1).bind fun t237 => (if t237 = true then ((impl_within.f a2 0 80).bind fun t238 => (impl_DecodeSymbols.j0 k l0 a2 (!t238) a1_0 l1_1)) else (impl_DecodeSymbols.j0 k l0 a2 true a1_0 l1_1))) else (impl_DecodeSymbols.j0 k l0 a2 true a1_0 l1_1))
theorem impl_DecodeSymbols.mono_l : ∀ k, (∀ y0 y1 y2 y3 y4, LeO (impl_DecodeSymbols.j0 k y0 y1 y2 y3 y4) (impl_DecodeSymbols.j0 (k + 1) y0 y1 y2 y3 y4)) ∧ (∀ y0 y1 y2 y3 y4 y5, LeO (impl_DecodeSymbols.l0 k y0 y1 y2 y3 y4 y5) (impl_DecodeSymbols.l0 (k + 1) y0 y1 y2 y3 y4 y5))
  | 0 => ⟨fun _ _ _ _ _ r h => by simp [impl_DecodeSymbols.j0] at h, fun _ _ _ _ _ _ r h => by simp [impl_DecodeSymbols.l0] at h⟩
  | k + 1 => by
   obtain ⟨ih0, ih1⟩ := impl_DecodeSymbols.mono_l k
   refine ⟨?_, ?_⟩
   ·intro y0 y1 y2 y3 y4
    unfold impl_DecodeSymbols.j0
    repeat' first
    | (with_reducible exact ih0 _ _ _ _ _)
    | (with_reducible exact ih1 _ _ _ _ _ _)
    | (with_reducible exact impl_GoodCounts.mono _ _)
    | (with_reducible exact impl_taken.mono _ _ _ _)
    | (with_reducible exact LeO.refl _)
    | (with_reducible exact LeO.none _)
    | (with_reducible refine LeO.ite ?_ ?_)
    | (with_reducible refine LeO.bind ?_ (fun _ => ?_))
    | exact ih0 _ _ _ _ _
    | exact ih1 _ _ _ _ _ _
    | exact impl_GoodCounts.mono _ _
    | exact impl_taken.mono _ _ _ _
    | exact LeO.none _
    | refine LeO.ite ?_ ?_
    | refine LeO.bind ?_ (fun _ => ?_)
   ·intro y0 y1 y2 y3 y4 y5
    unfold impl_DecodeSymbols.l0
    repeat' first
    | (with_reducible exact ih0 _ _ _ _ _)
    | (with_reducible exact ih1 _ _ _ _ _ _)
    | (with_reducible exact impl_GoodCounts.mono _ _)
    | (with_reducible exact impl_taken.mono _ _ _ _)
    | (with_reducible exact LeO.refl _)
    | (with_reducible exact LeO.none _)
    | (with_reducible refine LeO.ite ?_ ?_)
    | (with_reducible refine LeO.bind ?_ (fun _ => ?_))
    | exact ih0 _ _ _ _ _
    | exact ih1 _ _ _ _ _ _
    | exact impl_GoodCounts.mono _ _
    | exact impl_taken.mono _ _ _ _
    | exact LeO.none _
    | refine LeO.ite ?_ ?_
    | refine LeO.bind ?_ (fun _ => ?_)
theorem impl_DecodeSymbols.mono : ∀ a0 a1 a2 a3 k, LeO (impl_DecodeSymbols.f k a0 a1 a2 a3) (impl_DecodeSymbols.f (k + 1) a0 a1 a2 a3) := by
  intro a0 a1 a2 a3 k
  obtain ⟨ih0, ih1⟩ := impl_DecodeSymbols.mono_l k
  unfold impl_DecodeSymbols.f
  repeat' first
    | (with_reducible exact ih0 _ _ _ _ _)
    | (with_reducible exact ih1 _ _ _ _ _ _)
    | (with_reducible exact impl_GoodCounts.mono _ _)
    | (with_reducible exact impl_taken.mono _ _ _ _)
    | (with_reducible exact LeO.refl _)
    | (with_reducible exact LeO.none _)
    | (with_reducible refine LeO.ite ?_ ?_)
    | (with_reducible refine LeO.bind ?_ (fun _ => ?_))
    | exact ih0 _ _ _ _ _
    | exact ih1 _ _ _ _ _ _
    | exact impl_GoodCounts.mono _ _
    | exact impl_taken.mono _ _ _ _
    | exact LeO.none _
    | refine LeO.ite ?_ ?_
    | refine LeO.bind ?_ (fun _ => ?_)
set_option maxHeartbeats 8000000 in
set_option maxRecDepth 100000 in
theorem impl_DecodeSymbols.calls (k : Nat) (A0 : Option Addr) (c0 : Nat) (l0 : List Int) (a1_0 : Int) (A1_1 : Option Addr) (c1_1 : Nat) (l1_1 : List Int) (a2 : Int) (r1 : List Int) (r2 : Bool) (w : World) (hr0 : Kd.C (Kd.int .i64) w A0 l0.length l0) (hc0 : l0.length ≤ c0) (hr1_1 : Kd.C (Kd.int .i64) w A1_1 l1_1.length l1_1) (hc1_1 : l1_1.length ≤ c1_1) (h : impl_DecodeSymbols.f k l0 a1_0 l1_1 a2 = some (r1, r2)) :
   Calls Try.prog 36 #[.slice A0 l0.length c0, .agg #[.int .i64 a1_0, .slice A1_1 l1_1.length c1_1], .int .i64 a2] w fun e w' => ∃ v0_ : Value, e = .returned (.tuple #[v0_, .bool r2]) ∧ Kd.R (Kd.int .i64) 3 w' w.heap.size (fun _ => True) v0_ r1 ∧ Below w.heap.size w w' := by
  have hu33 := Try.underlying33
  have HR0 := Aside0.mk hr0
  have HC0 := Aside0.mk hc0
  clear hr0 hc0
  have HR1_1 := Aside0.mk hr1_1
  have HC1_1 := Aside0.mk hc1_1
  clear hr1_1 hc1_1
  have HB := xM (Below.refl w.heap.size w)
  have H : ((impl_GoodCounts.f k l0).bind fun t236 => (if t236 = true then ((impl_isCoded.f a1_0 l1_1).bind fun t237 => (if t237 = true then ((impl_within.f a2 0 80).bind fun t238 => (impl_DecodeSymbols.j0 k l0 a2 (!t238) a1_0 l1_1)) else (impl_DecodeSymbols.j0 k l0 a2 true a1_0 l1_1))) else (impl_DecodeSymbols.j0 k l0 a2 true a1_0 l1_1))) = some (r1, r2) := h
  clear h
  have HC4 := Aside0.mk H
  clear H
  go_enter Try.func36, Try.ntmps36
  go_upto_region 1 with (first | ((with_reducible refine gate_dst (N := 4) rfl ?_); (try (refine gate_guard (by rfl) ?_; dsimp only)); refine box_event ?hg (N := 4) ?hd (cs := #[.int .i64 a1_0, .slice A1_1 l1_1.length c1_1]) (t := 33) ?hr ?_; (case hd => rfl); (case hg => rfl); (case hr => first | (go_simp; done) | (go_simp; rfl)); intro gb235 hg w5 hbox hb; have BK235 := xM (hbox); have GW235 := xM ((by rw [hg]; exact (below_size (yh HB)) : w.heap.size ≤ gb235)); have GE235 := xM ((by rw [hg]; exact (below_size (yh HB)) : w.heap.size ≤ gb235)); replace HB := xM (below_step (yh HB) hb); clear hb hbox hg))
  (try simp only [Act.put, List.setIfInBounds_toArray, List.set_cons_zero, List.set_cons_succ])
  go_cut [25] (fun v25 wc => ∃ (kq : Nat) (x25_3 : Bool), v25 = .bool x25_3 ∧ Aside0 (impl_DecodeSymbols.j0 kq l0 a2 x25_3 a1_0 l1_1 = some (r1, r2)) ∧ Aside0 (kq ≤ k) ∧ Aside0 (wc.heap[gb235]? = some (.cells #[.int .i64 a1_0, (.slice A1_1 l1_1.length c1_1)] 33 (0, 0))) ∧ Aside0 (Below w.heap.size w wc))
  case first =>
   have H := HC4.out
   clear HC4
   replace H := Option.bind_eq_some_iff.mp H
   obtain ⟨t236, A60, H⟩ := H
   replace H : (if t236 = true then ((impl_isCoded.f a1_0 l1_1).bind fun t237 => (if t237 = true then ((impl_within.f a2 0 80).bind fun t238 => (impl_DecodeSymbols.j0 k l0 a2 (!t238) a1_0 l1_1)) else (impl_DecodeSymbols.j0 k l0 a2 true a1_0 l1_1))) else (impl_DecodeSymbols.j0 k l0 a2 true a1_0 l1_1)) = some (r1, r2) := H
   have A6 := Aside0.mk A60
   clear A60
   by_cases c7 : t236 = true
   ·subst c7
    have H1 : ((impl_isCoded.f a1_0 l1_1).bind fun t237 => (if t237 = true then ((impl_within.f a2 0 80).bind fun t238 => (impl_DecodeSymbols.j0 k l0 a2 (!t238) a1_0 l1_1)) else (impl_DecodeSymbols.j0 k l0 a2 true a1_0 l1_1))) = some (r1, r2) := by rw [if_pos rfl] at H; exact H
    clear H
    have H := H1
    clear H1
    replace H := Option.bind_eq_some_iff.mp H
    obtain ⟨t237, A80, H⟩ := H
    replace H : (if t237 = true then ((impl_within.f a2 0 80).bind fun t238 => (impl_DecodeSymbols.j0 k l0 a2 (!t238) a1_0 l1_1)) else (impl_DecodeSymbols.j0 k l0 a2 true a1_0 l1_1)) = some (r1, r2) := H
    have A8 := Aside0.mk A80
    clear A80
    by_cases c9 : t237 = true
    ·subst c9
     have H1 : ((impl_within.f a2 0 80).bind fun t238 => (impl_DecodeSymbols.j0 k l0 a2 (!t238) a1_0 l1_1)) = some (r1, r2) := by rw [if_pos rfl] at H; exact H
     clear H
     have H := H1
     clear H1
     replace H := Option.bind_eq_some_iff.mp H
     obtain ⟨t238, A100, H⟩ := H
     replace H : (impl_DecodeSymbols.j0 k l0 a2 (!t238) a1_0 l1_1) = some (r1, r2) := H
     have A10 := Aside0.mk A100
     clear A100
     have H' := Aside0.mk H
     clear H
     go_wp2_with (first | ((with_reducible refine gate_callee (f := 48) rfl ?_); refine goesL_ (some 14) rfl rfl Try.func48 (by kernel_rfl) rfl #[.slice A0 l0.length c0] rfl (by (try simp only [List.map_toArray, List.map_cons, List.map_nil]); first | done | rfl | (simp only [List.length_drop, List.length_take]; rfl)) ?_; (with_reducible refine (impl_GoodCounts.calls k _ _ l0 true _ ?side1 ?side2 A6.out).mono ?_); (case side1 => repeat (first | exact (Kd.C_below HR0.out HB.out) | (with_reducible refine Kd.C_alloc ?_ _) | (with_reducible refine Kd.C_drewN ?_ _) | (with_reducible refine Kd.C_drew ?_))); (case side2 => exact HC0.out); rintro e w' ⟨rfl, ⟨nd, rfl⟩⟩; refine ⟨_, rfl, ?_⟩; have hcz11_0 : w5.cell? ⟨gb235, 0, none⟩ = some (.int .i64 a1_0) := (blk_cell BK235.out 0).trans rfl; have hcz11_1 : w5.cell? ⟨gb235, 1, none⟩ = some (.slice A1_1 l1_1.length c1_1) := (blk_cell BK235.out 1).trans rfl; have hfz11_0 := blk_frozen BK235.out 0; have hfz11_1 := blk_frozen BK235.out 1) | (go_at_call 76; (with_reducible refine (impl_isCoded.calls a1_0 _ _ l1_1 true _ ?side1 ?side2 A8.out).mono ?_); (case side1 => repeat (first | exact (Kd.C_below HR1_1.out (yh HB)) | (with_reducible refine Kd.C_alloc ?_ _) | (with_reducible refine Kd.C_drewN ?_ _) | (with_reducible refine Kd.C_drew ?_))); (case side2 => exact HC1_1.out); rintro e w12 ⟨rfl, hb⟩; replace BK235 := xM (xB (yb BK235) hb); replace HB := xM (below_step (yh HB) hb); (try clear hb)) | (go_at_call 55; (with_reducible refine (impl_within.calls a2 0 80 t238 _ A10.out).mono ?_); rintro e w' ⟨rfl, ⟨nd, rfl⟩⟩))
     go_meet
     case rel => exact ⟨_, (!t238), (by first | rfl | (simp; done) | (simp [*]; done)), H', ⟨by first | omega | exact Nat.le_refl _⟩, ⟨by (with_reducible repeat (first | apply xbN | apply xbD | apply xbA)); exact BK235.out⟩, ⟨yh HB⟩⟩
    ·replace c9 := Bool.eq_false_iff.mpr c9
     subst c9
     have H1 : (impl_DecodeSymbols.j0 k l0 a2 true a1_0 l1_1) = some (r1, r2) := by rw [if_neg (show ¬ (false = true) by decide)] at H; exact H
     clear H
     have H := H1
     clear H1
     have H' := Aside0.mk H
     clear H
     go_wp2_with (first | ((with_reducible refine gate_callee (f := 48) rfl ?_); refine goesL_ (some 14) rfl rfl Try.func48 (by kernel_rfl) rfl #[.slice A0 l0.length c0] rfl (by (try simp only [List.map_toArray, List.map_cons, List.map_nil]); first | done | rfl | (simp only [List.length_drop, List.length_take]; rfl)) ?_; (with_reducible refine (impl_GoodCounts.calls k _ _ l0 true _ ?side1 ?side2 A6.out).mono ?_); (case side1 => repeat (first | exact (Kd.C_below HR0.out HB.out) | (with_reducible refine Kd.C_alloc ?_ _) | (with_reducible refine Kd.C_drewN ?_ _) | (with_reducible refine Kd.C_drew ?_))); (case side2 => exact HC0.out); rintro e w' ⟨rfl, ⟨nd, rfl⟩⟩; refine ⟨_, rfl, ?_⟩; have hcz13_0 : w5.cell? ⟨gb235, 0, none⟩ = some (.int .i64 a1_0) := (blk_cell BK235.out 0).trans rfl; have hcz13_1 : w5.cell? ⟨gb235, 1, none⟩ = some (.slice A1_1 l1_1.length c1_1) := (blk_cell BK235.out 1).trans rfl; have hfz13_0 := blk_frozen BK235.out 0; have hfz13_1 := blk_frozen BK235.out 1) | (go_at_call 76; (with_reducible refine (impl_isCoded.calls a1_0 _ _ l1_1 false _ ?side1 ?side2 A8.out).mono ?_); (case side1 => repeat (first | exact (Kd.C_below HR1_1.out (yh HB)) | (with_reducible refine Kd.C_alloc ?_ _) | (with_reducible refine Kd.C_drewN ?_ _) | (with_reducible refine Kd.C_drew ?_))); (case side2 => exact HC1_1.out); rintro e w14 ⟨rfl, hb⟩; replace BK235 := xM (xB (yb BK235) hb); replace HB := xM (below_step (yh HB) hb); (try clear hb)))
     go_meet
     case rel => exact ⟨_, (true), (by first | rfl | (simp; done) | (simp [*]; done)), H', ⟨by first | omega | exact Nat.le_refl _⟩, ⟨by (with_reducible repeat (first | apply xbN | apply xbD | apply xbA)); exact BK235.out⟩, ⟨yh HB⟩⟩
   ·replace c7 := Bool.eq_false_iff.mpr c7
    subst c7
    have H1 : (impl_DecodeSymbols.j0 k l0 a2 true a1_0 l1_1) = some (r1, r2) := by rw [if_neg (show ¬ (false = true) by decide)] at H; exact H
    clear H
    have H := H1
    clear H1
    have H' := Aside0.mk H
    clear H
    go_wp2_with (first | ((with_reducible refine gate_callee (f := 48) rfl ?_); refine goesL_ (some 14) rfl rfl Try.func48 (by kernel_rfl) rfl #[.slice A0 l0.length c0] rfl (by (try simp only [List.map_toArray, List.map_cons, List.map_nil]); first | done | rfl | (simp only [List.length_drop, List.length_take]; rfl)) ?_; (with_reducible refine (impl_GoodCounts.calls k _ _ l0 false _ ?side1 ?side2 A6.out).mono ?_); (case side1 => repeat (first | exact (Kd.C_below HR0.out HB.out) | (with_reducible refine Kd.C_alloc ?_ _) | (with_reducible refine Kd.C_drewN ?_ _) | (with_reducible refine Kd.C_drew ?_))); (case side2 => exact HC0.out); rintro e w' ⟨rfl, ⟨nd, rfl⟩⟩; refine ⟨_, rfl, ?_⟩))
    go_meet
    case rel => exact ⟨_, (true), (by first | rfl | (simp; done) | (simp [*]; done)), H', ⟨by first | omega | exact Nat.le_refl _⟩, ⟨by (with_reducible repeat (first | apply xbN | apply xbD | apply xbA)); exact BK235.out⟩, ⟨yh HB⟩⟩
  case rest =>
   clear HC4
   try clear c1
   try clear p2
   try clear c3
   try clear c4
   try clear c7
   try clear c9
   try clear hcz11_0
   try clear hcz11_1
   try clear hcz13_0
   try clear hcz13_1
   try clear hfz11_0
   try clear hfz11_1
   try clear hfz13_0
   try clear hfz13_1
   obtain ⟨kq, x25_3, rfl, HA, HJ3, BK235, HB⟩ := hcut
   cases kq with
   | zero => exact absurd HA.out (by simp [impl_DecodeSymbols.j0])
   | succ kj3 =>
    have H := HA.out
    clear HA
    simp only [impl_DecodeSymbols.j0] at H
    by_cases c15 : x25_3 = true
    ·subst c15
     have H1 : (some (([] : List Int), false)) = some (r1, r2) := by rw [if_pos rfl] at H; exact H
     clear H
     have H := H1
     clear H1
     simp only [Option.some.injEq, Prod.mk.injEq] at H
     obtain ⟨rfl, rfl⟩ := H
     go_wp2
     go_ret2
     exact ⟨_, by first | rfl | (simp [errW_none, errW_some] <;> rfl) | (simp [*, errW_none, errW_some] <;> rfl), by first | exact Kd.R_nil _ _ _ _ _ | exact Kd.N_nil _ _ _ _ _ | exact Kd.V_nil _ _ _ _ _ | exact Kd.Q_nil _ _ _ _ _ | exact Kd.S_nil _ _ _ _ _, by repeat (first | (with_reducible first | exact HB.out | apply xa | apply xn | apply xd | refine xs ?_ GE235.out) | exact HB.out)⟩
    ·replace c15 := Bool.eq_false_iff.mpr c15
     subst c15
     have H1 : ((impl_ownCoded.f a1_0 l1_1).bind fun bt239 => (impl_DecodeSymbols.l0 kj3 l0 (([] : List Int)) a2 0 bt239.1 bt239.2)) = some (r1, r2) := by rw [if_neg (show ¬ (false = true) by decide)] at H; exact H
     clear H
     have H := H1
     clear H1
     replace H := Option.bind_eq_some_iff.mp H
     obtain ⟨⟨t239, t240⟩, A160, H⟩ := H
     replace H : (impl_DecodeSymbols.l0 kj3 l0 (([] : List Int)) a2 0 t239 t240) = some (r1, r2) := H
     have A16 := Aside0.mk A160
     clear A160
     obtain ⟨y244, hy244⟩ : ∃ y_ : List Int, y_ = (([] : List Int)) := ⟨_, rfl⟩
     replace H : (impl_DecodeSymbols.l0 kj3 l0 y244 a2 0 t239 t240) = some (r1, r2) := by first | (rw [hy244]; with_reducible exact H) | (have H2_ := (Option.bind_some _ _).symm.trans H; rw [hy244]; with_reducible exact H2_) | (have H2_ := (Option.bind_some _ _).symm.trans H; with_reducible exact H2_) | with_reducible exact H | (rw [hy244]; exact H) | exact H
     have Ny244 := Aside0.mk hy244
     clear hy244
     have H' := Aside0.mk H
     clear H
     have hcz17_0 : wc.cell? ⟨gb235, 0, none⟩ = some (.int .i64 a1_0) := (blk_cell BK235.out 0).trans rfl
     have hcz17_1 : wc.cell? ⟨gb235, 1, none⟩ = some (.slice A1_1 l1_1.length c1_1) := (blk_cell BK235.out 1).trans rfl
     have hfz17_0 := blk_frozen BK235.out 0
     have hfz17_1 := blk_frozen BK235.out 1
     go_wp2_with (first | ((with_reducible refine gate_callee (f := 78) rfl ?_); refine goesL_ (some 27) rfl rfl Try.func78 (by kernel_rfl) rfl #[.agg #[.int .i64 a1_0, .slice A1_1 l1_1.length c1_1]] rfl (by (try simp only [List.map_toArray, List.map_cons, List.map_nil]); first | done | rfl | (simp only [List.length_drop, List.length_take]; rfl)) ?_; (with_reducible refine (impl_ownCoded.calls a1_0 _ _ l1_1 t239 t240 _ ?side1 ?side2 A16.out).mono ?_); (case side1 => repeat (first | exact (Kd.C_below HR1_1.out HB.out) | (with_reducible refine Kd.C_alloc ?_ _) | (with_reducible refine Kd.C_drewN ?_ _) | (with_reducible refine Kd.C_drew ?_))); (case side2 => exact HC1_1.out); rintro e w18 ⟨v241, rfl, ho0, hb⟩; refine ⟨_, rfl, ?_⟩; have HO242 := xM (Kd.R_lower ho0 (below_size (yh HB))); replace BK235 := xM (xB (yb BK235) hb); replace HB := xM (below_step (yh HB) hb); (try clear hb); (try clear ho0)) | ((with_reducible refine gate_dst (N := 8) rfl ?_); (try (refine gate_guard (by rfl) ?_; dsimp only)); refine box_event ?hg (N := 8) ?hd (cs := #[.int .i64 0, .slice none 0 0]) (t := 33) ?hr ?_; (case hd => rfl); (case hg => rfl); (case hr => first | (go_simp; done) | (go_simp; rfl)); intro gb243 hg w19 hbox hb; have BK243 := xM (hbox); have GW243 := xM ((by rw [hg]; exact (below_size (yh HB)) : w.heap.size ≤ gb243)); have GE243 := xM ((by rw [hg]; exact (below_size (yh HB)) : w.heap.size ≤ gb243)); have NB235_243 := xM ((by rw [hg]; exact Nat.ne_of_lt (blk_lt (yb BK235)) : gb235 ≠ gb243)); have NB243_235 := xM ((by rw [hg]; exact Nat.ne_of_gt (blk_lt (yb BK235)) : gb243 ≠ gb235)); replace HO242 := xM (xW (yR HO242) hb); replace BK235 := xM (xB (yb BK235) hb); replace HB := xM (below_step (yh HB) hb); clear hb hbox hg; have hnb20 := NB243_235.out; have hnc20 := NB235_243.out; have hcz21_0 : w19.cell? ⟨gb243, 0, none⟩ = some (.int .i64 0) := (blk_cell BK243.out 0).trans rfl; have hcz21_1 : w19.cell? ⟨gb243, 1, none⟩ = some (.slice none 0 0) := (blk_cell BK243.out 1).trans rfl; have hfz21_0 := blk_frozen BK243.out 0; have hfz21_1 := blk_frozen BK243.out 1; obtain ⟨Ao22, co22, eo22⟩ := Kd.R_slice HO242.out; subst eo22) | ((with_reducible refine gate_dst (N := 28) rfl ?_); (try (refine gate_guard (by rfl) ?_; dsimp only)); refine Kd.R_lit (Kd.int .i64) _ 3 ?hg (N := 28) ?hd (xs := ([] : List Int)) (inner := []) (ok := fun _ => True) (okp := fun _ => True) ?hr ?hp (fun _ hk => hk) trivial (Below.refl _ _) (Nat.le_refl _) (by simp) ?_; (case hd => rfl); (case hg => rfl); (case hr => first | (go_simp; done) | (go_simp; rfl)); (case hp => exact (Reps.none _ _)); intro v245 w23 ho24 hb hg_ hnew_; clear hg_ hnew_; (first | rw [← Ny244.out] at ho24 | (simp only [Int.reduceToNat] at ho24; rw [← Ny244.out] at ho24)); have HO246 := xM (Kd.R_lower (Kd.R_new' ho24 (xL (by (with_reducible repeat (first | apply xRA | apply xRN | apply xRD)); exact (xO (xF (p := ⟨gb243, 1, none⟩) (xF (p := ⟨gb243, 0, none⟩) (Kd.R_types HO242.out BK243.out (by decide)) (fun _ hk => hk.2) (.int .i64 t239)) (fun _ hk => hk.2) (.slice Ao22 t240.length co22)) (fun _ h_ => h_.1))))) (below_size (yh HB))); replace HO242 := xM (Kd.R_elder' (by (with_reducible repeat (first | apply xRA | apply xRN | apply xRD)); exact (xO (xF (p := ⟨gb243, 1, none⟩) (xF (p := ⟨gb243, 0, none⟩) (Kd.R_types HO242.out BK243.out (by decide)) (fun _ hk => hk.2) (.int .i64 t239)) (fun _ hk => hk.2) (.slice Ao22 t240.length co22)) (fun _ h_ => h_.1))) (Kd.R_base ho24) hb); replace BK235 := xM (xB (g := gb235) (o := .cells #[.int .i64 a1_0, .slice A1_1 l1_1.length c1_1] 33 (0, 0)) (by (with_reducible repeat (first | apply xbN | apply xbD | apply xbA)); refine blk_far ?_ NB235_243.out _; (with_reducible repeat (first | apply xbN | apply xbD | apply xbA)); refine blk_far ?_ NB235_243.out _; (with_reducible repeat (first | apply xbN | apply xbD | apply xbA)); exact BK235.out) hb); replace BK243 := xM (xB (g := gb243) (o := .cells #[.int .i64 t239, .slice Ao22 t240.length co22] 33 (0, 0)) (by (with_reducible repeat (first | apply xbN | apply xbD | apply xbA)); refine blk_put (cs := #[.int .i64 t239, .slice none 0 0]) ?_ 1 _ rfl; (with_reducible repeat (first | apply xbN | apply xbD | apply xbA)); refine blk_put (cs := #[.int .i64 0, .slice none 0 0]) ?_ 0 _ rfl; (with_reducible repeat (first | apply xbN | apply xbD | apply xbA)); exact BK243.out) hb); replace HB := xM (below_step (yh HB) hb); clear hb ho24))
     go_loopg [9, 30] kj3 (fun kq v9 v30 w' => ∃ (x9_2 : List Int) (x30_2 : Int) (x244000_2 : Int) (x244001_2 : List Int) (u244001 : Value), v30 = .int .i64 x30_2 ∧ Aside0 (impl_DecodeSymbols.l0 kq l0 x9_2 a2 x30_2 x244000_2 x244001_2 = some (r1, r2)) ∧ Aside0 (kq ≤ kj3) ∧ Aside0 (Kd.R (Kd.int .i64) 3 w' w.heap.size (fun k_ => some k_ ≠ (u244001 : Value).ownBlock) v9 x9_2) ∧ Aside0 (Kd.R (Kd.int .i64) 3 w' w.heap.size (fun k_ => some k_ ≠ (v9 : Value).ownBlock) u244001 x244001_2) ∧ Aside0 (w'.heap[gb235]? = some (.cells #[.int .i64 a1_0, (.slice A1_1 l1_1.length c1_1)] 33 (0, 0))) ∧ Aside0 (w'.heap[gb243]? = some (.cells #[.int .i64 x244000_2, u244001] 33 (0, 0))) ∧ Aside0 (Below w.heap.size w w'))
     case atStart => exact ⟨(y244), (0), (t239), (t240), (.slice Ao22 t240.length co22), (by first | rfl | (simp; done) | (simp [*]; done)), H', ⟨Nat.le_refl _⟩, ⟨by (with_reducible repeat (first | apply xRA | apply xRN | apply xRD)); exact Kd.R_mono HO246.out (fun _ hk => hk.2)⟩, ⟨by (with_reducible repeat (first | apply xRA | apply xRN | apply xRD)); exact Kd.R_mono HO242.out (fun _ hk => hk.2)⟩, ⟨by (with_reducible repeat (first | apply xbN | apply xbD | apply xbA)); exact BK235.out⟩, ⟨by (with_reducible repeat (first | apply xbN | apply xbD | apply xbA)); exact BK243.out⟩, ⟨yh HB⟩⟩
     case round =>
      clear H'
      try clear c1
      try clear c2
      try clear p2
      try clear c3
      try clear c4
      try clear c7
      try clear c9
      try clear c15
      try clear c20
      try clear hcz11_0
      try clear hcz11_1
      try clear hcz13_0
      try clear hcz13_1
      try clear hcz17_0
      try clear hcz17_1
      try clear hcz21_0
      try clear hcz21_1
      try clear hfz11_0
      try clear hfz11_1
      try clear hfz13_0
      try clear hfz13_1
      try clear hfz17_0
      try clear hfz17_1
      try clear hfz21_0
      try clear hfz21_1
      try clear p2
      obtain ⟨x9_2, x30_2, x244000_2, x244001_2, u244001, rfl, HA, HK2, HO_9, HO_244001, BK235, BK243, HB⟩ := hrel
      cases gk with
      | zero => exact absurd HA.out (by simp [impl_DecodeSymbols.l0])
      | succ k2 =>
       have H := HA.out
       clear HA
       simp only [impl_DecodeSymbols.l0] at H
       by_cases c25 : x30_2 < a2
       ·rw [if_pos c25] at H
        have c25b0 : decide (x30_2 < a2) = true := decide_eq_true c25
        clear c25
        replace H := Option.bind_eq_some_iff.mp H
        obtain ⟨⟨t247, t248, t249, t252⟩, A260, H⟩ := H
        replace H : (if t252 = true then (if x9_2.length < 17592186044416 then (impl_DecodeSymbols.l0 k2 l0 (x9_2 ++ [t247]) a2 (wrap64 (x30_2 + 1)) t248 t249) else (none)) else (some (([] : List Int), false))) = some (r1, r2) := H
        have A26 := Aside0.mk A260
        clear A260
        by_cases c27 : t252 = true
        ·subst c27
         have H1 : (if x9_2.length < 17592186044416 then (impl_DecodeSymbols.l0 k2 l0 (x9_2 ++ [t247]) a2 (wrap64 (x30_2 + 1)) t248 t249) else (none)) = some (r1, r2) := by rw [if_pos rfl] at H; exact H
         clear H
         have H := H1
         clear H1
         by_cases c28 : x9_2.length < 17592186044416
         ·rw [if_pos c28] at H
          have LMc28 := Aside0.mk c28
          clear c28
          obtain ⟨y254, hy254⟩ : ∃ y_ : List Int, y_ = (x9_2 ++ [t247]) := ⟨_, rfl⟩
          replace H : (impl_DecodeSymbols.l0 k2 l0 y254 a2 (wrap64 (x30_2 + 1)) t248 t249) = some (r1, r2) := by first | (rw [hy254]; with_reducible exact H) | (have H2_ := (Option.bind_some _ _).symm.trans H; rw [hy254]; with_reducible exact H2_) | (have H2_ := (Option.bind_some _ _).symm.trans H; with_reducible exact H2_) | with_reducible exact H | (rw [hy254]; exact H) | exact H
          have Ny254 := Aside0.mk hy254
          clear hy254
          have H' := Aside0.mk H
          clear H
          have hnb29 := NB243_235.out
          have hnc29 := NB235_243.out
          have hcz30_0 : wr.cell? ⟨gb243, 0, none⟩ = some (.int .i64 x244000_2) := (blk_cell BK243.out 0).trans rfl
          have hcz30_1 : wr.cell? ⟨gb243, 1, none⟩ = some (u244001) := (blk_cell BK243.out 1).trans rfl
          have hfz30_0 := blk_frozen BK243.out 0
          have hfz30_1 := blk_frozen BK243.out 1
          obtain ⟨Ao31, co31, eo31⟩ := Kd.R_slice HO_244001.out
          subst eo31
          go_wp2_with (first | ((with_reducible refine gate_callee (f := 77) rfl ?_); refine goesL_ (some 35) rfl rfl Try.func77 (by kernel_rfl) rfl #[.slice A0 l0.length c0, .agg #[.int .i64 x244000_2, .slice Ao31 x244001_2.length co31]] rfl (by (try simp only [List.map_toArray, List.map_cons, List.map_nil]); first | done | rfl | (simp only [List.length_drop, List.length_take]; rfl)) ?_; (with_reducible refine (impl_taken.calls k2 _ _ l0 x244000_2 (fun k_ => some k_ = (.slice Ao31 x244001_2.length co31 : Value).ownBlock) (.slice Ao31 x244001_2.length co31) x244001_2 t247 t248 t249 true w _ ?side1 ?side2 ?side3 ?side4 A26.out).mono ?_); (case side1 => repeat (first | (with_reducible first | exact HB.out | apply xa | apply xn | apply xd | refine xs ?_ GE235.out | refine xs ?_ GE243.out) | exact HB.out)); (case side2 => exact Kd.C_kept_came (Kd.heap_int .i64) HR0.out (yh HB) (fun k_ hs_ => (fun e_ => Kd.R_base HO_244001.out k_ e_.symm) hs_)); (case side3 => exact HC0.out); (case side4 => exact Kd.R_tight rfl HO_244001.out); rintro e w32 ⟨v250, rfl, ho0, hb, hkp⟩; refine ⟨_, rfl, ?_⟩; have n0_ := xM (xO (ok' := fun k_ => some k_ ≠ (v250 : Value).ownBlock) (Kd.R_keptB (HO_9.out) hkp (fun k_ hk_ hs_ => (hk_) hs_)) (fun k_ hk_ => fun e_ => Or.elim (ho0.1 k_ e_.symm) (fun hs_ => hk_.2.1 hs_) (fun hn_ => Nat.not_le.2 hk_.2.2 hn_))); have n1_ := xM (blk_kept (yb BK235) hkp (fun hs_ => (fun e_ => (Kd.R_ne HO_244001.out BK235.out (by decide)) e_) hs_)); have n2_ := xM (blk_kept (yb BK243) hkp (fun hs_ => (fun e_ => (Kd.R_ne HO_244001.out BK243.out (by decide)) e_) hs_)); have n3_ := xM (xO (ok' := fun k_ => some k_ ≠ (u9 : Value).ownBlock) ho0 (fun k_ hk_ => Or.elim hk_ (fun hs_ => fun e_ => (((HO_9.out).1 k_ e_.symm)) hs_) (fun hn_ => (Kd.fresh' (xL (yR HO_9)) k_ hn_)))); have n4_ := xM (hb); clear HO_9; clear BK235; clear BK243; clear HB; clear HO_244001; have HO_9 := n0_; have BK235 := n1_; have BK243 := n2_; have HO251 := n3_; have HB := n4_; clear n0_ n1_ n2_ n3_ n4_; (try clear hb); (try clear hkp); (try clear ho0)) | ((with_reducible refine gate_dst (N := 11) rfl ?_); (try (refine gate_guard (by rfl) ?_; dsimp only)); refine box_event ?hg (N := 11) ?hd (cs := #[.int .i64 0, .slice none 0 0]) (t := 33) ?hr ?_; (case hd => rfl); (case hg => rfl); (case hr => first | (go_simp; done) | (go_simp; rfl)); intro gb253 hg w33 hbox hb; have BK253 := xM (hbox); have GW253 := xM ((by rw [hg]; exact (below_size (yh HB)) : w.heap.size ≤ gb253)); have GE253 := xM ((by rw [hg]; exact (below_size (yh HB)) : w.heap.size ≤ gb253)); have NB235_253 := xM ((by rw [hg]; exact Nat.ne_of_lt (blk_lt (yb BK235)) : gb235 ≠ gb253)); have NB253_235 := xM ((by rw [hg]; exact Nat.ne_of_gt (blk_lt (yb BK235)) : gb253 ≠ gb235)); have NB243_253 := xM ((by rw [hg]; exact Nat.ne_of_lt (blk_lt (yb BK243)) : gb243 ≠ gb253)); have NB253_243 := xM ((by rw [hg]; exact Nat.ne_of_gt (blk_lt (yb BK243)) : gb253 ≠ gb243)); replace HO_9 := xM (xW (yR HO_9) hb); replace HO251 := xM (xW (yR HO251) hb); replace BK235 := xM (xB (yb BK235) hb); replace BK243 := xM (xB (yb BK243) hb); replace HB := xM (below_step (yh HB) hb); clear hb hbox hg; have hnb34 := NB253_235.out; have hnc34 := NB235_253.out; have hnb35 := NB253_243.out; have hnc35 := NB243_253.out; have hcz36_0 : w33.cell? ⟨gb253, 0, none⟩ = some (.int .i64 0) := (blk_cell BK253.out 0).trans rfl; have hcz36_1 : w33.cell? ⟨gb253, 1, none⟩ = some (.slice none 0 0) := (blk_cell BK253.out 1).trans rfl; have hfz36_0 := blk_frozen BK253.out 0; have hfz36_1 := blk_frozen BK253.out 1; obtain ⟨Ao37, co37, eo37⟩ := Kd.R_slice HO251.out; subst eo37) | ((with_reducible refine gate_builtin (b := .append) (xs := #[.tmp 41, .tmp 43]) rfl ?_); (try (refine gate_guard (by rfl) ?_; dsimp only)); at_builtin; refine Kd.R_append (Kd.int .i64) (w0 := w) w.heap.size rfl (.tmp 41) (.tmp 43) 22 3 (.int .i64 0) 8 rfl Try.underlying22 info3 rfl (by decide) (by omega) u9 x9_2 t247 [.int .i64 t247] (fun k_ => some k_ ≠ (.slice Ao37 t249.length co37 : Value).ownBlock) (fun _ => False) rfl (by first | (go_simp; done) | (go_simp; rfl)) ?aP (fun _ hk => hk.elim) ?aF ?aO ?aB ?aS ?aL ?_; (case aP => exact rfl); (case aB => exact (yh HB)); (case aF => exact (fun k_ hk => Kd.fresh' (xL (by (with_reducible repeat (first | apply xRA | apply xRN | apply xRD)); exact (xO (xF (p := ⟨gb253, 1, none⟩) (xF (p := ⟨gb253, 0, none⟩) (Kd.R_types HO251.out BK253.out (by decide)) (fun _ hk => hk.2) (.int .i64 t248)) (fun _ hk => hk.2) (.slice Ao37 t249.length co37)) (fun _ h_ => h_.1)))) k_ hk)); (case aO => exact (by (with_reducible repeat (first | apply xRA | apply xRN | apply xRD)); exact xO (xF (p := ⟨gb253, 1, none⟩) (xF (p := ⟨gb253, 0, none⟩) (Kd.R_types HO_9.out BK253.out (by decide)) (fun _ hk => hk.2) (.int .i64 t248)) (fun _ hk => hk.2) (.slice Ao37 t249.length co37)) (fun _ hk => hk.1))); (case aS => exact (below_size (yh HB))); (case aL => have := LMc28.out; omega); intro v255 w38 ho hb hg hat; rw [← Ny254.out] at ho; have n0_ := xM (blk_grown (g := gb235) (o := .cells #[.int .i64 a1_0, .slice A1_1 l1_1.length c1_1] 33 (0, 0)) (by (with_reducible repeat (first | apply xbN | apply xbD | apply xbA)); refine blk_far ?_ NB235_253.out _; (with_reducible repeat (first | apply xbN | apply xbD | apply xbA)); refine blk_far ?_ NB235_253.out _; (with_reducible repeat (first | apply xbN | apply xbD | apply xbA)); exact BK235.out) hg (Kd.R_ne HO_9.out BK235.out (by decide))); have n1_ := xM (blk_grown (g := gb243) (o := .cells #[.int .i64 x244000_2, .slice Ao31 x244001_2.length co31] 33 (0, 0)) (by (with_reducible repeat (first | apply xbN | apply xbD | apply xbA)); refine blk_far ?_ NB243_253.out _; (with_reducible repeat (first | apply xbN | apply xbD | apply xbA)); refine blk_far ?_ NB243_253.out _; (with_reducible repeat (first | apply xbN | apply xbD | apply xbA)); exact BK243.out) hg (Kd.R_ne HO_9.out BK243.out (by decide))); have n2_ := xM (Kd.R_after (ok := (fun _ => True)) (by (with_reducible repeat (first | apply xRA | apply xRN | apply xRD)); exact xO (xF (p := ⟨gb253, 1, none⟩) (xF (p := ⟨gb253, 0, none⟩) (Kd.R_types HO251.out BK253.out (by decide)) (fun _ hk => hk.2) (.int .i64 t248)) (fun _ hk => hk.2) (.slice Ao37 t249.length co37)) (fun _ hk => ⟨trivial, hk.1⟩)) hg hat); have n3_ := xM (blk_grown (g := gb253) (o := .cells #[.int .i64 t248, .slice Ao37 t249.length co37] 33 (0, 0)) (by (with_reducible repeat (first | apply xbN | apply xbD | apply xbA)); refine blk_put (cs := #[.int .i64 t248, .slice none 0 0]) ?_ 1 _ rfl; (with_reducible repeat (first | apply xbN | apply xbD | apply xbA)); refine blk_put (cs := #[.int .i64 0, .slice none 0 0]) ?_ 0 _ rfl; (with_reducible repeat (first | apply xbN | apply xbD | apply xbA)); exact BK253.out) hg (Kd.R_ne HO_9.out BK253.out (by decide))); have n4_ := xM (hb); have n5_ := xM (ho); clear BK235; clear BK243; clear HO251; clear BK253; clear HB; clear HO_9; have BK235 := n0_; have BK243 := n1_; have HO251 := n2_; have BK253 := n3_; have HB := n4_; have HO256 := n5_; clear n0_ n1_ n2_ n3_ n4_ n5_; clear ho hb hg hat; have hcz39_0 : w38.cell? ⟨gb253, 0, none⟩ = some (.int .i64 t248) := (blk_cell BK253.out 0).trans rfl; have hcz39_1 : w38.cell? ⟨gb253, 1, none⟩ = some (.slice Ao37 t249.length co37) := (blk_cell BK253.out 1).trans rfl; have hfz39_0 := blk_frozen BK253.out 0; have hfz39_1 := blk_frozen BK253.out 1; have hcz40_0 : w38.cell? ⟨gb243, 0, none⟩ = some (.int .i64 x244000_2) := (blk_cell BK243.out 0).trans rfl; have hcz40_1 : w38.cell? ⟨gb243, 1, none⟩ = some (.slice Ao31 x244001_2.length co31) := (blk_cell BK243.out 1).trans rfl; have hfz40_0 := blk_frozen BK243.out 0; have hfz40_1 := blk_frozen BK243.out 1))
          go_roundg k2
          case measure => have := HJ3.out; have := HK2.out; omega
          case rel => exact ⟨(y254), (wrap64 (x30_2 + 1)), (t248), (t249), (.slice Ao37 t249.length co37), (by first | rfl | (simp; done) | (simp [*]; done)), H', ⟨by have := HJ3.out; have := HK2.out; omega⟩, ⟨by (with_reducible repeat (first | apply xRA | apply xRN | apply xRD)); exact xO (xF (p := ⟨gb243, 1, none⟩) (xF (p := ⟨gb243, 0, none⟩) (Kd.R_types HO256.out BK243.out (by decide)) (fun _ hk => hk.2) (.int .i64 t248)) (fun _ hk => hk.2) (.slice Ao37 t249.length co37)) (fun _ hk => hk.1)⟩, ⟨by (with_reducible repeat (first | apply xRA | apply xRN | apply xRD)); exact xO (xF (p := ⟨gb243, 1, none⟩) (xF (p := ⟨gb243, 0, none⟩) (Kd.R_types HO251.out BK243.out (by decide)) (fun _ hk => hk.2) (.int .i64 t248)) (fun _ hk => hk.2) (.slice Ao37 t249.length co37)) (fun _ hk => hk.1.2)⟩, ⟨by (with_reducible repeat (first | apply xbN | apply xbD | apply xbA)); refine blk_far ?_ NB235_243.out _; (with_reducible repeat (first | apply xbN | apply xbD | apply xbA)); refine blk_far ?_ NB235_243.out _; (with_reducible repeat (first | apply xbN | apply xbD | apply xbA)); exact BK235.out⟩, ⟨by (with_reducible repeat (first | apply xbN | apply xbD | apply xbA)); refine blk_put (cs := #[.int .i64 t248, .slice Ao31 x244001_2.length co31]) ?_ 1 _ rfl; (with_reducible repeat (first | apply xbN | apply xbD | apply xbA)); refine blk_put (cs := #[.int .i64 x244000_2, .slice Ao31 x244001_2.length co31]) ?_ 0 _ rfl; (with_reducible repeat (first | apply xbN | apply xbD | apply xbA)); exact BK243.out⟩, ⟨yh HB⟩⟩
         ·rw [if_neg c28] at H
          exact absurd H (by simp)
        ·replace c27 := Bool.eq_false_iff.mpr c27
         subst c27
         have H1 : (some (([] : List Int), false)) = some (r1, r2) := by rw [if_neg (show ¬ (false = true) by decide)] at H; exact H
         clear H
         have H := H1
         clear H1
         simp only [Option.some.injEq, Prod.mk.injEq] at H
         obtain ⟨rfl, rfl⟩ := H
         have hnb41 := NB243_235.out
         have hnc41 := NB235_243.out
         have hcz42_0 : wr.cell? ⟨gb243, 0, none⟩ = some (.int .i64 x244000_2) := (blk_cell BK243.out 0).trans rfl
         have hcz42_1 : wr.cell? ⟨gb243, 1, none⟩ = some (u244001) := (blk_cell BK243.out 1).trans rfl
         have hfz42_0 := blk_frozen BK243.out 0
         have hfz42_1 := blk_frozen BK243.out 1
         obtain ⟨Ao43, co43, eo43⟩ := Kd.R_slice HO_244001.out
         subst eo43
         go_wp2_with (first | ((with_reducible refine gate_callee (f := 77) rfl ?_); refine goesL_ (some 35) rfl rfl Try.func77 (by kernel_rfl) rfl #[.slice A0 l0.length c0, .agg #[.int .i64 x244000_2, .slice Ao43 x244001_2.length co43]] rfl (by (try simp only [List.map_toArray, List.map_cons, List.map_nil]); first | done | rfl | (simp only [List.length_drop, List.length_take]; rfl)) ?_; (with_reducible refine (impl_taken.calls k2 _ _ l0 x244000_2 (fun k_ => some k_ = (.slice Ao43 x244001_2.length co43 : Value).ownBlock) (.slice Ao43 x244001_2.length co43) x244001_2 t247 t248 t249 false w _ ?side1 ?side2 ?side3 ?side4 A26.out).mono ?_); (case side1 => repeat (first | (with_reducible first | exact HB.out | apply xa | apply xn | apply xd | refine xs ?_ GE235.out | refine xs ?_ GE243.out) | exact HB.out)); (case side2 => exact Kd.C_kept_came (Kd.heap_int .i64) HR0.out (yh HB) (fun k_ hs_ => (fun e_ => Kd.R_base HO_244001.out k_ e_.symm) hs_)); (case side3 => exact HC0.out); (case side4 => exact Kd.R_tight rfl HO_244001.out); rintro e w44 ⟨v250, rfl, ho0, hb, hkp⟩; refine ⟨_, rfl, ?_⟩; have n0_ := xM (xO (ok' := fun k_ => some k_ ≠ (v250 : Value).ownBlock) (Kd.R_keptB (HO_9.out) hkp (fun k_ hk_ hs_ => (hk_) hs_)) (fun k_ hk_ => fun e_ => Or.elim (ho0.1 k_ e_.symm) (fun hs_ => hk_.2.1 hs_) (fun hn_ => Nat.not_le.2 hk_.2.2 hn_))); have n1_ := xM (blk_kept (yb BK235) hkp (fun hs_ => (fun e_ => (Kd.R_ne HO_244001.out BK235.out (by decide)) e_) hs_)); have n2_ := xM (blk_kept (yb BK243) hkp (fun hs_ => (fun e_ => (Kd.R_ne HO_244001.out BK243.out (by decide)) e_) hs_)); have n3_ := xM (xO (ok' := fun k_ => some k_ ≠ (u9 : Value).ownBlock) ho0 (fun k_ hk_ => Or.elim hk_ (fun hs_ => fun e_ => (((HO_9.out).1 k_ e_.symm)) hs_) (fun hn_ => (Kd.fresh' (xL (yR HO_9)) k_ hn_)))); have n4_ := xM (hb); clear HO_9; clear BK235; clear BK243; clear HB; clear HO_244001; have HO_9 := n0_; have BK235 := n1_; have BK243 := n2_; have HO251 := n3_; have HB := n4_; clear n0_ n1_ n2_ n3_ n4_; (try clear hb); (try clear hkp); (try clear ho0)) | ((with_reducible refine gate_dst (N := 11) rfl ?_); (try (refine gate_guard (by rfl) ?_; dsimp only)); refine box_event ?hg (N := 11) ?hd (cs := #[.int .i64 0, .slice none 0 0]) (t := 33) ?hr ?_; (case hd => rfl); (case hg => rfl); (case hr => first | (go_simp; done) | (go_simp; rfl)); intro gb253 hg w45 hbox hb; have BK253 := xM (hbox); have GW253 := xM ((by rw [hg]; exact (below_size (yh HB)) : w.heap.size ≤ gb253)); have GE253 := xM ((by rw [hg]; exact (below_size (yh HB)) : w.heap.size ≤ gb253)); have NB235_253 := xM ((by rw [hg]; exact Nat.ne_of_lt (blk_lt (yb BK235)) : gb235 ≠ gb253)); have NB253_235 := xM ((by rw [hg]; exact Nat.ne_of_gt (blk_lt (yb BK235)) : gb253 ≠ gb235)); have NB243_253 := xM ((by rw [hg]; exact Nat.ne_of_lt (blk_lt (yb BK243)) : gb243 ≠ gb253)); have NB253_243 := xM ((by rw [hg]; exact Nat.ne_of_gt (blk_lt (yb BK243)) : gb253 ≠ gb243)); replace HO_9 := xM (xW (yR HO_9) hb); replace HO251 := xM (xW (yR HO251) hb); replace BK235 := xM (xB (yb BK235) hb); replace BK243 := xM (xB (yb BK243) hb); replace HB := xM (below_step (yh HB) hb); clear hb hbox hg; have hnb46 := NB253_235.out; have hnc46 := NB235_253.out; have hnb47 := NB253_243.out; have hnc47 := NB243_253.out; have hcz48_0 : w45.cell? ⟨gb253, 0, none⟩ = some (.int .i64 0) := (blk_cell BK253.out 0).trans rfl; have hcz48_1 : w45.cell? ⟨gb253, 1, none⟩ = some (.slice none 0 0) := (blk_cell BK253.out 1).trans rfl; have hfz48_0 := blk_frozen BK253.out 0; have hfz48_1 := blk_frozen BK253.out 1; obtain ⟨Ao49, co49, eo49⟩ := Kd.R_slice HO251.out; subst eo49))
         go_ret2
         exact ⟨_, by first | rfl | (simp [errW_none, errW_some] <;> rfl) | (simp [*, errW_none, errW_some] <;> rfl), by first | exact Kd.R_nil _ _ _ _ _ | exact Kd.N_nil _ _ _ _ _ | exact Kd.V_nil _ _ _ _ _ | exact Kd.Q_nil _ _ _ _ _ | exact Kd.S_nil _ _ _ _ _, by repeat (first | (with_reducible first | exact HB.out | apply xa | apply xn | apply xd | refine xs ?_ GE235.out | refine xs ?_ GE243.out | refine xs ?_ GE253.out) | exact HB.out)⟩
       ·rw [if_neg c25] at H
        have c25b0 : decide (x30_2 < a2) = false := decide_eq_false c25
        clear c25
        by_cases c50 : x244000_2 = 4096
        ·rw [if_pos c50] at H
         have c50b0 : (x244000_2 == 4096) = true := beq_iff_eq.mpr c50
         have c50b1 : (x244000_2 != 4096) = false := bne_eq_false_iff_eq.mpr c50
         clear c50
         by_cases c51 : (x244001_2.length : Int) > 0
         ·rw [if_pos c51] at H
          have c51b0 : decide (0 < (x244001_2.length : Int)) = true := decide_eq_true c51
          have c51b1 : decide (0 < x244001_2.length) = true := decide_eq_true (by omega)
          clear c51
          simp only [Option.some.injEq, Prod.mk.injEq] at H
          obtain ⟨rfl, rfl⟩ := H
          have hnb52 := NB243_235.out
          have hnc52 := NB235_243.out
          have hcz53_0 : wr.cell? ⟨gb243, 0, none⟩ = some (.int .i64 x244000_2) := (blk_cell BK243.out 0).trans rfl
          have hcz53_1 : wr.cell? ⟨gb243, 1, none⟩ = some (u244001) := (blk_cell BK243.out 1).trans rfl
          have hfz53_0 := blk_frozen BK243.out 0
          have hfz53_1 := blk_frozen BK243.out 1
          obtain ⟨Ao54, co54, eo54⟩ := Kd.R_slice HO_244001.out
          subst eo54
          go_wp2
          go_ret2
          exact ⟨_, by first | rfl | (simp [errW_none, errW_some] <;> rfl) | (simp [*, errW_none, errW_some] <;> rfl), by first | exact Kd.R_nil _ _ _ _ _ | exact Kd.N_nil _ _ _ _ _ | exact Kd.V_nil _ _ _ _ _ | exact Kd.Q_nil _ _ _ _ _ | exact Kd.S_nil _ _ _ _ _, by repeat (first | (with_reducible first | exact HB.out | apply xa | apply xn | apply xd | refine xs ?_ GE235.out | refine xs ?_ GE243.out) | exact HB.out)⟩
         ·rw [if_neg c51] at H
          have c51b0 : decide (0 < (x244001_2.length : Int)) = false := decide_eq_false c51
          have c51b1 : decide (0 < x244001_2.length) = false := decide_eq_false (by omega)
          clear c51
          simp only [Option.some.injEq, Prod.mk.injEq] at H
          obtain ⟨rfl, rfl⟩ := H
          have hnb55 := NB243_235.out
          have hnc55 := NB235_243.out
          have hcz56_0 : wr.cell? ⟨gb243, 0, none⟩ = some (.int .i64 x244000_2) := (blk_cell BK243.out 0).trans rfl
          have hcz56_1 : wr.cell? ⟨gb243, 1, none⟩ = some (u244001) := (blk_cell BK243.out 1).trans rfl
          have hfz56_0 := blk_frozen BK243.out 0
          have hfz56_1 := blk_frozen BK243.out 1
          obtain ⟨Ao57, co57, eo57⟩ := Kd.R_slice HO_244001.out
          subst eo57
          go_wp2
          go_ret2
          exact ⟨_, by first | rfl | (simp [errW_none, errW_some] <;> rfl) | (simp [*, errW_none, errW_some] <;> rfl), by (with_reducible repeat (first | apply xRA | apply xRN | apply xRD)); exact Kd.R_mono HO_9.out (fun _ hk => trivial), by repeat (first | (with_reducible first | exact HB.out | apply xa | apply xn | apply xd | refine xs ?_ GE235.out | refine xs ?_ GE243.out) | exact HB.out)⟩
        ·rw [if_neg c50] at H
         have c50b0 : (x244000_2 == 4096) = false := beq_eq_false_iff_ne.mpr c50
         have c50b1 : (x244000_2 != 4096) = true := bne_iff_ne.mpr c50
         simp only [Option.some.injEq, Prod.mk.injEq] at H
         obtain ⟨rfl, rfl⟩ := H
         have hnb58 := NB243_235.out
         have hnc58 := NB235_243.out
         have hcz59_0 : wr.cell? ⟨gb243, 0, none⟩ = some (.int .i64 x244000_2) := (blk_cell BK243.out 0).trans rfl
         have hcz59_1 : wr.cell? ⟨gb243, 1, none⟩ = some (u244001) := (blk_cell BK243.out 1).trans rfl
         have hfz59_0 := blk_frozen BK243.out 0
         have hfz59_1 := blk_frozen BK243.out 1
         go_wp2
         go_ret2
         exact ⟨_, by first | rfl | (simp [errW_none, errW_some] <;> rfl) | (simp [*, errW_none, errW_some] <;> rfl), by first | exact Kd.R_nil _ _ _ _ _ | exact Kd.N_nil _ _ _ _ _ | exact Kd.V_nil _ _ _ _ _ | exact Kd.Q_nil _ _ _ _ _ | exact Kd.S_nil _ _ _ _ _, by repeat (first | (with_reducible first | exact HB.out | apply xa | apply xn | apply xd | refine xs ?_ GE235.out | refine xs ?_ GE243.out) | exact HB.out)⟩

/-! ### laws_sameInts: function 47 -/
def laws_sameInts.l0 : Nat → List Int → List Int → Int → Int → Option (Bool)
  | 0, _, _, _, _ => none
  | k + 1, x0, x1, x12, x13 => if x13 < x12 then (if 0 ≤ x13 then (if x13 < (x0.length : Int) then (if x13 < (x1.length : Int) then (if (rd x0 x13) = (rd x1 x13) then (laws_sameInts.l0 k x0 x1 x12 (wrap64 (x13 + 1))) else (some false)) else (none)) else (none)) else (none)) else (some true)
def laws_sameInts.f (k : Nat) (l0 : List Int) (l1 : List Int) : Option (Bool) := if (l0.length : Int) = (l1.length : Int) then (laws_sameInts.l0 k l0 l1 (l0.length : Int) 0) else (some false)
theorem laws_sameInts.mono_l : ∀ k, (∀ y0 y1 y2 y3, LeO (laws_sameInts.l0 k y0 y1 y2 y3) (laws_sameInts.l0 (k + 1) y0 y1 y2 y3))
  | 0 => fun _ _ _ _ r h => by simp [laws_sameInts.l0] at h
  | k + 1 => by
    have ih0 := laws_sameInts.mono_l k
    · intro y0 y1 y2 y3
      unfold laws_sameInts.l0
      repeat' first
      | (with_reducible exact ih0 _ _ _ _)
      | (with_reducible exact LeO.refl _)
      | (with_reducible exact LeO.none _)
      | (with_reducible refine LeO.ite ?_ ?_)
      | (with_reducible refine LeO.bind ?_ (fun _ => ?_))
      | exact ih0 _ _ _ _
      | exact LeO.none _
      | refine LeO.ite ?_ ?_
      | refine LeO.bind ?_ (fun _ => ?_)
theorem laws_sameInts.mono : ∀ a0 a1 k, LeO (laws_sameInts.f k a0 a1) (laws_sameInts.f (k + 1) a0 a1) := by
  intro a0 a1 k
  have ih0 := laws_sameInts.mono_l k
  unfold laws_sameInts.f
  repeat' first
      | (with_reducible exact ih0 _ _ _ _)
      | (with_reducible exact LeO.refl _)
      | (with_reducible exact LeO.none _)
      | (with_reducible refine LeO.ite ?_ ?_)
      | (with_reducible refine LeO.bind ?_ (fun _ => ?_))
      | exact ih0 _ _ _ _
      | exact LeO.none _
      | refine LeO.ite ?_ ?_
      | refine LeO.bind ?_ (fun _ => ?_)
set_option maxHeartbeats 8000000 in
set_option maxRecDepth 100000 in
theorem laws_sameInts.calls (k : Nat) (A0 : Option Addr) (c0 : Nat) (l0 : List Int) (A1 : Option Addr) (c1 : Nat) (l1 : List Int) (r : Bool) (w : World) (hr0 : Kd.C (Kd.int .i64) w A0 l0.length l0) (hc0 : l0.length ≤ c0) (hr1 : Kd.C (Kd.int .i64) w A1 l1.length l1) (hc1 : l1.length ≤ c1) (h : laws_sameInts.f k l0 l1 = some r) :
    Calls Try.prog 47 #[.slice A0 l0.length c0, .slice A1 l1.length c1] w fun e w' => e = .returned (.bool r) ∧ Drawn0 w w' := by
  have HR0 := Aside0.mk hr0
  have HC0 := Aside0.mk hc0
  clear hr0 hc0
  have HR1 := Aside0.mk hr1
  have HC1 := Aside0.mk hc1
  clear hr1 hc1
  have H : (if (l0.length : Int) = (l1.length : Int) then (laws_sameInts.l0 k l0 l1 (l0.length : Int) 0) else (some false)) = some r := h
  clear h
  by_cases c3 : (l0.length : Int) = (l1.length : Int)
  · rw [if_pos c3] at H
    have c3b0 : ((l0.length : Int) == (l1.length : Int)) = true := beq_iff_eq.mpr c3
    have c3b1 : ((l0.length : Int) != (l1.length : Int)) = false := bne_eq_false_iff_eq.mpr c3
    have c3b2 : (l0.length == l1.length) = true := by first | simpa using c3 | (simp at c3 ⊢; omega)
    clear c3
    have H' := Aside0.mk H
    clear H
    go_enter Try.func47, Try.ntmps47
    go_wp2
    repeat (go_quiet (fail); try go_wp2)
    go_loopg [13] k (fun kq v13 w' => ∃ (x13_1 : Int), v13 = .int .i64 x13_1 ∧ Aside0 (laws_sameInts.l0 kq l0 l1 (l0.length : Int) x13_1 = some r) ∧ Aside0 (kq ≤ k) ∧ Drawn0 w w')
    case atStart => exact ⟨(0), (by first | rfl | (simp; done) | (simp [*]; done)), H', ⟨Nat.le_refl _⟩, by repeat (first | exact Drawn0.refl _ | apply Drawn0.step)⟩
    case round =>
      clear H'
      try clear c1
      try clear p2
      try clear c3
      try clear c3b0
      try clear c3b1
      try clear c3b2
      obtain ⟨x13_1, rfl, HA, HK1, ⟨m1, rfl⟩⟩ := hrel
      cases gk with
      | zero => exact absurd HA.out (by simp [laws_sameInts.l0])
      | succ k1 =>
        have H := HA.out
        clear HA
        simp only [laws_sameInts.l0] at H
        by_cases c4 : x13_1 < (l0.length : Int)
        · rw [if_pos c4] at H
          have c4b0 : decide (x13_1 < (l0.length : Int)) = true := decide_eq_true c4
          clear c4
          by_cases c5 : 0 ≤ x13_1
          · rw [if_pos c5] at H
            have c5b0 : decide (0 ≤ x13_1) = true := decide_eq_true c5
            clear c5
            by_cases c6 : x13_1 < (l0.length : Int)
            · rw [if_pos c6] at H
              have c6b0 : decide (x13_1 < (l0.length : Int)) = true := decide_eq_true c6
              clear c6
              by_cases c7 : x13_1 < (l1.length : Int)
              · rw [if_pos c7] at H
                have c7b0 : decide (x13_1 < (l1.length : Int)) = true := decide_eq_true c7
                clear c7
                by_cases c8 : (rd l0 x13_1) = (rd l1 x13_1)
                · rw [if_pos c8] at H
                  have c8b0 : ((rd l0 x13_1) == (rd l1 x13_1)) = true := beq_iff_eq.mpr c8
                  have c8b1 : ((rd l0 x13_1) != (rd l1 x13_1)) = false := bne_eq_false_iff_eq.mpr c8
                  clear c8
                  have H' := Aside0.mk H
                  clear H
                  have p257 : 0 ≤ (x13_1 : Int) := of_decide_eq_true (by first | (with_reducible assumption) | assumption)
                  have q257 : x13_1 < (l0.length : Int) := of_decide_eq_true (by first | (with_reducible assumption) | assumption)
                  obtain ⟨ad257, e257, hx257_0⟩ := Kd.at_int HR0.out x13_1 p257 q257
                  cases e257
                  replace p257 := eq_true p257
                  replace q257 := eq_true q257
                  have p258 : 0 ≤ (x13_1 : Int) := of_decide_eq_true (by first | (with_reducible assumption) | assumption)
                  have q258 : x13_1 < (l1.length : Int) := of_decide_eq_true (by first | (with_reducible assumption) | assumption)
                  obtain ⟨ad258, e258, hx258_0⟩ := Kd.at_int HR1.out x13_1 p258 q258
                  cases e258
                  replace p258 := eq_true p258
                  replace q258 := eq_true q258
                  go_wp2
                  repeat (go_quiet (fail); try go_wp2)
                  go_roundg k1
                  case measure => have := HK1.out; omega
                  case rel => exact ⟨(wrap64 (x13_1 + 1)), (by first | rfl | (simp; done) | (simp [*]; done)), H', ⟨by have := HK1.out; omega⟩, by repeat (first | exact Drawn0.refl _ | apply Drawn0.step)⟩
                · rw [if_neg c8] at H
                  have c8b0 : ((rd l0 x13_1) == (rd l1 x13_1)) = false := beq_eq_false_iff_ne.mpr c8
                  have c8b1 : ((rd l0 x13_1) != (rd l1 x13_1)) = true := bne_iff_ne.mpr c8
                  obtain rfl := Option.some.inj H
                  have p257 : 0 ≤ (x13_1 : Int) := of_decide_eq_true (by first | (with_reducible assumption) | assumption)
                  have q257 : x13_1 < (l0.length : Int) := of_decide_eq_true (by first | (with_reducible assumption) | assumption)
                  obtain ⟨ad257, e257, hx257_0⟩ := Kd.at_int HR0.out x13_1 p257 q257
                  cases e257
                  replace p257 := eq_true p257
                  replace q257 := eq_true q257
                  have p258 : 0 ≤ (x13_1 : Int) := of_decide_eq_true (by first | (with_reducible assumption) | assumption)
                  have q258 : x13_1 < (l1.length : Int) := of_decide_eq_true (by first | (with_reducible assumption) | assumption)
                  obtain ⟨ad258, e258, hx258_0⟩ := Kd.at_int HR1.out x13_1 p258 q258
                  cases e258
                  replace p258 := eq_true p258
                  replace q258 := eq_true q258
                  go_wp2
                  repeat (go_quiet (fail); try go_wp2)
                  go_ret
                  exact ⟨by first | rfl | (simp; done) | (simp [*]; done), by repeat (first | exact Drawn0.refl _ | apply Drawn0.step)⟩
              · rw [if_neg c7] at H
                exact absurd H (by simp)
            · rw [if_neg c6] at H
              exact absurd H (by simp)
          · rw [if_neg c5] at H
            exact absurd H (by simp)
        · rw [if_neg c4] at H
          have c4b0 : decide (x13_1 < (l0.length : Int)) = false := decide_eq_false c4
          clear c4
          obtain rfl := Option.some.inj H
          go_wp2
          repeat (go_quiet (fail); try go_wp2)
          go_ret
          exact ⟨by first | rfl | (simp; done) | (simp [*]; done), by repeat (first | exact Drawn0.refl _ | apply Drawn0.step)⟩
  · rw [if_neg c3] at H
    have c3b0 : ((l0.length : Int) == (l1.length : Int)) = false := beq_eq_false_iff_ne.mpr c3
    have c3b1 : ((l0.length : Int) != (l1.length : Int)) = true := bne_iff_ne.mpr c3
    have c3b2 : (l0.length == l1.length) = false := by first | simpa using c3 | (simp at c3 ⊢; omega)
    obtain rfl := Option.some.inj H
    go_enter Try.func47, Try.ntmps47
    go_wp2
    repeat (go_quiet (fail); try go_wp2)
    go_ret
    exact ⟨by first | rfl | (simp; done) | (simp [*]; done), by repeat (first | exact Drawn0.refl _ | apply Drawn0.step)⟩

end Go.Proofs.Ytppgkkejddjacaa.PFnAns

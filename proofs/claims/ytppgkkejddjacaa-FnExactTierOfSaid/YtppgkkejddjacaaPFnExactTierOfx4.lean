-- This text was written by the session's own program wip/tools/xprint.py, over the kit's print; Lean checks it.
import Derived.Test.YtppgkkejddjacaaPFnExactTierOfx0
import Derived.Test.YtppgkkejddjacaaPFnExactTierOfx3
namespace Go.Proofs.Ytppgkkejddjacaa.PFnExactTierOf
open Go.RowKit Go.Proofs.YtppgkkejddjacaaW.PrintWords Go.Proofs.YtppgkkejddjacaaW.PrintLast Go.Proofs.YtppgkkejddjacaaW.PrintMore
attribute [local go_sem] max2_int min2_int max_two min_two max_three min_three max_four min_four   -- for this text's walks alone
set_option linter.unusedVariables false
set_option linter.unusedSimpArgs false

/-! ### spec_GoodShelf: function 38 -/
mutual
def spec_GoodShelf.j0 : Nat → Bool → List (S101) → List (S99) → Option (Bool)
  | 0, _, _, _ => none
  | k + 1, x21, x153000, x153001 => if x21 = true then (some false) else (spec_GoodShelf.l0 k x153001 (x153001.length : Int) 0 x153000 x153001)
def spec_GoodShelf.l0 : Nat → List (S99) → Int → Int → List (S101) → List (S99) → Option (Bool)
  | 0, _, _, _, _, _ => none
  | k + 1, x23, x24, x25, x153000, x153001 => if x25 < x24 then (if 0 ≤ x25 then (if x25 < (x23.length : Int) then ((spec_l17Tier.f ((rd_T99 x23 x25).f0)).bind fun t156 => (if t156 = true then ((spec_l1In.f ((rd_T99 x23 x25).f1) 0 60).bind fun t157 => (if t157 = true then (spec_GoodShelf.l0 k x23 x24 (wrap64 (x25 + 1)) x153000 x153001) else (some false))) else (some false))) else (none)) else (none)) else (spec_GoodShelf.l1 k x153000 (x153000.length : Int) 0 x153000 x153001)
def spec_GoodShelf.l1 : Nat → List (S101) → Int → Int → List (S101) → List (S99) → Option (Bool)
  | 0, _, _, _, _, _ => none
  | k + 1, x41, x42, x43, x153000, x153001 => if x43 < x42 then (if 0 ≤ x43 then (if x43 < (x41.length : Int) then (if x43 > 0 then (if 0 ≤ (wrap64 (x43 - 1)) then (if (wrap64 (x43 - 1)) < (x153000.length : Int) then (if ((rd_T101 x153000 (wrap64 (x43 - 1))).f0) > ((rd_T101 x41 x43).f0) then (some false) else (if ((rd_T101 x153000 (wrap64 (x43 - 1))).f0) = ((rd_T101 x41 x43).f0) then (if ((rd_T101 x153000 (wrap64 (x43 - 1))).f1) ≥ ((rd_T101 x41 x43).f1) then (some false) else (spec_GoodShelf.j3 k x41 x42 x43 x153000 x153001 ((rd_T101 x41 x43).f0) ((rd_T101 x41 x43).f1) ((rd_T101 x41 x43).f2))) else (spec_GoodShelf.j3 k x41 x42 x43 x153000 x153001 ((rd_T101 x41 x43).f0) ((rd_T101 x41 x43).f1) ((rd_T101 x41 x43).f2)))) else (none)) else (none)) else (spec_GoodShelf.j3 k x41 x42 x43 x153000 x153001 ((rd_T101 x41 x43).f0) ((rd_T101 x41 x43).f1) ((rd_T101 x41 x43).f2))) else (none)) else (none)) else (some true)
def spec_GoodShelf.j3 : Nat → List (S101) → Int → Int → List (S101) → List (S99) → Int → Int → ByteArray → Option (Bool)
  | 0, _, _, _, _, _, _, _, _ => none
  | k + 1, x41, x42, x43, x153000, x153001, x160000, x160001, x160002 => (spec_l1In.f x160000 1 (wrap64 ((x153001.length : Int) + 1))).bind fun t162 => (if t162 = true then ((spec_l1In.f x160001 0 4).bind fun t163 => (if t163 = true then (spec_GoodShelf.j4 k x41 x42 x43 (decide ((x160002.size : Int) > 60)) x153000 x153001 x160000 x160001 x160002) else (spec_GoodShelf.j4 k x41 x42 x43 true x153000 x153001 x160000 x160001 x160002))) else (spec_GoodShelf.j4 k x41 x42 x43 true x153000 x153001 x160000 x160001 x160002))
def spec_GoodShelf.j4 : Nat → List (S101) → Int → Int → Bool → List (S101) → List (S99) → Int → Int → ByteArray → Option (Bool)
  | 0, _, _, _, _, _, _, _, _, _ => none
  | k + 1, x41, x42, x43, x94, x153000, x153001, x160000, x160001, x160002 => if x94 = true then (some false) else (if x160000 ≤ (x153001.length : Int) then (if 0 ≤ (wrap64 (x160000 - 1)) then (if (wrap64 (x160000 - 1)) < (x153001.length : Int) then ((spec_l17Many.f ((rd_T99 x153001 (wrap64 (x160000 - 1))).f0)).bind fun bt166 => (if x160001 ≥ bt166.1 then (some false) else ((spec_l17Long.f ((rd_T99 x153001 (wrap64 (x160000 - 1))).f0) ((rd_T99 x153001 (wrap64 (x160000 - 1))).f1)).bind fun t168 => (if (x160002.size : Int) = t168 then (spec_GoodShelf.l1 k x41 x42 (wrap64 (x43 + 1)) x153000 x153001) else (some false))))) else (none)) else (none)) else (spec_GoodShelf.l1 k x41 x42 (wrap64 (x43 + 1)) x153000 x153001))
end
def spec_GoodShelf.f (k : Nat) (l0_0 : List (S101)) (l0_1 : List (S99)) : Option (Bool) := if (l0_0.length : Int) > 40 then (spec_GoodShelf.j0 k true l0_0 l0_1) else ((spec_l1In.f (l0_1.length : Int) 1 60).bind fun t153 => (spec_GoodShelf.j0 k (!t153) l0_0 l0_1))
theorem spec_GoodShelf.mono_l : ∀ k, (∀ y0 y1 y2, LeO (spec_GoodShelf.j0 k y0 y1 y2) (spec_GoodShelf.j0 (k + 1) y0 y1 y2)) ∧ (∀ y0 y1 y2 y3 y4, LeO (spec_GoodShelf.l0 k y0 y1 y2 y3 y4) (spec_GoodShelf.l0 (k + 1) y0 y1 y2 y3 y4)) ∧ (∀ y0 y1 y2 y3 y4, LeO (spec_GoodShelf.l1 k y0 y1 y2 y3 y4) (spec_GoodShelf.l1 (k + 1) y0 y1 y2 y3 y4)) ∧ (∀ y0 y1 y2 y3 y4 y5 y6 y7, LeO (spec_GoodShelf.j3 k y0 y1 y2 y3 y4 y5 y6 y7) (spec_GoodShelf.j3 (k + 1) y0 y1 y2 y3 y4 y5 y6 y7)) ∧ (∀ y0 y1 y2 y3 y4 y5 y6 y7 y8, LeO (spec_GoodShelf.j4 k y0 y1 y2 y3 y4 y5 y6 y7 y8) (spec_GoodShelf.j4 (k + 1) y0 y1 y2 y3 y4 y5 y6 y7 y8))
  | 0 => ⟨fun _ _ _ r h => by simp [spec_GoodShelf.j0] at h, fun _ _ _ _ _ r h => by simp [spec_GoodShelf.l0] at h, fun _ _ _ _ _ r h => by simp [spec_GoodShelf.l1] at h, fun _ _ _ _ _ _ _ _ r h => by simp [spec_GoodShelf.j3] at h, fun _ _ _ _ _ _ _ _ _ r h => by simp [spec_GoodShelf.j4] at h⟩
  | k + 1 => by
   obtain ⟨ih0, ih1, ih2, ih3, ih4⟩ := spec_GoodShelf.mono_l k
   refine ⟨?_, ?_, ?_, ?_, ?_⟩
   ·intro y0 y1 y2
    unfold spec_GoodShelf.j0
    repeat' first
    | (with_reducible exact ih0 _ _ _)
    | (with_reducible exact ih1 _ _ _ _ _)
    | (with_reducible exact ih2 _ _ _ _ _)
    | (with_reducible exact ih3 _ _ _ _ _ _ _ _)
    | (with_reducible exact ih4 _ _ _ _ _ _ _ _ _)
    | (with_reducible exact LeO.refl _)
    | (with_reducible exact LeO.none _)
    | (with_reducible refine LeO.ite ?_ ?_)
    | (with_reducible refine LeO.bind ?_ (fun _ => ?_))
    | exact ih0 _ _ _
    | exact ih1 _ _ _ _ _
    | exact ih2 _ _ _ _ _
    | exact ih3 _ _ _ _ _ _ _ _
    | exact ih4 _ _ _ _ _ _ _ _ _
    | exact LeO.none _
    | refine LeO.ite ?_ ?_
    | refine LeO.bind ?_ (fun _ => ?_)
   ·intro y0 y1 y2 y3 y4
    unfold spec_GoodShelf.l0
    repeat' first
    | (with_reducible exact ih0 _ _ _)
    | (with_reducible exact ih1 _ _ _ _ _)
    | (with_reducible exact ih2 _ _ _ _ _)
    | (with_reducible exact ih3 _ _ _ _ _ _ _ _)
    | (with_reducible exact ih4 _ _ _ _ _ _ _ _ _)
    | (with_reducible exact LeO.refl _)
    | (with_reducible exact LeO.none _)
    | (with_reducible refine LeO.ite ?_ ?_)
    | (with_reducible refine LeO.bind ?_ (fun _ => ?_))
    | exact ih0 _ _ _
    | exact ih1 _ _ _ _ _
    | exact ih2 _ _ _ _ _
    | exact ih3 _ _ _ _ _ _ _ _
    | exact ih4 _ _ _ _ _ _ _ _ _
    | exact LeO.none _
    | refine LeO.ite ?_ ?_
    | refine LeO.bind ?_ (fun _ => ?_)
   ·intro y0 y1 y2 y3 y4
    unfold spec_GoodShelf.l1
    repeat' first
    | (with_reducible exact ih0 _ _ _)
    | (with_reducible exact ih1 _ _ _ _ _)
    | (with_reducible exact ih2 _ _ _ _ _)
    | (with_reducible exact ih3 _ _ _ _ _ _ _ _)
    | (with_reducible exact ih4 _ _ _ _ _ _ _ _ _)
    | (with_reducible exact LeO.refl _)
    | (with_reducible exact LeO.none _)
    | (with_reducible refine LeO.ite ?_ ?_)
    | (with_reducible refine LeO.bind ?_ (fun _ => ?_))
    | exact ih0 _ _ _
    | exact ih1 _ _ _ _ _
    | exact ih2 _ _ _ _ _
    | exact ih3 _ _ _ _ _ _ _ _
    | exact ih4 _ _ _ _ _ _ _ _ _
    | exact LeO.none _
    | refine LeO.ite ?_ ?_
    | refine LeO.bind ?_ (fun _ => ?_)
   ·intro y0 y1 y2 y3 y4 y5 y6 y7
    unfold spec_GoodShelf.j3
    repeat' first
    | (with_reducible exact ih0 _ _ _)
    | (with_reducible exact ih1 _ _ _ _ _)
    | (with_reducible exact ih2 _ _ _ _ _)
    | (with_reducible exact ih3 _ _ _ _ _ _ _ _)
    | (with_reducible exact ih4 _ _ _ _ _ _ _ _ _)
    | (with_reducible exact LeO.refl _)
    | (with_reducible exact LeO.none _)
    | (with_reducible refine LeO.ite ?_ ?_)
    | (with_reducible refine LeO.bind ?_ (fun _ => ?_))
    | exact ih0 _ _ _
    | exact ih1 _ _ _ _ _
    | exact ih2 _ _ _ _ _
    | exact ih3 _ _ _ _ _ _ _ _
    | exact ih4 _ _ _ _ _ _ _ _ _
    | exact LeO.none _
    | refine LeO.ite ?_ ?_
    | refine LeO.bind ?_ (fun _ => ?_)
   ·intro y0 y1 y2 y3 y4 y5 y6 y7 y8
    unfold spec_GoodShelf.j4
    repeat' first
    | (with_reducible exact ih0 _ _ _)
    | (with_reducible exact ih1 _ _ _ _ _)
    | (with_reducible exact ih2 _ _ _ _ _)
    | (with_reducible exact ih3 _ _ _ _ _ _ _ _)
    | (with_reducible exact ih4 _ _ _ _ _ _ _ _ _)
    | (with_reducible exact LeO.refl _)
    | (with_reducible exact LeO.none _)
    | (with_reducible refine LeO.ite ?_ ?_)
    | (with_reducible refine LeO.bind ?_ (fun _ => ?_))
    | exact ih0 _ _ _
    | exact ih1 _ _ _ _ _
    | exact ih2 _ _ _ _ _
    | exact ih3 _ _ _ _ _ _ _ _
    | exact ih4 _ _ _ _ _ _ _ _ _
    | exact LeO.none _
    | refine LeO.ite ?_ ?_
    | refine LeO.bind ?_ (fun _ => ?_)
theorem spec_GoodShelf.mono : ∀ a0 a1 k, LeO (spec_GoodShelf.f k a0 a1) (spec_GoodShelf.f (k + 1) a0 a1) := by
  intro a0 a1 k
  obtain ⟨ih0, ih1, ih2, ih3, ih4⟩ := spec_GoodShelf.mono_l k
  unfold spec_GoodShelf.f
  repeat' first
    | (with_reducible exact ih0 _ _ _)
    | (with_reducible exact ih1 _ _ _ _ _)
    | (with_reducible exact ih2 _ _ _ _ _)
    | (with_reducible exact ih3 _ _ _ _ _ _ _ _)
    | (with_reducible exact ih4 _ _ _ _ _ _ _ _ _)
    | (with_reducible exact LeO.refl _)
    | (with_reducible exact LeO.none _)
    | (with_reducible refine LeO.ite ?_ ?_)
    | (with_reducible refine LeO.bind ?_ (fun _ => ?_))
    | exact ih0 _ _ _
    | exact ih1 _ _ _ _ _
    | exact ih2 _ _ _ _ _
    | exact ih3 _ _ _ _ _ _ _ _
    | exact ih4 _ _ _ _ _ _ _ _ _
    | exact LeO.none _
    | refine LeO.ite ?_ ?_
    | refine LeO.bind ?_ (fun _ => ?_)
set_option maxHeartbeats 8000000 in
set_option maxRecDepth 100000 in
theorem spec_GoodShelf.calls (k : Nat) (A0_0 : Option Addr) (c0_0 : Nat) (l0_0 : List (S101)) (A0_1 : Option Addr) (c0_1 : Nat) (l0_1 : List (S99)) (r : Bool) (w : World) (hr0_0 : Kd.C k101 w A0_0 l0_0.length l0_0) (hc0_0 : l0_0.length ≤ c0_0) (hr0_1 : Kd.C k99 w A0_1 l0_1.length l0_1) (hc0_1 : l0_1.length ≤ c0_1) (h : spec_GoodShelf.f k l0_0 l0_1 = some r) :
   Calls Try.prog 38 #[.agg #[.slice A0_0 l0_0.length c0_0, .slice A0_1 l0_1.length c0_1]] w fun e w' => e = .returned (.bool r) ∧ Below w.heap.size w w' := by
  have hu64 := Try.underlying64
  have hu99 := Try.underlying99
  have hu101 := Try.underlying101
  have HR0_0 := Aside0.mk hr0_0
  have HC0_0 := Aside0.mk hc0_0
  clear hr0_0 hc0_0
  have HR0_1 := Aside0.mk hr0_1
  have HC0_1 := Aside0.mk hc0_1
  clear hr0_1 hc0_1
  have HB := xM (Below.refl w.heap.size w)
  have H : (if (l0_0.length : Int) > 40 then (spec_GoodShelf.j0 k true l0_0 l0_1) else ((spec_l1In.f (l0_1.length : Int) 1 60).bind fun t153 => (spec_GoodShelf.j0 k (!t153) l0_0 l0_1))) = some r := h
  clear h
  have HC2 := Aside0.mk H
  clear H
  go_enter Try.func38, Try.ntmps38
  go_upto_region 1 with (first | ((with_reducible refine gate_dst (N := 1) rfl ?_); (try (refine gate_guard (by rfl) ?_; dsimp only)); refine box_event ?hg (N := 1) ?hd (cs := #[.slice A0_0 l0_0.length c0_0, .slice A0_1 l0_1.length c0_1]) (t := 64) ?hr ?_; (case hd => rfl); (case hg => rfl); (case hr => first | (go_simp; done) | (go_simp; rfl)); intro gb152 hg w3 hbox hb; have BK152 := xM (hbox); have GW152 := xM ((by rw [hg]; exact (below_size (yh HB)) : w.heap.size ≤ gb152)); have GE152 := xM ((by rw [hg]; exact (below_size (yh HB)) : w.heap.size ≤ gb152)); replace HB := xM (below_step (yh HB) hb); clear hb hbox hg))
  repeat (go_quiet (first | ((with_reducible refine gate_dst (N := 1) rfl ?_); (try (refine gate_guard (by rfl) ?_; dsimp only)); refine box_event ?hg (N := 1) ?hd (cs := #[.slice A0_0 l0_0.length c0_0, .slice A0_1 l0_1.length c0_1]) (t := 64) ?hr ?_; (case hd => rfl); (case hg => rfl); (case hr => first | (go_simp; done) | (go_simp; rfl)); intro gb152 hg w3 hbox hb; have BK152 := xM (hbox); have GW152 := xM ((by rw [hg]; exact (below_size (yh HB)) : w.heap.size ≤ gb152)); have GE152 := xM ((by rw [hg]; exact (below_size (yh HB)) : w.heap.size ≤ gb152)); replace HB := xM (below_step (yh HB) hb); clear hb hbox hg)); go_upto_region 1 with (first | ((with_reducible refine gate_dst (N := 1) rfl ?_); (try (refine gate_guard (by rfl) ?_; dsimp only)); refine box_event ?hg (N := 1) ?hd (cs := #[.slice A0_0 l0_0.length c0_0, .slice A0_1 l0_1.length c0_1]) (t := 64) ?hr ?_; (case hd => rfl); (case hg => rfl); (case hr => first | (go_simp; done) | (go_simp; rfl)); intro gb152 hg w3 hbox hb; have BK152 := xM (hbox); have GW152 := xM ((by rw [hg]; exact (below_size (yh HB)) : w.heap.size ≤ gb152)); have GE152 := xM ((by rw [hg]; exact (below_size (yh HB)) : w.heap.size ≤ gb152)); replace HB := xM (below_step (yh HB) hb); clear hb hbox hg)))
  (try simp only [Act.put, List.setIfInBounds_toArray, List.set_cons_zero, List.set_cons_succ])
  go_cut [21] (fun v21 wc => ∃ (kq : Nat) (x21_1 : Bool), v21 = .bool x21_1 ∧ Aside0 (spec_GoodShelf.j0 kq x21_1 l0_0 l0_1 = some r) ∧ Aside0 (kq ≤ k) ∧ Aside0 (wc.heap[gb152]? = some (.cells #[(.slice A0_0 l0_0.length c0_0), (.slice A0_1 l0_1.length c0_1)] 64 (0, 0))) ∧ Aside0 (Below w.heap.size w wc))
  case first =>
   have H := HC2.out
   clear HC2
   by_cases c4 : (l0_0.length : Int) > 40
   ·rw [if_pos c4] at H
    have c4b0 : decide (40 < (l0_0.length : Int)) = true := decide_eq_true c4
    have c4b1 : decide (40 < l0_0.length) = true := decide_eq_true (by omega)
    clear c4
    (first | rw [c4b0] | (simp only [i64_w, i32_w]; rw [c4b0]) | skip)
    have H' := Aside0.mk H
    clear H
    have hcz5_0 : w3.cell? ⟨gb152, 0, none⟩ = some (.slice A0_0 l0_0.length c0_0) := (blk_cell BK152.out 0).trans rfl
    have hcz5_1 : w3.cell? ⟨gb152, 1, none⟩ = some (.slice A0_1 l0_1.length c0_1) := (blk_cell BK152.out 1).trans rfl
    have hfz5_0 := blk_frozen BK152.out 0
    have hfz5_1 := blk_frozen BK152.out 1
    go_wp2
    repeat (go_quiet (fail); try go_wp2)
    go_meet
    case rel => exact ⟨_, (true), (by first | rfl | (simp; done) | (simp [*]; done)), H', ⟨by first | omega | exact Nat.le_refl _⟩, ⟨by (with_reducible repeat (first | apply xbN | apply xbD | apply xbA)); exact BK152.out⟩, ⟨yh HB⟩⟩
   ·rw [if_neg c4] at H
    have c4b0 : decide (40 < (l0_0.length : Int)) = false := decide_eq_false c4
    have c4b1 : decide (40 < l0_0.length) = false := decide_eq_false (by omega)
    clear c4
    (first | rw [c4b0] | (simp only [i64_w, i32_w]; rw [c4b0]) | skip)
    replace H := Option.bind_eq_some_iff.mp H
    obtain ⟨t153, A60, H⟩ := H
    replace H : (spec_GoodShelf.j0 k (!t153) l0_0 l0_1) = some r := H
    have A6 := Aside0.mk A60
    clear A60
    have H' := Aside0.mk H
    clear H
    have hcz7_0 : w3.cell? ⟨gb152, 0, none⟩ = some (.slice A0_0 l0_0.length c0_0) := (blk_cell BK152.out 0).trans rfl
    have hcz7_1 : w3.cell? ⟨gb152, 1, none⟩ = some (.slice A0_1 l0_1.length c0_1) := (blk_cell BK152.out 1).trans rfl
    have hfz7_0 := blk_frozen BK152.out 0
    have hfz7_1 := blk_frozen BK152.out 1
    go_wp2_with (first | (go_at_call 54; (with_reducible refine (spec_l1In.calls (l0_1.length : Int) 1 60 t153 _ A6.out).mono ?_); rintro e w' ⟨rfl, ⟨nd, rfl⟩⟩; (try first | exact ⟨rfl, _, World.drewN_drewN _ _ _⟩ | exact ⟨rfl, _, Eq.trans (World.drewN_drewN _ _ _) (congrArg (World.drewN _) (Nat.add_assoc _ _ _))⟩)))
    repeat (go_quiet (first | (go_at_call 54; (with_reducible refine (spec_l1In.calls (l0_1.length : Int) 1 60 t153 _ A6.out).mono ?_); rintro e w' ⟨rfl, ⟨nd, rfl⟩⟩; (try first | exact ⟨rfl, _, World.drewN_drewN _ _ _⟩ | exact ⟨rfl, _, Eq.trans (World.drewN_drewN _ _ _) (congrArg (World.drewN _) (Nat.add_assoc _ _ _))⟩))); try go_wp2_with (first | (go_at_call 54; (with_reducible refine (spec_l1In.calls (l0_1.length : Int) 1 60 t153 _ A6.out).mono ?_); rintro e w' ⟨rfl, ⟨nd, rfl⟩⟩; (try first | exact ⟨rfl, _, World.drewN_drewN _ _ _⟩ | exact ⟨rfl, _, Eq.trans (World.drewN_drewN _ _ _) (congrArg (World.drewN _) (Nat.add_assoc _ _ _))⟩))))
    go_meet
    case rel => exact ⟨_, (!t153), (by first | rfl | (simp; done) | (simp [*]; done)), H', ⟨by first | omega | exact Nat.le_refl _⟩, ⟨by (with_reducible repeat (first | apply xbN | apply xbD | apply xbA)); exact BK152.out⟩, ⟨yh HB⟩⟩
  case rest =>
   clear HC2
   try clear p2
   try clear c3
   try clear c4
   try clear c4b0
   try clear c4b1
   try clear hcz5_0
   try clear hcz5_1
   try clear hcz7_0
   try clear hcz7_1
   try clear hfz5_0
   try clear hfz5_1
   try clear hfz7_0
   try clear hfz7_1
   obtain ⟨kq, x21_1, rfl, HA, HJ1, BK152, HB⟩ := hcut
   cases kq with
   | zero => exact absurd HA.out (by simp [spec_GoodShelf.j0])
   | succ kj1 =>
    have H := HA.out
    clear HA
    simp only [spec_GoodShelf.j0] at H
    by_cases c8 : x21_1 = true
    ·subst c8
     have H1 : (some false) = some r := by rw [if_pos rfl] at H; exact H
     clear H
     have H := H1
     clear H1
     obtain rfl := Option.some.inj H
     go_wp2
     repeat (go_quiet (fail); try go_wp2)
     go_ret
     exact ⟨by first | rfl | (simp [errW_none, errW_some] <;> rfl) | (simp [*, errW_none, errW_some] <;> rfl), by repeat (first | (with_reducible first | exact HB.out | apply xa | apply xn | apply xd | refine xs ?_ GE152.out) | exact HB.out)⟩
    ·replace c8 := Bool.eq_false_iff.mpr c8
     subst c8
     have H1 : (spec_GoodShelf.l0 kj1 l0_1 (l0_1.length : Int) 0 l0_0 l0_1) = some r := by rw [if_neg (show ¬ (false = true) by decide)] at H; exact H
     clear H
     have H := H1
     clear H1
     have H' := Aside0.mk H
     clear H
     have hcz9_0 : wc.cell? ⟨gb152, 0, none⟩ = some (.slice A0_0 l0_0.length c0_0) := (blk_cell BK152.out 0).trans rfl
     have hcz9_1 : wc.cell? ⟨gb152, 1, none⟩ = some (.slice A0_1 l0_1.length c0_1) := (blk_cell BK152.out 1).trans rfl
     have hfz9_0 := blk_frozen BK152.out 0
     have hfz9_1 := blk_frozen BK152.out 1
     go_wp2
     repeat (go_quiet (fail); try go_wp2)
     go_loopg [25] kj1 (fun kq v25 w' => ∃ (x25_2 : Int), v25 = .int .i64 x25_2 ∧ Aside0 (spec_GoodShelf.l0 kq l0_1 (l0_1.length : Int) x25_2 l0_0 l0_1 = some r) ∧ Aside0 (kq ≤ kj1) ∧ Aside0 (w'.heap[gb152]? = some (.cells #[(.slice A0_0 l0_0.length c0_0), (.slice A0_1 l0_1.length c0_1)] 64 (0, 0))) ∧ Aside0 (Below w.heap.size w w'))
     case atStart => exact ⟨(0), (by first | rfl | (simp; done) | (simp [*]; done)), H', ⟨Nat.le_refl _⟩, ⟨by (with_reducible repeat (first | apply xbN | apply xbD | apply xbA)); exact BK152.out⟩, ⟨yh HB⟩⟩
     case round =>
      clear H'
      try clear p2
      try clear c3
      try clear c4
      try clear c4b0
      try clear c4b1
      try clear c8
      try clear hcz5_0
      try clear hcz5_1
      try clear hcz7_0
      try clear hcz7_1
      try clear hcz9_0
      try clear hcz9_1
      try clear hfz5_0
      try clear hfz5_1
      try clear hfz7_0
      try clear hfz7_1
      try clear hfz9_0
      try clear hfz9_1
      try clear p2
      obtain ⟨x25_2, rfl, HA, HK2, BK152, HB⟩ := hrel
      cases gk with
      | zero => exact absurd HA.out (by simp [spec_GoodShelf.l0])
      | succ k2 =>
       have H := HA.out
       clear HA
       simp only [spec_GoodShelf.l0] at H
       by_cases c10 : x25_2 < (l0_1.length : Int)
       ·rw [if_pos c10] at H
        have c10b0 : decide (x25_2 < (l0_1.length : Int)) = true := decide_eq_true c10
        clear c10
        by_cases c11 : 0 ≤ x25_2
        ·rw [if_pos c11] at H
         have c11b0 : decide (0 ≤ x25_2) = true := decide_eq_true c11
         clear c11
         by_cases c12 : x25_2 < (l0_1.length : Int)
         ·rw [if_pos c12] at H
          have c12b0 : decide (x25_2 < (l0_1.length : Int)) = true := decide_eq_true c12
          clear c12
          replace H := Option.bind_eq_some_iff.mp H
          obtain ⟨t156, A130, H⟩ := H
          replace H : (if t156 = true then ((spec_l1In.f ((rd_T99 l0_1 x25_2).f1) 0 60).bind fun t157 => (if t157 = true then (spec_GoodShelf.l0 k2 l0_1 (l0_1.length : Int) (wrap64 (x25_2 + 1)) l0_0 l0_1) else (some false))) else (some false)) = some r := H
          have A13 := Aside0.mk A130
          clear A130
          by_cases c14 : t156 = true
          ·subst c14
           have H1 : ((spec_l1In.f ((rd_T99 l0_1 x25_2).f1) 0 60).bind fun t157 => (if t157 = true then (spec_GoodShelf.l0 k2 l0_1 (l0_1.length : Int) (wrap64 (x25_2 + 1)) l0_0 l0_1) else (some false))) = some r := by rw [if_pos rfl] at H; exact H
           clear H
           have H := H1
           clear H1
           replace H := Option.bind_eq_some_iff.mp H
           obtain ⟨t157, A150, H⟩ := H
           replace H : (if t157 = true then (spec_GoodShelf.l0 k2 l0_1 (l0_1.length : Int) (wrap64 (x25_2 + 1)) l0_0 l0_1) else (some false)) = some r := H
           have A15 := Aside0.mk A150
           clear A150
           by_cases c16 : t157 = true
           ·subst c16
            have H1 : (spec_GoodShelf.l0 k2 l0_1 (l0_1.length : Int) (wrap64 (x25_2 + 1)) l0_0 l0_1) = some r := by rw [if_pos rfl] at H; exact H
            clear H
            have H := H1
            clear H1
            have H' := Aside0.mk H
            clear H
            have p154 : 0 ≤ (x25_2 : Int) := of_decide_eq_true (by first | (with_reducible assumption) | assumption)
            have q154 : x25_2 < (l0_1.length : Int) := of_decide_eq_true (by first | (with_reducible assumption) | assumption)
            obtain ⟨ad154, e154, hx154_0, hx154_1⟩ := at_T99 HR0_1.out x25_2 p154 q154
            cases e154
            replace hx154_0 := (HB.out.cell (World.block_lt_of_cell? w _ hx154_0)).trans hx154_0
            replace hx154_1 := (HB.out.cell (World.block_lt_of_cell? w _ hx154_1)).trans hx154_1
            replace p154 := eq_true p154
            replace q154 := eq_true q154
            go_wp2_with (first | ((with_reducible refine gate_dst (N := 4) rfl ?_); (try (refine gate_guard (by rfl) ?_; dsimp only)); refine box_event ?hg (N := 4) ?hd (cs := #[.int .i64 0, .int .i64 0]) (t := 99) ?hr ?_; (case hd => rfl); (case hg => rfl); (case hr => first | (go_simp; done) | (go_simp; rfl)); intro gb155 hg w17 hbox hb; have BK155 := xM (hbox); have GW155 := xM ((by rw [hg]; exact (below_size (yh HB)) : w.heap.size ≤ gb155)); have GE155 := xM ((by rw [hg]; exact (below_size (yh HB)) : w.heap.size ≤ gb155)); have NB152_155 := xM ((by rw [hg]; exact Nat.ne_of_lt (blk_lt (yb BK152)) : gb152 ≠ gb155)); have NB155_152 := xM ((by rw [hg]; exact Nat.ne_of_gt (blk_lt (yb BK152)) : gb155 ≠ gb152)); replace BK152 := xM (xB (yb BK152) hb); replace HB := xM (below_step (yh HB) hb); clear hb hbox hg; have hnb18 := NB155_152.out; have hnc18 := NB152_155.out; have hcz19_0 : w17.cell? ⟨gb155, 0, none⟩ = some (.int .i64 0) := (blk_cell BK155.out 0).trans rfl; have hcz19_1 : w17.cell? ⟨gb155, 1, none⟩ = some (.int .i64 0) := (blk_cell BK155.out 1).trans rfl; have hfz19_0 := blk_frozen BK155.out 0; have hfz19_1 := blk_frozen BK155.out 1) | (go_at_call 81; (with_reducible refine (spec_l17Tier.calls ((rd_T99 l0_1 x25_2).f0) true _ A13.out).mono ?_); rintro e w' ⟨rfl, ⟨nd, rfl⟩⟩; (try first | exact ⟨rfl, _, World.drewN_drewN _ _ _⟩ | exact ⟨rfl, _, Eq.trans (World.drewN_drewN _ _ _) (congrArg (World.drewN _) (Nat.add_assoc _ _ _))⟩)) | (go_at_call 54; (with_reducible refine (spec_l1In.calls ((rd_T99 l0_1 x25_2).f1) 0 60 true _ A15.out).mono ?_); rintro e w' ⟨rfl, ⟨nd, rfl⟩⟩; (try first | exact ⟨rfl, _, World.drewN_drewN _ _ _⟩ | exact ⟨rfl, _, Eq.trans (World.drewN_drewN _ _ _) (congrArg (World.drewN _) (Nat.add_assoc _ _ _))⟩)))
            repeat (go_quiet (first | ((with_reducible refine gate_dst (N := 4) rfl ?_); (try (refine gate_guard (by rfl) ?_; dsimp only)); refine box_event ?hg (N := 4) ?hd (cs := #[.int .i64 0, .int .i64 0]) (t := 99) ?hr ?_; (case hd => rfl); (case hg => rfl); (case hr => first | (go_simp; done) | (go_simp; rfl)); intro gb155 hg w17 hbox hb; have BK155 := xM (hbox); have GW155 := xM ((by rw [hg]; exact (below_size (yh HB)) : w.heap.size ≤ gb155)); have GE155 := xM ((by rw [hg]; exact (below_size (yh HB)) : w.heap.size ≤ gb155)); have NB152_155 := xM ((by rw [hg]; exact Nat.ne_of_lt (blk_lt (yb BK152)) : gb152 ≠ gb155)); have NB155_152 := xM ((by rw [hg]; exact Nat.ne_of_gt (blk_lt (yb BK152)) : gb155 ≠ gb152)); replace BK152 := xM (xB (yb BK152) hb); replace HB := xM (below_step (yh HB) hb); clear hb hbox hg; have hnb18 := NB155_152.out; have hnc18 := NB152_155.out; have hcz19_0 : w17.cell? ⟨gb155, 0, none⟩ = some (.int .i64 0) := (blk_cell BK155.out 0).trans rfl; have hcz19_1 : w17.cell? ⟨gb155, 1, none⟩ = some (.int .i64 0) := (blk_cell BK155.out 1).trans rfl; have hfz19_0 := blk_frozen BK155.out 0; have hfz19_1 := blk_frozen BK155.out 1) | (go_at_call 81; (with_reducible refine (spec_l17Tier.calls ((rd_T99 l0_1 x25_2).f0) true _ A13.out).mono ?_); rintro e w' ⟨rfl, ⟨nd, rfl⟩⟩; (try first | exact ⟨rfl, _, World.drewN_drewN _ _ _⟩ | exact ⟨rfl, _, Eq.trans (World.drewN_drewN _ _ _) (congrArg (World.drewN _) (Nat.add_assoc _ _ _))⟩)) | (go_at_call 54; (with_reducible refine (spec_l1In.calls ((rd_T99 l0_1 x25_2).f1) 0 60 true _ A15.out).mono ?_); rintro e w' ⟨rfl, ⟨nd, rfl⟩⟩; (try first | exact ⟨rfl, _, World.drewN_drewN _ _ _⟩ | exact ⟨rfl, _, Eq.trans (World.drewN_drewN _ _ _) (congrArg (World.drewN _) (Nat.add_assoc _ _ _))⟩))); try go_wp2_with (first | ((with_reducible refine gate_dst (N := 4) rfl ?_); (try (refine gate_guard (by rfl) ?_; dsimp only)); refine box_event ?hg (N := 4) ?hd (cs := #[.int .i64 0, .int .i64 0]) (t := 99) ?hr ?_; (case hd => rfl); (case hg => rfl); (case hr => first | (go_simp; done) | (go_simp; rfl)); intro gb155 hg w17 hbox hb; have BK155 := xM (hbox); have GW155 := xM ((by rw [hg]; exact (below_size (yh HB)) : w.heap.size ≤ gb155)); have GE155 := xM ((by rw [hg]; exact (below_size (yh HB)) : w.heap.size ≤ gb155)); have NB152_155 := xM ((by rw [hg]; exact Nat.ne_of_lt (blk_lt (yb BK152)) : gb152 ≠ gb155)); have NB155_152 := xM ((by rw [hg]; exact Nat.ne_of_gt (blk_lt (yb BK152)) : gb155 ≠ gb152)); replace BK152 := xM (xB (yb BK152) hb); replace HB := xM (below_step (yh HB) hb); clear hb hbox hg; have hnb18 := NB155_152.out; have hnc18 := NB152_155.out; have hcz19_0 : w17.cell? ⟨gb155, 0, none⟩ = some (.int .i64 0) := (blk_cell BK155.out 0).trans rfl; have hcz19_1 : w17.cell? ⟨gb155, 1, none⟩ = some (.int .i64 0) := (blk_cell BK155.out 1).trans rfl; have hfz19_0 := blk_frozen BK155.out 0; have hfz19_1 := blk_frozen BK155.out 1) | (go_at_call 81; (with_reducible refine (spec_l17Tier.calls ((rd_T99 l0_1 x25_2).f0) true _ A13.out).mono ?_); rintro e w' ⟨rfl, ⟨nd, rfl⟩⟩; (try first | exact ⟨rfl, _, World.drewN_drewN _ _ _⟩ | exact ⟨rfl, _, Eq.trans (World.drewN_drewN _ _ _) (congrArg (World.drewN _) (Nat.add_assoc _ _ _))⟩)) | (go_at_call 54; (with_reducible refine (spec_l1In.calls ((rd_T99 l0_1 x25_2).f1) 0 60 true _ A15.out).mono ?_); rintro e w' ⟨rfl, ⟨nd, rfl⟩⟩; (try first | exact ⟨rfl, _, World.drewN_drewN _ _ _⟩ | exact ⟨rfl, _, Eq.trans (World.drewN_drewN _ _ _) (congrArg (World.drewN _) (Nat.add_assoc _ _ _))⟩))))
            go_roundg k2
            case measure => have := HJ1.out; have := HK2.out; omega
            case rel => exact ⟨(wrap64 (x25_2 + 1)), (by first | rfl | (simp; done) | (simp [*]; done)), H', ⟨by have := HJ1.out; have := HK2.out; omega⟩, ⟨by (with_reducible repeat (first | apply xbN | apply xbD | apply xbA)); refine blk_far ?_ NB152_155.out _; (with_reducible repeat (first | apply xbN | apply xbD | apply xbA)); refine blk_far ?_ NB152_155.out _; (with_reducible repeat (first | apply xbN | apply xbD | apply xbA)); exact BK152.out⟩, ⟨yh HB⟩⟩
           ·replace c16 := Bool.eq_false_iff.mpr c16
            subst c16
            have H1 : (some false) = some r := by rw [if_neg (show ¬ (false = true) by decide)] at H; exact H
            clear H
            have H := H1
            clear H1
            obtain rfl := Option.some.inj H
            have p154 : 0 ≤ (x25_2 : Int) := of_decide_eq_true (by first | (with_reducible assumption) | assumption)
            have q154 : x25_2 < (l0_1.length : Int) := of_decide_eq_true (by first | (with_reducible assumption) | assumption)
            obtain ⟨ad154, e154, hx154_0, hx154_1⟩ := at_T99 HR0_1.out x25_2 p154 q154
            cases e154
            replace hx154_0 := (HB.out.cell (World.block_lt_of_cell? w _ hx154_0)).trans hx154_0
            replace hx154_1 := (HB.out.cell (World.block_lt_of_cell? w _ hx154_1)).trans hx154_1
            replace p154 := eq_true p154
            replace q154 := eq_true q154
            go_wp2_with (first | ((with_reducible refine gate_dst (N := 4) rfl ?_); (try (refine gate_guard (by rfl) ?_; dsimp only)); refine box_event ?hg (N := 4) ?hd (cs := #[.int .i64 0, .int .i64 0]) (t := 99) ?hr ?_; (case hd => rfl); (case hg => rfl); (case hr => first | (go_simp; done) | (go_simp; rfl)); intro gb155 hg w20 hbox hb; have BK155 := xM (hbox); have GW155 := xM ((by rw [hg]; exact (below_size (yh HB)) : w.heap.size ≤ gb155)); have GE155 := xM ((by rw [hg]; exact (below_size (yh HB)) : w.heap.size ≤ gb155)); have NB152_155 := xM ((by rw [hg]; exact Nat.ne_of_lt (blk_lt (yb BK152)) : gb152 ≠ gb155)); have NB155_152 := xM ((by rw [hg]; exact Nat.ne_of_gt (blk_lt (yb BK152)) : gb155 ≠ gb152)); replace BK152 := xM (xB (yb BK152) hb); replace HB := xM (below_step (yh HB) hb); clear hb hbox hg; have hnb21 := NB155_152.out; have hnc21 := NB152_155.out; have hcz22_0 : w20.cell? ⟨gb155, 0, none⟩ = some (.int .i64 0) := (blk_cell BK155.out 0).trans rfl; have hcz22_1 : w20.cell? ⟨gb155, 1, none⟩ = some (.int .i64 0) := (blk_cell BK155.out 1).trans rfl; have hfz22_0 := blk_frozen BK155.out 0; have hfz22_1 := blk_frozen BK155.out 1) | (go_at_call 81; (with_reducible refine (spec_l17Tier.calls ((rd_T99 l0_1 x25_2).f0) true _ A13.out).mono ?_); rintro e w' ⟨rfl, ⟨nd, rfl⟩⟩; (try first | exact ⟨rfl, _, World.drewN_drewN _ _ _⟩ | exact ⟨rfl, _, Eq.trans (World.drewN_drewN _ _ _) (congrArg (World.drewN _) (Nat.add_assoc _ _ _))⟩)) | (go_at_call 54; (with_reducible refine (spec_l1In.calls ((rd_T99 l0_1 x25_2).f1) 0 60 false _ A15.out).mono ?_); rintro e w' ⟨rfl, ⟨nd, rfl⟩⟩; (try first | exact ⟨rfl, _, World.drewN_drewN _ _ _⟩ | exact ⟨rfl, _, Eq.trans (World.drewN_drewN _ _ _) (congrArg (World.drewN _) (Nat.add_assoc _ _ _))⟩)))
            repeat (go_quiet (first | ((with_reducible refine gate_dst (N := 4) rfl ?_); (try (refine gate_guard (by rfl) ?_; dsimp only)); refine box_event ?hg (N := 4) ?hd (cs := #[.int .i64 0, .int .i64 0]) (t := 99) ?hr ?_; (case hd => rfl); (case hg => rfl); (case hr => first | (go_simp; done) | (go_simp; rfl)); intro gb155 hg w20 hbox hb; have BK155 := xM (hbox); have GW155 := xM ((by rw [hg]; exact (below_size (yh HB)) : w.heap.size ≤ gb155)); have GE155 := xM ((by rw [hg]; exact (below_size (yh HB)) : w.heap.size ≤ gb155)); have NB152_155 := xM ((by rw [hg]; exact Nat.ne_of_lt (blk_lt (yb BK152)) : gb152 ≠ gb155)); have NB155_152 := xM ((by rw [hg]; exact Nat.ne_of_gt (blk_lt (yb BK152)) : gb155 ≠ gb152)); replace BK152 := xM (xB (yb BK152) hb); replace HB := xM (below_step (yh HB) hb); clear hb hbox hg; have hnb21 := NB155_152.out; have hnc21 := NB152_155.out; have hcz22_0 : w20.cell? ⟨gb155, 0, none⟩ = some (.int .i64 0) := (blk_cell BK155.out 0).trans rfl; have hcz22_1 : w20.cell? ⟨gb155, 1, none⟩ = some (.int .i64 0) := (blk_cell BK155.out 1).trans rfl; have hfz22_0 := blk_frozen BK155.out 0; have hfz22_1 := blk_frozen BK155.out 1) | (go_at_call 81; (with_reducible refine (spec_l17Tier.calls ((rd_T99 l0_1 x25_2).f0) true _ A13.out).mono ?_); rintro e w' ⟨rfl, ⟨nd, rfl⟩⟩; (try first | exact ⟨rfl, _, World.drewN_drewN _ _ _⟩ | exact ⟨rfl, _, Eq.trans (World.drewN_drewN _ _ _) (congrArg (World.drewN _) (Nat.add_assoc _ _ _))⟩)) | (go_at_call 54; (with_reducible refine (spec_l1In.calls ((rd_T99 l0_1 x25_2).f1) 0 60 false _ A15.out).mono ?_); rintro e w' ⟨rfl, ⟨nd, rfl⟩⟩; (try first | exact ⟨rfl, _, World.drewN_drewN _ _ _⟩ | exact ⟨rfl, _, Eq.trans (World.drewN_drewN _ _ _) (congrArg (World.drewN _) (Nat.add_assoc _ _ _))⟩))); try go_wp2_with (first | ((with_reducible refine gate_dst (N := 4) rfl ?_); (try (refine gate_guard (by rfl) ?_; dsimp only)); refine box_event ?hg (N := 4) ?hd (cs := #[.int .i64 0, .int .i64 0]) (t := 99) ?hr ?_; (case hd => rfl); (case hg => rfl); (case hr => first | (go_simp; done) | (go_simp; rfl)); intro gb155 hg w20 hbox hb; have BK155 := xM (hbox); have GW155 := xM ((by rw [hg]; exact (below_size (yh HB)) : w.heap.size ≤ gb155)); have GE155 := xM ((by rw [hg]; exact (below_size (yh HB)) : w.heap.size ≤ gb155)); have NB152_155 := xM ((by rw [hg]; exact Nat.ne_of_lt (blk_lt (yb BK152)) : gb152 ≠ gb155)); have NB155_152 := xM ((by rw [hg]; exact Nat.ne_of_gt (blk_lt (yb BK152)) : gb155 ≠ gb152)); replace BK152 := xM (xB (yb BK152) hb); replace HB := xM (below_step (yh HB) hb); clear hb hbox hg; have hnb21 := NB155_152.out; have hnc21 := NB152_155.out; have hcz22_0 : w20.cell? ⟨gb155, 0, none⟩ = some (.int .i64 0) := (blk_cell BK155.out 0).trans rfl; have hcz22_1 : w20.cell? ⟨gb155, 1, none⟩ = some (.int .i64 0) := (blk_cell BK155.out 1).trans rfl; have hfz22_0 := blk_frozen BK155.out 0; have hfz22_1 := blk_frozen BK155.out 1) | (go_at_call 81; (with_reducible refine (spec_l17Tier.calls ((rd_T99 l0_1 x25_2).f0) true _ A13.out).mono ?_); rintro e w' ⟨rfl, ⟨nd, rfl⟩⟩; (try first | exact ⟨rfl, _, World.drewN_drewN _ _ _⟩ | exact ⟨rfl, _, Eq.trans (World.drewN_drewN _ _ _) (congrArg (World.drewN _) (Nat.add_assoc _ _ _))⟩)) | (go_at_call 54; (with_reducible refine (spec_l1In.calls ((rd_T99 l0_1 x25_2).f1) 0 60 false _ A15.out).mono ?_); rintro e w' ⟨rfl, ⟨nd, rfl⟩⟩; (try first | exact ⟨rfl, _, World.drewN_drewN _ _ _⟩ | exact ⟨rfl, _, Eq.trans (World.drewN_drewN _ _ _) (congrArg (World.drewN _) (Nat.add_assoc _ _ _))⟩))))
            go_ret
            exact ⟨by first | rfl | (simp [errW_none, errW_some] <;> rfl) | (simp [*, errW_none, errW_some] <;> rfl), by repeat (first | (with_reducible first | exact HB.out | apply xa | apply xn | apply xd | refine xs ?_ GE152.out | refine xs ?_ GE155.out) | exact HB.out)⟩
          ·replace c14 := Bool.eq_false_iff.mpr c14
           subst c14
           have H1 : (some false) = some r := by rw [if_neg (show ¬ (false = true) by decide)] at H; exact H
           clear H
           have H := H1
           clear H1
           obtain rfl := Option.some.inj H
           have p154 : 0 ≤ (x25_2 : Int) := of_decide_eq_true (by first | (with_reducible assumption) | assumption)
           have q154 : x25_2 < (l0_1.length : Int) := of_decide_eq_true (by first | (with_reducible assumption) | assumption)
           obtain ⟨ad154, e154, hx154_0, hx154_1⟩ := at_T99 HR0_1.out x25_2 p154 q154
           cases e154
           replace hx154_0 := (HB.out.cell (World.block_lt_of_cell? w _ hx154_0)).trans hx154_0
           replace hx154_1 := (HB.out.cell (World.block_lt_of_cell? w _ hx154_1)).trans hx154_1
           replace p154 := eq_true p154
           replace q154 := eq_true q154
           go_wp2_with (first | ((with_reducible refine gate_dst (N := 4) rfl ?_); (try (refine gate_guard (by rfl) ?_; dsimp only)); refine box_event ?hg (N := 4) ?hd (cs := #[.int .i64 0, .int .i64 0]) (t := 99) ?hr ?_; (case hd => rfl); (case hg => rfl); (case hr => first | (go_simp; done) | (go_simp; rfl)); intro gb155 hg w23 hbox hb; have BK155 := xM (hbox); have GW155 := xM ((by rw [hg]; exact (below_size (yh HB)) : w.heap.size ≤ gb155)); have GE155 := xM ((by rw [hg]; exact (below_size (yh HB)) : w.heap.size ≤ gb155)); have NB152_155 := xM ((by rw [hg]; exact Nat.ne_of_lt (blk_lt (yb BK152)) : gb152 ≠ gb155)); have NB155_152 := xM ((by rw [hg]; exact Nat.ne_of_gt (blk_lt (yb BK152)) : gb155 ≠ gb152)); replace BK152 := xM (xB (yb BK152) hb); replace HB := xM (below_step (yh HB) hb); clear hb hbox hg; have hnb24 := NB155_152.out; have hnc24 := NB152_155.out; have hcz25_0 : w23.cell? ⟨gb155, 0, none⟩ = some (.int .i64 0) := (blk_cell BK155.out 0).trans rfl; have hcz25_1 : w23.cell? ⟨gb155, 1, none⟩ = some (.int .i64 0) := (blk_cell BK155.out 1).trans rfl; have hfz25_0 := blk_frozen BK155.out 0; have hfz25_1 := blk_frozen BK155.out 1) | (go_at_call 81; (with_reducible refine (spec_l17Tier.calls ((rd_T99 l0_1 x25_2).f0) false _ A13.out).mono ?_); rintro e w' ⟨rfl, ⟨nd, rfl⟩⟩; (try first | exact ⟨rfl, _, World.drewN_drewN _ _ _⟩ | exact ⟨rfl, _, Eq.trans (World.drewN_drewN _ _ _) (congrArg (World.drewN _) (Nat.add_assoc _ _ _))⟩)))
           repeat (go_quiet (first | ((with_reducible refine gate_dst (N := 4) rfl ?_); (try (refine gate_guard (by rfl) ?_; dsimp only)); refine box_event ?hg (N := 4) ?hd (cs := #[.int .i64 0, .int .i64 0]) (t := 99) ?hr ?_; (case hd => rfl); (case hg => rfl); (case hr => first | (go_simp; done) | (go_simp; rfl)); intro gb155 hg w23 hbox hb; have BK155 := xM (hbox); have GW155 := xM ((by rw [hg]; exact (below_size (yh HB)) : w.heap.size ≤ gb155)); have GE155 := xM ((by rw [hg]; exact (below_size (yh HB)) : w.heap.size ≤ gb155)); have NB152_155 := xM ((by rw [hg]; exact Nat.ne_of_lt (blk_lt (yb BK152)) : gb152 ≠ gb155)); have NB155_152 := xM ((by rw [hg]; exact Nat.ne_of_gt (blk_lt (yb BK152)) : gb155 ≠ gb152)); replace BK152 := xM (xB (yb BK152) hb); replace HB := xM (below_step (yh HB) hb); clear hb hbox hg; have hnb24 := NB155_152.out; have hnc24 := NB152_155.out; have hcz25_0 : w23.cell? ⟨gb155, 0, none⟩ = some (.int .i64 0) := (blk_cell BK155.out 0).trans rfl; have hcz25_1 : w23.cell? ⟨gb155, 1, none⟩ = some (.int .i64 0) := (blk_cell BK155.out 1).trans rfl; have hfz25_0 := blk_frozen BK155.out 0; have hfz25_1 := blk_frozen BK155.out 1) | (go_at_call 81; (with_reducible refine (spec_l17Tier.calls ((rd_T99 l0_1 x25_2).f0) false _ A13.out).mono ?_); rintro e w' ⟨rfl, ⟨nd, rfl⟩⟩; (try first | exact ⟨rfl, _, World.drewN_drewN _ _ _⟩ | exact ⟨rfl, _, Eq.trans (World.drewN_drewN _ _ _) (congrArg (World.drewN _) (Nat.add_assoc _ _ _))⟩))); try go_wp2_with (first | ((with_reducible refine gate_dst (N := 4) rfl ?_); (try (refine gate_guard (by rfl) ?_; dsimp only)); refine box_event ?hg (N := 4) ?hd (cs := #[.int .i64 0, .int .i64 0]) (t := 99) ?hr ?_; (case hd => rfl); (case hg => rfl); (case hr => first | (go_simp; done) | (go_simp; rfl)); intro gb155 hg w23 hbox hb; have BK155 := xM (hbox); have GW155 := xM ((by rw [hg]; exact (below_size (yh HB)) : w.heap.size ≤ gb155)); have GE155 := xM ((by rw [hg]; exact (below_size (yh HB)) : w.heap.size ≤ gb155)); have NB152_155 := xM ((by rw [hg]; exact Nat.ne_of_lt (blk_lt (yb BK152)) : gb152 ≠ gb155)); have NB155_152 := xM ((by rw [hg]; exact Nat.ne_of_gt (blk_lt (yb BK152)) : gb155 ≠ gb152)); replace BK152 := xM (xB (yb BK152) hb); replace HB := xM (below_step (yh HB) hb); clear hb hbox hg; have hnb24 := NB155_152.out; have hnc24 := NB152_155.out; have hcz25_0 : w23.cell? ⟨gb155, 0, none⟩ = some (.int .i64 0) := (blk_cell BK155.out 0).trans rfl; have hcz25_1 : w23.cell? ⟨gb155, 1, none⟩ = some (.int .i64 0) := (blk_cell BK155.out 1).trans rfl; have hfz25_0 := blk_frozen BK155.out 0; have hfz25_1 := blk_frozen BK155.out 1) | (go_at_call 81; (with_reducible refine (spec_l17Tier.calls ((rd_T99 l0_1 x25_2).f0) false _ A13.out).mono ?_); rintro e w' ⟨rfl, ⟨nd, rfl⟩⟩; (try first | exact ⟨rfl, _, World.drewN_drewN _ _ _⟩ | exact ⟨rfl, _, Eq.trans (World.drewN_drewN _ _ _) (congrArg (World.drewN _) (Nat.add_assoc _ _ _))⟩))))
           go_ret
           exact ⟨by first | rfl | (simp [errW_none, errW_some] <;> rfl) | (simp [*, errW_none, errW_some] <;> rfl), by repeat (first | (with_reducible first | exact HB.out | apply xa | apply xn | apply xd | refine xs ?_ GE152.out | refine xs ?_ GE155.out) | exact HB.out)⟩
         ·rw [if_neg c12] at H
          exact absurd H (by simp)
        ·rw [if_neg c11] at H
         exact absurd H (by simp)
       ·rw [if_neg c10] at H
        have c10b0 : decide (x25_2 < (l0_1.length : Int)) = false := decide_eq_false c10
        clear c10
        have H' := Aside0.mk H
        clear H
        have hcz26_0 : wr.cell? ⟨gb152, 0, none⟩ = some (.slice A0_0 l0_0.length c0_0) := (blk_cell BK152.out 0).trans rfl
        have hcz26_1 : wr.cell? ⟨gb152, 1, none⟩ = some (.slice A0_1 l0_1.length c0_1) := (blk_cell BK152.out 1).trans rfl
        have hfz26_0 := blk_frozen BK152.out 0
        have hfz26_1 := blk_frozen BK152.out 1
        go_wp2
        repeat (go_quiet (fail); try go_wp2)
        go_loopg [43] k2 (fun kq v43 w' => ∃ (x43_3 : Int), v43 = .int .i64 x43_3 ∧ Aside0 (spec_GoodShelf.l1 kq l0_0 (l0_0.length : Int) x43_3 l0_0 l0_1 = some r) ∧ Aside0 (kq ≤ k2) ∧ Aside0 (w'.heap[gb152]? = some (.cells #[(.slice A0_0 l0_0.length c0_0), (.slice A0_1 l0_1.length c0_1)] 64 (0, 0))) ∧ Aside0 (Below w.heap.size w w'))
        case atStart => exact ⟨(0), (by first | rfl | (simp; done) | (simp [*]; done)), H', ⟨Nat.le_refl _⟩, ⟨by (with_reducible repeat (first | apply xbN | apply xbD | apply xbA)); exact BK152.out⟩, ⟨yh HB⟩⟩
        case round =>
         clear H'
         try clear c1
         try clear p1
         try clear q1
         try clear hx1
         try clear c2
         try clear p2
         try clear c3
         try clear c4
         try clear c4b0
         try clear c4b1
         try clear p6
         try clear c8
         try clear c10
         try clear c10b0
         try clear c11
         try clear c11b0
         try clear c12
         try clear c12b0
         try clear c14
         try clear p15
         try clear q15
         try clear hx15
         try clear c16
         try clear c18
         try clear c21
         try clear c24
         try clear hcz19_0
         try clear hcz19_1
         try clear hcz22_0
         try clear hcz22_1
         try clear hcz25_0
         try clear hcz25_1
         try clear hcz26_0
         try clear hcz26_1
         try clear hcz5_0
         try clear hcz5_1
         try clear hcz7_0
         try clear hcz7_1
         try clear hcz9_0
         try clear hcz9_1
         try clear hfz19_0
         try clear hfz19_1
         try clear hfz22_0
         try clear hfz22_1
         try clear hfz25_0
         try clear hfz25_1
         try clear hfz26_0
         try clear hfz26_1
         try clear hfz5_0
         try clear hfz5_1
         try clear hfz7_0
         try clear hfz7_1
         try clear hfz9_0
         try clear hfz9_1
         try clear hx154_0
         try clear hx154_1
         try clear p154
         try clear p2
         try clear q154
         obtain ⟨x43_3, rfl, HA, HK3, BK152, HB⟩ := hrel
         cases gk with
         | zero => exact absurd HA.out (by simp [spec_GoodShelf.l1])
         | succ k3 =>
          have H := HA.out
          clear HA
          simp only [spec_GoodShelf.l1] at H
          by_cases c27 : x43_3 < (l0_0.length : Int)
          ·rw [if_pos c27] at H
           have c27b0 : decide (x43_3 < (l0_0.length : Int)) = true := decide_eq_true c27
           clear c27
           by_cases c28 : 0 ≤ x43_3
           ·rw [if_pos c28] at H
            have c28b0 : decide (0 ≤ x43_3) = true := decide_eq_true c28
            clear c28
            by_cases c29 : x43_3 < (l0_0.length : Int)
            ·rw [if_pos c29] at H
             have c29b0 : decide (x43_3 < (l0_0.length : Int)) = true := decide_eq_true c29
             clear c29
             have HC30 := Aside0.mk H
             clear H
             have p158 : 0 ≤ (x43_3 : Int) := of_decide_eq_true (by first | (with_reducible assumption) | assumption)
             have q158 : x43_3 < (l0_0.length : Int) := of_decide_eq_true (by first | (with_reducible assumption) | assumption)
             obtain ⟨ad158, e158, hx158_0, hx158_1, hx158_2⟩ := at_T101 HR0_0.out x43_3 p158 q158
             cases e158
             replace hx158_0 := (HB.out.cell (World.block_lt_of_cell? w _ hx158_0)).trans hx158_0
             replace hx158_1 := (HB.out.cell (World.block_lt_of_cell? w _ hx158_1)).trans hx158_1
             replace hx158_2 := (HB.out.cell (World.block_lt_of_cell? w _ hx158_2)).trans hx158_2
             replace p158 := eq_true p158
             replace q158 := eq_true q158
             go_upto_if 49 with (first | ((with_reducible refine gate_dst (N := 6) rfl ?_); (try (refine gate_guard (by rfl) ?_; dsimp only)); refine box_event ?hg (N := 6) ?hd (cs := #[.int .i64 0, .int .i64 0, .string (⟨#[]⟩ : ByteArray)]) (t := 101) ?hr ?_; (case hd => rfl); (case hg => rfl); (case hr => first | (go_simp; done) | (go_simp; rfl)); intro gb159 hg w31 hbox hb; have BK159 := xM (hbox); have GW159 := xM ((by rw [hg]; exact (below_size (yh HB)) : w.heap.size ≤ gb159)); have GE159 := xM ((by rw [hg]; exact (below_size (yh HB)) : w.heap.size ≤ gb159)); have NB152_159 := xM ((by rw [hg]; exact Nat.ne_of_lt (blk_lt (yb BK152)) : gb152 ≠ gb159)); have NB159_152 := xM ((by rw [hg]; exact Nat.ne_of_gt (blk_lt (yb BK152)) : gb159 ≠ gb152)); replace BK152 := xM (xB (yb BK152) hb); replace HB := xM (below_step (yh HB) hb); clear hb hbox hg; have hnb32 := NB159_152.out; have hnc32 := NB152_159.out; have hcz33_0 : w31.cell? ⟨gb159, 0, none⟩ = some (.int .i64 0) := (blk_cell BK159.out 0).trans rfl; have hcz33_1 : w31.cell? ⟨gb159, 1, none⟩ = some (.int .i64 0) := (blk_cell BK159.out 1).trans rfl; have hcz33_2 : w31.cell? ⟨gb159, 2, none⟩ = some (.string (⟨#[]⟩ : ByteArray)) := (blk_cell BK159.out 2).trans rfl; have hfz33_0 := blk_frozen BK159.out 0; have hfz33_1 := blk_frozen BK159.out 1; have hfz33_2 := blk_frozen BK159.out 2))
             repeat (go_quiet (first | ((with_reducible refine gate_dst (N := 6) rfl ?_); (try (refine gate_guard (by rfl) ?_; dsimp only)); refine box_event ?hg (N := 6) ?hd (cs := #[.int .i64 0, .int .i64 0, .string (⟨#[]⟩ : ByteArray)]) (t := 101) ?hr ?_; (case hd => rfl); (case hg => rfl); (case hr => first | (go_simp; done) | (go_simp; rfl)); intro gb159 hg w31 hbox hb; have BK159 := xM (hbox); have GW159 := xM ((by rw [hg]; exact (below_size (yh HB)) : w.heap.size ≤ gb159)); have GE159 := xM ((by rw [hg]; exact (below_size (yh HB)) : w.heap.size ≤ gb159)); have NB152_159 := xM ((by rw [hg]; exact Nat.ne_of_lt (blk_lt (yb BK152)) : gb152 ≠ gb159)); have NB159_152 := xM ((by rw [hg]; exact Nat.ne_of_gt (blk_lt (yb BK152)) : gb159 ≠ gb152)); replace BK152 := xM (xB (yb BK152) hb); replace HB := xM (below_step (yh HB) hb); clear hb hbox hg; have hnb32 := NB159_152.out; have hnc32 := NB152_159.out; have hcz33_0 : w31.cell? ⟨gb159, 0, none⟩ = some (.int .i64 0) := (blk_cell BK159.out 0).trans rfl; have hcz33_1 : w31.cell? ⟨gb159, 1, none⟩ = some (.int .i64 0) := (blk_cell BK159.out 1).trans rfl; have hcz33_2 : w31.cell? ⟨gb159, 2, none⟩ = some (.string (⟨#[]⟩ : ByteArray)) := (blk_cell BK159.out 2).trans rfl; have hfz33_0 := blk_frozen BK159.out 0; have hfz33_1 := blk_frozen BK159.out 1; have hfz33_2 := blk_frozen BK159.out 2)); go_upto_if 49 with (first | ((with_reducible refine gate_dst (N := 6) rfl ?_); (try (refine gate_guard (by rfl) ?_; dsimp only)); refine box_event ?hg (N := 6) ?hd (cs := #[.int .i64 0, .int .i64 0, .string (⟨#[]⟩ : ByteArray)]) (t := 101) ?hr ?_; (case hd => rfl); (case hg => rfl); (case hr => first | (go_simp; done) | (go_simp; rfl)); intro gb159 hg w31 hbox hb; have BK159 := xM (hbox); have GW159 := xM ((by rw [hg]; exact (below_size (yh HB)) : w.heap.size ≤ gb159)); have GE159 := xM ((by rw [hg]; exact (below_size (yh HB)) : w.heap.size ≤ gb159)); have NB152_159 := xM ((by rw [hg]; exact Nat.ne_of_lt (blk_lt (yb BK152)) : gb152 ≠ gb159)); have NB159_152 := xM ((by rw [hg]; exact Nat.ne_of_gt (blk_lt (yb BK152)) : gb159 ≠ gb152)); replace BK152 := xM (xB (yb BK152) hb); replace HB := xM (below_step (yh HB) hb); clear hb hbox hg; have hnb32 := NB159_152.out; have hnc32 := NB152_159.out; have hcz33_0 : w31.cell? ⟨gb159, 0, none⟩ = some (.int .i64 0) := (blk_cell BK159.out 0).trans rfl; have hcz33_1 : w31.cell? ⟨gb159, 1, none⟩ = some (.int .i64 0) := (blk_cell BK159.out 1).trans rfl; have hcz33_2 : w31.cell? ⟨gb159, 2, none⟩ = some (.string (⟨#[]⟩ : ByteArray)) := (blk_cell BK159.out 2).trans rfl; have hfz33_0 := blk_frozen BK159.out 0; have hfz33_1 := blk_frozen BK159.out 1; have hfz33_2 := blk_frozen BK159.out 2)))
             (try simp only [Act.put, List.setIfInBounds_toArray, List.set_cons_zero, List.set_cons_succ])
             go_cut [] (fun wc => ∃ (kq : Nat), Aside0 (spec_GoodShelf.j3 kq l0_0 (l0_0.length : Int) x43_3 l0_0 l0_1 ((rd_T101 l0_0 x43_3).f0) ((rd_T101 l0_0 x43_3).f1) ((rd_T101 l0_0 x43_3).f2) = some r) ∧ Aside0 (kq ≤ k3) ∧ Aside0 (wc.heap[gb152]? = some (.cells #[(.slice (some ad158) l0_0.length c0_0), (.slice A0_1 l0_1.length c0_1)] 64 (0, 0))) ∧ Aside0 (wc.heap[gb159]? = some (.cells #[.int .i64 ((rd_T101 l0_0 x43_3).f0), .int .i64 ((rd_T101 l0_0 x43_3).f1), .string ((rd_T101 l0_0 x43_3).f2)] 101 (0, 0))) ∧ Aside0 (Below w.heap.size w wc))
             case first =>
              have H := HC30.out
              clear HC30
              by_cases c34 : x43_3 > 0
              ·rw [if_pos c34] at H
               have c34b0 : decide (0 < x43_3) = true := decide_eq_true c34
               clear c34
               (first | rw [c34b0] | (simp only [i64_w, i32_w]; rw [c34b0]) | skip)
               obtain ⟨ji35, hji35⟩ : ∃ j_ : Int, (wrap64 (x43_3 - 1)) = j_ := ⟨_, rfl⟩
               replace H : (if 0 ≤ (ji35) then (if (ji35) < (l0_0.length : Int) then (if ((rd_T101 l0_0 (ji35)).f0) > ((rd_T101 l0_0 x43_3).f0) then (some false) else (if ((rd_T101 l0_0 (ji35)).f0) = ((rd_T101 l0_0 x43_3).f0) then (if ((rd_T101 l0_0 (ji35)).f1) ≥ ((rd_T101 l0_0 x43_3).f1) then (some false) else (spec_GoodShelf.j3 k3 l0_0 (l0_0.length : Int) x43_3 l0_0 l0_1 ((rd_T101 l0_0 x43_3).f0) ((rd_T101 l0_0 x43_3).f1) ((rd_T101 l0_0 x43_3).f2))) else (spec_GoodShelf.j3 k3 l0_0 (l0_0.length : Int) x43_3 l0_0 l0_1 ((rd_T101 l0_0 x43_3).f0) ((rd_T101 l0_0 x43_3).f1) ((rd_T101 l0_0 x43_3).f2)))) else (none)) else (none)) = some r := by first | (rw [hji35] at H; exact H) | (simp only [hji35] at H ⊢; exact H)
               have hji35w : (IntKind.i64.wrap (x43_3 - 1)) = ji35 := (i64_w _).trans hji35
               by_cases c36 : 0 ≤ (ji35)
               ·rw [if_pos c36] at H
                have c36b0 : decide (0 ≤ (ji35)) = true := decide_eq_true c36
                clear c36
                by_cases c37 : (ji35) < (l0_0.length : Int)
                ·rw [if_pos c37] at H
                 have c37b0 : decide ((ji35) < (l0_0.length : Int)) = true := decide_eq_true c37
                 clear c37
                 by_cases c38 : ((rd_T101 l0_0 (ji35)).f0) > ((rd_T101 l0_0 x43_3).f0)
                 ·rw [if_pos c38] at H
                  have c38b0 : decide (((rd_T101 l0_0 x43_3).f0) < ((rd_T101 l0_0 (ji35)).f0)) = true := decide_eq_true c38
                  clear c38
                  obtain rfl := Option.some.inj H
                  have hnb39 := NB152_159.out
                  have hnc39 := NB159_152.out
                  have hcz40_0 : w31.cell? ⟨gb152, 0, none⟩ = some (.slice (some ad158) l0_0.length c0_0) := (blk_cell BK152.out 0).trans rfl
                  have hcz40_1 : w31.cell? ⟨gb152, 1, none⟩ = some (.slice A0_1 l0_1.length c0_1) := (blk_cell BK152.out 1).trans rfl
                  have hfz40_0 := blk_frozen BK152.out 0
                  have hfz40_1 := blk_frozen BK152.out 1
                  have p160 : 0 ≤ ((ji35) : Int) := of_decide_eq_true (by first | (with_reducible assumption) | assumption)
                  have q160 : (ji35) < (l0_0.length : Int) := of_decide_eq_true (by first | (with_reducible assumption) | assumption)
                  obtain ⟨ad160, e160, hx160_0, hx160_1, hx160_2⟩ := at_T101 HR0_0.out (ji35) p160 q160
                  obtain rfl : ad158 = ad160 := (by injection e160)
                  have hn160_0 : ad158.block ≠ gb159 := Nat.ne_of_lt (Nat.lt_of_lt_of_le (by have := World.block_lt_of_cell? _ _ hx160_0; first | rwa [add_block] at this | exact this) GW159.out)
                  have hn160_1 : ad158.block ≠ gb159 := Nat.ne_of_lt (Nat.lt_of_lt_of_le (by have := World.block_lt_of_cell? _ _ hx160_0; first | rwa [add_block] at this | exact this) GW159.out)
                  have hn160_2 : ad158.block ≠ gb159 := Nat.ne_of_lt (Nat.lt_of_lt_of_le (by have := World.block_lt_of_cell? _ _ hx160_0; first | rwa [add_block] at this | exact this) GW159.out)
                  replace hx160_0 := (HB.out.cell (World.block_lt_of_cell? w _ hx160_0)).trans hx160_0
                  replace hx160_1 := (HB.out.cell (World.block_lt_of_cell? w _ hx160_1)).trans hx160_1
                  replace hx160_2 := (HB.out.cell (World.block_lt_of_cell? w _ hx160_2)).trans hx160_2
                  replace hx160_0 := (cell_far (p := ⟨gb159, 0, none⟩) (by first | (rw [add_block]; exact hn160_0) | (show (Addr.add _ _).block ≠ _; rw [add_block]; exact hn160_0) | exact hn160_0) (.int .i64 ((rd_T101 l0_0 x43_3).f0))).trans hx160_0
                  replace hx160_1 := (cell_far (p := ⟨gb159, 0, none⟩) (by first | (rw [add_block]; exact hn160_0) | (show (Addr.add _ _).block ≠ _; rw [add_block]; exact hn160_0) | exact hn160_0) (.int .i64 ((rd_T101 l0_0 x43_3).f0))).trans hx160_1
                  replace hx160_2 := (cell_far (p := ⟨gb159, 0, none⟩) (by first | (rw [add_block]; exact hn160_0) | (show (Addr.add _ _).block ≠ _; rw [add_block]; exact hn160_0) | exact hn160_0) (.int .i64 ((rd_T101 l0_0 x43_3).f0))).trans hx160_2
                  replace hx160_0 := (cell_far (p := ⟨gb159, 1, none⟩) (by first | (rw [add_block]; exact hn160_1) | (show (Addr.add _ _).block ≠ _; rw [add_block]; exact hn160_1) | exact hn160_1) (.int .i64 ((rd_T101 l0_0 x43_3).f1))).trans hx160_0
                  replace hx160_1 := (cell_far (p := ⟨gb159, 1, none⟩) (by first | (rw [add_block]; exact hn160_1) | (show (Addr.add _ _).block ≠ _; rw [add_block]; exact hn160_1) | exact hn160_1) (.int .i64 ((rd_T101 l0_0 x43_3).f1))).trans hx160_1
                  replace hx160_2 := (cell_far (p := ⟨gb159, 1, none⟩) (by first | (rw [add_block]; exact hn160_1) | (show (Addr.add _ _).block ≠ _; rw [add_block]; exact hn160_1) | exact hn160_1) (.int .i64 ((rd_T101 l0_0 x43_3).f1))).trans hx160_2
                  replace hx160_0 := (cell_far (p := ⟨gb159, 2, none⟩) (by first | (rw [add_block]; exact hn160_2) | (show (Addr.add _ _).block ≠ _; rw [add_block]; exact hn160_2) | exact hn160_2) (.string ((rd_T101 l0_0 x43_3).f2))).trans hx160_0
                  replace hx160_1 := (cell_far (p := ⟨gb159, 2, none⟩) (by first | (rw [add_block]; exact hn160_2) | (show (Addr.add _ _).block ≠ _; rw [add_block]; exact hn160_2) | exact hn160_2) (.string ((rd_T101 l0_0 x43_3).f2))).trans hx160_1
                  replace hx160_2 := (cell_far (p := ⟨gb159, 2, none⟩) (by first | (rw [add_block]; exact hn160_2) | (show (Addr.add _ _).block ≠ _; rw [add_block]; exact hn160_2) | exact hn160_2) (.string ((rd_T101 l0_0 x43_3).f2))).trans hx160_2
                  (try have hy160_0 := fun (n_ : Nat) => (show (((((w31.drewN n_).setCell ⟨gb159, 0, none⟩ (.int .i64 ((rd_T101 l0_0 x43_3).f0))).setCell ⟨gb159, 1, none⟩ (.int .i64 ((rd_T101 l0_0 x43_3).f1))).setCell ⟨gb159, 2, none⟩ (.string ((rd_T101 l0_0 x43_3).f2)))).cell? _ = some _ from hx160_0))
                  (try have hy160_1 := fun (n_ : Nat) => (show (((((w31.drewN n_).setCell ⟨gb159, 0, none⟩ (.int .i64 ((rd_T101 l0_0 x43_3).f0))).setCell ⟨gb159, 1, none⟩ (.int .i64 ((rd_T101 l0_0 x43_3).f1))).setCell ⟨gb159, 2, none⟩ (.string ((rd_T101 l0_0 x43_3).f2)))).cell? _ = some _ from hx160_1))
                  (try have hy160_2 := fun (n_ : Nat) => (show (((((w31.drewN n_).setCell ⟨gb159, 0, none⟩ (.int .i64 ((rd_T101 l0_0 x43_3).f0))).setCell ⟨gb159, 1, none⟩ (.int .i64 ((rd_T101 l0_0 x43_3).f1))).setCell ⟨gb159, 2, none⟩ (.string ((rd_T101 l0_0 x43_3).f2)))).cell? _ = some _ from hx160_2))
                  clear hn160_0
                  clear hn160_1
                  clear hn160_2
                  replace p160 := eq_true p160
                  replace q160 := eq_true q160
                  go_wp2_with (first | ((with_reducible refine gate_dst (N := 7) rfl ?_); (try (refine gate_guard (by rfl) ?_; dsimp only)); refine box_event ?hg (N := 7) ?hd (cs := #[.int .i64 0, .int .i64 0, .string (⟨#[]⟩ : ByteArray)]) (t := 101) ?hr ?_; (case hd => rfl); (case hg => rfl); (case hr => first | (go_simp; done) | (go_simp; rfl)); intro gb161 hg w41 hbox hb; have BK161 := xM (hbox); have GW161 := xM ((by rw [hg]; exact (below_size (yh HB)) : w.heap.size ≤ gb161)); have GE161 := xM ((by rw [hg]; exact (below_size (yh HB)) : w.heap.size ≤ gb161)); have NB152_161 := xM ((by rw [hg]; exact Nat.ne_of_lt (blk_lt (g := gb152) (o := .cells #[.slice (some ad158) l0_0.length c0_0, .slice A0_1 l0_1.length c0_1] 64 (0, 0)) (by (with_reducible repeat (first | apply xbN | apply xbD | apply xbA)); refine blk_far ?_ NB152_159.out _; (with_reducible repeat (first | apply xbN | apply xbD | apply xbA)); refine blk_far ?_ NB152_159.out _; (with_reducible repeat (first | apply xbN | apply xbD | apply xbA)); refine blk_far ?_ NB152_159.out _; (with_reducible repeat (first | apply xbN | apply xbD | apply xbA)); exact BK152.out)) : gb152 ≠ gb161)); have NB161_152 := xM ((by rw [hg]; exact Nat.ne_of_gt (blk_lt (g := gb152) (o := .cells #[.slice (some ad158) l0_0.length c0_0, .slice A0_1 l0_1.length c0_1] 64 (0, 0)) (by (with_reducible repeat (first | apply xbN | apply xbD | apply xbA)); refine blk_far ?_ NB152_159.out _; (with_reducible repeat (first | apply xbN | apply xbD | apply xbA)); refine blk_far ?_ NB152_159.out _; (with_reducible repeat (first | apply xbN | apply xbD | apply xbA)); refine blk_far ?_ NB152_159.out _; (with_reducible repeat (first | apply xbN | apply xbD | apply xbA)); exact BK152.out)) : gb161 ≠ gb152)); have NB159_161 := xM ((by rw [hg]; exact Nat.ne_of_lt (blk_lt (g := gb159) (o := .cells #[.int .i64 ((rd_T101 l0_0 x43_3).f0), .int .i64 ((rd_T101 l0_0 x43_3).f1), .string ((rd_T101 l0_0 x43_3).f2)] 101 (0, 0)) (by (with_reducible repeat (first | apply xbN | apply xbD | apply xbA)); refine blk_put (cs := #[.int .i64 ((rd_T101 l0_0 x43_3).f0), .int .i64 ((rd_T101 l0_0 x43_3).f1), .string (⟨#[]⟩ : ByteArray)]) ?_ 2 _ rfl; (with_reducible repeat (first | apply xbN | apply xbD | apply xbA)); refine blk_put (cs := #[.int .i64 ((rd_T101 l0_0 x43_3).f0), .int .i64 0, .string (⟨#[]⟩ : ByteArray)]) ?_ 1 _ rfl; (with_reducible repeat (first | apply xbN | apply xbD | apply xbA)); refine blk_put (cs := #[.int .i64 0, .int .i64 0, .string (⟨#[]⟩ : ByteArray)]) ?_ 0 _ rfl; (with_reducible repeat (first | apply xbN | apply xbD | apply xbA)); exact BK159.out)) : gb159 ≠ gb161)); have NB161_159 := xM ((by rw [hg]; exact Nat.ne_of_gt (blk_lt (g := gb159) (o := .cells #[.int .i64 ((rd_T101 l0_0 x43_3).f0), .int .i64 ((rd_T101 l0_0 x43_3).f1), .string ((rd_T101 l0_0 x43_3).f2)] 101 (0, 0)) (by (with_reducible repeat (first | apply xbN | apply xbD | apply xbA)); refine blk_put (cs := #[.int .i64 ((rd_T101 l0_0 x43_3).f0), .int .i64 ((rd_T101 l0_0 x43_3).f1), .string (⟨#[]⟩ : ByteArray)]) ?_ 2 _ rfl; (with_reducible repeat (first | apply xbN | apply xbD | apply xbA)); refine blk_put (cs := #[.int .i64 ((rd_T101 l0_0 x43_3).f0), .int .i64 0, .string (⟨#[]⟩ : ByteArray)]) ?_ 1 _ rfl; (with_reducible repeat (first | apply xbN | apply xbD | apply xbA)); refine blk_put (cs := #[.int .i64 0, .int .i64 0, .string (⟨#[]⟩ : ByteArray)]) ?_ 0 _ rfl; (with_reducible repeat (first | apply xbN | apply xbD | apply xbA)); exact BK159.out)) : gb161 ≠ gb159)); replace BK152 := xM (xB (g := gb152) (o := .cells #[.slice (some ad158) l0_0.length c0_0, .slice A0_1 l0_1.length c0_1] 64 (0, 0)) (by (with_reducible repeat (first | apply xbN | apply xbD | apply xbA)); refine blk_far ?_ NB152_159.out _; (with_reducible repeat (first | apply xbN | apply xbD | apply xbA)); refine blk_far ?_ NB152_159.out _; (with_reducible repeat (first | apply xbN | apply xbD | apply xbA)); refine blk_far ?_ NB152_159.out _; (with_reducible repeat (first | apply xbN | apply xbD | apply xbA)); exact BK152.out) hb); replace BK159 := xM (xB (g := gb159) (o := .cells #[.int .i64 ((rd_T101 l0_0 x43_3).f0), .int .i64 ((rd_T101 l0_0 x43_3).f1), .string ((rd_T101 l0_0 x43_3).f2)] 101 (0, 0)) (by (with_reducible repeat (first | apply xbN | apply xbD | apply xbA)); refine blk_put (cs := #[.int .i64 ((rd_T101 l0_0 x43_3).f0), .int .i64 ((rd_T101 l0_0 x43_3).f1), .string (⟨#[]⟩ : ByteArray)]) ?_ 2 _ rfl; (with_reducible repeat (first | apply xbN | apply xbD | apply xbA)); refine blk_put (cs := #[.int .i64 ((rd_T101 l0_0 x43_3).f0), .int .i64 0, .string (⟨#[]⟩ : ByteArray)]) ?_ 1 _ rfl; (with_reducible repeat (first | apply xbN | apply xbD | apply xbA)); refine blk_put (cs := #[.int .i64 0, .int .i64 0, .string (⟨#[]⟩ : ByteArray)]) ?_ 0 _ rfl; (with_reducible repeat (first | apply xbN | apply xbD | apply xbA)); exact BK159.out) hb); replace HB := xM (below_step (yh HB) hb); clear hb hbox hg; have hnb42 := NB161_152.out; have hnc42 := NB152_161.out; have hnb43 := NB161_159.out; have hnc43 := NB159_161.out; have hcz44_0 : w41.cell? ⟨gb161, 0, none⟩ = some (.int .i64 0) := (blk_cell BK161.out 0).trans rfl; have hcz44_1 : w41.cell? ⟨gb161, 1, none⟩ = some (.int .i64 0) := (blk_cell BK161.out 1).trans rfl; have hcz44_2 : w41.cell? ⟨gb161, 2, none⟩ = some (.string (⟨#[]⟩ : ByteArray)) := (blk_cell BK161.out 2).trans rfl; have hfz44_0 := blk_frozen BK161.out 0; have hfz44_1 := blk_frozen BK161.out 1; have hfz44_2 := blk_frozen BK161.out 2; have hcz45_0 : w41.cell? ⟨gb159, 0, none⟩ = some (.int .i64 ((rd_T101 l0_0 x43_3).f0)) := (blk_cell BK159.out 0).trans rfl; have hcz45_1 : w41.cell? ⟨gb159, 1, none⟩ = some (.int .i64 ((rd_T101 l0_0 x43_3).f1)) := (blk_cell BK159.out 1).trans rfl; have hcz45_2 : w41.cell? ⟨gb159, 2, none⟩ = some (.string ((rd_T101 l0_0 x43_3).f2)) := (blk_cell BK159.out 2).trans rfl; have hfz45_0 := blk_frozen BK159.out 0; have hfz45_1 := blk_frozen BK159.out 1; have hfz45_2 := blk_frozen BK159.out 2))
                  repeat (go_quiet (first | ((with_reducible refine gate_dst (N := 7) rfl ?_); (try (refine gate_guard (by rfl) ?_; dsimp only)); refine box_event ?hg (N := 7) ?hd (cs := #[.int .i64 0, .int .i64 0, .string (⟨#[]⟩ : ByteArray)]) (t := 101) ?hr ?_; (case hd => rfl); (case hg => rfl); (case hr => first | (go_simp; done) | (go_simp; rfl)); intro gb161 hg w41 hbox hb; have BK161 := xM (hbox); have GW161 := xM ((by rw [hg]; exact (below_size (yh HB)) : w.heap.size ≤ gb161)); have GE161 := xM ((by rw [hg]; exact (below_size (yh HB)) : w.heap.size ≤ gb161)); have NB152_161 := xM ((by rw [hg]; exact Nat.ne_of_lt (blk_lt (g := gb152) (o := .cells #[.slice (some ad158) l0_0.length c0_0, .slice A0_1 l0_1.length c0_1] 64 (0, 0)) (by (with_reducible repeat (first | apply xbN | apply xbD | apply xbA)); refine blk_far ?_ NB152_159.out _; (with_reducible repeat (first | apply xbN | apply xbD | apply xbA)); refine blk_far ?_ NB152_159.out _; (with_reducible repeat (first | apply xbN | apply xbD | apply xbA)); refine blk_far ?_ NB152_159.out _; (with_reducible repeat (first | apply xbN | apply xbD | apply xbA)); exact BK152.out)) : gb152 ≠ gb161)); have NB161_152 := xM ((by rw [hg]; exact Nat.ne_of_gt (blk_lt (g := gb152) (o := .cells #[.slice (some ad158) l0_0.length c0_0, .slice A0_1 l0_1.length c0_1] 64 (0, 0)) (by (with_reducible repeat (first | apply xbN | apply xbD | apply xbA)); refine blk_far ?_ NB152_159.out _; (with_reducible repeat (first | apply xbN | apply xbD | apply xbA)); refine blk_far ?_ NB152_159.out _; (with_reducible repeat (first | apply xbN | apply xbD | apply xbA)); refine blk_far ?_ NB152_159.out _; (with_reducible repeat (first | apply xbN | apply xbD | apply xbA)); exact BK152.out)) : gb161 ≠ gb152)); have NB159_161 := xM ((by rw [hg]; exact Nat.ne_of_lt (blk_lt (g := gb159) (o := .cells #[.int .i64 ((rd_T101 l0_0 x43_3).f0), .int .i64 ((rd_T101 l0_0 x43_3).f1), .string ((rd_T101 l0_0 x43_3).f2)] 101 (0, 0)) (by (with_reducible repeat (first | apply xbN | apply xbD | apply xbA)); refine blk_put (cs := #[.int .i64 ((rd_T101 l0_0 x43_3).f0), .int .i64 ((rd_T101 l0_0 x43_3).f1), .string (⟨#[]⟩ : ByteArray)]) ?_ 2 _ rfl; (with_reducible repeat (first | apply xbN | apply xbD | apply xbA)); refine blk_put (cs := #[.int .i64 ((rd_T101 l0_0 x43_3).f0), .int .i64 0, .string (⟨#[]⟩ : ByteArray)]) ?_ 1 _ rfl; (with_reducible repeat (first | apply xbN | apply xbD | apply xbA)); refine blk_put (cs := #[.int .i64 0, .int .i64 0, .string (⟨#[]⟩ : ByteArray)]) ?_ 0 _ rfl; (with_reducible repeat (first | apply xbN | apply xbD | apply xbA)); exact BK159.out)) : gb159 ≠ gb161)); have NB161_159 := xM ((by rw [hg]; exact Nat.ne_of_gt (blk_lt (g := gb159) (o := .cells #[.int .i64 ((rd_T101 l0_0 x43_3).f0), .int .i64 ((rd_T101 l0_0 x43_3).f1), .string ((rd_T101 l0_0 x43_3).f2)] 101 (0, 0)) (by (with_reducible repeat (first | apply xbN | apply xbD | apply xbA)); refine blk_put (cs := #[.int .i64 ((rd_T101 l0_0 x43_3).f0), .int .i64 ((rd_T101 l0_0 x43_3).f1), .string (⟨#[]⟩ : ByteArray)]) ?_ 2 _ rfl; (with_reducible repeat (first | apply xbN | apply xbD | apply xbA)); refine blk_put (cs := #[.int .i64 ((rd_T101 l0_0 x43_3).f0), .int .i64 0, .string (⟨#[]⟩ : ByteArray)]) ?_ 1 _ rfl; (with_reducible repeat (first | apply xbN | apply xbD | apply xbA)); refine blk_put (cs := #[.int .i64 0, .int .i64 0, .string (⟨#[]⟩ : ByteArray)]) ?_ 0 _ rfl; (with_reducible repeat (first | apply xbN | apply xbD | apply xbA)); exact BK159.out)) : gb161 ≠ gb159)); replace BK152 := xM (xB (g := gb152) (o := .cells #[.slice (some ad158) l0_0.length c0_0, .slice A0_1 l0_1.length c0_1] 64 (0, 0)) (by (with_reducible repeat (first | apply xbN | apply xbD | apply xbA)); refine blk_far ?_ NB152_159.out _; (with_reducible repeat (first | apply xbN | apply xbD | apply xbA)); refine blk_far ?_ NB152_159.out _; (with_reducible repeat (first | apply xbN | apply xbD | apply xbA)); refine blk_far ?_ NB152_159.out _; (with_reducible repeat (first | apply xbN | apply xbD | apply xbA)); exact BK152.out) hb); replace BK159 := xM (xB (g := gb159) (o := .cells #[.int .i64 ((rd_T101 l0_0 x43_3).f0), .int .i64 ((rd_T101 l0_0 x43_3).f1), .string ((rd_T101 l0_0 x43_3).f2)] 101 (0, 0)) (by (with_reducible repeat (first | apply xbN | apply xbD | apply xbA)); refine blk_put (cs := #[.int .i64 ((rd_T101 l0_0 x43_3).f0), .int .i64 ((rd_T101 l0_0 x43_3).f1), .string (⟨#[]⟩ : ByteArray)]) ?_ 2 _ rfl; (with_reducible repeat (first | apply xbN | apply xbD | apply xbA)); refine blk_put (cs := #[.int .i64 ((rd_T101 l0_0 x43_3).f0), .int .i64 0, .string (⟨#[]⟩ : ByteArray)]) ?_ 1 _ rfl; (with_reducible repeat (first | apply xbN | apply xbD | apply xbA)); refine blk_put (cs := #[.int .i64 0, .int .i64 0, .string (⟨#[]⟩ : ByteArray)]) ?_ 0 _ rfl; (with_reducible repeat (first | apply xbN | apply xbD | apply xbA)); exact BK159.out) hb); replace HB := xM (below_step (yh HB) hb); clear hb hbox hg; have hnb42 := NB161_152.out; have hnc42 := NB152_161.out; have hnb43 := NB161_159.out; have hnc43 := NB159_161.out; have hcz44_0 : w41.cell? ⟨gb161, 0, none⟩ = some (.int .i64 0) := (blk_cell BK161.out 0).trans rfl; have hcz44_1 : w41.cell? ⟨gb161, 1, none⟩ = some (.int .i64 0) := (blk_cell BK161.out 1).trans rfl; have hcz44_2 : w41.cell? ⟨gb161, 2, none⟩ = some (.string (⟨#[]⟩ : ByteArray)) := (blk_cell BK161.out 2).trans rfl; have hfz44_0 := blk_frozen BK161.out 0; have hfz44_1 := blk_frozen BK161.out 1; have hfz44_2 := blk_frozen BK161.out 2; have hcz45_0 : w41.cell? ⟨gb159, 0, none⟩ = some (.int .i64 ((rd_T101 l0_0 x43_3).f0)) := (blk_cell BK159.out 0).trans rfl; have hcz45_1 : w41.cell? ⟨gb159, 1, none⟩ = some (.int .i64 ((rd_T101 l0_0 x43_3).f1)) := (blk_cell BK159.out 1).trans rfl; have hcz45_2 : w41.cell? ⟨gb159, 2, none⟩ = some (.string ((rd_T101 l0_0 x43_3).f2)) := (blk_cell BK159.out 2).trans rfl; have hfz45_0 := blk_frozen BK159.out 0; have hfz45_1 := blk_frozen BK159.out 1; have hfz45_2 := blk_frozen BK159.out 2)); try go_wp2_with (first | ((with_reducible refine gate_dst (N := 7) rfl ?_); (try (refine gate_guard (by rfl) ?_; dsimp only)); refine box_event ?hg (N := 7) ?hd (cs := #[.int .i64 0, .int .i64 0, .string (⟨#[]⟩ : ByteArray)]) (t := 101) ?hr ?_; (case hd => rfl); (case hg => rfl); (case hr => first | (go_simp; done) | (go_simp; rfl)); intro gb161 hg w41 hbox hb; have BK161 := xM (hbox); have GW161 := xM ((by rw [hg]; exact (below_size (yh HB)) : w.heap.size ≤ gb161)); have GE161 := xM ((by rw [hg]; exact (below_size (yh HB)) : w.heap.size ≤ gb161)); have NB152_161 := xM ((by rw [hg]; exact Nat.ne_of_lt (blk_lt (g := gb152) (o := .cells #[.slice (some ad158) l0_0.length c0_0, .slice A0_1 l0_1.length c0_1] 64 (0, 0)) (by (with_reducible repeat (first | apply xbN | apply xbD | apply xbA)); refine blk_far ?_ NB152_159.out _; (with_reducible repeat (first | apply xbN | apply xbD | apply xbA)); refine blk_far ?_ NB152_159.out _; (with_reducible repeat (first | apply xbN | apply xbD | apply xbA)); refine blk_far ?_ NB152_159.out _; (with_reducible repeat (first | apply xbN | apply xbD | apply xbA)); exact BK152.out)) : gb152 ≠ gb161)); have NB161_152 := xM ((by rw [hg]; exact Nat.ne_of_gt (blk_lt (g := gb152) (o := .cells #[.slice (some ad158) l0_0.length c0_0, .slice A0_1 l0_1.length c0_1] 64 (0, 0)) (by (with_reducible repeat (first | apply xbN | apply xbD | apply xbA)); refine blk_far ?_ NB152_159.out _; (with_reducible repeat (first | apply xbN | apply xbD | apply xbA)); refine blk_far ?_ NB152_159.out _; (with_reducible repeat (first | apply xbN | apply xbD | apply xbA)); refine blk_far ?_ NB152_159.out _; (with_reducible repeat (first | apply xbN | apply xbD | apply xbA)); exact BK152.out)) : gb161 ≠ gb152)); have NB159_161 := xM ((by rw [hg]; exact Nat.ne_of_lt (blk_lt (g := gb159) (o := .cells #[.int .i64 ((rd_T101 l0_0 x43_3).f0), .int .i64 ((rd_T101 l0_0 x43_3).f1), .string ((rd_T101 l0_0 x43_3).f2)] 101 (0, 0)) (by (with_reducible repeat (first | apply xbN | apply xbD | apply xbA)); refine blk_put (cs := #[.int .i64 ((rd_T101 l0_0 x43_3).f0), .int .i64 ((rd_T101 l0_0 x43_3).f1), .string (⟨#[]⟩ : ByteArray)]) ?_ 2 _ rfl; (with_reducible repeat (first | apply xbN | apply xbD | apply xbA)); refine blk_put (cs := #[.int .i64 ((rd_T101 l0_0 x43_3).f0), .int .i64 0, .string (⟨#[]⟩ : ByteArray)]) ?_ 1 _ rfl; (with_reducible repeat (first | apply xbN | apply xbD | apply xbA)); refine blk_put (cs := #[.int .i64 0, .int .i64 0, .string (⟨#[]⟩ : ByteArray)]) ?_ 0 _ rfl; (with_reducible repeat (first | apply xbN | apply xbD | apply xbA)); exact BK159.out)) : gb159 ≠ gb161)); have NB161_159 := xM ((by rw [hg]; exact Nat.ne_of_gt (blk_lt (g := gb159) (o := .cells #[.int .i64 ((rd_T101 l0_0 x43_3).f0), .int .i64 ((rd_T101 l0_0 x43_3).f1), .string ((rd_T101 l0_0 x43_3).f2)] 101 (0, 0)) (by (with_reducible repeat (first | apply xbN | apply xbD | apply xbA)); refine blk_put (cs := #[.int .i64 ((rd_T101 l0_0 x43_3).f0), .int .i64 ((rd_T101 l0_0 x43_3).f1), .string (⟨#[]⟩ : ByteArray)]) ?_ 2 _ rfl; (with_reducible repeat (first | apply xbN | apply xbD | apply xbA)); refine blk_put (cs := #[.int .i64 ((rd_T101 l0_0 x43_3).f0), .int .i64 0, .string (⟨#[]⟩ : ByteArray)]) ?_ 1 _ rfl; (with_reducible repeat (first | apply xbN | apply xbD | apply xbA)); refine blk_put (cs := #[.int .i64 0, .int .i64 0, .string (⟨#[]⟩ : ByteArray)]) ?_ 0 _ rfl; (with_reducible repeat (first | apply xbN | apply xbD | apply xbA)); exact BK159.out)) : gb161 ≠ gb159)); replace BK152 := xM (xB (g := gb152) (o := .cells #[.slice (some ad158) l0_0.length c0_0, .slice A0_1 l0_1.length c0_1] 64 (0, 0)) (by (with_reducible repeat (first | apply xbN | apply xbD | apply xbA)); refine blk_far ?_ NB152_159.out _; (with_reducible repeat (first | apply xbN | apply xbD | apply xbA)); refine blk_far ?_ NB152_159.out _; (with_reducible repeat (first | apply xbN | apply xbD | apply xbA)); refine blk_far ?_ NB152_159.out _; (with_reducible repeat (first | apply xbN | apply xbD | apply xbA)); exact BK152.out) hb); replace BK159 := xM (xB (g := gb159) (o := .cells #[.int .i64 ((rd_T101 l0_0 x43_3).f0), .int .i64 ((rd_T101 l0_0 x43_3).f1), .string ((rd_T101 l0_0 x43_3).f2)] 101 (0, 0)) (by (with_reducible repeat (first | apply xbN | apply xbD | apply xbA)); refine blk_put (cs := #[.int .i64 ((rd_T101 l0_0 x43_3).f0), .int .i64 ((rd_T101 l0_0 x43_3).f1), .string (⟨#[]⟩ : ByteArray)]) ?_ 2 _ rfl; (with_reducible repeat (first | apply xbN | apply xbD | apply xbA)); refine blk_put (cs := #[.int .i64 ((rd_T101 l0_0 x43_3).f0), .int .i64 0, .string (⟨#[]⟩ : ByteArray)]) ?_ 1 _ rfl; (with_reducible repeat (first | apply xbN | apply xbD | apply xbA)); refine blk_put (cs := #[.int .i64 0, .int .i64 0, .string (⟨#[]⟩ : ByteArray)]) ?_ 0 _ rfl; (with_reducible repeat (first | apply xbN | apply xbD | apply xbA)); exact BK159.out) hb); replace HB := xM (below_step (yh HB) hb); clear hb hbox hg; have hnb42 := NB161_152.out; have hnc42 := NB152_161.out; have hnb43 := NB161_159.out; have hnc43 := NB159_161.out; have hcz44_0 : w41.cell? ⟨gb161, 0, none⟩ = some (.int .i64 0) := (blk_cell BK161.out 0).trans rfl; have hcz44_1 : w41.cell? ⟨gb161, 1, none⟩ = some (.int .i64 0) := (blk_cell BK161.out 1).trans rfl; have hcz44_2 : w41.cell? ⟨gb161, 2, none⟩ = some (.string (⟨#[]⟩ : ByteArray)) := (blk_cell BK161.out 2).trans rfl; have hfz44_0 := blk_frozen BK161.out 0; have hfz44_1 := blk_frozen BK161.out 1; have hfz44_2 := blk_frozen BK161.out 2; have hcz45_0 : w41.cell? ⟨gb159, 0, none⟩ = some (.int .i64 ((rd_T101 l0_0 x43_3).f0)) := (blk_cell BK159.out 0).trans rfl; have hcz45_1 : w41.cell? ⟨gb159, 1, none⟩ = some (.int .i64 ((rd_T101 l0_0 x43_3).f1)) := (blk_cell BK159.out 1).trans rfl; have hcz45_2 : w41.cell? ⟨gb159, 2, none⟩ = some (.string ((rd_T101 l0_0 x43_3).f2)) := (blk_cell BK159.out 2).trans rfl; have hfz45_0 := blk_frozen BK159.out 0; have hfz45_1 := blk_frozen BK159.out 1; have hfz45_2 := blk_frozen BK159.out 2)))
                  go_ret
                  exact ⟨by first | rfl | (simp [errW_none, errW_some] <;> rfl) | (simp only [← hji35]; first | rfl | (simp [errW_none, errW_some] <;> rfl)) | (simp [*, errW_none, errW_some] <;> rfl), by repeat (first | (with_reducible first | exact HB.out | apply xa | apply xn | apply xd | refine xs ?_ GE152.out | refine xs ?_ GE159.out | refine xs ?_ GE161.out) | exact HB.out)⟩
                 ·rw [if_neg c38] at H
                  have c38b0 : decide (((rd_T101 l0_0 x43_3).f0) < ((rd_T101 l0_0 (ji35)).f0)) = false := decide_eq_false c38
                  clear c38
                  by_cases c46 : ((rd_T101 l0_0 (ji35)).f0) = ((rd_T101 l0_0 x43_3).f0)
                  ·rw [if_pos c46] at H
                   have c46b0 : (((rd_T101 l0_0 (ji35)).f0) == ((rd_T101 l0_0 x43_3).f0)) = true := beq_iff_eq.mpr c46
                   have c46b1 : (((rd_T101 l0_0 (ji35)).f0) != ((rd_T101 l0_0 x43_3).f0)) = false := bne_eq_false_iff_eq.mpr c46
                   clear c46
                   by_cases c47 : ((rd_T101 l0_0 (ji35)).f1) ≥ ((rd_T101 l0_0 x43_3).f1)
                   ·rw [if_pos c47] at H
                    have c47b0 : decide (((rd_T101 l0_0 x43_3).f1) ≤ ((rd_T101 l0_0 (ji35)).f1)) = true := decide_eq_true c47
                    clear c47
                    obtain rfl := Option.some.inj H
                    have hnb48 := NB152_159.out
                    have hnc48 := NB159_152.out
                    have hcz49_0 : w31.cell? ⟨gb152, 0, none⟩ = some (.slice (some ad158) l0_0.length c0_0) := (blk_cell BK152.out 0).trans rfl
                    have hcz49_1 : w31.cell? ⟨gb152, 1, none⟩ = some (.slice A0_1 l0_1.length c0_1) := (blk_cell BK152.out 1).trans rfl
                    have hfz49_0 := blk_frozen BK152.out 0
                    have hfz49_1 := blk_frozen BK152.out 1
                    have p160 : 0 ≤ ((ji35) : Int) := of_decide_eq_true (by first | (with_reducible assumption) | assumption)
                    have q160 : (ji35) < (l0_0.length : Int) := of_decide_eq_true (by first | (with_reducible assumption) | assumption)
                    obtain ⟨ad160, e160, hx160_0, hx160_1, hx160_2⟩ := at_T101 HR0_0.out (ji35) p160 q160
                    obtain rfl : ad158 = ad160 := (by injection e160)
                    have hn160_0 : ad158.block ≠ gb159 := Nat.ne_of_lt (Nat.lt_of_lt_of_le (by have := World.block_lt_of_cell? _ _ hx160_0; first | rwa [add_block] at this | exact this) GW159.out)
                    have hn160_1 : ad158.block ≠ gb159 := Nat.ne_of_lt (Nat.lt_of_lt_of_le (by have := World.block_lt_of_cell? _ _ hx160_0; first | rwa [add_block] at this | exact this) GW159.out)
                    have hn160_2 : ad158.block ≠ gb159 := Nat.ne_of_lt (Nat.lt_of_lt_of_le (by have := World.block_lt_of_cell? _ _ hx160_0; first | rwa [add_block] at this | exact this) GW159.out)
                    replace hx160_0 := (HB.out.cell (World.block_lt_of_cell? w _ hx160_0)).trans hx160_0
                    replace hx160_1 := (HB.out.cell (World.block_lt_of_cell? w _ hx160_1)).trans hx160_1
                    replace hx160_2 := (HB.out.cell (World.block_lt_of_cell? w _ hx160_2)).trans hx160_2
                    replace hx160_0 := (cell_far (p := ⟨gb159, 0, none⟩) (by first | (rw [add_block]; exact hn160_0) | (show (Addr.add _ _).block ≠ _; rw [add_block]; exact hn160_0) | exact hn160_0) (.int .i64 ((rd_T101 l0_0 x43_3).f0))).trans hx160_0
                    replace hx160_1 := (cell_far (p := ⟨gb159, 0, none⟩) (by first | (rw [add_block]; exact hn160_0) | (show (Addr.add _ _).block ≠ _; rw [add_block]; exact hn160_0) | exact hn160_0) (.int .i64 ((rd_T101 l0_0 x43_3).f0))).trans hx160_1
                    replace hx160_2 := (cell_far (p := ⟨gb159, 0, none⟩) (by first | (rw [add_block]; exact hn160_0) | (show (Addr.add _ _).block ≠ _; rw [add_block]; exact hn160_0) | exact hn160_0) (.int .i64 ((rd_T101 l0_0 x43_3).f0))).trans hx160_2
                    replace hx160_0 := (cell_far (p := ⟨gb159, 1, none⟩) (by first | (rw [add_block]; exact hn160_1) | (show (Addr.add _ _).block ≠ _; rw [add_block]; exact hn160_1) | exact hn160_1) (.int .i64 ((rd_T101 l0_0 x43_3).f1))).trans hx160_0
                    replace hx160_1 := (cell_far (p := ⟨gb159, 1, none⟩) (by first | (rw [add_block]; exact hn160_1) | (show (Addr.add _ _).block ≠ _; rw [add_block]; exact hn160_1) | exact hn160_1) (.int .i64 ((rd_T101 l0_0 x43_3).f1))).trans hx160_1
                    replace hx160_2 := (cell_far (p := ⟨gb159, 1, none⟩) (by first | (rw [add_block]; exact hn160_1) | (show (Addr.add _ _).block ≠ _; rw [add_block]; exact hn160_1) | exact hn160_1) (.int .i64 ((rd_T101 l0_0 x43_3).f1))).trans hx160_2
                    replace hx160_0 := (cell_far (p := ⟨gb159, 2, none⟩) (by first | (rw [add_block]; exact hn160_2) | (show (Addr.add _ _).block ≠ _; rw [add_block]; exact hn160_2) | exact hn160_2) (.string ((rd_T101 l0_0 x43_3).f2))).trans hx160_0
                    replace hx160_1 := (cell_far (p := ⟨gb159, 2, none⟩) (by first | (rw [add_block]; exact hn160_2) | (show (Addr.add _ _).block ≠ _; rw [add_block]; exact hn160_2) | exact hn160_2) (.string ((rd_T101 l0_0 x43_3).f2))).trans hx160_1
                    replace hx160_2 := (cell_far (p := ⟨gb159, 2, none⟩) (by first | (rw [add_block]; exact hn160_2) | (show (Addr.add _ _).block ≠ _; rw [add_block]; exact hn160_2) | exact hn160_2) (.string ((rd_T101 l0_0 x43_3).f2))).trans hx160_2
                    (try have hy160_0 := fun (n_ : Nat) => (show (((((w31.drewN n_).setCell ⟨gb159, 0, none⟩ (.int .i64 ((rd_T101 l0_0 x43_3).f0))).setCell ⟨gb159, 1, none⟩ (.int .i64 ((rd_T101 l0_0 x43_3).f1))).setCell ⟨gb159, 2, none⟩ (.string ((rd_T101 l0_0 x43_3).f2)))).cell? _ = some _ from hx160_0))
                    (try have hy160_1 := fun (n_ : Nat) => (show (((((w31.drewN n_).setCell ⟨gb159, 0, none⟩ (.int .i64 ((rd_T101 l0_0 x43_3).f0))).setCell ⟨gb159, 1, none⟩ (.int .i64 ((rd_T101 l0_0 x43_3).f1))).setCell ⟨gb159, 2, none⟩ (.string ((rd_T101 l0_0 x43_3).f2)))).cell? _ = some _ from hx160_1))
                    (try have hy160_2 := fun (n_ : Nat) => (show (((((w31.drewN n_).setCell ⟨gb159, 0, none⟩ (.int .i64 ((rd_T101 l0_0 x43_3).f0))).setCell ⟨gb159, 1, none⟩ (.int .i64 ((rd_T101 l0_0 x43_3).f1))).setCell ⟨gb159, 2, none⟩ (.string ((rd_T101 l0_0 x43_3).f2)))).cell? _ = some _ from hx160_2))
                    clear hn160_0
                    clear hn160_1
                    clear hn160_2
                    replace p160 := eq_true p160
                    replace q160 := eq_true q160
                    go_wp2_with (first | ((with_reducible refine gate_dst (N := 7) rfl ?_); (try (refine gate_guard (by rfl) ?_; dsimp only)); refine box_event ?hg (N := 7) ?hd (cs := #[.int .i64 0, .int .i64 0, .string (⟨#[]⟩ : ByteArray)]) (t := 101) ?hr ?_; (case hd => rfl); (case hg => rfl); (case hr => first | (go_simp; done) | (go_simp; rfl)); intro gb161 hg w50 hbox hb; have BK161 := xM (hbox); have GW161 := xM ((by rw [hg]; exact (below_size (yh HB)) : w.heap.size ≤ gb161)); have GE161 := xM ((by rw [hg]; exact (below_size (yh HB)) : w.heap.size ≤ gb161)); have NB152_161 := xM ((by rw [hg]; exact Nat.ne_of_lt (blk_lt (g := gb152) (o := .cells #[.slice (some ad158) l0_0.length c0_0, .slice A0_1 l0_1.length c0_1] 64 (0, 0)) (by (with_reducible repeat (first | apply xbN | apply xbD | apply xbA)); refine blk_far ?_ NB152_159.out _; (with_reducible repeat (first | apply xbN | apply xbD | apply xbA)); refine blk_far ?_ NB152_159.out _; (with_reducible repeat (first | apply xbN | apply xbD | apply xbA)); refine blk_far ?_ NB152_159.out _; (with_reducible repeat (first | apply xbN | apply xbD | apply xbA)); exact BK152.out)) : gb152 ≠ gb161)); have NB161_152 := xM ((by rw [hg]; exact Nat.ne_of_gt (blk_lt (g := gb152) (o := .cells #[.slice (some ad158) l0_0.length c0_0, .slice A0_1 l0_1.length c0_1] 64 (0, 0)) (by (with_reducible repeat (first | apply xbN | apply xbD | apply xbA)); refine blk_far ?_ NB152_159.out _; (with_reducible repeat (first | apply xbN | apply xbD | apply xbA)); refine blk_far ?_ NB152_159.out _; (with_reducible repeat (first | apply xbN | apply xbD | apply xbA)); refine blk_far ?_ NB152_159.out _; (with_reducible repeat (first | apply xbN | apply xbD | apply xbA)); exact BK152.out)) : gb161 ≠ gb152)); have NB159_161 := xM ((by rw [hg]; exact Nat.ne_of_lt (blk_lt (g := gb159) (o := .cells #[.int .i64 ((rd_T101 l0_0 x43_3).f0), .int .i64 ((rd_T101 l0_0 x43_3).f1), .string ((rd_T101 l0_0 x43_3).f2)] 101 (0, 0)) (by (with_reducible repeat (first | apply xbN | apply xbD | apply xbA)); refine blk_put (cs := #[.int .i64 ((rd_T101 l0_0 x43_3).f0), .int .i64 ((rd_T101 l0_0 x43_3).f1), .string (⟨#[]⟩ : ByteArray)]) ?_ 2 _ rfl; (with_reducible repeat (first | apply xbN | apply xbD | apply xbA)); refine blk_put (cs := #[.int .i64 ((rd_T101 l0_0 x43_3).f0), .int .i64 0, .string (⟨#[]⟩ : ByteArray)]) ?_ 1 _ rfl; (with_reducible repeat (first | apply xbN | apply xbD | apply xbA)); refine blk_put (cs := #[.int .i64 0, .int .i64 0, .string (⟨#[]⟩ : ByteArray)]) ?_ 0 _ rfl; (with_reducible repeat (first | apply xbN | apply xbD | apply xbA)); exact BK159.out)) : gb159 ≠ gb161)); have NB161_159 := xM ((by rw [hg]; exact Nat.ne_of_gt (blk_lt (g := gb159) (o := .cells #[.int .i64 ((rd_T101 l0_0 x43_3).f0), .int .i64 ((rd_T101 l0_0 x43_3).f1), .string ((rd_T101 l0_0 x43_3).f2)] 101 (0, 0)) (by (with_reducible repeat (first | apply xbN | apply xbD | apply xbA)); refine blk_put (cs := #[.int .i64 ((rd_T101 l0_0 x43_3).f0), .int .i64 ((rd_T101 l0_0 x43_3).f1), .string (⟨#[]⟩ : ByteArray)]) ?_ 2 _ rfl; (with_reducible repeat (first | apply xbN | apply xbD | apply xbA)); refine blk_put (cs := #[.int .i64 ((rd_T101 l0_0 x43_3).f0), .int .i64 0, .string (⟨#[]⟩ : ByteArray)]) ?_ 1 _ rfl; (with_reducible repeat (first | apply xbN | apply xbD | apply xbA)); refine blk_put (cs := #[.int .i64 0, .int .i64 0, .string (⟨#[]⟩ : ByteArray)]) ?_ 0 _ rfl; (with_reducible repeat (first | apply xbN | apply xbD | apply xbA)); exact BK159.out)) : gb161 ≠ gb159)); replace BK152 := xM (xB (g := gb152) (o := .cells #[.slice (some ad158) l0_0.length c0_0, .slice A0_1 l0_1.length c0_1] 64 (0, 0)) (by (with_reducible repeat (first | apply xbN | apply xbD | apply xbA)); refine blk_far ?_ NB152_159.out _; (with_reducible repeat (first | apply xbN | apply xbD | apply xbA)); refine blk_far ?_ NB152_159.out _; (with_reducible repeat (first | apply xbN | apply xbD | apply xbA)); refine blk_far ?_ NB152_159.out _; (with_reducible repeat (first | apply xbN | apply xbD | apply xbA)); exact BK152.out) hb); replace BK159 := xM (xB (g := gb159) (o := .cells #[.int .i64 ((rd_T101 l0_0 x43_3).f0), .int .i64 ((rd_T101 l0_0 x43_3).f1), .string ((rd_T101 l0_0 x43_3).f2)] 101 (0, 0)) (by (with_reducible repeat (first | apply xbN | apply xbD | apply xbA)); refine blk_put (cs := #[.int .i64 ((rd_T101 l0_0 x43_3).f0), .int .i64 ((rd_T101 l0_0 x43_3).f1), .string (⟨#[]⟩ : ByteArray)]) ?_ 2 _ rfl; (with_reducible repeat (first | apply xbN | apply xbD | apply xbA)); refine blk_put (cs := #[.int .i64 ((rd_T101 l0_0 x43_3).f0), .int .i64 0, .string (⟨#[]⟩ : ByteArray)]) ?_ 1 _ rfl; (with_reducible repeat (first | apply xbN | apply xbD | apply xbA)); refine blk_put (cs := #[.int .i64 0, .int .i64 0, .string (⟨#[]⟩ : ByteArray)]) ?_ 0 _ rfl; (with_reducible repeat (first | apply xbN | apply xbD | apply xbA)); exact BK159.out) hb); replace HB := xM (below_step (yh HB) hb); clear hb hbox hg; have hnb51 := NB161_152.out; have hnc51 := NB152_161.out; have hnb52 := NB161_159.out; have hnc52 := NB159_161.out; have hcz53_0 : w50.cell? ⟨gb161, 0, none⟩ = some (.int .i64 0) := (blk_cell BK161.out 0).trans rfl; have hcz53_1 : w50.cell? ⟨gb161, 1, none⟩ = some (.int .i64 0) := (blk_cell BK161.out 1).trans rfl; have hcz53_2 : w50.cell? ⟨gb161, 2, none⟩ = some (.string (⟨#[]⟩ : ByteArray)) := (blk_cell BK161.out 2).trans rfl; have hfz53_0 := blk_frozen BK161.out 0; have hfz53_1 := blk_frozen BK161.out 1; have hfz53_2 := blk_frozen BK161.out 2; have hcz54_0 : w50.cell? ⟨gb159, 0, none⟩ = some (.int .i64 ((rd_T101 l0_0 x43_3).f0)) := (blk_cell BK159.out 0).trans rfl; have hcz54_1 : w50.cell? ⟨gb159, 1, none⟩ = some (.int .i64 ((rd_T101 l0_0 x43_3).f1)) := (blk_cell BK159.out 1).trans rfl; have hcz54_2 : w50.cell? ⟨gb159, 2, none⟩ = some (.string ((rd_T101 l0_0 x43_3).f2)) := (blk_cell BK159.out 2).trans rfl; have hfz54_0 := blk_frozen BK159.out 0; have hfz54_1 := blk_frozen BK159.out 1; have hfz54_2 := blk_frozen BK159.out 2))
                    repeat (go_quiet (first | ((with_reducible refine gate_dst (N := 7) rfl ?_); (try (refine gate_guard (by rfl) ?_; dsimp only)); refine box_event ?hg (N := 7) ?hd (cs := #[.int .i64 0, .int .i64 0, .string (⟨#[]⟩ : ByteArray)]) (t := 101) ?hr ?_; (case hd => rfl); (case hg => rfl); (case hr => first | (go_simp; done) | (go_simp; rfl)); intro gb161 hg w50 hbox hb; have BK161 := xM (hbox); have GW161 := xM ((by rw [hg]; exact (below_size (yh HB)) : w.heap.size ≤ gb161)); have GE161 := xM ((by rw [hg]; exact (below_size (yh HB)) : w.heap.size ≤ gb161)); have NB152_161 := xM ((by rw [hg]; exact Nat.ne_of_lt (blk_lt (g := gb152) (o := .cells #[.slice (some ad158) l0_0.length c0_0, .slice A0_1 l0_1.length c0_1] 64 (0, 0)) (by (with_reducible repeat (first | apply xbN | apply xbD | apply xbA)); refine blk_far ?_ NB152_159.out _; (with_reducible repeat (first | apply xbN | apply xbD | apply xbA)); refine blk_far ?_ NB152_159.out _; (with_reducible repeat (first | apply xbN | apply xbD | apply xbA)); refine blk_far ?_ NB152_159.out _; (with_reducible repeat (first | apply xbN | apply xbD | apply xbA)); exact BK152.out)) : gb152 ≠ gb161)); have NB161_152 := xM ((by rw [hg]; exact Nat.ne_of_gt (blk_lt (g := gb152) (o := .cells #[.slice (some ad158) l0_0.length c0_0, .slice A0_1 l0_1.length c0_1] 64 (0, 0)) (by (with_reducible repeat (first | apply xbN | apply xbD | apply xbA)); refine blk_far ?_ NB152_159.out _; (with_reducible repeat (first | apply xbN | apply xbD | apply xbA)); refine blk_far ?_ NB152_159.out _; (with_reducible repeat (first | apply xbN | apply xbD | apply xbA)); refine blk_far ?_ NB152_159.out _; (with_reducible repeat (first | apply xbN | apply xbD | apply xbA)); exact BK152.out)) : gb161 ≠ gb152)); have NB159_161 := xM ((by rw [hg]; exact Nat.ne_of_lt (blk_lt (g := gb159) (o := .cells #[.int .i64 ((rd_T101 l0_0 x43_3).f0), .int .i64 ((rd_T101 l0_0 x43_3).f1), .string ((rd_T101 l0_0 x43_3).f2)] 101 (0, 0)) (by (with_reducible repeat (first | apply xbN | apply xbD | apply xbA)); refine blk_put (cs := #[.int .i64 ((rd_T101 l0_0 x43_3).f0), .int .i64 ((rd_T101 l0_0 x43_3).f1), .string (⟨#[]⟩ : ByteArray)]) ?_ 2 _ rfl; (with_reducible repeat (first | apply xbN | apply xbD | apply xbA)); refine blk_put (cs := #[.int .i64 ((rd_T101 l0_0 x43_3).f0), .int .i64 0, .string (⟨#[]⟩ : ByteArray)]) ?_ 1 _ rfl; (with_reducible repeat (first | apply xbN | apply xbD | apply xbA)); refine blk_put (cs := #[.int .i64 0, .int .i64 0, .string (⟨#[]⟩ : ByteArray)]) ?_ 0 _ rfl; (with_reducible repeat (first | apply xbN | apply xbD | apply xbA)); exact BK159.out)) : gb159 ≠ gb161)); have NB161_159 := xM ((by rw [hg]; exact Nat.ne_of_gt (blk_lt (g := gb159) (o := .cells #[.int .i64 ((rd_T101 l0_0 x43_3).f0), .int .i64 ((rd_T101 l0_0 x43_3).f1), .string ((rd_T101 l0_0 x43_3).f2)] 101 (0, 0)) (by (with_reducible repeat (first | apply xbN | apply xbD | apply xbA)); refine blk_put (cs := #[.int .i64 ((rd_T101 l0_0 x43_3).f0), .int .i64 ((rd_T101 l0_0 x43_3).f1), .string (⟨#[]⟩ : ByteArray)]) ?_ 2 _ rfl; (with_reducible repeat (first | apply xbN | apply xbD | apply xbA)); refine blk_put (cs := #[.int .i64 ((rd_T101 l0_0 x43_3).f0), .int .i64 0, .string (⟨#[]⟩ : ByteArray)]) ?_ 1 _ rfl; (with_reducible repeat (first | apply xbN | apply xbD | apply xbA)); refine blk_put (cs := #[.int .i64 0, .int .i64 0, .string (⟨#[]⟩ : ByteArray)]) ?_ 0 _ rfl; (with_reducible repeat (first | apply xbN | apply xbD | apply xbA)); exact BK159.out)) : gb161 ≠ gb159)); replace BK152 := xM (xB (g := gb152) (o := .cells #[.slice (some ad158) l0_0.length c0_0, .slice A0_1 l0_1.length c0_1] 64 (0, 0)) (by (with_reducible repeat (first | apply xbN | apply xbD | apply xbA)); refine blk_far ?_ NB152_159.out _; (with_reducible repeat (first | apply xbN | apply xbD | apply xbA)); refine blk_far ?_ NB152_159.out _; (with_reducible repeat (first | apply xbN | apply xbD | apply xbA)); refine blk_far ?_ NB152_159.out _; (with_reducible repeat (first | apply xbN | apply xbD | apply xbA)); exact BK152.out) hb); replace BK159 := xM (xB (g := gb159) (o := .cells #[.int .i64 ((rd_T101 l0_0 x43_3).f0), .int .i64 ((rd_T101 l0_0 x43_3).f1), .string ((rd_T101 l0_0 x43_3).f2)] 101 (0, 0)) (by (with_reducible repeat (first | apply xbN | apply xbD | apply xbA)); refine blk_put (cs := #[.int .i64 ((rd_T101 l0_0 x43_3).f0), .int .i64 ((rd_T101 l0_0 x43_3).f1), .string (⟨#[]⟩ : ByteArray)]) ?_ 2 _ rfl; (with_reducible repeat (first | apply xbN | apply xbD | apply xbA)); refine blk_put (cs := #[.int .i64 ((rd_T101 l0_0 x43_3).f0), .int .i64 0, .string (⟨#[]⟩ : ByteArray)]) ?_ 1 _ rfl; (with_reducible repeat (first | apply xbN | apply xbD | apply xbA)); refine blk_put (cs := #[.int .i64 0, .int .i64 0, .string (⟨#[]⟩ : ByteArray)]) ?_ 0 _ rfl; (with_reducible repeat (first | apply xbN | apply xbD | apply xbA)); exact BK159.out) hb); replace HB := xM (below_step (yh HB) hb); clear hb hbox hg; have hnb51 := NB161_152.out; have hnc51 := NB152_161.out; have hnb52 := NB161_159.out; have hnc52 := NB159_161.out; have hcz53_0 : w50.cell? ⟨gb161, 0, none⟩ = some (.int .i64 0) := (blk_cell BK161.out 0).trans rfl; have hcz53_1 : w50.cell? ⟨gb161, 1, none⟩ = some (.int .i64 0) := (blk_cell BK161.out 1).trans rfl; have hcz53_2 : w50.cell? ⟨gb161, 2, none⟩ = some (.string (⟨#[]⟩ : ByteArray)) := (blk_cell BK161.out 2).trans rfl; have hfz53_0 := blk_frozen BK161.out 0; have hfz53_1 := blk_frozen BK161.out 1; have hfz53_2 := blk_frozen BK161.out 2; have hcz54_0 : w50.cell? ⟨gb159, 0, none⟩ = some (.int .i64 ((rd_T101 l0_0 x43_3).f0)) := (blk_cell BK159.out 0).trans rfl; have hcz54_1 : w50.cell? ⟨gb159, 1, none⟩ = some (.int .i64 ((rd_T101 l0_0 x43_3).f1)) := (blk_cell BK159.out 1).trans rfl; have hcz54_2 : w50.cell? ⟨gb159, 2, none⟩ = some (.string ((rd_T101 l0_0 x43_3).f2)) := (blk_cell BK159.out 2).trans rfl; have hfz54_0 := blk_frozen BK159.out 0; have hfz54_1 := blk_frozen BK159.out 1; have hfz54_2 := blk_frozen BK159.out 2)); try go_wp2_with (first | ((with_reducible refine gate_dst (N := 7) rfl ?_); (try (refine gate_guard (by rfl) ?_; dsimp only)); refine box_event ?hg (N := 7) ?hd (cs := #[.int .i64 0, .int .i64 0, .string (⟨#[]⟩ : ByteArray)]) (t := 101) ?hr ?_; (case hd => rfl); (case hg => rfl); (case hr => first | (go_simp; done) | (go_simp; rfl)); intro gb161 hg w50 hbox hb; have BK161 := xM (hbox); have GW161 := xM ((by rw [hg]; exact (below_size (yh HB)) : w.heap.size ≤ gb161)); have GE161 := xM ((by rw [hg]; exact (below_size (yh HB)) : w.heap.size ≤ gb161)); have NB152_161 := xM ((by rw [hg]; exact Nat.ne_of_lt (blk_lt (g := gb152) (o := .cells #[.slice (some ad158) l0_0.length c0_0, .slice A0_1 l0_1.length c0_1] 64 (0, 0)) (by (with_reducible repeat (first | apply xbN | apply xbD | apply xbA)); refine blk_far ?_ NB152_159.out _; (with_reducible repeat (first | apply xbN | apply xbD | apply xbA)); refine blk_far ?_ NB152_159.out _; (with_reducible repeat (first | apply xbN | apply xbD | apply xbA)); refine blk_far ?_ NB152_159.out _; (with_reducible repeat (first | apply xbN | apply xbD | apply xbA)); exact BK152.out)) : gb152 ≠ gb161)); have NB161_152 := xM ((by rw [hg]; exact Nat.ne_of_gt (blk_lt (g := gb152) (o := .cells #[.slice (some ad158) l0_0.length c0_0, .slice A0_1 l0_1.length c0_1] 64 (0, 0)) (by (with_reducible repeat (first | apply xbN | apply xbD | apply xbA)); refine blk_far ?_ NB152_159.out _; (with_reducible repeat (first | apply xbN | apply xbD | apply xbA)); refine blk_far ?_ NB152_159.out _; (with_reducible repeat (first | apply xbN | apply xbD | apply xbA)); refine blk_far ?_ NB152_159.out _; (with_reducible repeat (first | apply xbN | apply xbD | apply xbA)); exact BK152.out)) : gb161 ≠ gb152)); have NB159_161 := xM ((by rw [hg]; exact Nat.ne_of_lt (blk_lt (g := gb159) (o := .cells #[.int .i64 ((rd_T101 l0_0 x43_3).f0), .int .i64 ((rd_T101 l0_0 x43_3).f1), .string ((rd_T101 l0_0 x43_3).f2)] 101 (0, 0)) (by (with_reducible repeat (first | apply xbN | apply xbD | apply xbA)); refine blk_put (cs := #[.int .i64 ((rd_T101 l0_0 x43_3).f0), .int .i64 ((rd_T101 l0_0 x43_3).f1), .string (⟨#[]⟩ : ByteArray)]) ?_ 2 _ rfl; (with_reducible repeat (first | apply xbN | apply xbD | apply xbA)); refine blk_put (cs := #[.int .i64 ((rd_T101 l0_0 x43_3).f0), .int .i64 0, .string (⟨#[]⟩ : ByteArray)]) ?_ 1 _ rfl; (with_reducible repeat (first | apply xbN | apply xbD | apply xbA)); refine blk_put (cs := #[.int .i64 0, .int .i64 0, .string (⟨#[]⟩ : ByteArray)]) ?_ 0 _ rfl; (with_reducible repeat (first | apply xbN | apply xbD | apply xbA)); exact BK159.out)) : gb159 ≠ gb161)); have NB161_159 := xM ((by rw [hg]; exact Nat.ne_of_gt (blk_lt (g := gb159) (o := .cells #[.int .i64 ((rd_T101 l0_0 x43_3).f0), .int .i64 ((rd_T101 l0_0 x43_3).f1), .string ((rd_T101 l0_0 x43_3).f2)] 101 (0, 0)) (by (with_reducible repeat (first | apply xbN | apply xbD | apply xbA)); refine blk_put (cs := #[.int .i64 ((rd_T101 l0_0 x43_3).f0), .int .i64 ((rd_T101 l0_0 x43_3).f1), .string (⟨#[]⟩ : ByteArray)]) ?_ 2 _ rfl; (with_reducible repeat (first | apply xbN | apply xbD | apply xbA)); refine blk_put (cs := #[.int .i64 ((rd_T101 l0_0 x43_3).f0), .int .i64 0, .string (⟨#[]⟩ : ByteArray)]) ?_ 1 _ rfl; (with_reducible repeat (first | apply xbN | apply xbD | apply xbA)); refine blk_put (cs := #[.int .i64 0, .int .i64 0, .string (⟨#[]⟩ : ByteArray)]) ?_ 0 _ rfl; (with_reducible repeat (first | apply xbN | apply xbD | apply xbA)); exact BK159.out)) : gb161 ≠ gb159)); replace BK152 := xM (xB (g := gb152) (o := .cells #[.slice (some ad158) l0_0.length c0_0, .slice A0_1 l0_1.length c0_1] 64 (0, 0)) (by (with_reducible repeat (first | apply xbN | apply xbD | apply xbA)); refine blk_far ?_ NB152_159.out _; (with_reducible repeat (first | apply xbN | apply xbD | apply xbA)); refine blk_far ?_ NB152_159.out _; (with_reducible repeat (first | apply xbN | apply xbD | apply xbA)); refine blk_far ?_ NB152_159.out _; (with_reducible repeat (first | apply xbN | apply xbD | apply xbA)); exact BK152.out) hb); replace BK159 := xM (xB (g := gb159) (o := .cells #[.int .i64 ((rd_T101 l0_0 x43_3).f0), .int .i64 ((rd_T101 l0_0 x43_3).f1), .string ((rd_T101 l0_0 x43_3).f2)] 101 (0, 0)) (by (with_reducible repeat (first | apply xbN | apply xbD | apply xbA)); refine blk_put (cs := #[.int .i64 ((rd_T101 l0_0 x43_3).f0), .int .i64 ((rd_T101 l0_0 x43_3).f1), .string (⟨#[]⟩ : ByteArray)]) ?_ 2 _ rfl; (with_reducible repeat (first | apply xbN | apply xbD | apply xbA)); refine blk_put (cs := #[.int .i64 ((rd_T101 l0_0 x43_3).f0), .int .i64 0, .string (⟨#[]⟩ : ByteArray)]) ?_ 1 _ rfl; (with_reducible repeat (first | apply xbN | apply xbD | apply xbA)); refine blk_put (cs := #[.int .i64 0, .int .i64 0, .string (⟨#[]⟩ : ByteArray)]) ?_ 0 _ rfl; (with_reducible repeat (first | apply xbN | apply xbD | apply xbA)); exact BK159.out) hb); replace HB := xM (below_step (yh HB) hb); clear hb hbox hg; have hnb51 := NB161_152.out; have hnc51 := NB152_161.out; have hnb52 := NB161_159.out; have hnc52 := NB159_161.out; have hcz53_0 : w50.cell? ⟨gb161, 0, none⟩ = some (.int .i64 0) := (blk_cell BK161.out 0).trans rfl; have hcz53_1 : w50.cell? ⟨gb161, 1, none⟩ = some (.int .i64 0) := (blk_cell BK161.out 1).trans rfl; have hcz53_2 : w50.cell? ⟨gb161, 2, none⟩ = some (.string (⟨#[]⟩ : ByteArray)) := (blk_cell BK161.out 2).trans rfl; have hfz53_0 := blk_frozen BK161.out 0; have hfz53_1 := blk_frozen BK161.out 1; have hfz53_2 := blk_frozen BK161.out 2; have hcz54_0 : w50.cell? ⟨gb159, 0, none⟩ = some (.int .i64 ((rd_T101 l0_0 x43_3).f0)) := (blk_cell BK159.out 0).trans rfl; have hcz54_1 : w50.cell? ⟨gb159, 1, none⟩ = some (.int .i64 ((rd_T101 l0_0 x43_3).f1)) := (blk_cell BK159.out 1).trans rfl; have hcz54_2 : w50.cell? ⟨gb159, 2, none⟩ = some (.string ((rd_T101 l0_0 x43_3).f2)) := (blk_cell BK159.out 2).trans rfl; have hfz54_0 := blk_frozen BK159.out 0; have hfz54_1 := blk_frozen BK159.out 1; have hfz54_2 := blk_frozen BK159.out 2)))
                    go_ret
                    exact ⟨by first | rfl | (simp [errW_none, errW_some] <;> rfl) | (simp only [← hji35]; first | rfl | (simp [errW_none, errW_some] <;> rfl)) | (simp [*, errW_none, errW_some] <;> rfl), by repeat (first | (with_reducible first | exact HB.out | apply xa | apply xn | apply xd | refine xs ?_ GE152.out | refine xs ?_ GE159.out | refine xs ?_ GE161.out) | exact HB.out)⟩
                   ·rw [if_neg c47] at H
                    have c47b0 : decide (((rd_T101 l0_0 x43_3).f1) ≤ ((rd_T101 l0_0 (ji35)).f1)) = false := decide_eq_false c47
                    clear c47
                    have H' := Aside0.mk H
                    clear H
                    have hnb55 := NB152_159.out
                    have hnc55 := NB159_152.out
                    have hcz56_0 : w31.cell? ⟨gb152, 0, none⟩ = some (.slice (some ad158) l0_0.length c0_0) := (blk_cell BK152.out 0).trans rfl
                    have hcz56_1 : w31.cell? ⟨gb152, 1, none⟩ = some (.slice A0_1 l0_1.length c0_1) := (blk_cell BK152.out 1).trans rfl
                    have hfz56_0 := blk_frozen BK152.out 0
                    have hfz56_1 := blk_frozen BK152.out 1
                    have p160 : 0 ≤ ((ji35) : Int) := of_decide_eq_true (by first | (with_reducible assumption) | assumption)
                    have q160 : (ji35) < (l0_0.length : Int) := of_decide_eq_true (by first | (with_reducible assumption) | assumption)
                    obtain ⟨ad160, e160, hx160_0, hx160_1, hx160_2⟩ := at_T101 HR0_0.out (ji35) p160 q160
                    obtain rfl : ad158 = ad160 := (by injection e160)
                    have hn160_0 : ad158.block ≠ gb159 := Nat.ne_of_lt (Nat.lt_of_lt_of_le (by have := World.block_lt_of_cell? _ _ hx160_0; first | rwa [add_block] at this | exact this) GW159.out)
                    have hn160_1 : ad158.block ≠ gb159 := Nat.ne_of_lt (Nat.lt_of_lt_of_le (by have := World.block_lt_of_cell? _ _ hx160_0; first | rwa [add_block] at this | exact this) GW159.out)
                    have hn160_2 : ad158.block ≠ gb159 := Nat.ne_of_lt (Nat.lt_of_lt_of_le (by have := World.block_lt_of_cell? _ _ hx160_0; first | rwa [add_block] at this | exact this) GW159.out)
                    replace hx160_0 := (HB.out.cell (World.block_lt_of_cell? w _ hx160_0)).trans hx160_0
                    replace hx160_1 := (HB.out.cell (World.block_lt_of_cell? w _ hx160_1)).trans hx160_1
                    replace hx160_2 := (HB.out.cell (World.block_lt_of_cell? w _ hx160_2)).trans hx160_2
                    replace hx160_0 := (cell_far (p := ⟨gb159, 0, none⟩) (by first | (rw [add_block]; exact hn160_0) | (show (Addr.add _ _).block ≠ _; rw [add_block]; exact hn160_0) | exact hn160_0) (.int .i64 ((rd_T101 l0_0 x43_3).f0))).trans hx160_0
                    replace hx160_1 := (cell_far (p := ⟨gb159, 0, none⟩) (by first | (rw [add_block]; exact hn160_0) | (show (Addr.add _ _).block ≠ _; rw [add_block]; exact hn160_0) | exact hn160_0) (.int .i64 ((rd_T101 l0_0 x43_3).f0))).trans hx160_1
                    replace hx160_2 := (cell_far (p := ⟨gb159, 0, none⟩) (by first | (rw [add_block]; exact hn160_0) | (show (Addr.add _ _).block ≠ _; rw [add_block]; exact hn160_0) | exact hn160_0) (.int .i64 ((rd_T101 l0_0 x43_3).f0))).trans hx160_2
                    replace hx160_0 := (cell_far (p := ⟨gb159, 1, none⟩) (by first | (rw [add_block]; exact hn160_1) | (show (Addr.add _ _).block ≠ _; rw [add_block]; exact hn160_1) | exact hn160_1) (.int .i64 ((rd_T101 l0_0 x43_3).f1))).trans hx160_0
                    replace hx160_1 := (cell_far (p := ⟨gb159, 1, none⟩) (by first | (rw [add_block]; exact hn160_1) | (show (Addr.add _ _).block ≠ _; rw [add_block]; exact hn160_1) | exact hn160_1) (.int .i64 ((rd_T101 l0_0 x43_3).f1))).trans hx160_1
                    replace hx160_2 := (cell_far (p := ⟨gb159, 1, none⟩) (by first | (rw [add_block]; exact hn160_1) | (show (Addr.add _ _).block ≠ _; rw [add_block]; exact hn160_1) | exact hn160_1) (.int .i64 ((rd_T101 l0_0 x43_3).f1))).trans hx160_2
                    replace hx160_0 := (cell_far (p := ⟨gb159, 2, none⟩) (by first | (rw [add_block]; exact hn160_2) | (show (Addr.add _ _).block ≠ _; rw [add_block]; exact hn160_2) | exact hn160_2) (.string ((rd_T101 l0_0 x43_3).f2))).trans hx160_0
                    replace hx160_1 := (cell_far (p := ⟨gb159, 2, none⟩) (by first | (rw [add_block]; exact hn160_2) | (show (Addr.add _ _).block ≠ _; rw [add_block]; exact hn160_2) | exact hn160_2) (.string ((rd_T101 l0_0 x43_3).f2))).trans hx160_1
                    replace hx160_2 := (cell_far (p := ⟨gb159, 2, none⟩) (by first | (rw [add_block]; exact hn160_2) | (show (Addr.add _ _).block ≠ _; rw [add_block]; exact hn160_2) | exact hn160_2) (.string ((rd_T101 l0_0 x43_3).f2))).trans hx160_2
                    (try have hy160_0 := fun (n_ : Nat) => (show (((((w31.drewN n_).setCell ⟨gb159, 0, none⟩ (.int .i64 ((rd_T101 l0_0 x43_3).f0))).setCell ⟨gb159, 1, none⟩ (.int .i64 ((rd_T101 l0_0 x43_3).f1))).setCell ⟨gb159, 2, none⟩ (.string ((rd_T101 l0_0 x43_3).f2)))).cell? _ = some _ from hx160_0))
                    (try have hy160_1 := fun (n_ : Nat) => (show (((((w31.drewN n_).setCell ⟨gb159, 0, none⟩ (.int .i64 ((rd_T101 l0_0 x43_3).f0))).setCell ⟨gb159, 1, none⟩ (.int .i64 ((rd_T101 l0_0 x43_3).f1))).setCell ⟨gb159, 2, none⟩ (.string ((rd_T101 l0_0 x43_3).f2)))).cell? _ = some _ from hx160_1))
                    (try have hy160_2 := fun (n_ : Nat) => (show (((((w31.drewN n_).setCell ⟨gb159, 0, none⟩ (.int .i64 ((rd_T101 l0_0 x43_3).f0))).setCell ⟨gb159, 1, none⟩ (.int .i64 ((rd_T101 l0_0 x43_3).f1))).setCell ⟨gb159, 2, none⟩ (.string ((rd_T101 l0_0 x43_3).f2)))).cell? _ = some _ from hx160_2))
                    clear hn160_0
                    clear hn160_1
                    clear hn160_2
                    replace p160 := eq_true p160
                    replace q160 := eq_true q160
                    go_wp2_with (first | ((with_reducible refine gate_dst (N := 7) rfl ?_); (try (refine gate_guard (by rfl) ?_; dsimp only)); refine box_event ?hg (N := 7) ?hd (cs := #[.int .i64 0, .int .i64 0, .string (⟨#[]⟩ : ByteArray)]) (t := 101) ?hr ?_; (case hd => rfl); (case hg => rfl); (case hr => first | (go_simp; done) | (go_simp; rfl)); intro gb161 hg w57 hbox hb; have BK161 := xM (hbox); have GW161 := xM ((by rw [hg]; exact (below_size (yh HB)) : w.heap.size ≤ gb161)); have GE161 := xM ((by rw [hg]; exact (below_size (yh HB)) : w.heap.size ≤ gb161)); have NB152_161 := xM ((by rw [hg]; exact Nat.ne_of_lt (blk_lt (g := gb152) (o := .cells #[.slice (some ad158) l0_0.length c0_0, .slice A0_1 l0_1.length c0_1] 64 (0, 0)) (by (with_reducible repeat (first | apply xbN | apply xbD | apply xbA)); refine blk_far ?_ NB152_159.out _; (with_reducible repeat (first | apply xbN | apply xbD | apply xbA)); refine blk_far ?_ NB152_159.out _; (with_reducible repeat (first | apply xbN | apply xbD | apply xbA)); refine blk_far ?_ NB152_159.out _; (with_reducible repeat (first | apply xbN | apply xbD | apply xbA)); exact BK152.out)) : gb152 ≠ gb161)); have NB161_152 := xM ((by rw [hg]; exact Nat.ne_of_gt (blk_lt (g := gb152) (o := .cells #[.slice (some ad158) l0_0.length c0_0, .slice A0_1 l0_1.length c0_1] 64 (0, 0)) (by (with_reducible repeat (first | apply xbN | apply xbD | apply xbA)); refine blk_far ?_ NB152_159.out _; (with_reducible repeat (first | apply xbN | apply xbD | apply xbA)); refine blk_far ?_ NB152_159.out _; (with_reducible repeat (first | apply xbN | apply xbD | apply xbA)); refine blk_far ?_ NB152_159.out _; (with_reducible repeat (first | apply xbN | apply xbD | apply xbA)); exact BK152.out)) : gb161 ≠ gb152)); have NB159_161 := xM ((by rw [hg]; exact Nat.ne_of_lt (blk_lt (g := gb159) (o := .cells #[.int .i64 ((rd_T101 l0_0 x43_3).f0), .int .i64 ((rd_T101 l0_0 x43_3).f1), .string ((rd_T101 l0_0 x43_3).f2)] 101 (0, 0)) (by (with_reducible repeat (first | apply xbN | apply xbD | apply xbA)); refine blk_put (cs := #[.int .i64 ((rd_T101 l0_0 x43_3).f0), .int .i64 ((rd_T101 l0_0 x43_3).f1), .string (⟨#[]⟩ : ByteArray)]) ?_ 2 _ rfl; (with_reducible repeat (first | apply xbN | apply xbD | apply xbA)); refine blk_put (cs := #[.int .i64 ((rd_T101 l0_0 x43_3).f0), .int .i64 0, .string (⟨#[]⟩ : ByteArray)]) ?_ 1 _ rfl; (with_reducible repeat (first | apply xbN | apply xbD | apply xbA)); refine blk_put (cs := #[.int .i64 0, .int .i64 0, .string (⟨#[]⟩ : ByteArray)]) ?_ 0 _ rfl; (with_reducible repeat (first | apply xbN | apply xbD | apply xbA)); exact BK159.out)) : gb159 ≠ gb161)); have NB161_159 := xM ((by rw [hg]; exact Nat.ne_of_gt (blk_lt (g := gb159) (o := .cells #[.int .i64 ((rd_T101 l0_0 x43_3).f0), .int .i64 ((rd_T101 l0_0 x43_3).f1), .string ((rd_T101 l0_0 x43_3).f2)] 101 (0, 0)) (by (with_reducible repeat (first | apply xbN | apply xbD | apply xbA)); refine blk_put (cs := #[.int .i64 ((rd_T101 l0_0 x43_3).f0), .int .i64 ((rd_T101 l0_0 x43_3).f1), .string (⟨#[]⟩ : ByteArray)]) ?_ 2 _ rfl; (with_reducible repeat (first | apply xbN | apply xbD | apply xbA)); refine blk_put (cs := #[.int .i64 ((rd_T101 l0_0 x43_3).f0), .int .i64 0, .string (⟨#[]⟩ : ByteArray)]) ?_ 1 _ rfl; (with_reducible repeat (first | apply xbN | apply xbD | apply xbA)); refine blk_put (cs := #[.int .i64 0, .int .i64 0, .string (⟨#[]⟩ : ByteArray)]) ?_ 0 _ rfl; (with_reducible repeat (first | apply xbN | apply xbD | apply xbA)); exact BK159.out)) : gb161 ≠ gb159)); replace BK152 := xM (xB (g := gb152) (o := .cells #[.slice (some ad158) l0_0.length c0_0, .slice A0_1 l0_1.length c0_1] 64 (0, 0)) (by (with_reducible repeat (first | apply xbN | apply xbD | apply xbA)); refine blk_far ?_ NB152_159.out _; (with_reducible repeat (first | apply xbN | apply xbD | apply xbA)); refine blk_far ?_ NB152_159.out _; (with_reducible repeat (first | apply xbN | apply xbD | apply xbA)); refine blk_far ?_ NB152_159.out _; (with_reducible repeat (first | apply xbN | apply xbD | apply xbA)); exact BK152.out) hb); replace BK159 := xM (xB (g := gb159) (o := .cells #[.int .i64 ((rd_T101 l0_0 x43_3).f0), .int .i64 ((rd_T101 l0_0 x43_3).f1), .string ((rd_T101 l0_0 x43_3).f2)] 101 (0, 0)) (by (with_reducible repeat (first | apply xbN | apply xbD | apply xbA)); refine blk_put (cs := #[.int .i64 ((rd_T101 l0_0 x43_3).f0), .int .i64 ((rd_T101 l0_0 x43_3).f1), .string (⟨#[]⟩ : ByteArray)]) ?_ 2 _ rfl; (with_reducible repeat (first | apply xbN | apply xbD | apply xbA)); refine blk_put (cs := #[.int .i64 ((rd_T101 l0_0 x43_3).f0), .int .i64 0, .string (⟨#[]⟩ : ByteArray)]) ?_ 1 _ rfl; (with_reducible repeat (first | apply xbN | apply xbD | apply xbA)); refine blk_put (cs := #[.int .i64 0, .int .i64 0, .string (⟨#[]⟩ : ByteArray)]) ?_ 0 _ rfl; (with_reducible repeat (first | apply xbN | apply xbD | apply xbA)); exact BK159.out) hb); replace HB := xM (below_step (yh HB) hb); clear hb hbox hg; have hnb58 := NB161_152.out; have hnc58 := NB152_161.out; have hnb59 := NB161_159.out; have hnc59 := NB159_161.out; have hcz60_0 : w57.cell? ⟨gb161, 0, none⟩ = some (.int .i64 0) := (blk_cell BK161.out 0).trans rfl; have hcz60_1 : w57.cell? ⟨gb161, 1, none⟩ = some (.int .i64 0) := (blk_cell BK161.out 1).trans rfl; have hcz60_2 : w57.cell? ⟨gb161, 2, none⟩ = some (.string (⟨#[]⟩ : ByteArray)) := (blk_cell BK161.out 2).trans rfl; have hfz60_0 := blk_frozen BK161.out 0; have hfz60_1 := blk_frozen BK161.out 1; have hfz60_2 := blk_frozen BK161.out 2; have hcz61_0 : w57.cell? ⟨gb159, 0, none⟩ = some (.int .i64 ((rd_T101 l0_0 x43_3).f0)) := (blk_cell BK159.out 0).trans rfl; have hcz61_1 : w57.cell? ⟨gb159, 1, none⟩ = some (.int .i64 ((rd_T101 l0_0 x43_3).f1)) := (blk_cell BK159.out 1).trans rfl; have hcz61_2 : w57.cell? ⟨gb159, 2, none⟩ = some (.string ((rd_T101 l0_0 x43_3).f2)) := (blk_cell BK159.out 2).trans rfl; have hfz61_0 := blk_frozen BK159.out 0; have hfz61_1 := blk_frozen BK159.out 1; have hfz61_2 := blk_frozen BK159.out 2))
                    repeat (go_quiet (first | ((with_reducible refine gate_dst (N := 7) rfl ?_); (try (refine gate_guard (by rfl) ?_; dsimp only)); refine box_event ?hg (N := 7) ?hd (cs := #[.int .i64 0, .int .i64 0, .string (⟨#[]⟩ : ByteArray)]) (t := 101) ?hr ?_; (case hd => rfl); (case hg => rfl); (case hr => first | (go_simp; done) | (go_simp; rfl)); intro gb161 hg w57 hbox hb; have BK161 := xM (hbox); have GW161 := xM ((by rw [hg]; exact (below_size (yh HB)) : w.heap.size ≤ gb161)); have GE161 := xM ((by rw [hg]; exact (below_size (yh HB)) : w.heap.size ≤ gb161)); have NB152_161 := xM ((by rw [hg]; exact Nat.ne_of_lt (blk_lt (g := gb152) (o := .cells #[.slice (some ad158) l0_0.length c0_0, .slice A0_1 l0_1.length c0_1] 64 (0, 0)) (by (with_reducible repeat (first | apply xbN | apply xbD | apply xbA)); refine blk_far ?_ NB152_159.out _; (with_reducible repeat (first | apply xbN | apply xbD | apply xbA)); refine blk_far ?_ NB152_159.out _; (with_reducible repeat (first | apply xbN | apply xbD | apply xbA)); refine blk_far ?_ NB152_159.out _; (with_reducible repeat (first | apply xbN | apply xbD | apply xbA)); exact BK152.out)) : gb152 ≠ gb161)); have NB161_152 := xM ((by rw [hg]; exact Nat.ne_of_gt (blk_lt (g := gb152) (o := .cells #[.slice (some ad158) l0_0.length c0_0, .slice A0_1 l0_1.length c0_1] 64 (0, 0)) (by (with_reducible repeat (first | apply xbN | apply xbD | apply xbA)); refine blk_far ?_ NB152_159.out _; (with_reducible repeat (first | apply xbN | apply xbD | apply xbA)); refine blk_far ?_ NB152_159.out _; (with_reducible repeat (first | apply xbN | apply xbD | apply xbA)); refine blk_far ?_ NB152_159.out _; (with_reducible repeat (first | apply xbN | apply xbD | apply xbA)); exact BK152.out)) : gb161 ≠ gb152)); have NB159_161 := xM ((by rw [hg]; exact Nat.ne_of_lt (blk_lt (g := gb159) (o := .cells #[.int .i64 ((rd_T101 l0_0 x43_3).f0), .int .i64 ((rd_T101 l0_0 x43_3).f1), .string ((rd_T101 l0_0 x43_3).f2)] 101 (0, 0)) (by (with_reducible repeat (first | apply xbN | apply xbD | apply xbA)); refine blk_put (cs := #[.int .i64 ((rd_T101 l0_0 x43_3).f0), .int .i64 ((rd_T101 l0_0 x43_3).f1), .string (⟨#[]⟩ : ByteArray)]) ?_ 2 _ rfl; (with_reducible repeat (first | apply xbN | apply xbD | apply xbA)); refine blk_put (cs := #[.int .i64 ((rd_T101 l0_0 x43_3).f0), .int .i64 0, .string (⟨#[]⟩ : ByteArray)]) ?_ 1 _ rfl; (with_reducible repeat (first | apply xbN | apply xbD | apply xbA)); refine blk_put (cs := #[.int .i64 0, .int .i64 0, .string (⟨#[]⟩ : ByteArray)]) ?_ 0 _ rfl; (with_reducible repeat (first | apply xbN | apply xbD | apply xbA)); exact BK159.out)) : gb159 ≠ gb161)); have NB161_159 := xM ((by rw [hg]; exact Nat.ne_of_gt (blk_lt (g := gb159) (o := .cells #[.int .i64 ((rd_T101 l0_0 x43_3).f0), .int .i64 ((rd_T101 l0_0 x43_3).f1), .string ((rd_T101 l0_0 x43_3).f2)] 101 (0, 0)) (by (with_reducible repeat (first | apply xbN | apply xbD | apply xbA)); refine blk_put (cs := #[.int .i64 ((rd_T101 l0_0 x43_3).f0), .int .i64 ((rd_T101 l0_0 x43_3).f1), .string (⟨#[]⟩ : ByteArray)]) ?_ 2 _ rfl; (with_reducible repeat (first | apply xbN | apply xbD | apply xbA)); refine blk_put (cs := #[.int .i64 ((rd_T101 l0_0 x43_3).f0), .int .i64 0, .string (⟨#[]⟩ : ByteArray)]) ?_ 1 _ rfl; (with_reducible repeat (first | apply xbN | apply xbD | apply xbA)); refine blk_put (cs := #[.int .i64 0, .int .i64 0, .string (⟨#[]⟩ : ByteArray)]) ?_ 0 _ rfl; (with_reducible repeat (first | apply xbN | apply xbD | apply xbA)); exact BK159.out)) : gb161 ≠ gb159)); replace BK152 := xM (xB (g := gb152) (o := .cells #[.slice (some ad158) l0_0.length c0_0, .slice A0_1 l0_1.length c0_1] 64 (0, 0)) (by (with_reducible repeat (first | apply xbN | apply xbD | apply xbA)); refine blk_far ?_ NB152_159.out _; (with_reducible repeat (first | apply xbN | apply xbD | apply xbA)); refine blk_far ?_ NB152_159.out _; (with_reducible repeat (first | apply xbN | apply xbD | apply xbA)); refine blk_far ?_ NB152_159.out _; (with_reducible repeat (first | apply xbN | apply xbD | apply xbA)); exact BK152.out) hb); replace BK159 := xM (xB (g := gb159) (o := .cells #[.int .i64 ((rd_T101 l0_0 x43_3).f0), .int .i64 ((rd_T101 l0_0 x43_3).f1), .string ((rd_T101 l0_0 x43_3).f2)] 101 (0, 0)) (by (with_reducible repeat (first | apply xbN | apply xbD | apply xbA)); refine blk_put (cs := #[.int .i64 ((rd_T101 l0_0 x43_3).f0), .int .i64 ((rd_T101 l0_0 x43_3).f1), .string (⟨#[]⟩ : ByteArray)]) ?_ 2 _ rfl; (with_reducible repeat (first | apply xbN | apply xbD | apply xbA)); refine blk_put (cs := #[.int .i64 ((rd_T101 l0_0 x43_3).f0), .int .i64 0, .string (⟨#[]⟩ : ByteArray)]) ?_ 1 _ rfl; (with_reducible repeat (first | apply xbN | apply xbD | apply xbA)); refine blk_put (cs := #[.int .i64 0, .int .i64 0, .string (⟨#[]⟩ : ByteArray)]) ?_ 0 _ rfl; (with_reducible repeat (first | apply xbN | apply xbD | apply xbA)); exact BK159.out) hb); replace HB := xM (below_step (yh HB) hb); clear hb hbox hg; have hnb58 := NB161_152.out; have hnc58 := NB152_161.out; have hnb59 := NB161_159.out; have hnc59 := NB159_161.out; have hcz60_0 : w57.cell? ⟨gb161, 0, none⟩ = some (.int .i64 0) := (blk_cell BK161.out 0).trans rfl; have hcz60_1 : w57.cell? ⟨gb161, 1, none⟩ = some (.int .i64 0) := (blk_cell BK161.out 1).trans rfl; have hcz60_2 : w57.cell? ⟨gb161, 2, none⟩ = some (.string (⟨#[]⟩ : ByteArray)) := (blk_cell BK161.out 2).trans rfl; have hfz60_0 := blk_frozen BK161.out 0; have hfz60_1 := blk_frozen BK161.out 1; have hfz60_2 := blk_frozen BK161.out 2; have hcz61_0 : w57.cell? ⟨gb159, 0, none⟩ = some (.int .i64 ((rd_T101 l0_0 x43_3).f0)) := (blk_cell BK159.out 0).trans rfl; have hcz61_1 : w57.cell? ⟨gb159, 1, none⟩ = some (.int .i64 ((rd_T101 l0_0 x43_3).f1)) := (blk_cell BK159.out 1).trans rfl; have hcz61_2 : w57.cell? ⟨gb159, 2, none⟩ = some (.string ((rd_T101 l0_0 x43_3).f2)) := (blk_cell BK159.out 2).trans rfl; have hfz61_0 := blk_frozen BK159.out 0; have hfz61_1 := blk_frozen BK159.out 1; have hfz61_2 := blk_frozen BK159.out 2)); try go_wp2_with (first | ((with_reducible refine gate_dst (N := 7) rfl ?_); (try (refine gate_guard (by rfl) ?_; dsimp only)); refine box_event ?hg (N := 7) ?hd (cs := #[.int .i64 0, .int .i64 0, .string (⟨#[]⟩ : ByteArray)]) (t := 101) ?hr ?_; (case hd => rfl); (case hg => rfl); (case hr => first | (go_simp; done) | (go_simp; rfl)); intro gb161 hg w57 hbox hb; have BK161 := xM (hbox); have GW161 := xM ((by rw [hg]; exact (below_size (yh HB)) : w.heap.size ≤ gb161)); have GE161 := xM ((by rw [hg]; exact (below_size (yh HB)) : w.heap.size ≤ gb161)); have NB152_161 := xM ((by rw [hg]; exact Nat.ne_of_lt (blk_lt (g := gb152) (o := .cells #[.slice (some ad158) l0_0.length c0_0, .slice A0_1 l0_1.length c0_1] 64 (0, 0)) (by (with_reducible repeat (first | apply xbN | apply xbD | apply xbA)); refine blk_far ?_ NB152_159.out _; (with_reducible repeat (first | apply xbN | apply xbD | apply xbA)); refine blk_far ?_ NB152_159.out _; (with_reducible repeat (first | apply xbN | apply xbD | apply xbA)); refine blk_far ?_ NB152_159.out _; (with_reducible repeat (first | apply xbN | apply xbD | apply xbA)); exact BK152.out)) : gb152 ≠ gb161)); have NB161_152 := xM ((by rw [hg]; exact Nat.ne_of_gt (blk_lt (g := gb152) (o := .cells #[.slice (some ad158) l0_0.length c0_0, .slice A0_1 l0_1.length c0_1] 64 (0, 0)) (by (with_reducible repeat (first | apply xbN | apply xbD | apply xbA)); refine blk_far ?_ NB152_159.out _; (with_reducible repeat (first | apply xbN | apply xbD | apply xbA)); refine blk_far ?_ NB152_159.out _; (with_reducible repeat (first | apply xbN | apply xbD | apply xbA)); refine blk_far ?_ NB152_159.out _; (with_reducible repeat (first | apply xbN | apply xbD | apply xbA)); exact BK152.out)) : gb161 ≠ gb152)); have NB159_161 := xM ((by rw [hg]; exact Nat.ne_of_lt (blk_lt (g := gb159) (o := .cells #[.int .i64 ((rd_T101 l0_0 x43_3).f0), .int .i64 ((rd_T101 l0_0 x43_3).f1), .string ((rd_T101 l0_0 x43_3).f2)] 101 (0, 0)) (by (with_reducible repeat (first | apply xbN | apply xbD | apply xbA)); refine blk_put (cs := #[.int .i64 ((rd_T101 l0_0 x43_3).f0), .int .i64 ((rd_T101 l0_0 x43_3).f1), .string (⟨#[]⟩ : ByteArray)]) ?_ 2 _ rfl; (with_reducible repeat (first | apply xbN | apply xbD | apply xbA)); refine blk_put (cs := #[.int .i64 ((rd_T101 l0_0 x43_3).f0), .int .i64 0, .string (⟨#[]⟩ : ByteArray)]) ?_ 1 _ rfl; (with_reducible repeat (first | apply xbN | apply xbD | apply xbA)); refine blk_put (cs := #[.int .i64 0, .int .i64 0, .string (⟨#[]⟩ : ByteArray)]) ?_ 0 _ rfl; (with_reducible repeat (first | apply xbN | apply xbD | apply xbA)); exact BK159.out)) : gb159 ≠ gb161)); have NB161_159 := xM ((by rw [hg]; exact Nat.ne_of_gt (blk_lt (g := gb159) (o := .cells #[.int .i64 ((rd_T101 l0_0 x43_3).f0), .int .i64 ((rd_T101 l0_0 x43_3).f1), .string ((rd_T101 l0_0 x43_3).f2)] 101 (0, 0)) (by (with_reducible repeat (first | apply xbN | apply xbD | apply xbA)); refine blk_put (cs := #[.int .i64 ((rd_T101 l0_0 x43_3).f0), .int .i64 ((rd_T101 l0_0 x43_3).f1), .string (⟨#[]⟩ : ByteArray)]) ?_ 2 _ rfl; (with_reducible repeat (first | apply xbN | apply xbD | apply xbA)); refine blk_put (cs := #[.int .i64 ((rd_T101 l0_0 x43_3).f0), .int .i64 0, .string (⟨#[]⟩ : ByteArray)]) ?_ 1 _ rfl; (with_reducible repeat (first | apply xbN | apply xbD | apply xbA)); refine blk_put (cs := #[.int .i64 0, .int .i64 0, .string (⟨#[]⟩ : ByteArray)]) ?_ 0 _ rfl; (with_reducible repeat (first | apply xbN | apply xbD | apply xbA)); exact BK159.out)) : gb161 ≠ gb159)); replace BK152 := xM (xB (g := gb152) (o := .cells #[.slice (some ad158) l0_0.length c0_0, .slice A0_1 l0_1.length c0_1] 64 (0, 0)) (by (with_reducible repeat (first | apply xbN | apply xbD | apply xbA)); refine blk_far ?_ NB152_159.out _; (with_reducible repeat (first | apply xbN | apply xbD | apply xbA)); refine blk_far ?_ NB152_159.out _; (with_reducible repeat (first | apply xbN | apply xbD | apply xbA)); refine blk_far ?_ NB152_159.out _; (with_reducible repeat (first | apply xbN | apply xbD | apply xbA)); exact BK152.out) hb); replace BK159 := xM (xB (g := gb159) (o := .cells #[.int .i64 ((rd_T101 l0_0 x43_3).f0), .int .i64 ((rd_T101 l0_0 x43_3).f1), .string ((rd_T101 l0_0 x43_3).f2)] 101 (0, 0)) (by (with_reducible repeat (first | apply xbN | apply xbD | apply xbA)); refine blk_put (cs := #[.int .i64 ((rd_T101 l0_0 x43_3).f0), .int .i64 ((rd_T101 l0_0 x43_3).f1), .string (⟨#[]⟩ : ByteArray)]) ?_ 2 _ rfl; (with_reducible repeat (first | apply xbN | apply xbD | apply xbA)); refine blk_put (cs := #[.int .i64 ((rd_T101 l0_0 x43_3).f0), .int .i64 0, .string (⟨#[]⟩ : ByteArray)]) ?_ 1 _ rfl; (with_reducible repeat (first | apply xbN | apply xbD | apply xbA)); refine blk_put (cs := #[.int .i64 0, .int .i64 0, .string (⟨#[]⟩ : ByteArray)]) ?_ 0 _ rfl; (with_reducible repeat (first | apply xbN | apply xbD | apply xbA)); exact BK159.out) hb); replace HB := xM (below_step (yh HB) hb); clear hb hbox hg; have hnb58 := NB161_152.out; have hnc58 := NB152_161.out; have hnb59 := NB161_159.out; have hnc59 := NB159_161.out; have hcz60_0 : w57.cell? ⟨gb161, 0, none⟩ = some (.int .i64 0) := (blk_cell BK161.out 0).trans rfl; have hcz60_1 : w57.cell? ⟨gb161, 1, none⟩ = some (.int .i64 0) := (blk_cell BK161.out 1).trans rfl; have hcz60_2 : w57.cell? ⟨gb161, 2, none⟩ = some (.string (⟨#[]⟩ : ByteArray)) := (blk_cell BK161.out 2).trans rfl; have hfz60_0 := blk_frozen BK161.out 0; have hfz60_1 := blk_frozen BK161.out 1; have hfz60_2 := blk_frozen BK161.out 2; have hcz61_0 : w57.cell? ⟨gb159, 0, none⟩ = some (.int .i64 ((rd_T101 l0_0 x43_3).f0)) := (blk_cell BK159.out 0).trans rfl; have hcz61_1 : w57.cell? ⟨gb159, 1, none⟩ = some (.int .i64 ((rd_T101 l0_0 x43_3).f1)) := (blk_cell BK159.out 1).trans rfl; have hcz61_2 : w57.cell? ⟨gb159, 2, none⟩ = some (.string ((rd_T101 l0_0 x43_3).f2)) := (blk_cell BK159.out 2).trans rfl; have hfz61_0 := blk_frozen BK159.out 0; have hfz61_1 := blk_frozen BK159.out 1; have hfz61_2 := blk_frozen BK159.out 2)))
                    go_meet
                    case rel => exact ⟨_, H', ⟨by have := HJ1.out; have := HK2.out; have := HK3.out; first | omega | exact Nat.le_refl _⟩, ⟨by (with_reducible repeat (first | apply xbN | apply xbD | apply xbA)); refine blk_far ?_ NB152_161.out _; (with_reducible repeat (first | apply xbN | apply xbD | apply xbA)); refine blk_far ?_ NB152_161.out _; (with_reducible repeat (first | apply xbN | apply xbD | apply xbA)); refine blk_far ?_ NB152_161.out _; (with_reducible repeat (first | apply xbN | apply xbD | apply xbA)); exact BK152.out⟩, ⟨by (with_reducible repeat (first | apply xbN | apply xbD | apply xbA)); refine blk_far ?_ NB159_161.out _; (with_reducible repeat (first | apply xbN | apply xbD | apply xbA)); refine blk_far ?_ NB159_161.out _; (with_reducible repeat (first | apply xbN | apply xbD | apply xbA)); refine blk_far ?_ NB159_161.out _; (with_reducible repeat (first | apply xbN | apply xbD | apply xbA)); exact BK159.out⟩, ⟨yh HB⟩⟩
                  ·rw [if_neg c46] at H
                   have c46b0 : (((rd_T101 l0_0 (ji35)).f0) == ((rd_T101 l0_0 x43_3).f0)) = false := beq_eq_false_iff_ne.mpr c46
                   have c46b1 : (((rd_T101 l0_0 (ji35)).f0) != ((rd_T101 l0_0 x43_3).f0)) = true := bne_iff_ne.mpr c46
                   have H' := Aside0.mk H
                   clear H
                   have hnb62 := NB152_159.out
                   have hnc62 := NB159_152.out
                   have hcz63_0 : w31.cell? ⟨gb152, 0, none⟩ = some (.slice (some ad158) l0_0.length c0_0) := (blk_cell BK152.out 0).trans rfl
                   have hcz63_1 : w31.cell? ⟨gb152, 1, none⟩ = some (.slice A0_1 l0_1.length c0_1) := (blk_cell BK152.out 1).trans rfl
                   have hfz63_0 := blk_frozen BK152.out 0
                   have hfz63_1 := blk_frozen BK152.out 1
                   have p160 : 0 ≤ ((ji35) : Int) := of_decide_eq_true (by first | (with_reducible assumption) | assumption)
                   have q160 : (ji35) < (l0_0.length : Int) := of_decide_eq_true (by first | (with_reducible assumption) | assumption)
                   obtain ⟨ad160, e160, hx160_0, hx160_1, hx160_2⟩ := at_T101 HR0_0.out (ji35) p160 q160
                   obtain rfl : ad158 = ad160 := (by injection e160)
                   have hn160_0 : ad158.block ≠ gb159 := Nat.ne_of_lt (Nat.lt_of_lt_of_le (by have := World.block_lt_of_cell? _ _ hx160_0; first | rwa [add_block] at this | exact this) GW159.out)
                   have hn160_1 : ad158.block ≠ gb159 := Nat.ne_of_lt (Nat.lt_of_lt_of_le (by have := World.block_lt_of_cell? _ _ hx160_0; first | rwa [add_block] at this | exact this) GW159.out)
                   have hn160_2 : ad158.block ≠ gb159 := Nat.ne_of_lt (Nat.lt_of_lt_of_le (by have := World.block_lt_of_cell? _ _ hx160_0; first | rwa [add_block] at this | exact this) GW159.out)
                   replace hx160_0 := (HB.out.cell (World.block_lt_of_cell? w _ hx160_0)).trans hx160_0
                   replace hx160_1 := (HB.out.cell (World.block_lt_of_cell? w _ hx160_1)).trans hx160_1
                   replace hx160_2 := (HB.out.cell (World.block_lt_of_cell? w _ hx160_2)).trans hx160_2
                   replace hx160_0 := (cell_far (p := ⟨gb159, 0, none⟩) (by first | (rw [add_block]; exact hn160_0) | (show (Addr.add _ _).block ≠ _; rw [add_block]; exact hn160_0) | exact hn160_0) (.int .i64 ((rd_T101 l0_0 x43_3).f0))).trans hx160_0
                   replace hx160_1 := (cell_far (p := ⟨gb159, 0, none⟩) (by first | (rw [add_block]; exact hn160_0) | (show (Addr.add _ _).block ≠ _; rw [add_block]; exact hn160_0) | exact hn160_0) (.int .i64 ((rd_T101 l0_0 x43_3).f0))).trans hx160_1
                   replace hx160_2 := (cell_far (p := ⟨gb159, 0, none⟩) (by first | (rw [add_block]; exact hn160_0) | (show (Addr.add _ _).block ≠ _; rw [add_block]; exact hn160_0) | exact hn160_0) (.int .i64 ((rd_T101 l0_0 x43_3).f0))).trans hx160_2
                   replace hx160_0 := (cell_far (p := ⟨gb159, 1, none⟩) (by first | (rw [add_block]; exact hn160_1) | (show (Addr.add _ _).block ≠ _; rw [add_block]; exact hn160_1) | exact hn160_1) (.int .i64 ((rd_T101 l0_0 x43_3).f1))).trans hx160_0
                   replace hx160_1 := (cell_far (p := ⟨gb159, 1, none⟩) (by first | (rw [add_block]; exact hn160_1) | (show (Addr.add _ _).block ≠ _; rw [add_block]; exact hn160_1) | exact hn160_1) (.int .i64 ((rd_T101 l0_0 x43_3).f1))).trans hx160_1
                   replace hx160_2 := (cell_far (p := ⟨gb159, 1, none⟩) (by first | (rw [add_block]; exact hn160_1) | (show (Addr.add _ _).block ≠ _; rw [add_block]; exact hn160_1) | exact hn160_1) (.int .i64 ((rd_T101 l0_0 x43_3).f1))).trans hx160_2
                   replace hx160_0 := (cell_far (p := ⟨gb159, 2, none⟩) (by first | (rw [add_block]; exact hn160_2) | (show (Addr.add _ _).block ≠ _; rw [add_block]; exact hn160_2) | exact hn160_2) (.string ((rd_T101 l0_0 x43_3).f2))).trans hx160_0
                   replace hx160_1 := (cell_far (p := ⟨gb159, 2, none⟩) (by first | (rw [add_block]; exact hn160_2) | (show (Addr.add _ _).block ≠ _; rw [add_block]; exact hn160_2) | exact hn160_2) (.string ((rd_T101 l0_0 x43_3).f2))).trans hx160_1
                   replace hx160_2 := (cell_far (p := ⟨gb159, 2, none⟩) (by first | (rw [add_block]; exact hn160_2) | (show (Addr.add _ _).block ≠ _; rw [add_block]; exact hn160_2) | exact hn160_2) (.string ((rd_T101 l0_0 x43_3).f2))).trans hx160_2
                   (try have hy160_0 := fun (n_ : Nat) => (show (((((w31.drewN n_).setCell ⟨gb159, 0, none⟩ (.int .i64 ((rd_T101 l0_0 x43_3).f0))).setCell ⟨gb159, 1, none⟩ (.int .i64 ((rd_T101 l0_0 x43_3).f1))).setCell ⟨gb159, 2, none⟩ (.string ((rd_T101 l0_0 x43_3).f2)))).cell? _ = some _ from hx160_0))
                   (try have hy160_1 := fun (n_ : Nat) => (show (((((w31.drewN n_).setCell ⟨gb159, 0, none⟩ (.int .i64 ((rd_T101 l0_0 x43_3).f0))).setCell ⟨gb159, 1, none⟩ (.int .i64 ((rd_T101 l0_0 x43_3).f1))).setCell ⟨gb159, 2, none⟩ (.string ((rd_T101 l0_0 x43_3).f2)))).cell? _ = some _ from hx160_1))
                   (try have hy160_2 := fun (n_ : Nat) => (show (((((w31.drewN n_).setCell ⟨gb159, 0, none⟩ (.int .i64 ((rd_T101 l0_0 x43_3).f0))).setCell ⟨gb159, 1, none⟩ (.int .i64 ((rd_T101 l0_0 x43_3).f1))).setCell ⟨gb159, 2, none⟩ (.string ((rd_T101 l0_0 x43_3).f2)))).cell? _ = some _ from hx160_2))
                   clear hn160_0
                   clear hn160_1
                   clear hn160_2
                   replace p160 := eq_true p160
                   replace q160 := eq_true q160
                   go_wp2_with (first | ((with_reducible refine gate_dst (N := 7) rfl ?_); (try (refine gate_guard (by rfl) ?_; dsimp only)); refine box_event ?hg (N := 7) ?hd (cs := #[.int .i64 0, .int .i64 0, .string (⟨#[]⟩ : ByteArray)]) (t := 101) ?hr ?_; (case hd => rfl); (case hg => rfl); (case hr => first | (go_simp; done) | (go_simp; rfl)); intro gb161 hg w64 hbox hb; have BK161 := xM (hbox); have GW161 := xM ((by rw [hg]; exact (below_size (yh HB)) : w.heap.size ≤ gb161)); have GE161 := xM ((by rw [hg]; exact (below_size (yh HB)) : w.heap.size ≤ gb161)); have NB152_161 := xM ((by rw [hg]; exact Nat.ne_of_lt (blk_lt (g := gb152) (o := .cells #[.slice (some ad158) l0_0.length c0_0, .slice A0_1 l0_1.length c0_1] 64 (0, 0)) (by (with_reducible repeat (first | apply xbN | apply xbD | apply xbA)); refine blk_far ?_ NB152_159.out _; (with_reducible repeat (first | apply xbN | apply xbD | apply xbA)); refine blk_far ?_ NB152_159.out _; (with_reducible repeat (first | apply xbN | apply xbD | apply xbA)); refine blk_far ?_ NB152_159.out _; (with_reducible repeat (first | apply xbN | apply xbD | apply xbA)); exact BK152.out)) : gb152 ≠ gb161)); have NB161_152 := xM ((by rw [hg]; exact Nat.ne_of_gt (blk_lt (g := gb152) (o := .cells #[.slice (some ad158) l0_0.length c0_0, .slice A0_1 l0_1.length c0_1] 64 (0, 0)) (by (with_reducible repeat (first | apply xbN | apply xbD | apply xbA)); refine blk_far ?_ NB152_159.out _; (with_reducible repeat (first | apply xbN | apply xbD | apply xbA)); refine blk_far ?_ NB152_159.out _; (with_reducible repeat (first | apply xbN | apply xbD | apply xbA)); refine blk_far ?_ NB152_159.out _; (with_reducible repeat (first | apply xbN | apply xbD | apply xbA)); exact BK152.out)) : gb161 ≠ gb152)); have NB159_161 := xM ((by rw [hg]; exact Nat.ne_of_lt (blk_lt (g := gb159) (o := .cells #[.int .i64 ((rd_T101 l0_0 x43_3).f0), .int .i64 ((rd_T101 l0_0 x43_3).f1), .string ((rd_T101 l0_0 x43_3).f2)] 101 (0, 0)) (by (with_reducible repeat (first | apply xbN | apply xbD | apply xbA)); refine blk_put (cs := #[.int .i64 ((rd_T101 l0_0 x43_3).f0), .int .i64 ((rd_T101 l0_0 x43_3).f1), .string (⟨#[]⟩ : ByteArray)]) ?_ 2 _ rfl; (with_reducible repeat (first | apply xbN | apply xbD | apply xbA)); refine blk_put (cs := #[.int .i64 ((rd_T101 l0_0 x43_3).f0), .int .i64 0, .string (⟨#[]⟩ : ByteArray)]) ?_ 1 _ rfl; (with_reducible repeat (first | apply xbN | apply xbD | apply xbA)); refine blk_put (cs := #[.int .i64 0, .int .i64 0, .string (⟨#[]⟩ : ByteArray)]) ?_ 0 _ rfl; (with_reducible repeat (first | apply xbN | apply xbD | apply xbA)); exact BK159.out)) : gb159 ≠ gb161)); have NB161_159 := xM ((by rw [hg]; exact Nat.ne_of_gt (blk_lt (g := gb159) (o := .cells #[.int .i64 ((rd_T101 l0_0 x43_3).f0), .int .i64 ((rd_T101 l0_0 x43_3).f1), .string ((rd_T101 l0_0 x43_3).f2)] 101 (0, 0)) (by (with_reducible repeat (first | apply xbN | apply xbD | apply xbA)); refine blk_put (cs := #[.int .i64 ((rd_T101 l0_0 x43_3).f0), .int .i64 ((rd_T101 l0_0 x43_3).f1), .string (⟨#[]⟩ : ByteArray)]) ?_ 2 _ rfl; (with_reducible repeat (first | apply xbN | apply xbD | apply xbA)); refine blk_put (cs := #[.int .i64 ((rd_T101 l0_0 x43_3).f0), .int .i64 0, .string (⟨#[]⟩ : ByteArray)]) ?_ 1 _ rfl; (with_reducible repeat (first | apply xbN | apply xbD | apply xbA)); refine blk_put (cs := #[.int .i64 0, .int .i64 0, .string (⟨#[]⟩ : ByteArray)]) ?_ 0 _ rfl; (with_reducible repeat (first | apply xbN | apply xbD | apply xbA)); exact BK159.out)) : gb161 ≠ gb159)); replace BK152 := xM (xB (g := gb152) (o := .cells #[.slice (some ad158) l0_0.length c0_0, .slice A0_1 l0_1.length c0_1] 64 (0, 0)) (by (with_reducible repeat (first | apply xbN | apply xbD | apply xbA)); refine blk_far ?_ NB152_159.out _; (with_reducible repeat (first | apply xbN | apply xbD | apply xbA)); refine blk_far ?_ NB152_159.out _; (with_reducible repeat (first | apply xbN | apply xbD | apply xbA)); refine blk_far ?_ NB152_159.out _; (with_reducible repeat (first | apply xbN | apply xbD | apply xbA)); exact BK152.out) hb); replace BK159 := xM (xB (g := gb159) (o := .cells #[.int .i64 ((rd_T101 l0_0 x43_3).f0), .int .i64 ((rd_T101 l0_0 x43_3).f1), .string ((rd_T101 l0_0 x43_3).f2)] 101 (0, 0)) (by (with_reducible repeat (first | apply xbN | apply xbD | apply xbA)); refine blk_put (cs := #[.int .i64 ((rd_T101 l0_0 x43_3).f0), .int .i64 ((rd_T101 l0_0 x43_3).f1), .string (⟨#[]⟩ : ByteArray)]) ?_ 2 _ rfl; (with_reducible repeat (first | apply xbN | apply xbD | apply xbA)); refine blk_put (cs := #[.int .i64 ((rd_T101 l0_0 x43_3).f0), .int .i64 0, .string (⟨#[]⟩ : ByteArray)]) ?_ 1 _ rfl; (with_reducible repeat (first | apply xbN | apply xbD | apply xbA)); refine blk_put (cs := #[.int .i64 0, .int .i64 0, .string (⟨#[]⟩ : ByteArray)]) ?_ 0 _ rfl; (with_reducible repeat (first | apply xbN | apply xbD | apply xbA)); exact BK159.out) hb); replace HB := xM (below_step (yh HB) hb); clear hb hbox hg; have hnb65 := NB161_152.out; have hnc65 := NB152_161.out; have hnb66 := NB161_159.out; have hnc66 := NB159_161.out; have hcz67_0 : w64.cell? ⟨gb161, 0, none⟩ = some (.int .i64 0) := (blk_cell BK161.out 0).trans rfl; have hcz67_1 : w64.cell? ⟨gb161, 1, none⟩ = some (.int .i64 0) := (blk_cell BK161.out 1).trans rfl; have hcz67_2 : w64.cell? ⟨gb161, 2, none⟩ = some (.string (⟨#[]⟩ : ByteArray)) := (blk_cell BK161.out 2).trans rfl; have hfz67_0 := blk_frozen BK161.out 0; have hfz67_1 := blk_frozen BK161.out 1; have hfz67_2 := blk_frozen BK161.out 2; have hcz68_0 : w64.cell? ⟨gb159, 0, none⟩ = some (.int .i64 ((rd_T101 l0_0 x43_3).f0)) := (blk_cell BK159.out 0).trans rfl; have hcz68_1 : w64.cell? ⟨gb159, 1, none⟩ = some (.int .i64 ((rd_T101 l0_0 x43_3).f1)) := (blk_cell BK159.out 1).trans rfl; have hcz68_2 : w64.cell? ⟨gb159, 2, none⟩ = some (.string ((rd_T101 l0_0 x43_3).f2)) := (blk_cell BK159.out 2).trans rfl; have hfz68_0 := blk_frozen BK159.out 0; have hfz68_1 := blk_frozen BK159.out 1; have hfz68_2 := blk_frozen BK159.out 2))
                   repeat (go_quiet (first | ((with_reducible refine gate_dst (N := 7) rfl ?_); (try (refine gate_guard (by rfl) ?_; dsimp only)); refine box_event ?hg (N := 7) ?hd (cs := #[.int .i64 0, .int .i64 0, .string (⟨#[]⟩ : ByteArray)]) (t := 101) ?hr ?_; (case hd => rfl); (case hg => rfl); (case hr => first | (go_simp; done) | (go_simp; rfl)); intro gb161 hg w64 hbox hb; have BK161 := xM (hbox); have GW161 := xM ((by rw [hg]; exact (below_size (yh HB)) : w.heap.size ≤ gb161)); have GE161 := xM ((by rw [hg]; exact (below_size (yh HB)) : w.heap.size ≤ gb161)); have NB152_161 := xM ((by rw [hg]; exact Nat.ne_of_lt (blk_lt (g := gb152) (o := .cells #[.slice (some ad158) l0_0.length c0_0, .slice A0_1 l0_1.length c0_1] 64 (0, 0)) (by (with_reducible repeat (first | apply xbN | apply xbD | apply xbA)); refine blk_far ?_ NB152_159.out _; (with_reducible repeat (first | apply xbN | apply xbD | apply xbA)); refine blk_far ?_ NB152_159.out _; (with_reducible repeat (first | apply xbN | apply xbD | apply xbA)); refine blk_far ?_ NB152_159.out _; (with_reducible repeat (first | apply xbN | apply xbD | apply xbA)); exact BK152.out)) : gb152 ≠ gb161)); have NB161_152 := xM ((by rw [hg]; exact Nat.ne_of_gt (blk_lt (g := gb152) (o := .cells #[.slice (some ad158) l0_0.length c0_0, .slice A0_1 l0_1.length c0_1] 64 (0, 0)) (by (with_reducible repeat (first | apply xbN | apply xbD | apply xbA)); refine blk_far ?_ NB152_159.out _; (with_reducible repeat (first | apply xbN | apply xbD | apply xbA)); refine blk_far ?_ NB152_159.out _; (with_reducible repeat (first | apply xbN | apply xbD | apply xbA)); refine blk_far ?_ NB152_159.out _; (with_reducible repeat (first | apply xbN | apply xbD | apply xbA)); exact BK152.out)) : gb161 ≠ gb152)); have NB159_161 := xM ((by rw [hg]; exact Nat.ne_of_lt (blk_lt (g := gb159) (o := .cells #[.int .i64 ((rd_T101 l0_0 x43_3).f0), .int .i64 ((rd_T101 l0_0 x43_3).f1), .string ((rd_T101 l0_0 x43_3).f2)] 101 (0, 0)) (by (with_reducible repeat (first | apply xbN | apply xbD | apply xbA)); refine blk_put (cs := #[.int .i64 ((rd_T101 l0_0 x43_3).f0), .int .i64 ((rd_T101 l0_0 x43_3).f1), .string (⟨#[]⟩ : ByteArray)]) ?_ 2 _ rfl; (with_reducible repeat (first | apply xbN | apply xbD | apply xbA)); refine blk_put (cs := #[.int .i64 ((rd_T101 l0_0 x43_3).f0), .int .i64 0, .string (⟨#[]⟩ : ByteArray)]) ?_ 1 _ rfl; (with_reducible repeat (first | apply xbN | apply xbD | apply xbA)); refine blk_put (cs := #[.int .i64 0, .int .i64 0, .string (⟨#[]⟩ : ByteArray)]) ?_ 0 _ rfl; (with_reducible repeat (first | apply xbN | apply xbD | apply xbA)); exact BK159.out)) : gb159 ≠ gb161)); have NB161_159 := xM ((by rw [hg]; exact Nat.ne_of_gt (blk_lt (g := gb159) (o := .cells #[.int .i64 ((rd_T101 l0_0 x43_3).f0), .int .i64 ((rd_T101 l0_0 x43_3).f1), .string ((rd_T101 l0_0 x43_3).f2)] 101 (0, 0)) (by (with_reducible repeat (first | apply xbN | apply xbD | apply xbA)); refine blk_put (cs := #[.int .i64 ((rd_T101 l0_0 x43_3).f0), .int .i64 ((rd_T101 l0_0 x43_3).f1), .string (⟨#[]⟩ : ByteArray)]) ?_ 2 _ rfl; (with_reducible repeat (first | apply xbN | apply xbD | apply xbA)); refine blk_put (cs := #[.int .i64 ((rd_T101 l0_0 x43_3).f0), .int .i64 0, .string (⟨#[]⟩ : ByteArray)]) ?_ 1 _ rfl; (with_reducible repeat (first | apply xbN | apply xbD | apply xbA)); refine blk_put (cs := #[.int .i64 0, .int .i64 0, .string (⟨#[]⟩ : ByteArray)]) ?_ 0 _ rfl; (with_reducible repeat (first | apply xbN | apply xbD | apply xbA)); exact BK159.out)) : gb161 ≠ gb159)); replace BK152 := xM (xB (g := gb152) (o := .cells #[.slice (some ad158) l0_0.length c0_0, .slice A0_1 l0_1.length c0_1] 64 (0, 0)) (by (with_reducible repeat (first | apply xbN | apply xbD | apply xbA)); refine blk_far ?_ NB152_159.out _; (with_reducible repeat (first | apply xbN | apply xbD | apply xbA)); refine blk_far ?_ NB152_159.out _; (with_reducible repeat (first | apply xbN | apply xbD | apply xbA)); refine blk_far ?_ NB152_159.out _; (with_reducible repeat (first | apply xbN | apply xbD | apply xbA)); exact BK152.out) hb); replace BK159 := xM (xB (g := gb159) (o := .cells #[.int .i64 ((rd_T101 l0_0 x43_3).f0), .int .i64 ((rd_T101 l0_0 x43_3).f1), .string ((rd_T101 l0_0 x43_3).f2)] 101 (0, 0)) (by (with_reducible repeat (first | apply xbN | apply xbD | apply xbA)); refine blk_put (cs := #[.int .i64 ((rd_T101 l0_0 x43_3).f0), .int .i64 ((rd_T101 l0_0 x43_3).f1), .string (⟨#[]⟩ : ByteArray)]) ?_ 2 _ rfl; (with_reducible repeat (first | apply xbN | apply xbD | apply xbA)); refine blk_put (cs := #[.int .i64 ((rd_T101 l0_0 x43_3).f0), .int .i64 0, .string (⟨#[]⟩ : ByteArray)]) ?_ 1 _ rfl; (with_reducible repeat (first | apply xbN | apply xbD | apply xbA)); refine blk_put (cs := #[.int .i64 0, .int .i64 0, .string (⟨#[]⟩ : ByteArray)]) ?_ 0 _ rfl; (with_reducible repeat (first | apply xbN | apply xbD | apply xbA)); exact BK159.out) hb); replace HB := xM (below_step (yh HB) hb); clear hb hbox hg; have hnb65 := NB161_152.out; have hnc65 := NB152_161.out; have hnb66 := NB161_159.out; have hnc66 := NB159_161.out; have hcz67_0 : w64.cell? ⟨gb161, 0, none⟩ = some (.int .i64 0) := (blk_cell BK161.out 0).trans rfl; have hcz67_1 : w64.cell? ⟨gb161, 1, none⟩ = some (.int .i64 0) := (blk_cell BK161.out 1).trans rfl; have hcz67_2 : w64.cell? ⟨gb161, 2, none⟩ = some (.string (⟨#[]⟩ : ByteArray)) := (blk_cell BK161.out 2).trans rfl; have hfz67_0 := blk_frozen BK161.out 0; have hfz67_1 := blk_frozen BK161.out 1; have hfz67_2 := blk_frozen BK161.out 2; have hcz68_0 : w64.cell? ⟨gb159, 0, none⟩ = some (.int .i64 ((rd_T101 l0_0 x43_3).f0)) := (blk_cell BK159.out 0).trans rfl; have hcz68_1 : w64.cell? ⟨gb159, 1, none⟩ = some (.int .i64 ((rd_T101 l0_0 x43_3).f1)) := (blk_cell BK159.out 1).trans rfl; have hcz68_2 : w64.cell? ⟨gb159, 2, none⟩ = some (.string ((rd_T101 l0_0 x43_3).f2)) := (blk_cell BK159.out 2).trans rfl; have hfz68_0 := blk_frozen BK159.out 0; have hfz68_1 := blk_frozen BK159.out 1; have hfz68_2 := blk_frozen BK159.out 2)); try go_wp2_with (first | ((with_reducible refine gate_dst (N := 7) rfl ?_); (try (refine gate_guard (by rfl) ?_; dsimp only)); refine box_event ?hg (N := 7) ?hd (cs := #[.int .i64 0, .int .i64 0, .string (⟨#[]⟩ : ByteArray)]) (t := 101) ?hr ?_; (case hd => rfl); (case hg => rfl); (case hr => first | (go_simp; done) | (go_simp; rfl)); intro gb161 hg w64 hbox hb; have BK161 := xM (hbox); have GW161 := xM ((by rw [hg]; exact (below_size (yh HB)) : w.heap.size ≤ gb161)); have GE161 := xM ((by rw [hg]; exact (below_size (yh HB)) : w.heap.size ≤ gb161)); have NB152_161 := xM ((by rw [hg]; exact Nat.ne_of_lt (blk_lt (g := gb152) (o := .cells #[.slice (some ad158) l0_0.length c0_0, .slice A0_1 l0_1.length c0_1] 64 (0, 0)) (by (with_reducible repeat (first | apply xbN | apply xbD | apply xbA)); refine blk_far ?_ NB152_159.out _; (with_reducible repeat (first | apply xbN | apply xbD | apply xbA)); refine blk_far ?_ NB152_159.out _; (with_reducible repeat (first | apply xbN | apply xbD | apply xbA)); refine blk_far ?_ NB152_159.out _; (with_reducible repeat (first | apply xbN | apply xbD | apply xbA)); exact BK152.out)) : gb152 ≠ gb161)); have NB161_152 := xM ((by rw [hg]; exact Nat.ne_of_gt (blk_lt (g := gb152) (o := .cells #[.slice (some ad158) l0_0.length c0_0, .slice A0_1 l0_1.length c0_1] 64 (0, 0)) (by (with_reducible repeat (first | apply xbN | apply xbD | apply xbA)); refine blk_far ?_ NB152_159.out _; (with_reducible repeat (first | apply xbN | apply xbD | apply xbA)); refine blk_far ?_ NB152_159.out _; (with_reducible repeat (first | apply xbN | apply xbD | apply xbA)); refine blk_far ?_ NB152_159.out _; (with_reducible repeat (first | apply xbN | apply xbD | apply xbA)); exact BK152.out)) : gb161 ≠ gb152)); have NB159_161 := xM ((by rw [hg]; exact Nat.ne_of_lt (blk_lt (g := gb159) (o := .cells #[.int .i64 ((rd_T101 l0_0 x43_3).f0), .int .i64 ((rd_T101 l0_0 x43_3).f1), .string ((rd_T101 l0_0 x43_3).f2)] 101 (0, 0)) (by (with_reducible repeat (first | apply xbN | apply xbD | apply xbA)); refine blk_put (cs := #[.int .i64 ((rd_T101 l0_0 x43_3).f0), .int .i64 ((rd_T101 l0_0 x43_3).f1), .string (⟨#[]⟩ : ByteArray)]) ?_ 2 _ rfl; (with_reducible repeat (first | apply xbN | apply xbD | apply xbA)); refine blk_put (cs := #[.int .i64 ((rd_T101 l0_0 x43_3).f0), .int .i64 0, .string (⟨#[]⟩ : ByteArray)]) ?_ 1 _ rfl; (with_reducible repeat (first | apply xbN | apply xbD | apply xbA)); refine blk_put (cs := #[.int .i64 0, .int .i64 0, .string (⟨#[]⟩ : ByteArray)]) ?_ 0 _ rfl; (with_reducible repeat (first | apply xbN | apply xbD | apply xbA)); exact BK159.out)) : gb159 ≠ gb161)); have NB161_159 := xM ((by rw [hg]; exact Nat.ne_of_gt (blk_lt (g := gb159) (o := .cells #[.int .i64 ((rd_T101 l0_0 x43_3).f0), .int .i64 ((rd_T101 l0_0 x43_3).f1), .string ((rd_T101 l0_0 x43_3).f2)] 101 (0, 0)) (by (with_reducible repeat (first | apply xbN | apply xbD | apply xbA)); refine blk_put (cs := #[.int .i64 ((rd_T101 l0_0 x43_3).f0), .int .i64 ((rd_T101 l0_0 x43_3).f1), .string (⟨#[]⟩ : ByteArray)]) ?_ 2 _ rfl; (with_reducible repeat (first | apply xbN | apply xbD | apply xbA)); refine blk_put (cs := #[.int .i64 ((rd_T101 l0_0 x43_3).f0), .int .i64 0, .string (⟨#[]⟩ : ByteArray)]) ?_ 1 _ rfl; (with_reducible repeat (first | apply xbN | apply xbD | apply xbA)); refine blk_put (cs := #[.int .i64 0, .int .i64 0, .string (⟨#[]⟩ : ByteArray)]) ?_ 0 _ rfl; (with_reducible repeat (first | apply xbN | apply xbD | apply xbA)); exact BK159.out)) : gb161 ≠ gb159)); replace BK152 := xM (xB (g := gb152) (o := .cells #[.slice (some ad158) l0_0.length c0_0, .slice A0_1 l0_1.length c0_1] 64 (0, 0)) (by (with_reducible repeat (first | apply xbN | apply xbD | apply xbA)); refine blk_far ?_ NB152_159.out _; (with_reducible repeat (first | apply xbN | apply xbD | apply xbA)); refine blk_far ?_ NB152_159.out _; (with_reducible repeat (first | apply xbN | apply xbD | apply xbA)); refine blk_far ?_ NB152_159.out _; (with_reducible repeat (first | apply xbN | apply xbD | apply xbA)); exact BK152.out) hb); replace BK159 := xM (xB (g := gb159) (o := .cells #[.int .i64 ((rd_T101 l0_0 x43_3).f0), .int .i64 ((rd_T101 l0_0 x43_3).f1), .string ((rd_T101 l0_0 x43_3).f2)] 101 (0, 0)) (by (with_reducible repeat (first | apply xbN | apply xbD | apply xbA)); refine blk_put (cs := #[.int .i64 ((rd_T101 l0_0 x43_3).f0), .int .i64 ((rd_T101 l0_0 x43_3).f1), .string (⟨#[]⟩ : ByteArray)]) ?_ 2 _ rfl; (with_reducible repeat (first | apply xbN | apply xbD | apply xbA)); refine blk_put (cs := #[.int .i64 ((rd_T101 l0_0 x43_3).f0), .int .i64 0, .string (⟨#[]⟩ : ByteArray)]) ?_ 1 _ rfl; (with_reducible repeat (first | apply xbN | apply xbD | apply xbA)); refine blk_put (cs := #[.int .i64 0, .int .i64 0, .string (⟨#[]⟩ : ByteArray)]) ?_ 0 _ rfl; (with_reducible repeat (first | apply xbN | apply xbD | apply xbA)); exact BK159.out) hb); replace HB := xM (below_step (yh HB) hb); clear hb hbox hg; have hnb65 := NB161_152.out; have hnc65 := NB152_161.out; have hnb66 := NB161_159.out; have hnc66 := NB159_161.out; have hcz67_0 : w64.cell? ⟨gb161, 0, none⟩ = some (.int .i64 0) := (blk_cell BK161.out 0).trans rfl; have hcz67_1 : w64.cell? ⟨gb161, 1, none⟩ = some (.int .i64 0) := (blk_cell BK161.out 1).trans rfl; have hcz67_2 : w64.cell? ⟨gb161, 2, none⟩ = some (.string (⟨#[]⟩ : ByteArray)) := (blk_cell BK161.out 2).trans rfl; have hfz67_0 := blk_frozen BK161.out 0; have hfz67_1 := blk_frozen BK161.out 1; have hfz67_2 := blk_frozen BK161.out 2; have hcz68_0 : w64.cell? ⟨gb159, 0, none⟩ = some (.int .i64 ((rd_T101 l0_0 x43_3).f0)) := (blk_cell BK159.out 0).trans rfl; have hcz68_1 : w64.cell? ⟨gb159, 1, none⟩ = some (.int .i64 ((rd_T101 l0_0 x43_3).f1)) := (blk_cell BK159.out 1).trans rfl; have hcz68_2 : w64.cell? ⟨gb159, 2, none⟩ = some (.string ((rd_T101 l0_0 x43_3).f2)) := (blk_cell BK159.out 2).trans rfl; have hfz68_0 := blk_frozen BK159.out 0; have hfz68_1 := blk_frozen BK159.out 1; have hfz68_2 := blk_frozen BK159.out 2)))
                   go_meet
                   case rel => exact ⟨_, H', ⟨by have := HJ1.out; have := HK2.out; have := HK3.out; first | omega | exact Nat.le_refl _⟩, ⟨by (with_reducible repeat (first | apply xbN | apply xbD | apply xbA)); refine blk_far ?_ NB152_161.out _; (with_reducible repeat (first | apply xbN | apply xbD | apply xbA)); refine blk_far ?_ NB152_161.out _; (with_reducible repeat (first | apply xbN | apply xbD | apply xbA)); refine blk_far ?_ NB152_161.out _; (with_reducible repeat (first | apply xbN | apply xbD | apply xbA)); exact BK152.out⟩, ⟨by (with_reducible repeat (first | apply xbN | apply xbD | apply xbA)); refine blk_far ?_ NB159_161.out _; (with_reducible repeat (first | apply xbN | apply xbD | apply xbA)); refine blk_far ?_ NB159_161.out _; (with_reducible repeat (first | apply xbN | apply xbD | apply xbA)); refine blk_far ?_ NB159_161.out _; (with_reducible repeat (first | apply xbN | apply xbD | apply xbA)); exact BK159.out⟩, ⟨yh HB⟩⟩
                ·rw [if_neg c37] at H
                 exact absurd H (by simp)
               ·rw [if_neg c36] at H
                exact absurd H (by simp)
              ·rw [if_neg c34] at H
               have c34b0 : decide (0 < x43_3) = false := decide_eq_false c34
               clear c34
               (first | rw [c34b0] | (simp only [i64_w, i32_w]; rw [c34b0]) | skip)
               have H' := Aside0.mk H
               clear H
               go_wp2
               repeat (go_quiet (fail); try go_wp2)
               go_meet
               case rel => exact ⟨_, H', ⟨by have := HJ1.out; have := HK2.out; have := HK3.out; first | omega | exact Nat.le_refl _⟩, ⟨by (with_reducible repeat (first | apply xbN | apply xbD | apply xbA)); refine blk_far ?_ NB152_159.out _; (with_reducible repeat (first | apply xbN | apply xbD | apply xbA)); refine blk_far ?_ NB152_159.out _; (with_reducible repeat (first | apply xbN | apply xbD | apply xbA)); refine blk_far ?_ NB152_159.out _; (with_reducible repeat (first | apply xbN | apply xbD | apply xbA)); exact BK152.out⟩, ⟨by (with_reducible repeat (first | apply xbN | apply xbD | apply xbA)); refine blk_put (cs := #[.int .i64 ((rd_T101 l0_0 x43_3).f0), .int .i64 ((rd_T101 l0_0 x43_3).f1), .string (⟨#[]⟩ : ByteArray)]) ?_ 2 _ rfl; (with_reducible repeat (first | apply xbN | apply xbD | apply xbA)); refine blk_put (cs := #[.int .i64 ((rd_T101 l0_0 x43_3).f0), .int .i64 0, .string (⟨#[]⟩ : ByteArray)]) ?_ 1 _ rfl; (with_reducible repeat (first | apply xbN | apply xbD | apply xbA)); refine blk_put (cs := #[.int .i64 0, .int .i64 0, .string (⟨#[]⟩ : ByteArray)]) ?_ 0 _ rfl; (with_reducible repeat (first | apply xbN | apply xbD | apply xbA)); exact BK159.out⟩, ⟨yh HB⟩⟩
             case rest =>
              clear HC30
              try clear c1
              try clear p1
              try clear q1
              try clear hx1
              try clear c2
              try clear p2
              try clear c3
              try clear c4
              try clear c4b0
              try clear c4b1
              try clear c5
              try clear c6
              try clear p6
              try clear c8
              try clear c10
              try clear c10b0
              try clear c11
              try clear c11b0
              try clear c12
              try clear c12b0
              try clear c14
              try clear p15
              try clear q15
              try clear hx15
              try clear c16
              try clear p16
              try clear q16
              try clear hx16
              try clear c18
              try clear c21
              try clear c24
              try clear c27
              try clear c27b0
              try clear c28
              try clear c28b0
              try clear c29
              try clear c29b0
              try clear c32
              try clear c34
              try clear c34b0
              try clear c36
              try clear c36b0
              try clear c37
              try clear c37b0
              try clear c38
              try clear c38b0
              try clear c39
              try clear c42
              try clear c43
              try clear c46
              try clear c46b0
              try clear c46b1
              try clear c47
              try clear c47b0
              try clear c48
              try clear c51
              try clear c52
              try clear c55
              try clear c58
              try clear c59
              try clear c62
              try clear p64
              try clear c65
              try clear c66
              try clear hcz19_0
              try clear hcz19_1
              try clear hcz22_0
              try clear hcz22_1
              try clear hcz25_0
              try clear hcz25_1
              try clear hcz26_0
              try clear hcz26_1
              try clear hcz33_0
              try clear hcz33_1
              try clear hcz33_2
              try clear hcz40_0
              try clear hcz40_1
              try clear hcz44_0
              try clear hcz44_1
              try clear hcz44_2
              try clear hcz45_0
              try clear hcz45_1
              try clear hcz45_2
              try clear hcz49_0
              try clear hcz49_1
              try clear hcz53_0
              try clear hcz53_1
              try clear hcz53_2
              try clear hcz54_0
              try clear hcz54_1
              try clear hcz54_2
              try clear hcz56_0
              try clear hcz56_1
              try clear hcz5_0
              try clear hcz5_1
              try clear hcz60_0
              try clear hcz60_1
              try clear hcz60_2
              try clear hcz61_0
              try clear hcz61_1
              try clear hcz61_2
              try clear hcz63_0
              try clear hcz63_1
              try clear hcz67_0
              try clear hcz67_1
              try clear hcz67_2
              try clear hcz68_0
              try clear hcz68_1
              try clear hcz68_2
              try clear hcz7_0
              try clear hcz7_1
              try clear hcz9_0
              try clear hcz9_1
              try clear hfz19_0
              try clear hfz19_1
              try clear hfz22_0
              try clear hfz22_1
              try clear hfz25_0
              try clear hfz25_1
              try clear hfz26_0
              try clear hfz26_1
              try clear hfz33_0
              try clear hfz33_1
              try clear hfz33_2
              try clear hfz40_0
              try clear hfz40_1
              try clear hfz44_0
              try clear hfz44_1
              try clear hfz44_2
              try clear hfz45_0
              try clear hfz45_1
              try clear hfz45_2
              try clear hfz49_0
              try clear hfz49_1
              try clear hfz53_0
              try clear hfz53_1
              try clear hfz53_2
              try clear hfz54_0
              try clear hfz54_1
              try clear hfz54_2
              try clear hfz56_0
              try clear hfz56_1
              try clear hfz5_0
              try clear hfz5_1
              try clear hfz60_0
              try clear hfz60_1
              try clear hfz60_2
              try clear hfz61_0
              try clear hfz61_1
              try clear hfz61_2
              try clear hfz63_0
              try clear hfz63_1
              try clear hfz67_0
              try clear hfz67_1
              try clear hfz67_2
              try clear hfz68_0
              try clear hfz68_1
              try clear hfz68_2
              try clear hfz7_0
              try clear hfz7_1
              try clear hfz9_0
              try clear hfz9_1
              try clear hx154_0
              try clear hx154_1
              try clear hx158_0
              try clear hx158_1
              try clear hx158_2
              try clear hx160_0
              try clear hx160_1
              try clear hx160_2
              try clear p1
              try clear p15
              try clear p154
              try clear p158
              try clear p160
              try clear p2
              try clear p6
              try clear q1
              try clear q15
              try clear q154
              try clear q158
              try clear q160
              obtain ⟨kq, HA, HJ29, BK152, BK159, HB⟩ := hcut
              cases kq with
              | zero => exact absurd HA.out (by simp [spec_GoodShelf.j3])
              | succ kj29 =>
               have H := HA.out
               clear HA
               simp only [spec_GoodShelf.j3] at H
               have HC69 := Aside0.mk H
               clear H
               go_upto_region 16 with (fail)
               repeat (go_quiet (fail); go_upto_region 16 with (fail))
               go_cut [94] (fun v94 wc => ∃ (kq : Nat) (x94_68 : Bool), v94 = .bool x94_68 ∧ Aside0 (spec_GoodShelf.j4 kq l0_0 (l0_0.length : Int) x43_3 x94_68 l0_0 l0_1 ((rd_T101 l0_0 x43_3).f0) ((rd_T101 l0_0 x43_3).f1) ((rd_T101 l0_0 x43_3).f2) = some r) ∧ Aside0 (kq ≤ kj29) ∧ Aside0 (wc.heap[gb152]? = some (.cells #[(.slice (some ad158) l0_0.length c0_0), (.slice A0_1 l0_1.length c0_1)] 64 (0, 0))) ∧ Aside0 (wc.heap[gb159]? = some (.cells #[.int .i64 ((rd_T101 l0_0 x43_3).f0), .int .i64 ((rd_T101 l0_0 x43_3).f1), .string ((rd_T101 l0_0 x43_3).f2)] 101 (0, 0))) ∧ Aside0 (Below w.heap.size w wc))
               case first =>
                have H := HC69.out
                clear HC69
                replace H := Option.bind_eq_some_iff.mp H
                obtain ⟨t162, A700, H⟩ := H
                replace H : (if t162 = true then ((spec_l1In.f ((rd_T101 l0_0 x43_3).f1) 0 4).bind fun t163 => (if t163 = true then (spec_GoodShelf.j4 kj29 l0_0 (l0_0.length : Int) x43_3 (decide ((((rd_T101 l0_0 x43_3).f2).size : Int) > 60)) l0_0 l0_1 ((rd_T101 l0_0 x43_3).f0) ((rd_T101 l0_0 x43_3).f1) ((rd_T101 l0_0 x43_3).f2)) else (spec_GoodShelf.j4 kj29 l0_0 (l0_0.length : Int) x43_3 true l0_0 l0_1 ((rd_T101 l0_0 x43_3).f0) ((rd_T101 l0_0 x43_3).f1) ((rd_T101 l0_0 x43_3).f2)))) else (spec_GoodShelf.j4 kj29 l0_0 (l0_0.length : Int) x43_3 true l0_0 l0_1 ((rd_T101 l0_0 x43_3).f0) ((rd_T101 l0_0 x43_3).f1) ((rd_T101 l0_0 x43_3).f2))) = some r := H
                have A70 := Aside0.mk A700
                clear A700
                by_cases c71 : t162 = true
                ·subst c71
                 have H1 : ((spec_l1In.f ((rd_T101 l0_0 x43_3).f1) 0 4).bind fun t163 => (if t163 = true then (spec_GoodShelf.j4 kj29 l0_0 (l0_0.length : Int) x43_3 (decide ((((rd_T101 l0_0 x43_3).f2).size : Int) > 60)) l0_0 l0_1 ((rd_T101 l0_0 x43_3).f0) ((rd_T101 l0_0 x43_3).f1) ((rd_T101 l0_0 x43_3).f2)) else (spec_GoodShelf.j4 kj29 l0_0 (l0_0.length : Int) x43_3 true l0_0 l0_1 ((rd_T101 l0_0 x43_3).f0) ((rd_T101 l0_0 x43_3).f1) ((rd_T101 l0_0 x43_3).f2)))) = some r := by rw [if_pos rfl] at H; exact H
                 clear H
                 have H := H1
                 clear H1
                 replace H := Option.bind_eq_some_iff.mp H
                 obtain ⟨t163, A720, H⟩ := H
                 replace H : (if t163 = true then (spec_GoodShelf.j4 kj29 l0_0 (l0_0.length : Int) x43_3 (decide ((((rd_T101 l0_0 x43_3).f2).size : Int) > 60)) l0_0 l0_1 ((rd_T101 l0_0 x43_3).f0) ((rd_T101 l0_0 x43_3).f1) ((rd_T101 l0_0 x43_3).f2)) else (spec_GoodShelf.j4 kj29 l0_0 (l0_0.length : Int) x43_3 true l0_0 l0_1 ((rd_T101 l0_0 x43_3).f0) ((rd_T101 l0_0 x43_3).f1) ((rd_T101 l0_0 x43_3).f2))) = some r := H
                 have A72 := Aside0.mk A720
                 clear A720
                 by_cases c73 : t163 = true
                 ·subst c73
                  have H1 : (spec_GoodShelf.j4 kj29 l0_0 (l0_0.length : Int) x43_3 (decide ((((rd_T101 l0_0 x43_3).f2).size : Int) > 60)) l0_0 l0_1 ((rd_T101 l0_0 x43_3).f0) ((rd_T101 l0_0 x43_3).f1) ((rd_T101 l0_0 x43_3).f2)) = some r := by rw [if_pos rfl] at H; exact H
                  clear H
                  have H := H1
                  clear H1
                  have H' := Aside0.mk H
                  clear H
                  have hnb74 := NB159_152.out
                  have hnc74 := NB152_159.out
                  have hcz75_0 : wc.cell? ⟨gb159, 0, none⟩ = some (.int .i64 ((rd_T101 l0_0 x43_3).f0)) := (blk_cell BK159.out 0).trans rfl
                  have hcz75_1 : wc.cell? ⟨gb159, 1, none⟩ = some (.int .i64 ((rd_T101 l0_0 x43_3).f1)) := (blk_cell BK159.out 1).trans rfl
                  have hcz75_2 : wc.cell? ⟨gb159, 2, none⟩ = some (.string ((rd_T101 l0_0 x43_3).f2)) := (blk_cell BK159.out 2).trans rfl
                  have hfz75_0 := blk_frozen BK159.out 0
                  have hfz75_1 := blk_frozen BK159.out 1
                  have hfz75_2 := blk_frozen BK159.out 2
                  have hcz76_0 : wc.cell? ⟨gb152, 0, none⟩ = some (.slice (some ad158) l0_0.length c0_0) := (blk_cell BK152.out 0).trans rfl
                  have hcz76_1 : wc.cell? ⟨gb152, 1, none⟩ = some (.slice A0_1 l0_1.length c0_1) := (blk_cell BK152.out 1).trans rfl
                  have hfz76_0 := blk_frozen BK152.out 0
                  have hfz76_1 := blk_frozen BK152.out 1
                  go_wp2_with (first | (go_at_call 54; (with_reducible refine (spec_l1In.calls ((rd_T101 l0_0 x43_3).f0) 1 (wrap64 ((l0_1.length : Int) + 1)) true _ A70.out).mono ?_); rintro e w' ⟨rfl, ⟨nd, rfl⟩⟩; (try first | exact ⟨rfl, _, World.drewN_drewN _ _ _⟩ | exact ⟨rfl, _, Eq.trans (World.drewN_drewN _ _ _) (congrArg (World.drewN _) (Nat.add_assoc _ _ _))⟩)) | (go_at_call 54; (with_reducible refine (spec_l1In.calls ((rd_T101 l0_0 x43_3).f1) 0 4 true _ A72.out).mono ?_); rintro e w' ⟨rfl, ⟨nd, rfl⟩⟩; (try first | exact ⟨rfl, _, World.drewN_drewN _ _ _⟩ | exact ⟨rfl, _, Eq.trans (World.drewN_drewN _ _ _) (congrArg (World.drewN _) (Nat.add_assoc _ _ _))⟩)))
                  repeat (go_quiet (first | (go_at_call 54; (with_reducible refine (spec_l1In.calls ((rd_T101 l0_0 x43_3).f0) 1 (wrap64 ((l0_1.length : Int) + 1)) true _ A70.out).mono ?_); rintro e w' ⟨rfl, ⟨nd, rfl⟩⟩; (try first | exact ⟨rfl, _, World.drewN_drewN _ _ _⟩ | exact ⟨rfl, _, Eq.trans (World.drewN_drewN _ _ _) (congrArg (World.drewN _) (Nat.add_assoc _ _ _))⟩)) | (go_at_call 54; (with_reducible refine (spec_l1In.calls ((rd_T101 l0_0 x43_3).f1) 0 4 true _ A72.out).mono ?_); rintro e w' ⟨rfl, ⟨nd, rfl⟩⟩; (try first | exact ⟨rfl, _, World.drewN_drewN _ _ _⟩ | exact ⟨rfl, _, Eq.trans (World.drewN_drewN _ _ _) (congrArg (World.drewN _) (Nat.add_assoc _ _ _))⟩))); try go_wp2_with (first | (go_at_call 54; (with_reducible refine (spec_l1In.calls ((rd_T101 l0_0 x43_3).f0) 1 (wrap64 ((l0_1.length : Int) + 1)) true _ A70.out).mono ?_); rintro e w' ⟨rfl, ⟨nd, rfl⟩⟩; (try first | exact ⟨rfl, _, World.drewN_drewN _ _ _⟩ | exact ⟨rfl, _, Eq.trans (World.drewN_drewN _ _ _) (congrArg (World.drewN _) (Nat.add_assoc _ _ _))⟩)) | (go_at_call 54; (with_reducible refine (spec_l1In.calls ((rd_T101 l0_0 x43_3).f1) 0 4 true _ A72.out).mono ?_); rintro e w' ⟨rfl, ⟨nd, rfl⟩⟩; (try first | exact ⟨rfl, _, World.drewN_drewN _ _ _⟩ | exact ⟨rfl, _, Eq.trans (World.drewN_drewN _ _ _) (congrArg (World.drewN _) (Nat.add_assoc _ _ _))⟩))))
                  go_meet
                  case rel => exact ⟨_, (decide ((((rd_T101 l0_0 x43_3).f2).size : Int) > 60)), (by first | rfl | (simp; done) | (simp [*]; done)), H', ⟨by have := HJ1.out; have := HK2.out; have := HK3.out; have := HJ29.out; first | omega | exact Nat.le_refl _⟩, ⟨by (with_reducible repeat (first | apply xbN | apply xbD | apply xbA)); exact BK152.out⟩, ⟨by (with_reducible repeat (first | apply xbN | apply xbD | apply xbA)); exact BK159.out⟩, ⟨yh HB⟩⟩
                 ·replace c73 := Bool.eq_false_iff.mpr c73
                  subst c73
                  have H1 : (spec_GoodShelf.j4 kj29 l0_0 (l0_0.length : Int) x43_3 true l0_0 l0_1 ((rd_T101 l0_0 x43_3).f0) ((rd_T101 l0_0 x43_3).f1) ((rd_T101 l0_0 x43_3).f2)) = some r := by rw [if_neg (show ¬ (false = true) by decide)] at H; exact H
                  clear H
                  have H := H1
                  clear H1
                  have H' := Aside0.mk H
                  clear H
                  have hnb77 := NB159_152.out
                  have hnc77 := NB152_159.out
                  have hcz78_0 : wc.cell? ⟨gb159, 0, none⟩ = some (.int .i64 ((rd_T101 l0_0 x43_3).f0)) := (blk_cell BK159.out 0).trans rfl
                  have hcz78_1 : wc.cell? ⟨gb159, 1, none⟩ = some (.int .i64 ((rd_T101 l0_0 x43_3).f1)) := (blk_cell BK159.out 1).trans rfl
                  have hcz78_2 : wc.cell? ⟨gb159, 2, none⟩ = some (.string ((rd_T101 l0_0 x43_3).f2)) := (blk_cell BK159.out 2).trans rfl
                  have hfz78_0 := blk_frozen BK159.out 0
                  have hfz78_1 := blk_frozen BK159.out 1
                  have hfz78_2 := blk_frozen BK159.out 2
                  have hcz79_0 : wc.cell? ⟨gb152, 0, none⟩ = some (.slice (some ad158) l0_0.length c0_0) := (blk_cell BK152.out 0).trans rfl
                  have hcz79_1 : wc.cell? ⟨gb152, 1, none⟩ = some (.slice A0_1 l0_1.length c0_1) := (blk_cell BK152.out 1).trans rfl
                  have hfz79_0 := blk_frozen BK152.out 0
                  have hfz79_1 := blk_frozen BK152.out 1
                  go_wp2_with (first | (go_at_call 54; (with_reducible refine (spec_l1In.calls ((rd_T101 l0_0 x43_3).f0) 1 (wrap64 ((l0_1.length : Int) + 1)) true _ A70.out).mono ?_); rintro e w' ⟨rfl, ⟨nd, rfl⟩⟩; (try first | exact ⟨rfl, _, World.drewN_drewN _ _ _⟩ | exact ⟨rfl, _, Eq.trans (World.drewN_drewN _ _ _) (congrArg (World.drewN _) (Nat.add_assoc _ _ _))⟩)) | (go_at_call 54; (with_reducible refine (spec_l1In.calls ((rd_T101 l0_0 x43_3).f1) 0 4 false _ A72.out).mono ?_); rintro e w' ⟨rfl, ⟨nd, rfl⟩⟩; (try first | exact ⟨rfl, _, World.drewN_drewN _ _ _⟩ | exact ⟨rfl, _, Eq.trans (World.drewN_drewN _ _ _) (congrArg (World.drewN _) (Nat.add_assoc _ _ _))⟩)))
                  repeat (go_quiet (first | (go_at_call 54; (with_reducible refine (spec_l1In.calls ((rd_T101 l0_0 x43_3).f0) 1 (wrap64 ((l0_1.length : Int) + 1)) true _ A70.out).mono ?_); rintro e w' ⟨rfl, ⟨nd, rfl⟩⟩; (try first | exact ⟨rfl, _, World.drewN_drewN _ _ _⟩ | exact ⟨rfl, _, Eq.trans (World.drewN_drewN _ _ _) (congrArg (World.drewN _) (Nat.add_assoc _ _ _))⟩)) | (go_at_call 54; (with_reducible refine (spec_l1In.calls ((rd_T101 l0_0 x43_3).f1) 0 4 false _ A72.out).mono ?_); rintro e w' ⟨rfl, ⟨nd, rfl⟩⟩; (try first | exact ⟨rfl, _, World.drewN_drewN _ _ _⟩ | exact ⟨rfl, _, Eq.trans (World.drewN_drewN _ _ _) (congrArg (World.drewN _) (Nat.add_assoc _ _ _))⟩))); try go_wp2_with (first | (go_at_call 54; (with_reducible refine (spec_l1In.calls ((rd_T101 l0_0 x43_3).f0) 1 (wrap64 ((l0_1.length : Int) + 1)) true _ A70.out).mono ?_); rintro e w' ⟨rfl, ⟨nd, rfl⟩⟩; (try first | exact ⟨rfl, _, World.drewN_drewN _ _ _⟩ | exact ⟨rfl, _, Eq.trans (World.drewN_drewN _ _ _) (congrArg (World.drewN _) (Nat.add_assoc _ _ _))⟩)) | (go_at_call 54; (with_reducible refine (spec_l1In.calls ((rd_T101 l0_0 x43_3).f1) 0 4 false _ A72.out).mono ?_); rintro e w' ⟨rfl, ⟨nd, rfl⟩⟩; (try first | exact ⟨rfl, _, World.drewN_drewN _ _ _⟩ | exact ⟨rfl, _, Eq.trans (World.drewN_drewN _ _ _) (congrArg (World.drewN _) (Nat.add_assoc _ _ _))⟩))))
                  go_meet
                  case rel => exact ⟨_, (true), (by first | rfl | (simp; done) | (simp [*]; done)), H', ⟨by have := HJ1.out; have := HK2.out; have := HK3.out; have := HJ29.out; first | omega | exact Nat.le_refl _⟩, ⟨by (with_reducible repeat (first | apply xbN | apply xbD | apply xbA)); exact BK152.out⟩, ⟨by (with_reducible repeat (first | apply xbN | apply xbD | apply xbA)); exact BK159.out⟩, ⟨yh HB⟩⟩
                ·replace c71 := Bool.eq_false_iff.mpr c71
                 subst c71
                 have H1 : (spec_GoodShelf.j4 kj29 l0_0 (l0_0.length : Int) x43_3 true l0_0 l0_1 ((rd_T101 l0_0 x43_3).f0) ((rd_T101 l0_0 x43_3).f1) ((rd_T101 l0_0 x43_3).f2)) = some r := by rw [if_neg (show ¬ (false = true) by decide)] at H; exact H
                 clear H
                 have H := H1
                 clear H1
                 have H' := Aside0.mk H
                 clear H
                 have hnb80 := NB159_152.out
                 have hnc80 := NB152_159.out
                 have hcz81_0 : wc.cell? ⟨gb159, 0, none⟩ = some (.int .i64 ((rd_T101 l0_0 x43_3).f0)) := (blk_cell BK159.out 0).trans rfl
                 have hcz81_1 : wc.cell? ⟨gb159, 1, none⟩ = some (.int .i64 ((rd_T101 l0_0 x43_3).f1)) := (blk_cell BK159.out 1).trans rfl
                 have hcz81_2 : wc.cell? ⟨gb159, 2, none⟩ = some (.string ((rd_T101 l0_0 x43_3).f2)) := (blk_cell BK159.out 2).trans rfl
                 have hfz81_0 := blk_frozen BK159.out 0
                 have hfz81_1 := blk_frozen BK159.out 1
                 have hfz81_2 := blk_frozen BK159.out 2
                 have hcz82_0 : wc.cell? ⟨gb152, 0, none⟩ = some (.slice (some ad158) l0_0.length c0_0) := (blk_cell BK152.out 0).trans rfl
                 have hcz82_1 : wc.cell? ⟨gb152, 1, none⟩ = some (.slice A0_1 l0_1.length c0_1) := (blk_cell BK152.out 1).trans rfl
                 have hfz82_0 := blk_frozen BK152.out 0
                 have hfz82_1 := blk_frozen BK152.out 1
                 go_wp2_with (first | (go_at_call 54; (with_reducible refine (spec_l1In.calls ((rd_T101 l0_0 x43_3).f0) 1 (wrap64 ((l0_1.length : Int) + 1)) false _ A70.out).mono ?_); rintro e w' ⟨rfl, ⟨nd, rfl⟩⟩; (try first | exact ⟨rfl, _, World.drewN_drewN _ _ _⟩ | exact ⟨rfl, _, Eq.trans (World.drewN_drewN _ _ _) (congrArg (World.drewN _) (Nat.add_assoc _ _ _))⟩)))
                 repeat (go_quiet (first | (go_at_call 54; (with_reducible refine (spec_l1In.calls ((rd_T101 l0_0 x43_3).f0) 1 (wrap64 ((l0_1.length : Int) + 1)) false _ A70.out).mono ?_); rintro e w' ⟨rfl, ⟨nd, rfl⟩⟩; (try first | exact ⟨rfl, _, World.drewN_drewN _ _ _⟩ | exact ⟨rfl, _, Eq.trans (World.drewN_drewN _ _ _) (congrArg (World.drewN _) (Nat.add_assoc _ _ _))⟩))); try go_wp2_with (first | (go_at_call 54; (with_reducible refine (spec_l1In.calls ((rd_T101 l0_0 x43_3).f0) 1 (wrap64 ((l0_1.length : Int) + 1)) false _ A70.out).mono ?_); rintro e w' ⟨rfl, ⟨nd, rfl⟩⟩; (try first | exact ⟨rfl, _, World.drewN_drewN _ _ _⟩ | exact ⟨rfl, _, Eq.trans (World.drewN_drewN _ _ _) (congrArg (World.drewN _) (Nat.add_assoc _ _ _))⟩))))
                 go_meet
                 case rel => exact ⟨_, (true), (by first | rfl | (simp; done) | (simp [*]; done)), H', ⟨by have := HJ1.out; have := HK2.out; have := HK3.out; have := HJ29.out; first | omega | exact Nat.le_refl _⟩, ⟨by (with_reducible repeat (first | apply xbN | apply xbD | apply xbA)); exact BK152.out⟩, ⟨by (with_reducible repeat (first | apply xbN | apply xbD | apply xbA)); exact BK159.out⟩, ⟨yh HB⟩⟩
               case rest =>
                clear HC69
                try clear c1
                try clear p1
                try clear q1
                try clear hx1
                try clear c2
                try clear p2
                try clear c3
                try clear c4
                try clear c4b0
                try clear c4b1
                try clear c5
                try clear c6
                try clear p6
                try clear c7
                try clear c8
                try clear c10
                try clear c10b0
                try clear c11
                try clear c11b0
                try clear c12
                try clear c12b0
                try clear c14
                try clear p15
                try clear q15
                try clear hx15
                try clear c16
                try clear p16
                try clear q16
                try clear hx16
                try clear c18
                try clear c21
                try clear c24
                try clear c27
                try clear c27b0
                try clear c28
                try clear c28b0
                try clear c29
                try clear c29b0
                try clear c32
                try clear c34
                try clear c34b0
                try clear c36
                try clear c36b0
                try clear c37
                try clear c37b0
                try clear c38
                try clear c38b0
                try clear c39
                try clear c42
                try clear c43
                try clear c46
                try clear c46b0
                try clear c46b1
                try clear c47
                try clear c47b0
                try clear c48
                try clear c51
                try clear c52
                try clear c55
                try clear c58
                try clear c59
                try clear c62
                try clear p64
                try clear c65
                try clear c66
                try clear c71
                try clear c73
                try clear c74
                try clear c77
                try clear c80
                try clear hcz19_0
                try clear hcz19_1
                try clear hcz22_0
                try clear hcz22_1
                try clear hcz25_0
                try clear hcz25_1
                try clear hcz26_0
                try clear hcz26_1
                try clear hcz33_0
                try clear hcz33_1
                try clear hcz33_2
                try clear hcz40_0
                try clear hcz40_1
                try clear hcz44_0
                try clear hcz44_1
                try clear hcz44_2
                try clear hcz45_0
                try clear hcz45_1
                try clear hcz45_2
                try clear hcz49_0
                try clear hcz49_1
                try clear hcz53_0
                try clear hcz53_1
                try clear hcz53_2
                try clear hcz54_0
                try clear hcz54_1
                try clear hcz54_2
                try clear hcz56_0
                try clear hcz56_1
                try clear hcz5_0
                try clear hcz5_1
                try clear hcz60_0
                try clear hcz60_1
                try clear hcz60_2
                try clear hcz61_0
                try clear hcz61_1
                try clear hcz61_2
                try clear hcz63_0
                try clear hcz63_1
                try clear hcz67_0
                try clear hcz67_1
                try clear hcz67_2
                try clear hcz68_0
                try clear hcz68_1
                try clear hcz68_2
                try clear hcz75_0
                try clear hcz75_1
                try clear hcz75_2
                try clear hcz76_0
                try clear hcz76_1
                try clear hcz78_0
                try clear hcz78_1
                try clear hcz78_2
                try clear hcz79_0
                try clear hcz79_1
                try clear hcz7_0
                try clear hcz7_1
                try clear hcz81_0
                try clear hcz81_1
                try clear hcz81_2
                try clear hcz82_0
                try clear hcz82_1
                try clear hcz9_0
                try clear hcz9_1
                try clear hfz19_0
                try clear hfz19_1
                try clear hfz22_0
                try clear hfz22_1
                try clear hfz25_0
                try clear hfz25_1
                try clear hfz26_0
                try clear hfz26_1
                try clear hfz33_0
                try clear hfz33_1
                try clear hfz33_2
                try clear hfz40_0
                try clear hfz40_1
                try clear hfz44_0
                try clear hfz44_1
                try clear hfz44_2
                try clear hfz45_0
                try clear hfz45_1
                try clear hfz45_2
                try clear hfz49_0
                try clear hfz49_1
                try clear hfz53_0
                try clear hfz53_1
                try clear hfz53_2
                try clear hfz54_0
                try clear hfz54_1
                try clear hfz54_2
                try clear hfz56_0
                try clear hfz56_1
                try clear hfz5_0
                try clear hfz5_1
                try clear hfz60_0
                try clear hfz60_1
                try clear hfz60_2
                try clear hfz61_0
                try clear hfz61_1
                try clear hfz61_2
                try clear hfz63_0
                try clear hfz63_1
                try clear hfz67_0
                try clear hfz67_1
                try clear hfz67_2
                try clear hfz68_0
                try clear hfz68_1
                try clear hfz68_2
                try clear hfz75_0
                try clear hfz75_1
                try clear hfz75_2
                try clear hfz76_0
                try clear hfz76_1
                try clear hfz78_0
                try clear hfz78_1
                try clear hfz78_2
                try clear hfz79_0
                try clear hfz79_1
                try clear hfz7_0
                try clear hfz7_1
                try clear hfz81_0
                try clear hfz81_1
                try clear hfz81_2
                try clear hfz82_0
                try clear hfz82_1
                try clear hfz9_0
                try clear hfz9_1
                try clear hx154_0
                try clear hx154_1
                try clear hx158_0
                try clear hx158_1
                try clear hx158_2
                try clear hx160_0
                try clear hx160_1
                try clear hx160_2
                try clear p1
                try clear p15
                try clear p154
                try clear p158
                try clear p16
                try clear p160
                try clear p2
                try clear p6
                try clear p64
                try clear q1
                try clear q15
                try clear q154
                try clear q158
                try clear q16
                try clear q160
                obtain ⟨kq, x94_68, rfl, HA, HJ68, BK152, BK159, HB⟩ := hcut
                cases kq with
                | zero => exact absurd HA.out (by simp [spec_GoodShelf.j4])
                | succ kj68 =>
                 have H := HA.out
                 clear HA
                 simp only [spec_GoodShelf.j4] at H
                 by_cases c83 : x94_68 = true
                 ·subst c83
                  have H1 : (some false) = some r := by rw [if_pos rfl] at H; exact H
                  clear H
                  have H := H1
                  clear H1
                  obtain rfl := Option.some.inj H
                  go_wp2
                  repeat (go_quiet (fail); try go_wp2)
                  go_ret
                  exact ⟨by first | rfl | (simp [errW_none, errW_some] <;> rfl) | (simp [*, errW_none, errW_some] <;> rfl), by repeat (first | (with_reducible first | exact HB.out | apply xa | apply xn | apply xd | refine xs ?_ GE152.out | refine xs ?_ GE159.out) | exact HB.out)⟩
                 ·replace c83 := Bool.eq_false_iff.mpr c83
                  subst c83
                  have H1 : (if ((rd_T101 l0_0 x43_3).f0) ≤ (l0_1.length : Int) then (if 0 ≤ (wrap64 (((rd_T101 l0_0 x43_3).f0) - 1)) then (if (wrap64 (((rd_T101 l0_0 x43_3).f0) - 1)) < (l0_1.length : Int) then ((spec_l17Many.f ((rd_T99 l0_1 (wrap64 (((rd_T101 l0_0 x43_3).f0) - 1))).f0)).bind fun bt166 => (if ((rd_T101 l0_0 x43_3).f1) ≥ bt166.1 then (some false) else ((spec_l17Long.f ((rd_T99 l0_1 (wrap64 (((rd_T101 l0_0 x43_3).f0) - 1))).f0) ((rd_T99 l0_1 (wrap64 (((rd_T101 l0_0 x43_3).f0) - 1))).f1)).bind fun t168 => (if (((rd_T101 l0_0 x43_3).f2).size : Int) = t168 then (spec_GoodShelf.l1 kj68 l0_0 (l0_0.length : Int) (wrap64 (x43_3 + 1)) l0_0 l0_1) else (some false))))) else (none)) else (none)) else (spec_GoodShelf.l1 kj68 l0_0 (l0_0.length : Int) (wrap64 (x43_3 + 1)) l0_0 l0_1)) = some r := by rw [if_neg (show ¬ (false = true) by decide)] at H; exact H
                  clear H
                  have H := H1
                  clear H1
                  by_cases c84 : ((rd_T101 l0_0 x43_3).f0) ≤ (l0_1.length : Int)
                  ·rw [if_pos c84] at H
                   have c84b0 : decide (((rd_T101 l0_0 x43_3).f0) ≤ (l0_1.length : Int)) = true := decide_eq_true c84
                   clear c84
                   obtain ⟨ji85, hji85⟩ : ∃ j_ : Int, (wrap64 (((rd_T101 l0_0 x43_3).f0) - 1)) = j_ := ⟨_, rfl⟩
                   replace H : (if 0 ≤ (ji85) then (if (ji85) < (l0_1.length : Int) then ((spec_l17Many.f ((rd_T99 l0_1 (ji85)).f0)).bind fun bt166 => (if ((rd_T101 l0_0 x43_3).f1) ≥ bt166.1 then (some false) else ((spec_l17Long.f ((rd_T99 l0_1 (ji85)).f0) ((rd_T99 l0_1 (ji85)).f1)).bind fun t168 => (if (((rd_T101 l0_0 x43_3).f2).size : Int) = t168 then (spec_GoodShelf.l1 kj68 l0_0 (l0_0.length : Int) (wrap64 (x43_3 + 1)) l0_0 l0_1) else (some false))))) else (none)) else (none)) = some r := by first | (rw [hji85] at H; exact H) | (simp only [hji85] at H ⊢; exact H)
                   have hji85w : (IntKind.i64.wrap (((rd_T101 l0_0 x43_3).f0) - 1)) = ji85 := (i64_w _).trans hji85
                   by_cases c86 : 0 ≤ (ji85)
                   ·rw [if_pos c86] at H
                    have c86b0 : decide (0 ≤ (ji85)) = true := decide_eq_true c86
                    clear c86
                    by_cases c87 : (ji85) < (l0_1.length : Int)
                    ·rw [if_pos c87] at H
                     have c87b0 : decide ((ji85) < (l0_1.length : Int)) = true := decide_eq_true c87
                     clear c87
                     replace H := Option.bind_eq_some_iff.mp H
                     obtain ⟨⟨t166, t167⟩, A880, H⟩ := H
                     replace H : (if ((rd_T101 l0_0 x43_3).f1) ≥ t166 then (some false) else ((spec_l17Long.f ((rd_T99 l0_1 (ji85)).f0) ((rd_T99 l0_1 (ji85)).f1)).bind fun t168 => (if (((rd_T101 l0_0 x43_3).f2).size : Int) = t168 then (spec_GoodShelf.l1 kj68 l0_0 (l0_0.length : Int) (wrap64 (x43_3 + 1)) l0_0 l0_1) else (some false)))) = some r := H
                     have A88 := Aside0.mk A880
                     clear A880
                     by_cases c89 : ((rd_T101 l0_0 x43_3).f1) ≥ t166
                     ·rw [if_pos c89] at H
                      have c89b0 : decide (t166 ≤ ((rd_T101 l0_0 x43_3).f1)) = true := decide_eq_true c89
                      clear c89
                      obtain rfl := Option.some.inj H
                      have hnb90 := NB159_152.out
                      have hnc90 := NB152_159.out
                      have hcz91_0 : wc.cell? ⟨gb159, 0, none⟩ = some (.int .i64 ((rd_T101 l0_0 x43_3).f0)) := (blk_cell BK159.out 0).trans rfl
                      have hcz91_1 : wc.cell? ⟨gb159, 1, none⟩ = some (.int .i64 ((rd_T101 l0_0 x43_3).f1)) := (blk_cell BK159.out 1).trans rfl
                      have hcz91_2 : wc.cell? ⟨gb159, 2, none⟩ = some (.string ((rd_T101 l0_0 x43_3).f2)) := (blk_cell BK159.out 2).trans rfl
                      have hfz91_0 := blk_frozen BK159.out 0
                      have hfz91_1 := blk_frozen BK159.out 1
                      have hfz91_2 := blk_frozen BK159.out 2
                      have hcz92_0 : wc.cell? ⟨gb152, 0, none⟩ = some (.slice (some ad158) l0_0.length c0_0) := (blk_cell BK152.out 0).trans rfl
                      have hcz92_1 : wc.cell? ⟨gb152, 1, none⟩ = some (.slice A0_1 l0_1.length c0_1) := (blk_cell BK152.out 1).trans rfl
                      have hfz92_0 := blk_frozen BK152.out 0
                      have hfz92_1 := blk_frozen BK152.out 1
                      have p164 : 0 ≤ ((ji85) : Int) := of_decide_eq_true (by first | (with_reducible assumption) | assumption)
                      have q164 : (ji85) < (l0_1.length : Int) := of_decide_eq_true (by first | (with_reducible assumption) | assumption)
                      obtain ⟨ad164, e164, hx164_0, hx164_1⟩ := at_T99 HR0_1.out (ji85) p164 q164
                      cases e164
                      replace hx164_0 := (HB.out.cell (World.block_lt_of_cell? w _ hx164_0)).trans hx164_0
                      replace hx164_1 := (HB.out.cell (World.block_lt_of_cell? w _ hx164_1)).trans hx164_1
                      replace p164 := eq_true p164
                      replace q164 := eq_true q164
                      go_wp2_with (first | ((with_reducible refine gate_dst (N := 8) rfl ?_); (try (refine gate_guard (by rfl) ?_; dsimp only)); refine box_event ?hg (N := 8) ?hd (cs := #[.int .i64 0, .int .i64 0]) (t := 99) ?hr ?_; (case hd => rfl); (case hg => rfl); (case hr => first | (go_simp; done) | (go_simp; rfl)); intro gb165 hg w93 hbox hb; have BK165 := xM (hbox); have GW165 := xM ((by rw [hg]; exact (below_size (yh HB)) : w.heap.size ≤ gb165)); have GE165 := xM ((by rw [hg]; exact (below_size (yh HB)) : w.heap.size ≤ gb165)); have NB152_165 := xM ((by rw [hg]; exact Nat.ne_of_lt (blk_lt (yb BK152)) : gb152 ≠ gb165)); have NB165_152 := xM ((by rw [hg]; exact Nat.ne_of_gt (blk_lt (yb BK152)) : gb165 ≠ gb152)); have NB159_165 := xM ((by rw [hg]; exact Nat.ne_of_lt (blk_lt (yb BK159)) : gb159 ≠ gb165)); have NB165_159 := xM ((by rw [hg]; exact Nat.ne_of_gt (blk_lt (yb BK159)) : gb165 ≠ gb159)); replace BK152 := xM (xB (yb BK152) hb); replace BK159 := xM (xB (yb BK159) hb); replace HB := xM (below_step (yh HB) hb); clear hb hbox hg; have hnb94 := NB165_152.out; have hnc94 := NB152_165.out; have hnb95 := NB165_159.out; have hnc95 := NB159_165.out; have hcz96_0 : w93.cell? ⟨gb165, 0, none⟩ = some (.int .i64 0) := (blk_cell BK165.out 0).trans rfl; have hcz96_1 : w93.cell? ⟨gb165, 1, none⟩ = some (.int .i64 0) := (blk_cell BK165.out 1).trans rfl; have hfz96_0 := blk_frozen BK165.out 0; have hfz96_1 := blk_frozen BK165.out 1) | (go_at_call 82; (with_reducible refine (spec_l17Many.calls ((rd_T99 l0_1 (ji85)).f0) t166 t167 _ A88.out).mono ?_); rintro e w' ⟨rfl, ⟨nd, rfl⟩⟩; (try first | exact ⟨rfl, _, World.drewN_drewN _ _ _⟩ | exact ⟨rfl, _, Eq.trans (World.drewN_drewN _ _ _) (congrArg (World.drewN _) (Nat.add_assoc _ _ _))⟩); have hcz97_0 : w93.cell? ⟨gb159, 0, none⟩ = some (.int .i64 ((rd_T101 l0_0 x43_3).f0)) := (blk_cell BK159.out 0).trans rfl; have hcz97_1 : w93.cell? ⟨gb159, 1, none⟩ = some (.int .i64 ((rd_T101 l0_0 x43_3).f1)) := (blk_cell BK159.out 1).trans rfl; have hcz97_2 : w93.cell? ⟨gb159, 2, none⟩ = some (.string ((rd_T101 l0_0 x43_3).f2)) := (blk_cell BK159.out 2).trans rfl; have hfz97_0 := blk_frozen BK159.out 0; have hfz97_1 := blk_frozen BK159.out 1; have hfz97_2 := blk_frozen BK159.out 2))
                      repeat (go_quiet (first | ((with_reducible refine gate_dst (N := 8) rfl ?_); (try (refine gate_guard (by rfl) ?_; dsimp only)); refine box_event ?hg (N := 8) ?hd (cs := #[.int .i64 0, .int .i64 0]) (t := 99) ?hr ?_; (case hd => rfl); (case hg => rfl); (case hr => first | (go_simp; done) | (go_simp; rfl)); intro gb165 hg w93 hbox hb; have BK165 := xM (hbox); have GW165 := xM ((by rw [hg]; exact (below_size (yh HB)) : w.heap.size ≤ gb165)); have GE165 := xM ((by rw [hg]; exact (below_size (yh HB)) : w.heap.size ≤ gb165)); have NB152_165 := xM ((by rw [hg]; exact Nat.ne_of_lt (blk_lt (yb BK152)) : gb152 ≠ gb165)); have NB165_152 := xM ((by rw [hg]; exact Nat.ne_of_gt (blk_lt (yb BK152)) : gb165 ≠ gb152)); have NB159_165 := xM ((by rw [hg]; exact Nat.ne_of_lt (blk_lt (yb BK159)) : gb159 ≠ gb165)); have NB165_159 := xM ((by rw [hg]; exact Nat.ne_of_gt (blk_lt (yb BK159)) : gb165 ≠ gb159)); replace BK152 := xM (xB (yb BK152) hb); replace BK159 := xM (xB (yb BK159) hb); replace HB := xM (below_step (yh HB) hb); clear hb hbox hg; have hnb94 := NB165_152.out; have hnc94 := NB152_165.out; have hnb95 := NB165_159.out; have hnc95 := NB159_165.out; have hcz96_0 : w93.cell? ⟨gb165, 0, none⟩ = some (.int .i64 0) := (blk_cell BK165.out 0).trans rfl; have hcz96_1 : w93.cell? ⟨gb165, 1, none⟩ = some (.int .i64 0) := (blk_cell BK165.out 1).trans rfl; have hfz96_0 := blk_frozen BK165.out 0; have hfz96_1 := blk_frozen BK165.out 1) | (go_at_call 82; (with_reducible refine (spec_l17Many.calls ((rd_T99 l0_1 (ji85)).f0) t166 t167 _ A88.out).mono ?_); rintro e w' ⟨rfl, ⟨nd, rfl⟩⟩; (try first | exact ⟨rfl, _, World.drewN_drewN _ _ _⟩ | exact ⟨rfl, _, Eq.trans (World.drewN_drewN _ _ _) (congrArg (World.drewN _) (Nat.add_assoc _ _ _))⟩); have hcz97_0 : w93.cell? ⟨gb159, 0, none⟩ = some (.int .i64 ((rd_T101 l0_0 x43_3).f0)) := (blk_cell BK159.out 0).trans rfl; have hcz97_1 : w93.cell? ⟨gb159, 1, none⟩ = some (.int .i64 ((rd_T101 l0_0 x43_3).f1)) := (blk_cell BK159.out 1).trans rfl; have hcz97_2 : w93.cell? ⟨gb159, 2, none⟩ = some (.string ((rd_T101 l0_0 x43_3).f2)) := (blk_cell BK159.out 2).trans rfl; have hfz97_0 := blk_frozen BK159.out 0; have hfz97_1 := blk_frozen BK159.out 1; have hfz97_2 := blk_frozen BK159.out 2)); try go_wp2_with (first | ((with_reducible refine gate_dst (N := 8) rfl ?_); (try (refine gate_guard (by rfl) ?_; dsimp only)); refine box_event ?hg (N := 8) ?hd (cs := #[.int .i64 0, .int .i64 0]) (t := 99) ?hr ?_; (case hd => rfl); (case hg => rfl); (case hr => first | (go_simp; done) | (go_simp; rfl)); intro gb165 hg w93 hbox hb; have BK165 := xM (hbox); have GW165 := xM ((by rw [hg]; exact (below_size (yh HB)) : w.heap.size ≤ gb165)); have GE165 := xM ((by rw [hg]; exact (below_size (yh HB)) : w.heap.size ≤ gb165)); have NB152_165 := xM ((by rw [hg]; exact Nat.ne_of_lt (blk_lt (yb BK152)) : gb152 ≠ gb165)); have NB165_152 := xM ((by rw [hg]; exact Nat.ne_of_gt (blk_lt (yb BK152)) : gb165 ≠ gb152)); have NB159_165 := xM ((by rw [hg]; exact Nat.ne_of_lt (blk_lt (yb BK159)) : gb159 ≠ gb165)); have NB165_159 := xM ((by rw [hg]; exact Nat.ne_of_gt (blk_lt (yb BK159)) : gb165 ≠ gb159)); replace BK152 := xM (xB (yb BK152) hb); replace BK159 := xM (xB (yb BK159) hb); replace HB := xM (below_step (yh HB) hb); clear hb hbox hg; have hnb94 := NB165_152.out; have hnc94 := NB152_165.out; have hnb95 := NB165_159.out; have hnc95 := NB159_165.out; have hcz96_0 : w93.cell? ⟨gb165, 0, none⟩ = some (.int .i64 0) := (blk_cell BK165.out 0).trans rfl; have hcz96_1 : w93.cell? ⟨gb165, 1, none⟩ = some (.int .i64 0) := (blk_cell BK165.out 1).trans rfl; have hfz96_0 := blk_frozen BK165.out 0; have hfz96_1 := blk_frozen BK165.out 1) | (go_at_call 82; (with_reducible refine (spec_l17Many.calls ((rd_T99 l0_1 (ji85)).f0) t166 t167 _ A88.out).mono ?_); rintro e w' ⟨rfl, ⟨nd, rfl⟩⟩; (try first | exact ⟨rfl, _, World.drewN_drewN _ _ _⟩ | exact ⟨rfl, _, Eq.trans (World.drewN_drewN _ _ _) (congrArg (World.drewN _) (Nat.add_assoc _ _ _))⟩); have hcz97_0 : w93.cell? ⟨gb159, 0, none⟩ = some (.int .i64 ((rd_T101 l0_0 x43_3).f0)) := (blk_cell BK159.out 0).trans rfl; have hcz97_1 : w93.cell? ⟨gb159, 1, none⟩ = some (.int .i64 ((rd_T101 l0_0 x43_3).f1)) := (blk_cell BK159.out 1).trans rfl; have hcz97_2 : w93.cell? ⟨gb159, 2, none⟩ = some (.string ((rd_T101 l0_0 x43_3).f2)) := (blk_cell BK159.out 2).trans rfl; have hfz97_0 := blk_frozen BK159.out 0; have hfz97_1 := blk_frozen BK159.out 1; have hfz97_2 := blk_frozen BK159.out 2)))
                      go_ret
                      exact ⟨by first | rfl | (simp [errW_none, errW_some] <;> rfl) | (simp only [← hji85]; first | rfl | (simp [errW_none, errW_some] <;> rfl)) | (simp [*, errW_none, errW_some] <;> rfl), by repeat (first | (with_reducible first | exact HB.out | apply xa | apply xn | apply xd | refine xs ?_ GE152.out | refine xs ?_ GE159.out | refine xs ?_ GE165.out) | exact HB.out)⟩
                     ·rw [if_neg c89] at H
                      have c89b0 : decide (t166 ≤ ((rd_T101 l0_0 x43_3).f1)) = false := decide_eq_false c89
                      clear c89
                      replace H := Option.bind_eq_some_iff.mp H
                      obtain ⟨t168, A980, H⟩ := H
                      replace H : (if (((rd_T101 l0_0 x43_3).f2).size : Int) = t168 then (spec_GoodShelf.l1 kj68 l0_0 (l0_0.length : Int) (wrap64 (x43_3 + 1)) l0_0 l0_1) else (some false)) = some r := H
                      have A98 := Aside0.mk A980
                      clear A980
                      by_cases c99 : (((rd_T101 l0_0 x43_3).f2).size : Int) = t168
                      ·rw [if_pos c99] at H
                       have c99b0 : ((((rd_T101 l0_0 x43_3).f2).size : Int) == t168) = true := beq_iff_eq.mpr c99
                       have c99b1 : ((((rd_T101 l0_0 x43_3).f2).size : Int) != t168) = false := bne_eq_false_iff_eq.mpr c99
                       clear c99
                       have H' := Aside0.mk H
                       clear H
                       have hnb100 := NB159_152.out
                       have hnc100 := NB152_159.out
                       have hcz101_0 : wc.cell? ⟨gb159, 0, none⟩ = some (.int .i64 ((rd_T101 l0_0 x43_3).f0)) := (blk_cell BK159.out 0).trans rfl
                       have hcz101_1 : wc.cell? ⟨gb159, 1, none⟩ = some (.int .i64 ((rd_T101 l0_0 x43_3).f1)) := (blk_cell BK159.out 1).trans rfl
                       have hcz101_2 : wc.cell? ⟨gb159, 2, none⟩ = some (.string ((rd_T101 l0_0 x43_3).f2)) := (blk_cell BK159.out 2).trans rfl
                       have hfz101_0 := blk_frozen BK159.out 0
                       have hfz101_1 := blk_frozen BK159.out 1
                       have hfz101_2 := blk_frozen BK159.out 2
                       have hcz102_0 : wc.cell? ⟨gb152, 0, none⟩ = some (.slice (some ad158) l0_0.length c0_0) := (blk_cell BK152.out 0).trans rfl
                       have hcz102_1 : wc.cell? ⟨gb152, 1, none⟩ = some (.slice A0_1 l0_1.length c0_1) := (blk_cell BK152.out 1).trans rfl
                       have hfz102_0 := blk_frozen BK152.out 0
                       have hfz102_1 := blk_frozen BK152.out 1
                       have p164 : 0 ≤ ((ji85) : Int) := of_decide_eq_true (by first | (with_reducible assumption) | assumption)
                       have q164 : (ji85) < (l0_1.length : Int) := of_decide_eq_true (by first | (with_reducible assumption) | assumption)
                       obtain ⟨ad164, e164, hx164_0, hx164_1⟩ := at_T99 HR0_1.out (ji85) p164 q164
                       cases e164
                       replace hx164_0 := (HB.out.cell (World.block_lt_of_cell? w _ hx164_0)).trans hx164_0
                       replace hx164_1 := (HB.out.cell (World.block_lt_of_cell? w _ hx164_1)).trans hx164_1
                       replace p164 := eq_true p164
                       replace q164 := eq_true q164
                       go_wp2_with (first | ((with_reducible refine gate_dst (N := 8) rfl ?_); (try (refine gate_guard (by rfl) ?_; dsimp only)); refine box_event ?hg (N := 8) ?hd (cs := #[.int .i64 0, .int .i64 0]) (t := 99) ?hr ?_; (case hd => rfl); (case hg => rfl); (case hr => first | (go_simp; done) | (go_simp; rfl)); intro gb165 hg w103 hbox hb; have BK165 := xM (hbox); have GW165 := xM ((by rw [hg]; exact (below_size (yh HB)) : w.heap.size ≤ gb165)); have GE165 := xM ((by rw [hg]; exact (below_size (yh HB)) : w.heap.size ≤ gb165)); have NB152_165 := xM ((by rw [hg]; exact Nat.ne_of_lt (blk_lt (yb BK152)) : gb152 ≠ gb165)); have NB165_152 := xM ((by rw [hg]; exact Nat.ne_of_gt (blk_lt (yb BK152)) : gb165 ≠ gb152)); have NB159_165 := xM ((by rw [hg]; exact Nat.ne_of_lt (blk_lt (yb BK159)) : gb159 ≠ gb165)); have NB165_159 := xM ((by rw [hg]; exact Nat.ne_of_gt (blk_lt (yb BK159)) : gb165 ≠ gb159)); replace BK152 := xM (xB (yb BK152) hb); replace BK159 := xM (xB (yb BK159) hb); replace HB := xM (below_step (yh HB) hb); clear hb hbox hg; have hnb104 := NB165_152.out; have hnc104 := NB152_165.out; have hnb105 := NB165_159.out; have hnc105 := NB159_165.out; have hcz106_0 : w103.cell? ⟨gb165, 0, none⟩ = some (.int .i64 0) := (blk_cell BK165.out 0).trans rfl; have hcz106_1 : w103.cell? ⟨gb165, 1, none⟩ = some (.int .i64 0) := (blk_cell BK165.out 1).trans rfl; have hfz106_0 := blk_frozen BK165.out 0; have hfz106_1 := blk_frozen BK165.out 1) | (go_at_call 82; (with_reducible refine (spec_l17Many.calls ((rd_T99 l0_1 (ji85)).f0) t166 t167 _ A88.out).mono ?_); rintro e w' ⟨rfl, ⟨nd, rfl⟩⟩; (try first | exact ⟨rfl, _, World.drewN_drewN _ _ _⟩ | exact ⟨rfl, _, Eq.trans (World.drewN_drewN _ _ _) (congrArg (World.drewN _) (Nat.add_assoc _ _ _))⟩); have hcz107_0 : w103.cell? ⟨gb159, 0, none⟩ = some (.int .i64 ((rd_T101 l0_0 x43_3).f0)) := (blk_cell BK159.out 0).trans rfl; have hcz107_1 : w103.cell? ⟨gb159, 1, none⟩ = some (.int .i64 ((rd_T101 l0_0 x43_3).f1)) := (blk_cell BK159.out 1).trans rfl; have hcz107_2 : w103.cell? ⟨gb159, 2, none⟩ = some (.string ((rd_T101 l0_0 x43_3).f2)) := (blk_cell BK159.out 2).trans rfl; have hfz107_0 := blk_frozen BK159.out 0; have hfz107_1 := blk_frozen BK159.out 1; have hfz107_2 := blk_frozen BK159.out 2) | (go_at_call 83; (with_reducible refine (spec_l17Long.calls ((rd_T99 l0_1 (ji85)).f0) ((rd_T99 l0_1 (ji85)).f1) t168 _ A98.out).mono ?_); rintro e w' ⟨rfl, ⟨nd, rfl⟩⟩; (try first | exact ⟨rfl, _, World.drewN_drewN _ _ _⟩ | exact ⟨rfl, _, Eq.trans (World.drewN_drewN _ _ _) (congrArg (World.drewN _) (Nat.add_assoc _ _ _))⟩)))
                       repeat (go_quiet (first | ((with_reducible refine gate_dst (N := 8) rfl ?_); (try (refine gate_guard (by rfl) ?_; dsimp only)); refine box_event ?hg (N := 8) ?hd (cs := #[.int .i64 0, .int .i64 0]) (t := 99) ?hr ?_; (case hd => rfl); (case hg => rfl); (case hr => first | (go_simp; done) | (go_simp; rfl)); intro gb165 hg w103 hbox hb; have BK165 := xM (hbox); have GW165 := xM ((by rw [hg]; exact (below_size (yh HB)) : w.heap.size ≤ gb165)); have GE165 := xM ((by rw [hg]; exact (below_size (yh HB)) : w.heap.size ≤ gb165)); have NB152_165 := xM ((by rw [hg]; exact Nat.ne_of_lt (blk_lt (yb BK152)) : gb152 ≠ gb165)); have NB165_152 := xM ((by rw [hg]; exact Nat.ne_of_gt (blk_lt (yb BK152)) : gb165 ≠ gb152)); have NB159_165 := xM ((by rw [hg]; exact Nat.ne_of_lt (blk_lt (yb BK159)) : gb159 ≠ gb165)); have NB165_159 := xM ((by rw [hg]; exact Nat.ne_of_gt (blk_lt (yb BK159)) : gb165 ≠ gb159)); replace BK152 := xM (xB (yb BK152) hb); replace BK159 := xM (xB (yb BK159) hb); replace HB := xM (below_step (yh HB) hb); clear hb hbox hg; have hnb104 := NB165_152.out; have hnc104 := NB152_165.out; have hnb105 := NB165_159.out; have hnc105 := NB159_165.out; have hcz106_0 : w103.cell? ⟨gb165, 0, none⟩ = some (.int .i64 0) := (blk_cell BK165.out 0).trans rfl; have hcz106_1 : w103.cell? ⟨gb165, 1, none⟩ = some (.int .i64 0) := (blk_cell BK165.out 1).trans rfl; have hfz106_0 := blk_frozen BK165.out 0; have hfz106_1 := blk_frozen BK165.out 1) | (go_at_call 82; (with_reducible refine (spec_l17Many.calls ((rd_T99 l0_1 (ji85)).f0) t166 t167 _ A88.out).mono ?_); rintro e w' ⟨rfl, ⟨nd, rfl⟩⟩; (try first | exact ⟨rfl, _, World.drewN_drewN _ _ _⟩ | exact ⟨rfl, _, Eq.trans (World.drewN_drewN _ _ _) (congrArg (World.drewN _) (Nat.add_assoc _ _ _))⟩); have hcz107_0 : w103.cell? ⟨gb159, 0, none⟩ = some (.int .i64 ((rd_T101 l0_0 x43_3).f0)) := (blk_cell BK159.out 0).trans rfl; have hcz107_1 : w103.cell? ⟨gb159, 1, none⟩ = some (.int .i64 ((rd_T101 l0_0 x43_3).f1)) := (blk_cell BK159.out 1).trans rfl; have hcz107_2 : w103.cell? ⟨gb159, 2, none⟩ = some (.string ((rd_T101 l0_0 x43_3).f2)) := (blk_cell BK159.out 2).trans rfl; have hfz107_0 := blk_frozen BK159.out 0; have hfz107_1 := blk_frozen BK159.out 1; have hfz107_2 := blk_frozen BK159.out 2) | (go_at_call 83; (with_reducible refine (spec_l17Long.calls ((rd_T99 l0_1 (ji85)).f0) ((rd_T99 l0_1 (ji85)).f1) t168 _ A98.out).mono ?_); rintro e w' ⟨rfl, ⟨nd, rfl⟩⟩; (try first | exact ⟨rfl, _, World.drewN_drewN _ _ _⟩ | exact ⟨rfl, _, Eq.trans (World.drewN_drewN _ _ _) (congrArg (World.drewN _) (Nat.add_assoc _ _ _))⟩))); try go_wp2_with (first | ((with_reducible refine gate_dst (N := 8) rfl ?_); (try (refine gate_guard (by rfl) ?_; dsimp only)); refine box_event ?hg (N := 8) ?hd (cs := #[.int .i64 0, .int .i64 0]) (t := 99) ?hr ?_; (case hd => rfl); (case hg => rfl); (case hr => first | (go_simp; done) | (go_simp; rfl)); intro gb165 hg w103 hbox hb; have BK165 := xM (hbox); have GW165 := xM ((by rw [hg]; exact (below_size (yh HB)) : w.heap.size ≤ gb165)); have GE165 := xM ((by rw [hg]; exact (below_size (yh HB)) : w.heap.size ≤ gb165)); have NB152_165 := xM ((by rw [hg]; exact Nat.ne_of_lt (blk_lt (yb BK152)) : gb152 ≠ gb165)); have NB165_152 := xM ((by rw [hg]; exact Nat.ne_of_gt (blk_lt (yb BK152)) : gb165 ≠ gb152)); have NB159_165 := xM ((by rw [hg]; exact Nat.ne_of_lt (blk_lt (yb BK159)) : gb159 ≠ gb165)); have NB165_159 := xM ((by rw [hg]; exact Nat.ne_of_gt (blk_lt (yb BK159)) : gb165 ≠ gb159)); replace BK152 := xM (xB (yb BK152) hb); replace BK159 := xM (xB (yb BK159) hb); replace HB := xM (below_step (yh HB) hb); clear hb hbox hg; have hnb104 := NB165_152.out; have hnc104 := NB152_165.out; have hnb105 := NB165_159.out; have hnc105 := NB159_165.out; have hcz106_0 : w103.cell? ⟨gb165, 0, none⟩ = some (.int .i64 0) := (blk_cell BK165.out 0).trans rfl; have hcz106_1 : w103.cell? ⟨gb165, 1, none⟩ = some (.int .i64 0) := (blk_cell BK165.out 1).trans rfl; have hfz106_0 := blk_frozen BK165.out 0; have hfz106_1 := blk_frozen BK165.out 1) | (go_at_call 82; (with_reducible refine (spec_l17Many.calls ((rd_T99 l0_1 (ji85)).f0) t166 t167 _ A88.out).mono ?_); rintro e w' ⟨rfl, ⟨nd, rfl⟩⟩; (try first | exact ⟨rfl, _, World.drewN_drewN _ _ _⟩ | exact ⟨rfl, _, Eq.trans (World.drewN_drewN _ _ _) (congrArg (World.drewN _) (Nat.add_assoc _ _ _))⟩); have hcz107_0 : w103.cell? ⟨gb159, 0, none⟩ = some (.int .i64 ((rd_T101 l0_0 x43_3).f0)) := (blk_cell BK159.out 0).trans rfl; have hcz107_1 : w103.cell? ⟨gb159, 1, none⟩ = some (.int .i64 ((rd_T101 l0_0 x43_3).f1)) := (blk_cell BK159.out 1).trans rfl; have hcz107_2 : w103.cell? ⟨gb159, 2, none⟩ = some (.string ((rd_T101 l0_0 x43_3).f2)) := (blk_cell BK159.out 2).trans rfl; have hfz107_0 := blk_frozen BK159.out 0; have hfz107_1 := blk_frozen BK159.out 1; have hfz107_2 := blk_frozen BK159.out 2) | (go_at_call 83; (with_reducible refine (spec_l17Long.calls ((rd_T99 l0_1 (ji85)).f0) ((rd_T99 l0_1 (ji85)).f1) t168 _ A98.out).mono ?_); rintro e w' ⟨rfl, ⟨nd, rfl⟩⟩; (try first | exact ⟨rfl, _, World.drewN_drewN _ _ _⟩ | exact ⟨rfl, _, Eq.trans (World.drewN_drewN _ _ _) (congrArg (World.drewN _) (Nat.add_assoc _ _ _))⟩))))
                       go_roundg kj68
                       case measure => have := HJ1.out; have := HK2.out; have := HK3.out; have := HJ29.out; have := HJ68.out; omega
                       case rel => exact ⟨(wrap64 (x43_3 + 1)), (by first | rfl | (simp; done) | (simp [*]; done)), H', ⟨by have := HJ1.out; have := HK2.out; have := HK3.out; have := HJ29.out; have := HJ68.out; omega⟩, ⟨by (with_reducible repeat (first | apply xbN | apply xbD | apply xbA)); refine blk_far ?_ NB152_165.out _; (with_reducible repeat (first | apply xbN | apply xbD | apply xbA)); refine blk_far ?_ NB152_165.out _; (with_reducible repeat (first | apply xbN | apply xbD | apply xbA)); exact BK152.out⟩, ⟨yh HB⟩⟩
                      ·rw [if_neg c99] at H
                       have c99b0 : ((((rd_T101 l0_0 x43_3).f2).size : Int) == t168) = false := beq_eq_false_iff_ne.mpr c99
                       have c99b1 : ((((rd_T101 l0_0 x43_3).f2).size : Int) != t168) = true := bne_iff_ne.mpr c99
                       obtain rfl := Option.some.inj H
                       have hnb108 := NB159_152.out
                       have hnc108 := NB152_159.out
                       have hcz109_0 : wc.cell? ⟨gb159, 0, none⟩ = some (.int .i64 ((rd_T101 l0_0 x43_3).f0)) := (blk_cell BK159.out 0).trans rfl
                       have hcz109_1 : wc.cell? ⟨gb159, 1, none⟩ = some (.int .i64 ((rd_T101 l0_0 x43_3).f1)) := (blk_cell BK159.out 1).trans rfl
                       have hcz109_2 : wc.cell? ⟨gb159, 2, none⟩ = some (.string ((rd_T101 l0_0 x43_3).f2)) := (blk_cell BK159.out 2).trans rfl
                       have hfz109_0 := blk_frozen BK159.out 0
                       have hfz109_1 := blk_frozen BK159.out 1
                       have hfz109_2 := blk_frozen BK159.out 2
                       have hcz110_0 : wc.cell? ⟨gb152, 0, none⟩ = some (.slice (some ad158) l0_0.length c0_0) := (blk_cell BK152.out 0).trans rfl
                       have hcz110_1 : wc.cell? ⟨gb152, 1, none⟩ = some (.slice A0_1 l0_1.length c0_1) := (blk_cell BK152.out 1).trans rfl
                       have hfz110_0 := blk_frozen BK152.out 0
                       have hfz110_1 := blk_frozen BK152.out 1
                       have p164 : 0 ≤ ((ji85) : Int) := of_decide_eq_true (by first | (with_reducible assumption) | assumption)
                       have q164 : (ji85) < (l0_1.length : Int) := of_decide_eq_true (by first | (with_reducible assumption) | assumption)
                       obtain ⟨ad164, e164, hx164_0, hx164_1⟩ := at_T99 HR0_1.out (ji85) p164 q164
                       cases e164
                       replace hx164_0 := (HB.out.cell (World.block_lt_of_cell? w _ hx164_0)).trans hx164_0
                       replace hx164_1 := (HB.out.cell (World.block_lt_of_cell? w _ hx164_1)).trans hx164_1
                       replace p164 := eq_true p164
                       replace q164 := eq_true q164
                       go_wp2_with (first | ((with_reducible refine gate_dst (N := 8) rfl ?_); (try (refine gate_guard (by rfl) ?_; dsimp only)); refine box_event ?hg (N := 8) ?hd (cs := #[.int .i64 0, .int .i64 0]) (t := 99) ?hr ?_; (case hd => rfl); (case hg => rfl); (case hr => first | (go_simp; done) | (go_simp; rfl)); intro gb165 hg w111 hbox hb; have BK165 := xM (hbox); have GW165 := xM ((by rw [hg]; exact (below_size (yh HB)) : w.heap.size ≤ gb165)); have GE165 := xM ((by rw [hg]; exact (below_size (yh HB)) : w.heap.size ≤ gb165)); have NB152_165 := xM ((by rw [hg]; exact Nat.ne_of_lt (blk_lt (yb BK152)) : gb152 ≠ gb165)); have NB165_152 := xM ((by rw [hg]; exact Nat.ne_of_gt (blk_lt (yb BK152)) : gb165 ≠ gb152)); have NB159_165 := xM ((by rw [hg]; exact Nat.ne_of_lt (blk_lt (yb BK159)) : gb159 ≠ gb165)); have NB165_159 := xM ((by rw [hg]; exact Nat.ne_of_gt (blk_lt (yb BK159)) : gb165 ≠ gb159)); replace BK152 := xM (xB (yb BK152) hb); replace BK159 := xM (xB (yb BK159) hb); replace HB := xM (below_step (yh HB) hb); clear hb hbox hg; have hnb112 := NB165_152.out; have hnc112 := NB152_165.out; have hnb113 := NB165_159.out; have hnc113 := NB159_165.out; have hcz114_0 : w111.cell? ⟨gb165, 0, none⟩ = some (.int .i64 0) := (blk_cell BK165.out 0).trans rfl; have hcz114_1 : w111.cell? ⟨gb165, 1, none⟩ = some (.int .i64 0) := (blk_cell BK165.out 1).trans rfl; have hfz114_0 := blk_frozen BK165.out 0; have hfz114_1 := blk_frozen BK165.out 1) | (go_at_call 82; (with_reducible refine (spec_l17Many.calls ((rd_T99 l0_1 (ji85)).f0) t166 t167 _ A88.out).mono ?_); rintro e w' ⟨rfl, ⟨nd, rfl⟩⟩; (try first | exact ⟨rfl, _, World.drewN_drewN _ _ _⟩ | exact ⟨rfl, _, Eq.trans (World.drewN_drewN _ _ _) (congrArg (World.drewN _) (Nat.add_assoc _ _ _))⟩); have hcz115_0 : w111.cell? ⟨gb159, 0, none⟩ = some (.int .i64 ((rd_T101 l0_0 x43_3).f0)) := (blk_cell BK159.out 0).trans rfl; have hcz115_1 : w111.cell? ⟨gb159, 1, none⟩ = some (.int .i64 ((rd_T101 l0_0 x43_3).f1)) := (blk_cell BK159.out 1).trans rfl; have hcz115_2 : w111.cell? ⟨gb159, 2, none⟩ = some (.string ((rd_T101 l0_0 x43_3).f2)) := (blk_cell BK159.out 2).trans rfl; have hfz115_0 := blk_frozen BK159.out 0; have hfz115_1 := blk_frozen BK159.out 1; have hfz115_2 := blk_frozen BK159.out 2) | (go_at_call 83; (with_reducible refine (spec_l17Long.calls ((rd_T99 l0_1 (ji85)).f0) ((rd_T99 l0_1 (ji85)).f1) t168 _ A98.out).mono ?_); rintro e w' ⟨rfl, ⟨nd, rfl⟩⟩; (try first | exact ⟨rfl, _, World.drewN_drewN _ _ _⟩ | exact ⟨rfl, _, Eq.trans (World.drewN_drewN _ _ _) (congrArg (World.drewN _) (Nat.add_assoc _ _ _))⟩)))
                       repeat (go_quiet (first | ((with_reducible refine gate_dst (N := 8) rfl ?_); (try (refine gate_guard (by rfl) ?_; dsimp only)); refine box_event ?hg (N := 8) ?hd (cs := #[.int .i64 0, .int .i64 0]) (t := 99) ?hr ?_; (case hd => rfl); (case hg => rfl); (case hr => first | (go_simp; done) | (go_simp; rfl)); intro gb165 hg w111 hbox hb; have BK165 := xM (hbox); have GW165 := xM ((by rw [hg]; exact (below_size (yh HB)) : w.heap.size ≤ gb165)); have GE165 := xM ((by rw [hg]; exact (below_size (yh HB)) : w.heap.size ≤ gb165)); have NB152_165 := xM ((by rw [hg]; exact Nat.ne_of_lt (blk_lt (yb BK152)) : gb152 ≠ gb165)); have NB165_152 := xM ((by rw [hg]; exact Nat.ne_of_gt (blk_lt (yb BK152)) : gb165 ≠ gb152)); have NB159_165 := xM ((by rw [hg]; exact Nat.ne_of_lt (blk_lt (yb BK159)) : gb159 ≠ gb165)); have NB165_159 := xM ((by rw [hg]; exact Nat.ne_of_gt (blk_lt (yb BK159)) : gb165 ≠ gb159)); replace BK152 := xM (xB (yb BK152) hb); replace BK159 := xM (xB (yb BK159) hb); replace HB := xM (below_step (yh HB) hb); clear hb hbox hg; have hnb112 := NB165_152.out; have hnc112 := NB152_165.out; have hnb113 := NB165_159.out; have hnc113 := NB159_165.out; have hcz114_0 : w111.cell? ⟨gb165, 0, none⟩ = some (.int .i64 0) := (blk_cell BK165.out 0).trans rfl; have hcz114_1 : w111.cell? ⟨gb165, 1, none⟩ = some (.int .i64 0) := (blk_cell BK165.out 1).trans rfl; have hfz114_0 := blk_frozen BK165.out 0; have hfz114_1 := blk_frozen BK165.out 1) | (go_at_call 82; (with_reducible refine (spec_l17Many.calls ((rd_T99 l0_1 (ji85)).f0) t166 t167 _ A88.out).mono ?_); rintro e w' ⟨rfl, ⟨nd, rfl⟩⟩; (try first | exact ⟨rfl, _, World.drewN_drewN _ _ _⟩ | exact ⟨rfl, _, Eq.trans (World.drewN_drewN _ _ _) (congrArg (World.drewN _) (Nat.add_assoc _ _ _))⟩); have hcz115_0 : w111.cell? ⟨gb159, 0, none⟩ = some (.int .i64 ((rd_T101 l0_0 x43_3).f0)) := (blk_cell BK159.out 0).trans rfl; have hcz115_1 : w111.cell? ⟨gb159, 1, none⟩ = some (.int .i64 ((rd_T101 l0_0 x43_3).f1)) := (blk_cell BK159.out 1).trans rfl; have hcz115_2 : w111.cell? ⟨gb159, 2, none⟩ = some (.string ((rd_T101 l0_0 x43_3).f2)) := (blk_cell BK159.out 2).trans rfl; have hfz115_0 := blk_frozen BK159.out 0; have hfz115_1 := blk_frozen BK159.out 1; have hfz115_2 := blk_frozen BK159.out 2) | (go_at_call 83; (with_reducible refine (spec_l17Long.calls ((rd_T99 l0_1 (ji85)).f0) ((rd_T99 l0_1 (ji85)).f1) t168 _ A98.out).mono ?_); rintro e w' ⟨rfl, ⟨nd, rfl⟩⟩; (try first | exact ⟨rfl, _, World.drewN_drewN _ _ _⟩ | exact ⟨rfl, _, Eq.trans (World.drewN_drewN _ _ _) (congrArg (World.drewN _) (Nat.add_assoc _ _ _))⟩))); try go_wp2_with (first | ((with_reducible refine gate_dst (N := 8) rfl ?_); (try (refine gate_guard (by rfl) ?_; dsimp only)); refine box_event ?hg (N := 8) ?hd (cs := #[.int .i64 0, .int .i64 0]) (t := 99) ?hr ?_; (case hd => rfl); (case hg => rfl); (case hr => first | (go_simp; done) | (go_simp; rfl)); intro gb165 hg w111 hbox hb; have BK165 := xM (hbox); have GW165 := xM ((by rw [hg]; exact (below_size (yh HB)) : w.heap.size ≤ gb165)); have GE165 := xM ((by rw [hg]; exact (below_size (yh HB)) : w.heap.size ≤ gb165)); have NB152_165 := xM ((by rw [hg]; exact Nat.ne_of_lt (blk_lt (yb BK152)) : gb152 ≠ gb165)); have NB165_152 := xM ((by rw [hg]; exact Nat.ne_of_gt (blk_lt (yb BK152)) : gb165 ≠ gb152)); have NB159_165 := xM ((by rw [hg]; exact Nat.ne_of_lt (blk_lt (yb BK159)) : gb159 ≠ gb165)); have NB165_159 := xM ((by rw [hg]; exact Nat.ne_of_gt (blk_lt (yb BK159)) : gb165 ≠ gb159)); replace BK152 := xM (xB (yb BK152) hb); replace BK159 := xM (xB (yb BK159) hb); replace HB := xM (below_step (yh HB) hb); clear hb hbox hg; have hnb112 := NB165_152.out; have hnc112 := NB152_165.out; have hnb113 := NB165_159.out; have hnc113 := NB159_165.out; have hcz114_0 : w111.cell? ⟨gb165, 0, none⟩ = some (.int .i64 0) := (blk_cell BK165.out 0).trans rfl; have hcz114_1 : w111.cell? ⟨gb165, 1, none⟩ = some (.int .i64 0) := (blk_cell BK165.out 1).trans rfl; have hfz114_0 := blk_frozen BK165.out 0; have hfz114_1 := blk_frozen BK165.out 1) | (go_at_call 82; (with_reducible refine (spec_l17Many.calls ((rd_T99 l0_1 (ji85)).f0) t166 t167 _ A88.out).mono ?_); rintro e w' ⟨rfl, ⟨nd, rfl⟩⟩; (try first | exact ⟨rfl, _, World.drewN_drewN _ _ _⟩ | exact ⟨rfl, _, Eq.trans (World.drewN_drewN _ _ _) (congrArg (World.drewN _) (Nat.add_assoc _ _ _))⟩); have hcz115_0 : w111.cell? ⟨gb159, 0, none⟩ = some (.int .i64 ((rd_T101 l0_0 x43_3).f0)) := (blk_cell BK159.out 0).trans rfl; have hcz115_1 : w111.cell? ⟨gb159, 1, none⟩ = some (.int .i64 ((rd_T101 l0_0 x43_3).f1)) := (blk_cell BK159.out 1).trans rfl; have hcz115_2 : w111.cell? ⟨gb159, 2, none⟩ = some (.string ((rd_T101 l0_0 x43_3).f2)) := (blk_cell BK159.out 2).trans rfl; have hfz115_0 := blk_frozen BK159.out 0; have hfz115_1 := blk_frozen BK159.out 1; have hfz115_2 := blk_frozen BK159.out 2) | (go_at_call 83; (with_reducible refine (spec_l17Long.calls ((rd_T99 l0_1 (ji85)).f0) ((rd_T99 l0_1 (ji85)).f1) t168 _ A98.out).mono ?_); rintro e w' ⟨rfl, ⟨nd, rfl⟩⟩; (try first | exact ⟨rfl, _, World.drewN_drewN _ _ _⟩ | exact ⟨rfl, _, Eq.trans (World.drewN_drewN _ _ _) (congrArg (World.drewN _) (Nat.add_assoc _ _ _))⟩))))
                       go_ret
                       exact ⟨by first | rfl | (simp [errW_none, errW_some] <;> rfl) | (simp only [← hji85]; first | rfl | (simp [errW_none, errW_some] <;> rfl)) | (simp [*, errW_none, errW_some] <;> rfl), by repeat (first | (with_reducible first | exact HB.out | apply xa | apply xn | apply xd | refine xs ?_ GE152.out | refine xs ?_ GE159.out | refine xs ?_ GE165.out) | exact HB.out)⟩
                    ·rw [if_neg c87] at H
                     exact absurd H (by simp)
                   ·rw [if_neg c86] at H
                    exact absurd H (by simp)
                  ·rw [if_neg c84] at H
                   have c84b0 : decide (((rd_T101 l0_0 x43_3).f0) ≤ (l0_1.length : Int)) = false := decide_eq_false c84
                   clear c84
                   have H' := Aside0.mk H
                   clear H
                   have hnb116 := NB159_152.out
                   have hnc116 := NB152_159.out
                   have hcz117_0 : wc.cell? ⟨gb159, 0, none⟩ = some (.int .i64 ((rd_T101 l0_0 x43_3).f0)) := (blk_cell BK159.out 0).trans rfl
                   have hcz117_1 : wc.cell? ⟨gb159, 1, none⟩ = some (.int .i64 ((rd_T101 l0_0 x43_3).f1)) := (blk_cell BK159.out 1).trans rfl
                   have hcz117_2 : wc.cell? ⟨gb159, 2, none⟩ = some (.string ((rd_T101 l0_0 x43_3).f2)) := (blk_cell BK159.out 2).trans rfl
                   have hfz117_0 := blk_frozen BK159.out 0
                   have hfz117_1 := blk_frozen BK159.out 1
                   have hfz117_2 := blk_frozen BK159.out 2
                   have hcz118_0 : wc.cell? ⟨gb152, 0, none⟩ = some (.slice (some ad158) l0_0.length c0_0) := (blk_cell BK152.out 0).trans rfl
                   have hcz118_1 : wc.cell? ⟨gb152, 1, none⟩ = some (.slice A0_1 l0_1.length c0_1) := (blk_cell BK152.out 1).trans rfl
                   have hfz118_0 := blk_frozen BK152.out 0
                   have hfz118_1 := blk_frozen BK152.out 1
                   go_wp2
                   repeat (go_quiet (fail); try go_wp2)
                   go_roundg kj68
                   case measure => have := HJ1.out; have := HK2.out; have := HK3.out; have := HJ29.out; have := HJ68.out; omega
                   case rel => exact ⟨(wrap64 (x43_3 + 1)), (by first | rfl | (simp; done) | (simp [*]; done)), H', ⟨by have := HJ1.out; have := HK2.out; have := HK3.out; have := HJ29.out; have := HJ68.out; omega⟩, ⟨by (with_reducible repeat (first | apply xbN | apply xbD | apply xbA)); exact BK152.out⟩, ⟨yh HB⟩⟩
            ·rw [if_neg c29] at H
             exact absurd H (by simp)
           ·rw [if_neg c28] at H
            exact absurd H (by simp)
          ·rw [if_neg c27] at H
           have c27b0 : decide (x43_3 < (l0_0.length : Int)) = false := decide_eq_false c27
           clear c27
           obtain rfl := Option.some.inj H
           go_wp2
           repeat (go_quiet (fail); try go_wp2)
           go_ret
           exact ⟨by first | rfl | (simp [errW_none, errW_some] <;> rfl) | (simp [*, errW_none, errW_some] <;> rfl), by repeat (first | (with_reducible first | exact HB.out | apply xa | apply xn | apply xd | refine xs ?_ GE152.out) | exact HB.out)⟩

end Go.Proofs.Ytppgkkejddjacaa.PFnExactTierOf

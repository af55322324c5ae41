-- This text was written by the session's own program wip/tools/xprint.py, over the kit's print; Lean checks it.
import Derived.Test.YtppgkkejddjacaaPFnExactGoodShelfx0
import Derived.Test.YtppgkkejddjacaaPFnExactGoodShelfx1
namespace Go.Proofs.Ytppgkkejddjacaa.PFnExactGoodShelf
open Go.RowKit Go.Proofs.YtppgkkejddjacaaW.PrintWords Go.Proofs.YtppgkkejddjacaaW.PrintLast Go.Proofs.YtppgkkejddjacaaW.PrintMore
attribute [local go_sem] max2_int min2_int max_two min_two max_three min_three max_four min_four   -- for this text's walks alone
set_option linter.unusedVariables false
set_option linter.unusedSimpArgs false

/-! ### spec_GoodShelf: function 38 -/
mutual
def spec_GoodShelf.j0 : Nat → Bool → List (S101) → List (S99) → Option (Bool)
  | 0, _, _, _ => none
  | k + 1, x21, x109000, x109001 => if x21 = true then (some false) else (spec_GoodShelf.l0 k x109001 (x109001.length : Int) 0 x109000 x109001)
def spec_GoodShelf.l0 : Nat → List (S99) → Int → Int → List (S101) → List (S99) → Option (Bool)
  | 0, _, _, _, _, _ => none
  | k + 1, x23, x24, x25, x109000, x109001 => if x25 < x24 then (if 0 ≤ x25 then (if x25 < (x23.length : Int) then ((spec_l17Tier.f ((rd_T99 x23 x25).f0)).bind fun t112 => (if t112 = true then ((spec_l1In.f ((rd_T99 x23 x25).f1) 0 60).bind fun t113 => (if t113 = true then (spec_GoodShelf.l0 k x23 x24 (wrap64 (x25 + 1)) x109000 x109001) else (some false))) else (some false))) else (none)) else (none)) else (spec_GoodShelf.l1 k x109000 (x109000.length : Int) 0 x109000 x109001)
def spec_GoodShelf.l1 : Nat → List (S101) → Int → Int → List (S101) → List (S99) → Option (Bool)
  | 0, _, _, _, _, _ => none
  | k + 1, x41, x42, x43, x109000, x109001 => if x43 < x42 then (if 0 ≤ x43 then (if x43 < (x41.length : Int) then (if x43 > 0 then (if 0 ≤ (wrap64 (x43 - 1)) then (if (wrap64 (x43 - 1)) < (x109000.length : Int) then (if ((rd_T101 x109000 (wrap64 (x43 - 1))).f0) > ((rd_T101 x41 x43).f0) then (some false) else (if ((rd_T101 x109000 (wrap64 (x43 - 1))).f0) = ((rd_T101 x41 x43).f0) then (if ((rd_T101 x109000 (wrap64 (x43 - 1))).f1) ≥ ((rd_T101 x41 x43).f1) then (some false) else (spec_GoodShelf.j3 k x41 x42 x43 x109000 x109001 ((rd_T101 x41 x43).f0) ((rd_T101 x41 x43).f1) ((rd_T101 x41 x43).f2))) else (spec_GoodShelf.j3 k x41 x42 x43 x109000 x109001 ((rd_T101 x41 x43).f0) ((rd_T101 x41 x43).f1) ((rd_T101 x41 x43).f2)))) else (none)) else (none)) else (spec_GoodShelf.j3 k x41 x42 x43 x109000 x109001 ((rd_T101 x41 x43).f0) ((rd_T101 x41 x43).f1) ((rd_T101 x41 x43).f2))) else (none)) else (none)) else (some true)
def spec_GoodShelf.j3 : Nat → List (S101) → Int → Int → List (S101) → List (S99) → Int → Int → ByteArray → Option (Bool)
  | 0, _, _, _, _, _, _, _, _ => none
  | k + 1, x41, x42, x43, x109000, x109001, x116000, x116001, x116002 => (spec_l1In.f x116000 1 (wrap64 ((x109001.length : Int) + 1))).bind fun t118 => (if t118 = true then ((spec_l1In.f x116001 0 4).bind fun t119 => (if t119 = true then (spec_GoodShelf.j4 k x41 x42 x43 (decide ((x116002.size : Int) > 60)) x109000 x109001 x116000 x116001 x116002) else (spec_GoodShelf.j4 k x41 x42 x43 true x109000 x109001 x116000 x116001 x116002))) else (spec_GoodShelf.j4 k x41 x42 x43 true x109000 x109001 x116000 x116001 x116002))
def spec_GoodShelf.j4 : Nat → List (S101) → Int → Int → Bool → List (S101) → List (S99) → Int → Int → ByteArray → Option (Bool)
  | 0, _, _, _, _, _, _, _, _, _ => none
  | k + 1, x41, x42, x43, x94, x109000, x109001, x116000, x116001, x116002 => if x94 = true then (some false) else (if x116000 ≤ (x109001.length : Int) then (if 0 ≤ (wrap64 (x116000 - 1)) then (if (wrap64 (x116000 - 1)) < (x109001.length : Int) then ((spec_l17Many.f ((rd_T99 x109001 (wrap64 (x116000 - 1))).f0)).bind fun bt122 => (if x116001 ≥ bt122.1 then (some false) else ((spec_l17Long.f ((rd_T99 x109001 (wrap64 (x116000 - 1))).f0) ((rd_T99 x109001 (wrap64 (x116000 - 1))).f1)).bind fun t124 => (if (x116002.size : Int) = t124 then (spec_GoodShelf.l1 k x41 x42 (wrap64 (x43 + 1)) x109000 x109001) else (some false))))) else (none)) else (none)) else (spec_GoodShelf.l1 k x41 x42 (wrap64 (x43 + 1)) x109000 x109001))
end
def spec_GoodShelf.f (k : Nat) (l0_0 : List (S101)) (l0_1 : List (S99)) : Option (Bool) := if (l0_0.length : Int) > 40 then (spec_GoodShelf.j0 k true l0_0 l0_1) else ((spec_l1In.f (l0_1.length : Int) 1 60).bind fun t109 => (spec_GoodShelf.j0 k (!t109) l0_0 l0_1))
theorem spec_GoodShelf.mono_l : ∀ k, (∀ y0 y1 y2, LeO (spec_GoodShelf.j0 k y0 y1 y2) (spec_GoodShelf.j0 (k + 1) y0 y1 y2)) ∧ (∀ y0 y1 y2 y3 y4, LeO (spec_GoodShelf.l0 k y0 y1 y2 y3 y4) (spec_GoodShelf.l0 (k + 1) y0 y1 y2 y3 y4)) ∧ (∀ y0 y1 y2 y3 y4, LeO (spec_GoodShelf.l1 k y0 y1 y2 y3 y4) (spec_GoodShelf.l1 (k + 1) y0 y1 y2 y3 y4)) ∧ (∀ y0 y1 y2 y3 y4 y5 y6 y7, LeO (spec_GoodShelf.j3 k y0 y1 y2 y3 y4 y5 y6 y7) (spec_GoodShelf.j3 (k + 1) y0 y1 y2 y3 y4 y5 y6 y7)) ∧ (∀ y0 y1 y2 y3 y4 y5 y6 y7 y8, LeO (spec_GoodShelf.j4 k y0 y1 y2 y3 y4 y5 y6 y7 y8) (spec_GoodShelf.j4 (k + 1) y0 y1 y2 y3 y4 y5 y6 y7 y8))
  | 0 => ⟨fun _ _ _ r h => by simp [spec_GoodShelf.j0] at h, fun _ _ _ _ _ r h => by simp [spec_GoodShelf.l0] at h, fun _ _ _ _ _ r h => by simp [spec_GoodShelf.l1] at h, fun _ _ _ _ _ _ _ _ r h => by simp [spec_GoodShelf.j3] at h, fun _ _ _ _ _ _ _ _ _ r h => by simp [spec_GoodShelf.j4] at h⟩
  | k + 1 => by
   obtain ⟨ih0, ih1, ih2, ih3, ih4⟩ := spec_GoodShelf.mono_l k
   refine ⟨?_, ?_, ?_, ?_, ?_⟩
   ·intro y0 y1 y2
    unfold spec_GoodShelf.j0
    repeat' first
    | (with_reducible exact ih0 _ _ _)
    | (with_reducible exact ih1 _ _ _ _ _)
    | (with_reducible exact ih2 _ _ _ _ _)
    | (with_reducible exact ih3 _ _ _ _ _ _ _ _)
    | (with_reducible exact ih4 _ _ _ _ _ _ _ _ _)
    | (with_reducible exact LeO.refl _)
    | (with_reducible exact LeO.none _)
    | (with_reducible refine LeO.ite ?_ ?_)
    | (with_reducible refine LeO.bind ?_ (fun _ => ?_))
    | exact ih0 _ _ _
    | exact ih1 _ _ _ _ _
    | exact ih2 _ _ _ _ _
    | exact ih3 _ _ _ _ _ _ _ _
    | exact ih4 _ _ _ _ _ _ _ _ _
    | exact LeO.none _
    | refine LeO.ite ?_ ?_
    | refine LeO.bind ?_ (fun _ => ?_)
   ·intro y0 y1 y2 y3 y4
    unfold spec_GoodShelf.l0
    repeat' first
    | (with_reducible exact ih0 _ _ _)
    | (with_reducible exact ih1 _ _ _ _ _)
    | (with_reducible exact ih2 _ _ _ _ _)
    | (with_reducible exact ih3 _ _ _ _ _ _ _ _)
    | (with_reducible exact ih4 _ _ _ _ _ _ _ _ _)
    | (with_reducible exact LeO.refl _)
    | (with_reducible exact LeO.none _)
    | (with_reducible refine LeO.ite ?_ ?_)
    | (with_reducible refine LeO.bind ?_ (fun _ => ?_))
    | exact ih0 _ _ _
    | exact ih1 _ _ _ _ _
    | exact ih2 _ _ _ _ _
    | exact ih3 _ _ _ _ _ _ _ _
    | exact ih4 _ _ _ _ _ _ _ _ _
    | exact LeO.none _
    | refine LeO.ite ?_ ?_
    | refine LeO.bind ?_ (fun _ => ?_)
   ·intro y0 y1 y2 y3 y4
    unfold spec_GoodShelf.l1
    repeat' first
    | (with_reducible exact ih0 _ _ _)
    | (with_reducible exact ih1 _ _ _ _ _)
    | (with_reducible exact ih2 _ _ _ _ _)
    | (with_reducible exact ih3 _ _ _ _ _ _ _ _)
    | (with_reducible exact ih4 _ _ _ _ _ _ _ _ _)
    | (with_reducible exact LeO.refl _)
    | (with_reducible exact LeO.none _)
    | (with_reducible refine LeO.ite ?_ ?_)
    | (with_reducible refine LeO.bind ?_ (fun _ => ?_))
    | exact ih0 _ _ _
    | exact ih1 _ _ _ _ _
    | exact ih2 _ _ _ _ _
    | exact ih3 _ _ _ _ _ _ _ _
    | exact ih4 _ _ _ _ _ _ _ _ _
    | exact LeO.none _
    | refine LeO.ite ?_ ?_
    | refine LeO.bind ?_ (fun _ => ?_)
   ·intro y0 y1 y2 y3 y4 y5 y6 y7
    unfold spec_GoodShelf.j3
    repeat' first
    | (with_reducible exact ih0 _ _ _)
    | (with_reducible exact ih1 _ _ _ _ _)
    | (with_reducible exact ih2 _ _ _ _ _)
    | (with_reducible exact ih3 _ _ _ _ _ _ _ _)
    | (with_reducible exact ih4 _ _ _ _ _ _ _ _ _)
    | (with_reducible exact LeO.refl _)
    | (with_reducible exact LeO.none _)
    | (with_reducible refine LeO.ite ?_ ?_)
    | (with_reducible refine LeO.bind ?_ (fun _ => ?_))
    | exact ih0 _ _ _
    | exact ih1 _ _ _ _ _
    | exact ih2 _ _ _ _ _
    | exact ih3 _ _ _ _ _ _ _ _
    | exact ih4 _ _ _ _ _ _ _ _ _
    | exact LeO.none _
    | refine LeO.ite ?_ ?_
    | refine LeO.bind ?_ (fun _ => ?_)
   ·intro y0 y1 y2 y3 y4 y5 y6 y7 y8
    unfold spec_GoodShelf.j4
    repeat' first
    | (with_reducible exact ih0 _ _ _)
    | (with_reducible exact ih1 _ _ _ _ _)
    | (with_reducible exact ih2 _ _ _ _ _)
    | (with_reducible exact ih3 _ _ _ _ _ _ _ _)
    | (with_reducible exact ih4 _ _ _ _ _ _ _ _ _)
    | (with_reducible exact LeO.refl _)
    | (with_reducible exact LeO.none _)
    | (with_reducible refine LeO.ite ?_ ?_)
    | (with_reducible refine LeO.bind ?_ (fun _ => ?_))
    | exact ih0 _ _ _
    | exact ih1 _ _ _ _ _
    | exact ih2 _ _ _ _ _
    | exact ih3 _ _ _ _ _ _ _ _
    | exact ih4 _ _ _ _ _ _ _ _ _
    | exact LeO.none _
    | refine LeO.ite ?_ ?_
    | refine LeO.bind ?_ (fun _ => ?_)
theorem spec_GoodShelf.mono : ∀ a0 a1 k, LeO (spec_GoodShelf.f k a0 a1) (spec_GoodShelf.f (k + 1) a0 a1) := by
  intro a0 a1 k
  obtain ⟨ih0, ih1, ih2, ih3, ih4⟩ := spec_GoodShelf.mono_l k
  unfold spec_GoodShelf.f
  repeat' first
    | (with_reducible exact ih0 _ _ _)
    | (with_reducible exact ih1 _ _ _ _ _)
    | (with_reducible exact ih2 _ _ _ _ _)
    | (with_reducible exact ih3 _ _ _ _ _ _ _ _)
    | (with_reducible exact ih4 _ _ _ _ _ _ _ _ _)
    | (with_reducible exact LeO.refl _)
    | (with_reducible exact LeO.none _)
    | (with_reducible refine LeO.ite ?_ ?_)
    | (with_reducible refine LeO.bind ?_ (fun _ => ?_))
    | exact ih0 _ _ _
    | exact ih1 _ _ _ _ _
    | exact ih2 _ _ _ _ _
    | exact ih3 _ _ _ _ _ _ _ _
    | exact ih4 _ _ _ _ _ _ _ _ _
    | exact LeO.none _
    | refine LeO.ite ?_ ?_
    | refine LeO.bind ?_ (fun _ => ?_)
set_option maxHeartbeats 8000000 in
set_option maxRecDepth 100000 in
theorem spec_GoodShelf.calls (k : Nat) (A0_0 : Option Addr) (c0_0 : Nat) (l0_0 : List (S101)) (A0_1 : Option Addr) (c0_1 : Nat) (l0_1 : List (S99)) (r : Bool) (w : World) (hr0_0 : Kd.C k101 w A0_0 l0_0.length l0_0) (hc0_0 : l0_0.length ≤ c0_0) (hr0_1 : Kd.C k99 w A0_1 l0_1.length l0_1) (hc0_1 : l0_1.length ≤ c0_1) (h : spec_GoodShelf.f k l0_0 l0_1 = some r) :
   Calls Try.prog 38 #[.agg #[.slice A0_0 l0_0.length c0_0, .slice A0_1 l0_1.length c0_1]] w fun e w' => e = .returned (.bool r) ∧ Below w.heap.size w w' := by
  have hu64 := Try.underlying64
  have hu99 := Try.underlying99
  have hu101 := Try.underlying101
  have HR0_0 := Aside0.mk hr0_0
  have HC0_0 := Aside0.mk hc0_0
  clear hr0_0 hc0_0
  have HR0_1 := Aside0.mk hr0_1
  have HC0_1 := Aside0.mk hc0_1
  clear hr0_1 hc0_1
  have HB := xM (Below.refl w.heap.size w)
  have H : (if (l0_0.length : Int) > 40 then (spec_GoodShelf.j0 k true l0_0 l0_1) else ((spec_l1In.f (l0_1.length : Int) 1 60).bind fun t109 => (spec_GoodShelf.j0 k (!t109) l0_0 l0_1))) = some r := h
  clear h
  have HC2 := Aside0.mk H
  clear H
  go_enter Try.func38, Try.ntmps38
  go_upto_region 1 with (first | ((with_reducible refine gate_dst (N := 1) rfl ?_); (try (refine gate_guard (by rfl) ?_; dsimp only)); refine box_event ?hg (N := 1) ?hd (cs := #[.slice A0_0 l0_0.length c0_0, .slice A0_1 l0_1.length c0_1]) (t := 64) ?hr ?_; (case hd => rfl); (case hg => rfl); (case hr => first | (go_simp; done) | (go_simp; rfl)); intro gb108 hg w3 hbox hb; have BK108 := xM (hbox); have GW108 := xM ((by rw [hg]; exact (below_size (yh HB)) : w.heap.size ≤ gb108)); have GE108 := xM ((by rw [hg]; exact (below_size (yh HB)) : w.heap.size ≤ gb108)); replace HB := xM (below_step (yh HB) hb); clear hb hbox hg))
  repeat (go_quiet (first | ((with_reducible refine gate_dst (N := 1) rfl ?_); (try (refine gate_guard (by rfl) ?_; dsimp only)); refine box_event ?hg (N := 1) ?hd (cs := #[.slice A0_0 l0_0.length c0_0, .slice A0_1 l0_1.length c0_1]) (t := 64) ?hr ?_; (case hd => rfl); (case hg => rfl); (case hr => first | (go_simp; done) | (go_simp; rfl)); intro gb108 hg w3 hbox hb; have BK108 := xM (hbox); have GW108 := xM ((by rw [hg]; exact (below_size (yh HB)) : w.heap.size ≤ gb108)); have GE108 := xM ((by rw [hg]; exact (below_size (yh HB)) : w.heap.size ≤ gb108)); replace HB := xM (below_step (yh HB) hb); clear hb hbox hg)); go_upto_region 1 with (first | ((with_reducible refine gate_dst (N := 1) rfl ?_); (try (refine gate_guard (by rfl) ?_; dsimp only)); refine box_event ?hg (N := 1) ?hd (cs := #[.slice A0_0 l0_0.length c0_0, .slice A0_1 l0_1.length c0_1]) (t := 64) ?hr ?_; (case hd => rfl); (case hg => rfl); (case hr => first | (go_simp; done) | (go_simp; rfl)); intro gb108 hg w3 hbox hb; have BK108 := xM (hbox); have GW108 := xM ((by rw [hg]; exact (below_size (yh HB)) : w.heap.size ≤ gb108)); have GE108 := xM ((by rw [hg]; exact (below_size (yh HB)) : w.heap.size ≤ gb108)); replace HB := xM (below_step (yh HB) hb); clear hb hbox hg)))
  (try simp only [Act.put, List.setIfInBounds_toArray, List.set_cons_zero, List.set_cons_succ])
  go_cut [21] (fun v21 wc => ∃ (kq : Nat) (x21_1 : Bool), v21 = .bool x21_1 ∧ Aside0 (spec_GoodShelf.j0 kq x21_1 l0_0 l0_1 = some r) ∧ Aside0 (kq ≤ k) ∧ Aside0 (wc.heap[gb108]? = some (.cells #[(.slice A0_0 l0_0.length c0_0), (.slice A0_1 l0_1.length c0_1)] 64 (0, 0))) ∧ Aside0 (Below w.heap.size w wc))
  case first =>
   have H := HC2.out
   clear HC2
   by_cases c4 : (l0_0.length : Int) > 40
   ·rw [if_pos c4] at H
    have c4b0 : decide (40 < (l0_0.length : Int)) = true := decide_eq_true c4
    have c4b1 : decide (40 < l0_0.length) = true := decide_eq_true (by omega)
    clear c4
    (first | rw [c4b0] | (simp only [i64_w, i32_w]; rw [c4b0]) | skip)
    have H' := Aside0.mk H
    clear H
    have hcz5_0 : w3.cell? ⟨gb108, 0, none⟩ = some (.slice A0_0 l0_0.length c0_0) := (blk_cell BK108.out 0).trans rfl
    have hcz5_1 : w3.cell? ⟨gb108, 1, none⟩ = some (.slice A0_1 l0_1.length c0_1) := (blk_cell BK108.out 1).trans rfl
    have hfz5_0 := blk_frozen BK108.out 0
    have hfz5_1 := blk_frozen BK108.out 1
    go_wp2
    repeat (go_quiet (fail); try go_wp2)
    go_meet
    case rel => exact ⟨_, (true), (by first | rfl | (simp; done) | (simp [*]; done)), H', ⟨by first | omega | exact Nat.le_refl _⟩, ⟨by (with_reducible repeat (first | apply xbN | apply xbD | apply xbA)); exact BK108.out⟩, ⟨yh HB⟩⟩
   ·rw [if_neg c4] at H
    have c4b0 : decide (40 < (l0_0.length : Int)) = false := decide_eq_false c4
    have c4b1 : decide (40 < l0_0.length) = false := decide_eq_false (by omega)
    clear c4
    (first | rw [c4b0] | (simp only [i64_w, i32_w]; rw [c4b0]) | skip)
    replace H := Option.bind_eq_some_iff.mp H
    obtain ⟨t109, A60, H⟩ := H
    replace H : (spec_GoodShelf.j0 k (!t109) l0_0 l0_1) = some r := H
    have A6 := Aside0.mk A60
    clear A60
    have H' := Aside0.mk H
    clear H
    have hcz7_0 : w3.cell? ⟨gb108, 0, none⟩ = some (.slice A0_0 l0_0.length c0_0) := (blk_cell BK108.out 0).trans rfl
    have hcz7_1 : w3.cell? ⟨gb108, 1, none⟩ = some (.slice A0_1 l0_1.length c0_1) := (blk_cell BK108.out 1).trans rfl
    have hfz7_0 := blk_frozen BK108.out 0
    have hfz7_1 := blk_frozen BK108.out 1
    go_wp2_with (first | (go_at_call 54; (with_reducible refine (spec_l1In.calls (l0_1.length : Int) 1 60 t109 _ A6.out).mono ?_); rintro e w' ⟨rfl, ⟨nd, rfl⟩⟩; (try first | exact ⟨rfl, _, World.drewN_drewN _ _ _⟩ | exact ⟨rfl, _, Eq.trans (World.drewN_drewN _ _ _) (congrArg (World.drewN _) (Nat.add_assoc _ _ _))⟩)))
    repeat (go_quiet (first | (go_at_call 54; (with_reducible refine (spec_l1In.calls (l0_1.length : Int) 1 60 t109 _ A6.out).mono ?_); rintro e w' ⟨rfl, ⟨nd, rfl⟩⟩; (try first | exact ⟨rfl, _, World.drewN_drewN _ _ _⟩ | exact ⟨rfl, _, Eq.trans (World.drewN_drewN _ _ _) (congrArg (World.drewN _) (Nat.add_assoc _ _ _))⟩))); try go_wp2_with (first | (go_at_call 54; (with_reducible refine (spec_l1In.calls (l0_1.length : Int) 1 60 t109 _ A6.out).mono ?_); rintro e w' ⟨rfl, ⟨nd, rfl⟩⟩; (try first | exact ⟨rfl, _, World.drewN_drewN _ _ _⟩ | exact ⟨rfl, _, Eq.trans (World.drewN_drewN _ _ _) (congrArg (World.drewN _) (Nat.add_assoc _ _ _))⟩))))
    go_meet
    case rel => exact ⟨_, (!t109), (by first | rfl | (simp; done) | (simp [*]; done)), H', ⟨by first | omega | exact Nat.le_refl _⟩, ⟨by (with_reducible repeat (first | apply xbN | apply xbD | apply xbA)); exact BK108.out⟩, ⟨yh HB⟩⟩
  case rest =>
   clear HC2
   try clear p2
   try clear c3
   try clear c4
   try clear c4b0
   try clear c4b1
   try clear hcz5_0
   try clear hcz5_1
   try clear hcz7_0
   try clear hcz7_1
   try clear hfz5_0
   try clear hfz5_1
   try clear hfz7_0
   try clear hfz7_1
   obtain ⟨kq, x21_1, rfl, HA, HJ1, BK108, HB⟩ := hcut
   cases kq with
   | zero => exact absurd HA.out (by simp [spec_GoodShelf.j0])
   | succ kj1 =>
    have H := HA.out
    clear HA
    simp only [spec_GoodShelf.j0] at H
    by_cases c8 : x21_1 = true
    ·subst c8
     have H1 : (some false) = some r := by rw [if_pos rfl] at H; exact H
     clear H
     have H := H1
     clear H1
     obtain rfl := Option.some.inj H
     go_wp2
     repeat (go_quiet (fail); try go_wp2)
     go_ret
     exact ⟨by first | rfl | (simp [errW_none, errW_some] <;> rfl) | (simp [*, errW_none, errW_some] <;> rfl), by repeat (first | (with_reducible first | exact HB.out | apply xa | apply xn | apply xd | refine xs ?_ GE108.out) | exact HB.out)⟩
    ·replace c8 := Bool.eq_false_iff.mpr c8
     subst c8
     have H1 : (spec_GoodShelf.l0 kj1 l0_1 (l0_1.length : Int) 0 l0_0 l0_1) = some r := by rw [if_neg (show ¬ (false = true) by decide)] at H; exact H
     clear H
     have H := H1
     clear H1
     have H' := Aside0.mk H
     clear H
     have hcz9_0 : wc.cell? ⟨gb108, 0, none⟩ = some (.slice A0_0 l0_0.length c0_0) := (blk_cell BK108.out 0).trans rfl
     have hcz9_1 : wc.cell? ⟨gb108, 1, none⟩ = some (.slice A0_1 l0_1.length c0_1) := (blk_cell BK108.out 1).trans rfl
     have hfz9_0 := blk_frozen BK108.out 0
     have hfz9_1 := blk_frozen BK108.out 1
     go_wp2
     repeat (go_quiet (fail); try go_wp2)
     go_loopg [25] kj1 (fun kq v25 w' => ∃ (x25_2 : Int), v25 = .int .i64 x25_2 ∧ Aside0 (spec_GoodShelf.l0 kq l0_1 (l0_1.length : Int) x25_2 l0_0 l0_1 = some r) ∧ Aside0 (kq ≤ kj1) ∧ Aside0 (w'.heap[gb108]? = some (.cells #[(.slice A0_0 l0_0.length c0_0), (.slice A0_1 l0_1.length c0_1)] 64 (0, 0))) ∧ Aside0 (Below w.heap.size w w'))
     case atStart => exact ⟨(0), (by first | rfl | (simp; done) | (simp [*]; done)), H', ⟨Nat.le_refl _⟩, ⟨by (with_reducible repeat (first | apply xbN | apply xbD | apply xbA)); exact BK108.out⟩, ⟨yh HB⟩⟩
     case round =>
      clear H'
      try clear p2
      try clear c3
      try clear c4
      try clear c4b0
      try clear c4b1
      try clear c8
      try clear hcz5_0
      try clear hcz5_1
      try clear hcz7_0
      try clear hcz7_1
      try clear hcz9_0
      try clear hcz9_1
      try clear hfz5_0
      try clear hfz5_1
      try clear hfz7_0
      try clear hfz7_1
      try clear hfz9_0
      try clear hfz9_1
      try clear p2
      obtain ⟨x25_2, rfl, HA, HK2, BK108, HB⟩ := hrel
      cases gk with
      | zero => exact absurd HA.out (by simp [spec_GoodShelf.l0])
      | succ k2 =>
       have H := HA.out
       clear HA
       simp only [spec_GoodShelf.l0] at H
       by_cases c10 : x25_2 < (l0_1.length : Int)
       ·rw [if_pos c10] at H
        have c10b0 : decide (x25_2 < (l0_1.length : Int)) = true := decide_eq_true c10
        clear c10
        by_cases c11 : 0 ≤ x25_2
        ·rw [if_pos c11] at H
         have c11b0 : decide (0 ≤ x25_2) = true := decide_eq_true c11
         clear c11
         by_cases c12 : x25_2 < (l0_1.length : Int)
         ·rw [if_pos c12] at H
          have c12b0 : decide (x25_2 < (l0_1.length : Int)) = true := decide_eq_true c12
          clear c12
          replace H := Option.bind_eq_some_iff.mp H
          obtain ⟨t112, A130, H⟩ := H
          replace H : (if t112 = true then ((spec_l1In.f ((rd_T99 l0_1 x25_2).f1) 0 60).bind fun t113 => (if t113 = true then (spec_GoodShelf.l0 k2 l0_1 (l0_1.length : Int) (wrap64 (x25_2 + 1)) l0_0 l0_1) else (some false))) else (some false)) = some r := H
          have A13 := Aside0.mk A130
          clear A130
          by_cases c14 : t112 = true
          ·subst c14
           have H1 : ((spec_l1In.f ((rd_T99 l0_1 x25_2).f1) 0 60).bind fun t113 => (if t113 = true then (spec_GoodShelf.l0 k2 l0_1 (l0_1.length : Int) (wrap64 (x25_2 + 1)) l0_0 l0_1) else (some false))) = some r := by rw [if_pos rfl] at H; exact H
           clear H
           have H := H1
           clear H1
           replace H := Option.bind_eq_some_iff.mp H
           obtain ⟨t113, A150, H⟩ := H
           replace H : (if t113 = true then (spec_GoodShelf.l0 k2 l0_1 (l0_1.length : Int) (wrap64 (x25_2 + 1)) l0_0 l0_1) else (some false)) = some r := H
           have A15 := Aside0.mk A150
           clear A150
           by_cases c16 : t113 = true
           ·subst c16
            have H1 : (spec_GoodShelf.l0 k2 l0_1 (l0_1.length : Int) (wrap64 (x25_2 + 1)) l0_0 l0_1) = some r := by rw [if_pos rfl] at H; exact H
            clear H
            have H := H1
            clear H1
            have H' := Aside0.mk H
            clear H
            have p110 : 0 ≤ (x25_2 : Int) := of_decide_eq_true (by first | (with_reducible assumption) | assumption)
            have q110 : x25_2 < (l0_1.length : Int) := of_decide_eq_true (by first | (with_reducible assumption) | assumption)
            obtain ⟨ad110, e110, hx110_0, hx110_1⟩ := at_T99 HR0_1.out x25_2 p110 q110
            cases e110
            replace hx110_0 := (HB.out.cell (World.block_lt_of_cell? w _ hx110_0)).trans hx110_0
            replace hx110_1 := (HB.out.cell (World.block_lt_of_cell? w _ hx110_1)).trans hx110_1
            replace p110 := eq_true p110
            replace q110 := eq_true q110
            go_wp2_with (first | ((with_reducible refine gate_dst (N := 4) rfl ?_); (try (refine gate_guard (by rfl) ?_; dsimp only)); refine box_event ?hg (N := 4) ?hd (cs := #[.int .i64 0, .int .i64 0]) (t := 99) ?hr ?_; (case hd => rfl); (case hg => rfl); (case hr => first | (go_simp; done) | (go_simp; rfl)); intro gb111 hg w17 hbox hb; have BK111 := xM (hbox); have GW111 := xM ((by rw [hg]; exact (below_size (yh HB)) : w.heap.size ≤ gb111)); have GE111 := xM ((by rw [hg]; exact (below_size (yh HB)) : w.heap.size ≤ gb111)); have NB108_111 := xM ((by rw [hg]; exact Nat.ne_of_lt (blk_lt (yb BK108)) : gb108 ≠ gb111)); have NB111_108 := xM ((by rw [hg]; exact Nat.ne_of_gt (blk_lt (yb BK108)) : gb111 ≠ gb108)); replace BK108 := xM (xB (yb BK108) hb); replace HB := xM (below_step (yh HB) hb); clear hb hbox hg; have hnb18 := NB111_108.out; have hnc18 := NB108_111.out; have hcz19_0 : w17.cell? ⟨gb111, 0, none⟩ = some (.int .i64 0) := (blk_cell BK111.out 0).trans rfl; have hcz19_1 : w17.cell? ⟨gb111, 1, none⟩ = some (.int .i64 0) := (blk_cell BK111.out 1).trans rfl; have hfz19_0 := blk_frozen BK111.out 0; have hfz19_1 := blk_frozen BK111.out 1) | (go_at_call 81; (with_reducible refine (spec_l17Tier.calls ((rd_T99 l0_1 x25_2).f0) true _ A13.out).mono ?_); rintro e w' ⟨rfl, ⟨nd, rfl⟩⟩; (try first | exact ⟨rfl, _, World.drewN_drewN _ _ _⟩ | exact ⟨rfl, _, Eq.trans (World.drewN_drewN _ _ _) (congrArg (World.drewN _) (Nat.add_assoc _ _ _))⟩)) | (go_at_call 54; (with_reducible refine (spec_l1In.calls ((rd_T99 l0_1 x25_2).f1) 0 60 true _ A15.out).mono ?_); rintro e w' ⟨rfl, ⟨nd, rfl⟩⟩; (try first | exact ⟨rfl, _, World.drewN_drewN _ _ _⟩ | exact ⟨rfl, _, Eq.trans (World.drewN_drewN _ _ _) (congrArg (World.drewN _) (Nat.add_assoc _ _ _))⟩)))
            repeat (go_quiet (first | ((with_reducible refine gate_dst (N := 4) rfl ?_); (try (refine gate_guard (by rfl) ?_; dsimp only)); refine box_event ?hg (N := 4) ?hd (cs := #[.int .i64 0, .int .i64 0]) (t := 99) ?hr ?_; (case hd => rfl); (case hg => rfl); (case hr => first | (go_simp; done) | (go_simp; rfl)); intro gb111 hg w17 hbox hb; have BK111 := xM (hbox); have GW111 := xM ((by rw [hg]; exact (below_size (yh HB)) : w.heap.size ≤ gb111)); have GE111 := xM ((by rw [hg]; exact (below_size (yh HB)) : w.heap.size ≤ gb111)); have NB108_111 := xM ((by rw [hg]; exact Nat.ne_of_lt (blk_lt (yb BK108)) : gb108 ≠ gb111)); have NB111_108 := xM ((by rw [hg]; exact Nat.ne_of_gt (blk_lt (yb BK108)) : gb111 ≠ gb108)); replace BK108 := xM (xB (yb BK108) hb); replace HB := xM (below_step (yh HB) hb); clear hb hbox hg; have hnb18 := NB111_108.out; have hnc18 := NB108_111.out; have hcz19_0 : w17.cell? ⟨gb111, 0, none⟩ = some (.int .i64 0) := (blk_cell BK111.out 0).trans rfl; have hcz19_1 : w17.cell? ⟨gb111, 1, none⟩ = some (.int .i64 0) := (blk_cell BK111.out 1).trans rfl; have hfz19_0 := blk_frozen BK111.out 0; have hfz19_1 := blk_frozen BK111.out 1) | (go_at_call 81; (with_reducible refine (spec_l17Tier.calls ((rd_T99 l0_1 x25_2).f0) true _ A13.out).mono ?_); rintro e w' ⟨rfl, ⟨nd, rfl⟩⟩; (try first | exact ⟨rfl, _, World.drewN_drewN _ _ _⟩ | exact ⟨rfl, _, Eq.trans (World.drewN_drewN _ _ _) (congrArg (World.drewN _) (Nat.add_assoc _ _ _))⟩)) | (go_at_call 54; (with_reducible refine (spec_l1In.calls ((rd_T99 l0_1 x25_2).f1) 0 60 true _ A15.out).mono ?_); rintro e w' ⟨rfl, ⟨nd, rfl⟩⟩; (try first | exact ⟨rfl, _, World.drewN_drewN _ _ _⟩ | exact ⟨rfl, _, Eq.trans (World.drewN_drewN _ _ _) (congrArg (World.drewN _) (Nat.add_assoc _ _ _))⟩))); try go_wp2_with (first | ((with_reducible refine gate_dst (N := 4) rfl ?_); (try (refine gate_guard (by rfl) ?_; dsimp only)); refine box_event ?hg (N := 4) ?hd (cs := #[.int .i64 0, .int .i64 0]) (t := 99) ?hr ?_; (case hd => rfl); (case hg => rfl); (case hr => first | (go_simp; done) | (go_simp; rfl)); intro gb111 hg w17 hbox hb; have BK111 := xM (hbox); have GW111 := xM ((by rw [hg]; exact (below_size (yh HB)) : w.heap.size ≤ gb111)); have GE111 := xM ((by rw [hg]; exact (below_size (yh HB)) : w.heap.size ≤ gb111)); have NB108_111 := xM ((by rw [hg]; exact Nat.ne_of_lt (blk_lt (yb BK108)) : gb108 ≠ gb111)); have NB111_108 := xM ((by rw [hg]; exact Nat.ne_of_gt (blk_lt (yb BK108)) : gb111 ≠ gb108)); replace BK108 := xM (xB (yb BK108) hb); replace HB := xM (below_step (yh HB) hb); clear hb hbox hg; have hnb18 := NB111_108.out; have hnc18 := NB108_111.out; have hcz19_0 : w17.cell? ⟨gb111, 0, none⟩ = some (.int .i64 0) := (blk_cell BK111.out 0).trans rfl; have hcz19_1 : w17.cell? ⟨gb111, 1, none⟩ = some (.int .i64 0) := (blk_cell BK111.out 1).trans rfl; have hfz19_0 := blk_frozen BK111.out 0; have hfz19_1 := blk_frozen BK111.out 1) | (go_at_call 81; (with_reducible refine (spec_l17Tier.calls ((rd_T99 l0_1 x25_2).f0) true _ A13.out).mono ?_); rintro e w' ⟨rfl, ⟨nd, rfl⟩⟩; (try first | exact ⟨rfl, _, World.drewN_drewN _ _ _⟩ | exact ⟨rfl, _, Eq.trans (World.drewN_drewN _ _ _) (congrArg (World.drewN _) (Nat.add_assoc _ _ _))⟩)) | (go_at_call 54; (with_reducible refine (spec_l1In.calls ((rd_T99 l0_1 x25_2).f1) 0 60 true _ A15.out).mono ?_); rintro e w' ⟨rfl, ⟨nd, rfl⟩⟩; (try first | exact ⟨rfl, _, World.drewN_drewN _ _ _⟩ | exact ⟨rfl, _, Eq.trans (World.drewN_drewN _ _ _) (congrArg (World.drewN _) (Nat.add_assoc _ _ _))⟩))))
            go_roundg k2
            case measure => have := HJ1.out; have := HK2.out; omega
            case rel => exact ⟨(wrap64 (x25_2 + 1)), (by first | rfl | (simp; done) | (simp [*]; done)), H', ⟨by have := HJ1.out; have := HK2.out; omega⟩, ⟨by (with_reducible repeat (first | apply xbN | apply xbD | apply xbA)); refine blk_far ?_ NB108_111.out _; (with_reducible repeat (first | apply xbN | apply xbD | apply xbA)); refine blk_far ?_ NB108_111.out _; (with_reducible repeat (first | apply xbN | apply xbD | apply xbA)); exact BK108.out⟩, ⟨yh HB⟩⟩
           ·replace c16 := Bool.eq_false_iff.mpr c16
            subst c16
            have H1 : (some false) = some r := by rw [if_neg (show ¬ (false = true) by decide)] at H; exact H
            clear H
            have H := H1
            clear H1
            obtain rfl := Option.some.inj H
            have p110 : 0 ≤ (x25_2 : Int) := of_decide_eq_true (by first | (with_reducible assumption) | assumption)
            have q110 : x25_2 < (l0_1.length : Int) := of_decide_eq_true (by first | (with_reducible assumption) | assumption)
            obtain ⟨ad110, e110, hx110_0, hx110_1⟩ := at_T99 HR0_1.out x25_2 p110 q110
            cases e110
            replace hx110_0 := (HB.out.cell (World.block_lt_of_cell? w _ hx110_0)).trans hx110_0
            replace hx110_1 := (HB.out.cell (World.block_lt_of_cell? w _ hx110_1)).trans hx110_1
            replace p110 := eq_true p110
            replace q110 := eq_true q110
            go_wp2_with (first | ((with_reducible refine gate_dst (N := 4) rfl ?_); (try (refine gate_guard (by rfl) ?_; dsimp only)); refine box_event ?hg (N := 4) ?hd (cs := #[.int .i64 0, .int .i64 0]) (t := 99) ?hr ?_; (case hd => rfl); (case hg => rfl); (case hr => first | (go_simp; done) | (go_simp; rfl)); intro gb111 hg w20 hbox hb; have BK111 := xM (hbox); have GW111 := xM ((by rw [hg]; exact (below_size (yh HB)) : w.heap.size ≤ gb111)); have GE111 := xM ((by rw [hg]; exact (below_size (yh HB)) : w.heap.size ≤ gb111)); have NB108_111 := xM ((by rw [hg]; exact Nat.ne_of_lt (blk_lt (yb BK108)) : gb108 ≠ gb111)); have NB111_108 := xM ((by rw [hg]; exact Nat.ne_of_gt (blk_lt (yb BK108)) : gb111 ≠ gb108)); replace BK108 := xM (xB (yb BK108) hb); replace HB := xM (below_step (yh HB) hb); clear hb hbox hg; have hnb21 := NB111_108.out; have hnc21 := NB108_111.out; have hcz22_0 : w20.cell? ⟨gb111, 0, none⟩ = some (.int .i64 0) := (blk_cell BK111.out 0).trans rfl; have hcz22_1 : w20.cell? ⟨gb111, 1, none⟩ = some (.int .i64 0) := (blk_cell BK111.out 1).trans rfl; have hfz22_0 := blk_frozen BK111.out 0; have hfz22_1 := blk_frozen BK111.out 1) | (go_at_call 81; (with_reducible refine (spec_l17Tier.calls ((rd_T99 l0_1 x25_2).f0) true _ A13.out).mono ?_); rintro e w' ⟨rfl, ⟨nd, rfl⟩⟩; (try first | exact ⟨rfl, _, World.drewN_drewN _ _ _⟩ | exact ⟨rfl, _, Eq.trans (World.drewN_drewN _ _ _) (congrArg (World.drewN _) (Nat.add_assoc _ _ _))⟩)) | (go_at_call 54; (with_reducible refine (spec_l1In.calls ((rd_T99 l0_1 x25_2).f1) 0 60 false _ A15.out).mono ?_); rintro e w' ⟨rfl, ⟨nd, rfl⟩⟩; (try first | exact ⟨rfl, _, World.drewN_drewN _ _ _⟩ | exact ⟨rfl, _, Eq.trans (World.drewN_drewN _ _ _) (congrArg (World.drewN _) (Nat.add_assoc _ _ _))⟩)))
            repeat (go_quiet (first | ((with_reducible refine gate_dst (N := 4) rfl ?_); (try (refine gate_guard (by rfl) ?_; dsimp only)); refine box_event ?hg (N := 4) ?hd (cs := #[.int .i64 0, .int .i64 0]) (t := 99) ?hr ?_; (case hd => rfl); (case hg => rfl); (case hr => first | (go_simp; done) | (go_simp; rfl)); intro gb111 hg w20 hbox hb; have BK111 := xM (hbox); have GW111 := xM ((by rw [hg]; exact (below_size (yh HB)) : w.heap.size ≤ gb111)); have GE111 := xM ((by rw [hg]; exact (below_size (yh HB)) : w.heap.size ≤ gb111)); have NB108_111 := xM ((by rw [hg]; exact Nat.ne_of_lt (blk_lt (yb BK108)) : gb108 ≠ gb111)); have NB111_108 := xM ((by rw [hg]; exact Nat.ne_of_gt (blk_lt (yb BK108)) : gb111 ≠ gb108)); replace BK108 := xM (xB (yb BK108) hb); replace HB := xM (below_step (yh HB) hb); clear hb hbox hg; have hnb21 := NB111_108.out; have hnc21 := NB108_111.out; have hcz22_0 : w20.cell? ⟨gb111, 0, none⟩ = some (.int .i64 0) := (blk_cell BK111.out 0).trans rfl; have hcz22_1 : w20.cell? ⟨gb111, 1, none⟩ = some (.int .i64 0) := (blk_cell BK111.out 1).trans rfl; have hfz22_0 := blk_frozen BK111.out 0; have hfz22_1 := blk_frozen BK111.out 1) | (go_at_call 81; (with_reducible refine (spec_l17Tier.calls ((rd_T99 l0_1 x25_2).f0) true _ A13.out).mono ?_); rintro e w' ⟨rfl, ⟨nd, rfl⟩⟩; (try first | exact ⟨rfl, _, World.drewN_drewN _ _ _⟩ | exact ⟨rfl, _, Eq.trans (World.drewN_drewN _ _ _) (congrArg (World.drewN _) (Nat.add_assoc _ _ _))⟩)) | (go_at_call 54; (with_reducible refine (spec_l1In.calls ((rd_T99 l0_1 x25_2).f1) 0 60 false _ A15.out).mono ?_); rintro e w' ⟨rfl, ⟨nd, rfl⟩⟩; (try first | exact ⟨rfl, _, World.drewN_drewN _ _ _⟩ | exact ⟨rfl, _, Eq.trans (World.drewN_drewN _ _ _) (congrArg (World.drewN _) (Nat.add_assoc _ _ _))⟩))); try go_wp2_with (first | ((with_reducible refine gate_dst (N := 4) rfl ?_); (try (refine gate_guard (by rfl) ?_; dsimp only)); refine box_event ?hg (N := 4) ?hd (cs := #[.int .i64 0, .int .i64 0]) (t := 99) ?hr ?_; (case hd => rfl); (case hg => rfl); (case hr => first | (go_simp; done) | (go_simp; rfl)); intro gb111 hg w20 hbox hb; have BK111 := xM (hbox); have GW111 := xM ((by rw [hg]; exact (below_size (yh HB)) : w.heap.size ≤ gb111)); have GE111 := xM ((by rw [hg]; exact (below_size (yh HB)) : w.heap.size ≤ gb111)); have NB108_111 := xM ((by rw [hg]; exact Nat.ne_of_lt (blk_lt (yb BK108)) : gb108 ≠ gb111)); have NB111_108 := xM ((by rw [hg]; exact Nat.ne_of_gt (blk_lt (yb BK108)) : gb111 ≠ gb108)); replace BK108 := xM (xB (yb BK108) hb); replace HB := xM (below_step (yh HB) hb); clear hb hbox hg; have hnb21 := NB111_108.out; have hnc21 := NB108_111.out; have hcz22_0 : w20.cell? ⟨gb111, 0, none⟩ = some (.int .i64 0) := (blk_cell BK111.out 0).trans rfl; have hcz22_1 : w20.cell? ⟨gb111, 1, none⟩ = some (.int .i64 0) := (blk_cell BK111.out 1).trans rfl; have hfz22_0 := blk_frozen BK111.out 0; have hfz22_1 := blk_frozen BK111.out 1) | (go_at_call 81; (with_reducible refine (spec_l17Tier.calls ((rd_T99 l0_1 x25_2).f0) true _ A13.out).mono ?_); rintro e w' ⟨rfl, ⟨nd, rfl⟩⟩; (try first | exact ⟨rfl, _, World.drewN_drewN _ _ _⟩ | exact ⟨rfl, _, Eq.trans (World.drewN_drewN _ _ _) (congrArg (World.drewN _) (Nat.add_assoc _ _ _))⟩)) | (go_at_call 54; (with_reducible refine (spec_l1In.calls ((rd_T99 l0_1 x25_2).f1) 0 60 false _ A15.out).mono ?_); rintro e w' ⟨rfl, ⟨nd, rfl⟩⟩; (try first | exact ⟨rfl, _, World.drewN_drewN _ _ _⟩ | exact ⟨rfl, _, Eq.trans (World.drewN_drewN _ _ _) (congrArg (World.drewN _) (Nat.add_assoc _ _ _))⟩))))
            go_ret
            exact ⟨by first | rfl | (simp [errW_none, errW_some] <;> rfl) | (simp [*, errW_none, errW_some] <;> rfl), by repeat (first | (with_reducible first | exact HB.out | apply xa | apply xn | apply xd | refine xs ?_ GE108.out | refine xs ?_ GE111.out) | exact HB.out)⟩
          ·replace c14 := Bool.eq_false_iff.mpr c14
           subst c14
           have H1 : (some false) = some r := by rw [if_neg (show ¬ (false = true) by decide)] at H; exact H
           clear H
           have H := H1
           clear H1
           obtain rfl := Option.some.inj H
           have p110 : 0 ≤ (x25_2 : Int) := of_decide_eq_true (by first | (with_reducible assumption) | assumption)
           have q110 : x25_2 < (l0_1.length : Int) := of_decide_eq_true (by first | (with_reducible assumption) | assumption)
           obtain ⟨ad110, e110, hx110_0, hx110_1⟩ := at_T99 HR0_1.out x25_2 p110 q110
           cases e110
           replace hx110_0 := (HB.out.cell (World.block_lt_of_cell? w _ hx110_0)).trans hx110_0
           replace hx110_1 := (HB.out.cell (World.block_lt_of_cell? w _ hx110_1)).trans hx110_1
           replace p110 := eq_true p110
           replace q110 := eq_true q110
           go_wp2_with (first | ((with_reducible refine gate_dst (N := 4) rfl ?_); (try (refine gate_guard (by rfl) ?_; dsimp only)); refine box_event ?hg (N := 4) ?hd (cs := #[.int .i64 0, .int .i64 0]) (t := 99) ?hr ?_; (case hd => rfl); (case hg => rfl); (case hr => first | (go_simp; done) | (go_simp; rfl)); intro gb111 hg w23 hbox hb; have BK111 := xM (hbox); have GW111 := xM ((by rw [hg]; exact (below_size (yh HB)) : w.heap.size ≤ gb111)); have GE111 := xM ((by rw [hg]; exact (below_size (yh HB)) : w.heap.size ≤ gb111)); have NB108_111 := xM ((by rw [hg]; exact Nat.ne_of_lt (blk_lt (yb BK108)) : gb108 ≠ gb111)); have NB111_108 := xM ((by rw [hg]; exact Nat.ne_of_gt (blk_lt (yb BK108)) : gb111 ≠ gb108)); replace BK108 := xM (xB (yb BK108) hb); replace HB := xM (below_step (yh HB) hb); clear hb hbox hg; have hnb24 := NB111_108.out; have hnc24 := NB108_111.out; have hcz25_0 : w23.cell? ⟨gb111, 0, none⟩ = some (.int .i64 0) := (blk_cell BK111.out 0).trans rfl; have hcz25_1 : w23.cell? ⟨gb111, 1, none⟩ = some (.int .i64 0) := (blk_cell BK111.out 1).trans rfl; have hfz25_0 := blk_frozen BK111.out 0; have hfz25_1 := blk_frozen BK111.out 1) | (go_at_call 81; (with_reducible refine (spec_l17Tier.calls ((rd_T99 l0_1 x25_2).f0) false _ A13.out).mono ?_); rintro e w' ⟨rfl, ⟨nd, rfl⟩⟩; (try first | exact ⟨rfl, _, World.drewN_drewN _ _ _⟩ | exact ⟨rfl, _, Eq.trans (World.drewN_drewN _ _ _) (congrArg (World.drewN _) (Nat.add_assoc _ _ _))⟩)))
           repeat (go_quiet (first | ((with_reducible refine gate_dst (N := 4) rfl ?_); (try (refine gate_guard (by rfl) ?_; dsimp only)); refine box_event ?hg (N := 4) ?hd (cs := #[.int .i64 0, .int .i64 0]) (t := 99) ?hr ?_; (case hd => rfl); (case hg => rfl); (case hr => first | (go_simp; done) | (go_simp; rfl)); intro gb111 hg w23 hbox hb; have BK111 := xM (hbox); have GW111 := xM ((by rw [hg]; exact (below_size (yh HB)) : w.heap.size ≤ gb111)); have GE111 := xM ((by rw [hg]; exact (below_size (yh HB)) : w.heap.size ≤ gb111)); have NB108_111 := xM ((by rw [hg]; exact Nat.ne_of_lt (blk_lt (yb BK108)) : gb108 ≠ gb111)); have NB111_108 := xM ((by rw [hg]; exact Nat.ne_of_gt (blk_lt (yb BK108)) : gb111 ≠ gb108)); replace BK108 := xM (xB (yb BK108) hb); replace HB := xM (below_step (yh HB) hb); clear hb hbox hg; have hnb24 := NB111_108.out; have hnc24 := NB108_111.out; have hcz25_0 : w23.cell? ⟨gb111, 0, none⟩ = some (.int .i64 0) := (blk_cell BK111.out 0).trans rfl; have hcz25_1 : w23.cell? ⟨gb111, 1, none⟩ = some (.int .i64 0) := (blk_cell BK111.out 1).trans rfl; have hfz25_0 := blk_frozen BK111.out 0; have hfz25_1 := blk_frozen BK111.out 1) | (go_at_call 81; (with_reducible refine (spec_l17Tier.calls ((rd_T99 l0_1 x25_2).f0) false _ A13.out).mono ?_); rintro e w' ⟨rfl, ⟨nd, rfl⟩⟩; (try first | exact ⟨rfl, _, World.drewN_drewN _ _ _⟩ | exact ⟨rfl, _, Eq.trans (World.drewN_drewN _ _ _) (congrArg (World.drewN _) (Nat.add_assoc _ _ _))⟩))); try go_wp2_with (first | ((with_reducible refine gate_dst (N := 4) rfl ?_); (try (refine gate_guard (by rfl) ?_; dsimp only)); refine box_event ?hg (N := 4) ?hd (cs := #[.int .i64 0, .int .i64 0]) (t := 99) ?hr ?_; (case hd => rfl); (case hg => rfl); (case hr => first | (go_simp; done) | (go_simp; rfl)); intro gb111 hg w23 hbox hb; have BK111 := xM (hbox); have GW111 := xM ((by rw [hg]; exact (below_size (yh HB)) : w.heap.size ≤ gb111)); have GE111 := xM ((by rw [hg]; exact (below_size (yh HB)) : w.heap.size ≤ gb111)); have NB108_111 := xM ((by rw [hg]; exact Nat.ne_of_lt (blk_lt (yb BK108)) : gb108 ≠ gb111)); have NB111_108 := xM ((by rw [hg]; exact Nat.ne_of_gt (blk_lt (yb BK108)) : gb111 ≠ gb108)); replace BK108 := xM (xB (yb BK108) hb); replace HB := xM (below_step (yh HB) hb); clear hb hbox hg; have hnb24 := NB111_108.out; have hnc24 := NB108_111.out; have hcz25_0 : w23.cell? ⟨gb111, 0, none⟩ = some (.int .i64 0) := (blk_cell BK111.out 0).trans rfl; have hcz25_1 : w23.cell? ⟨gb111, 1, none⟩ = some (.int .i64 0) := (blk_cell BK111.out 1).trans rfl; have hfz25_0 := blk_frozen BK111.out 0; have hfz25_1 := blk_frozen BK111.out 1) | (go_at_call 81; (with_reducible refine (spec_l17Tier.calls ((rd_T99 l0_1 x25_2).f0) false _ A13.out).mono ?_); rintro e w' ⟨rfl, ⟨nd, rfl⟩⟩; (try first | exact ⟨rfl, _, World.drewN_drewN _ _ _⟩ | exact ⟨rfl, _, Eq.trans (World.drewN_drewN _ _ _) (congrArg (World.drewN _) (Nat.add_assoc _ _ _))⟩))))
           go_ret
           exact ⟨by first | rfl | (simp [errW_none, errW_some] <;> rfl) | (simp [*, errW_none, errW_some] <;> rfl), by repeat (first | (with_reducible first | exact HB.out | apply xa | apply xn | apply xd | refine xs ?_ GE108.out | refine xs ?_ GE111.out) | exact HB.out)⟩
         ·rw [if_neg c12] at H
          exact absurd H (by simp)
        ·rw [if_neg c11] at H
         exact absurd H (by simp)
       ·rw [if_neg c10] at H
        have c10b0 : decide (x25_2 < (l0_1.length : Int)) = false := decide_eq_false c10
        clear c10
        have H' := Aside0.mk H
        clear H
        have hcz26_0 : wr.cell? ⟨gb108, 0, none⟩ = some (.slice A0_0 l0_0.length c0_0) := (blk_cell BK108.out 0).trans rfl
        have hcz26_1 : wr.cell? ⟨gb108, 1, none⟩ = some (.slice A0_1 l0_1.length c0_1) := (blk_cell BK108.out 1).trans rfl
        have hfz26_0 := blk_frozen BK108.out 0
        have hfz26_1 := blk_frozen BK108.out 1
        go_wp2
        repeat (go_quiet (fail); try go_wp2)
        go_loopg [43] k2 (fun kq v43 w' => ∃ (x43_3 : Int), v43 = .int .i64 x43_3 ∧ Aside0 (spec_GoodShelf.l1 kq l0_0 (l0_0.length : Int) x43_3 l0_0 l0_1 = some r) ∧ Aside0 (kq ≤ k2) ∧ Aside0 (w'.heap[gb108]? = some (.cells #[(.slice A0_0 l0_0.length c0_0), (.slice A0_1 l0_1.length c0_1)] 64 (0, 0))) ∧ Aside0 (Below w.heap.size w w'))
        case atStart => exact ⟨(0), (by first | rfl | (simp; done) | (simp [*]; done)), H', ⟨Nat.le_refl _⟩, ⟨by (with_reducible repeat (first | apply xbN | apply xbD | apply xbA)); exact BK108.out⟩, ⟨yh HB⟩⟩
        case round =>
         clear H'
         try clear c1
         try clear p1
         try clear q1
         try clear hx1
         try clear c2
         try clear p2
         try clear c3
         try clear c4
         try clear c4b0
         try clear c4b1
         try clear p6
         try clear c8
         try clear c10
         try clear c10b0
         try clear c11
         try clear c11b0
         try clear p11
         try clear q11
         try clear hx11
         try clear c12
         try clear c12b0
         try clear c14
         try clear c16
         try clear c18
         try clear c21
         try clear c24
         try clear hcz19_0
         try clear hcz19_1
         try clear hcz22_0
         try clear hcz22_1
         try clear hcz25_0
         try clear hcz25_1
         try clear hcz26_0
         try clear hcz26_1
         try clear hcz5_0
         try clear hcz5_1
         try clear hcz7_0
         try clear hcz7_1
         try clear hcz9_0
         try clear hcz9_1
         try clear hfz19_0
         try clear hfz19_1
         try clear hfz22_0
         try clear hfz22_1
         try clear hfz25_0
         try clear hfz25_1
         try clear hfz26_0
         try clear hfz26_1
         try clear hfz5_0
         try clear hfz5_1
         try clear hfz7_0
         try clear hfz7_1
         try clear hfz9_0
         try clear hfz9_1
         try clear hx110_0
         try clear hx110_1
         try clear p110
         try clear p2
         try clear q110
         obtain ⟨x43_3, rfl, HA, HK3, BK108, HB⟩ := hrel
         cases gk with
         | zero => exact absurd HA.out (by simp [spec_GoodShelf.l1])
         | succ k3 =>
          have H := HA.out
          clear HA
          simp only [spec_GoodShelf.l1] at H
          by_cases c27 : x43_3 < (l0_0.length : Int)
          ·rw [if_pos c27] at H
           have c27b0 : decide (x43_3 < (l0_0.length : Int)) = true := decide_eq_true c27
           clear c27
           by_cases c28 : 0 ≤ x43_3
           ·rw [if_pos c28] at H
            have c28b0 : decide (0 ≤ x43_3) = true := decide_eq_true c28
            clear c28
            by_cases c29 : x43_3 < (l0_0.length : Int)
            ·rw [if_pos c29] at H
             have c29b0 : decide (x43_3 < (l0_0.length : Int)) = true := decide_eq_true c29
             clear c29
             have HC30 := Aside0.mk H
             clear H
             have p114 : 0 ≤ (x43_3 : Int) := of_decide_eq_true (by first | (with_reducible assumption) | assumption)
             have q114 : x43_3 < (l0_0.length : Int) := of_decide_eq_true (by first | (with_reducible assumption) | assumption)
             obtain ⟨ad114, e114, hx114_0, hx114_1, hx114_2⟩ := at_T101 HR0_0.out x43_3 p114 q114
             cases e114
             replace hx114_0 := (HB.out.cell (World.block_lt_of_cell? w _ hx114_0)).trans hx114_0
             replace hx114_1 := (HB.out.cell (World.block_lt_of_cell? w _ hx114_1)).trans hx114_1
             replace hx114_2 := (HB.out.cell (World.block_lt_of_cell? w _ hx114_2)).trans hx114_2
             replace p114 := eq_true p114
             replace q114 := eq_true q114
             go_upto_if 49 with (first | ((with_reducible refine gate_dst (N := 6) rfl ?_); (try (refine gate_guard (by rfl) ?_; dsimp only)); refine box_event ?hg (N := 6) ?hd (cs := #[.int .i64 0, .int .i64 0, .string (⟨#[]⟩ : ByteArray)]) (t := 101) ?hr ?_; (case hd => rfl); (case hg => rfl); (case hr => first | (go_simp; done) | (go_simp; rfl)); intro gb115 hg w31 hbox hb; have BK115 := xM (hbox); have GW115 := xM ((by rw [hg]; exact (below_size (yh HB)) : w.heap.size ≤ gb115)); have GE115 := xM ((by rw [hg]; exact (below_size (yh HB)) : w.heap.size ≤ gb115)); have NB108_115 := xM ((by rw [hg]; exact Nat.ne_of_lt (blk_lt (yb BK108)) : gb108 ≠ gb115)); have NB115_108 := xM ((by rw [hg]; exact Nat.ne_of_gt (blk_lt (yb BK108)) : gb115 ≠ gb108)); replace BK108 := xM (xB (yb BK108) hb); replace HB := xM (below_step (yh HB) hb); clear hb hbox hg; have hnb32 := NB115_108.out; have hnc32 := NB108_115.out; have hcz33_0 : w31.cell? ⟨gb115, 0, none⟩ = some (.int .i64 0) := (blk_cell BK115.out 0).trans rfl; have hcz33_1 : w31.cell? ⟨gb115, 1, none⟩ = some (.int .i64 0) := (blk_cell BK115.out 1).trans rfl; have hcz33_2 : w31.cell? ⟨gb115, 2, none⟩ = some (.string (⟨#[]⟩ : ByteArray)) := (blk_cell BK115.out 2).trans rfl; have hfz33_0 := blk_frozen BK115.out 0; have hfz33_1 := blk_frozen BK115.out 1; have hfz33_2 := blk_frozen BK115.out 2))
             repeat (go_quiet (first | ((with_reducible refine gate_dst (N := 6) rfl ?_); (try (refine gate_guard (by rfl) ?_; dsimp only)); refine box_event ?hg (N := 6) ?hd (cs := #[.int .i64 0, .int .i64 0, .string (⟨#[]⟩ : ByteArray)]) (t := 101) ?hr ?_; (case hd => rfl); (case hg => rfl); (case hr => first | (go_simp; done) | (go_simp; rfl)); intro gb115 hg w31 hbox hb; have BK115 := xM (hbox); have GW115 := xM ((by rw [hg]; exact (below_size (yh HB)) : w.heap.size ≤ gb115)); have GE115 := xM ((by rw [hg]; exact (below_size (yh HB)) : w.heap.size ≤ gb115)); have NB108_115 := xM ((by rw [hg]; exact Nat.ne_of_lt (blk_lt (yb BK108)) : gb108 ≠ gb115)); have NB115_108 := xM ((by rw [hg]; exact Nat.ne_of_gt (blk_lt (yb BK108)) : gb115 ≠ gb108)); replace BK108 := xM (xB (yb BK108) hb); replace HB := xM (below_step (yh HB) hb); clear hb hbox hg; have hnb32 := NB115_108.out; have hnc32 := NB108_115.out; have hcz33_0 : w31.cell? ⟨gb115, 0, none⟩ = some (.int .i64 0) := (blk_cell BK115.out 0).trans rfl; have hcz33_1 : w31.cell? ⟨gb115, 1, none⟩ = some (.int .i64 0) := (blk_cell BK115.out 1).trans rfl; have hcz33_2 : w31.cell? ⟨gb115, 2, none⟩ = some (.string (⟨#[]⟩ : ByteArray)) := (blk_cell BK115.out 2).trans rfl; have hfz33_0 := blk_frozen BK115.out 0; have hfz33_1 := blk_frozen BK115.out 1; have hfz33_2 := blk_frozen BK115.out 2)); go_upto_if 49 with (first | ((with_reducible refine gate_dst (N := 6) rfl ?_); (try (refine gate_guard (by rfl) ?_; dsimp only)); refine box_event ?hg (N := 6) ?hd (cs := #[.int .i64 0, .int .i64 0, .string (⟨#[]⟩ : ByteArray)]) (t := 101) ?hr ?_; (case hd => rfl); (case hg => rfl); (case hr => first | (go_simp; done) | (go_simp; rfl)); intro gb115 hg w31 hbox hb; have BK115 := xM (hbox); have GW115 := xM ((by rw [hg]; exact (below_size (yh HB)) : w.heap.size ≤ gb115)); have GE115 := xM ((by rw [hg]; exact (below_size (yh HB)) : w.heap.size ≤ gb115)); have NB108_115 := xM ((by rw [hg]; exact Nat.ne_of_lt (blk_lt (yb BK108)) : gb108 ≠ gb115)); have NB115_108 := xM ((by rw [hg]; exact Nat.ne_of_gt (blk_lt (yb BK108)) : gb115 ≠ gb108)); replace BK108 := xM (xB (yb BK108) hb); replace HB := xM (below_step (yh HB) hb); clear hb hbox hg; have hnb32 := NB115_108.out; have hnc32 := NB108_115.out; have hcz33_0 : w31.cell? ⟨gb115, 0, none⟩ = some (.int .i64 0) := (blk_cell BK115.out 0).trans rfl; have hcz33_1 : w31.cell? ⟨gb115, 1, none⟩ = some (.int .i64 0) := (blk_cell BK115.out 1).trans rfl; have hcz33_2 : w31.cell? ⟨gb115, 2, none⟩ = some (.string (⟨#[]⟩ : ByteArray)) := (blk_cell BK115.out 2).trans rfl; have hfz33_0 := blk_frozen BK115.out 0; have hfz33_1 := blk_frozen BK115.out 1; have hfz33_2 := blk_frozen BK115.out 2)))
             (try simp only [Act.put, List.setIfInBounds_toArray, List.set_cons_zero, List.set_cons_succ])
             go_cut [] (fun wc => ∃ (kq : Nat), Aside0 (spec_GoodShelf.j3 kq l0_0 (l0_0.length : Int) x43_3 l0_0 l0_1 ((rd_T101 l0_0 x43_3).f0) ((rd_T101 l0_0 x43_3).f1) ((rd_T101 l0_0 x43_3).f2) = some r) ∧ Aside0 (kq ≤ k3) ∧ Aside0 (wc.heap[gb108]? = some (.cells #[(.slice (some ad114) l0_0.length c0_0), (.slice A0_1 l0_1.length c0_1)] 64 (0, 0))) ∧ Aside0 (wc.heap[gb115]? = some (.cells #[.int .i64 ((rd_T101 l0_0 x43_3).f0), .int .i64 ((rd_T101 l0_0 x43_3).f1), .string ((rd_T101 l0_0 x43_3).f2)] 101 (0, 0))) ∧ Aside0 (Below w.heap.size w wc))
             case first =>
              have H := HC30.out
              clear HC30
              by_cases c34 : x43_3 > 0
              ·rw [if_pos c34] at H
               have c34b0 : decide (0 < x43_3) = true := decide_eq_true c34
               clear c34
               (first | rw [c34b0] | (simp only [i64_w, i32_w]; rw [c34b0]) | skip)
               obtain ⟨ji35, hji35⟩ : ∃ j_ : Int, (wrap64 (x43_3 - 1)) = j_ := ⟨_, rfl⟩
               replace H : (if 0 ≤ (ji35) then (if (ji35) < (l0_0.length : Int) then (if ((rd_T101 l0_0 (ji35)).f0) > ((rd_T101 l0_0 x43_3).f0) then (some false) else (if ((rd_T101 l0_0 (ji35)).f0) = ((rd_T101 l0_0 x43_3).f0) then (if ((rd_T101 l0_0 (ji35)).f1) ≥ ((rd_T101 l0_0 x43_3).f1) then (some false) else (spec_GoodShelf.j3 k3 l0_0 (l0_0.length : Int) x43_3 l0_0 l0_1 ((rd_T101 l0_0 x43_3).f0) ((rd_T101 l0_0 x43_3).f1) ((rd_T101 l0_0 x43_3).f2))) else (spec_GoodShelf.j3 k3 l0_0 (l0_0.length : Int) x43_3 l0_0 l0_1 ((rd_T101 l0_0 x43_3).f0) ((rd_T101 l0_0 x43_3).f1) ((rd_T101 l0_0 x43_3).f2)))) else (none)) else (none)) = some r := by first | (rw [hji35] at H; exact H) | (simp only [hji35] at H ⊢; exact H)
               have hji35w : (IntKind.i64.wrap (x43_3 - 1)) = ji35 := (i64_w _).trans hji35
               by_cases c36 : 0 ≤ (ji35)
               ·rw [if_pos c36] at H
                have c36b0 : decide (0 ≤ (ji35)) = true := decide_eq_true c36
                clear c36
                by_cases c37 : (ji35) < (l0_0.length : Int)
                ·rw [if_pos c37] at H
                 have c37b0 : decide ((ji35) < (l0_0.length : Int)) = true := decide_eq_true c37
                 clear c37
                 by_cases c38 : ((rd_T101 l0_0 (ji35)).f0) > ((rd_T101 l0_0 x43_3).f0)
                 ·rw [if_pos c38] at H
                  have c38b0 : decide (((rd_T101 l0_0 x43_3).f0) < ((rd_T101 l0_0 (ji35)).f0)) = true := decide_eq_true c38
                  clear c38
                  obtain rfl := Option.some.inj H
                  have hnb39 := NB108_115.out
                  have hnc39 := NB115_108.out
                  have hcz40_0 : w31.cell? ⟨gb108, 0, none⟩ = some (.slice (some ad114) l0_0.length c0_0) := (blk_cell BK108.out 0).trans rfl
                  have hcz40_1 : w31.cell? ⟨gb108, 1, none⟩ = some (.slice A0_1 l0_1.length c0_1) := (blk_cell BK108.out 1).trans rfl
                  have hfz40_0 := blk_frozen BK108.out 0
                  have hfz40_1 := blk_frozen BK108.out 1
                  have p116 : 0 ≤ ((ji35) : Int) := of_decide_eq_true (by first | (with_reducible assumption) | assumption)
                  have q116 : (ji35) < (l0_0.length : Int) := of_decide_eq_true (by first | (with_reducible assumption) | assumption)
                  obtain ⟨ad116, e116, hx116_0, hx116_1, hx116_2⟩ := at_T101 HR0_0.out (ji35) p116 q116
                  obtain rfl : ad114 = ad116 := (by injection e116)
                  have hn116_0 : ad114.block ≠ gb115 := Nat.ne_of_lt (Nat.lt_of_lt_of_le (by have := World.block_lt_of_cell? _ _ hx116_0; first | rwa [add_block] at this | exact this) GW115.out)
                  have hn116_1 : ad114.block ≠ gb115 := Nat.ne_of_lt (Nat.lt_of_lt_of_le (by have := World.block_lt_of_cell? _ _ hx116_0; first | rwa [add_block] at this | exact this) GW115.out)
                  have hn116_2 : ad114.block ≠ gb115 := Nat.ne_of_lt (Nat.lt_of_lt_of_le (by have := World.block_lt_of_cell? _ _ hx116_0; first | rwa [add_block] at this | exact this) GW115.out)
                  replace hx116_0 := (HB.out.cell (World.block_lt_of_cell? w _ hx116_0)).trans hx116_0
                  replace hx116_1 := (HB.out.cell (World.block_lt_of_cell? w _ hx116_1)).trans hx116_1
                  replace hx116_2 := (HB.out.cell (World.block_lt_of_cell? w _ hx116_2)).trans hx116_2
                  replace hx116_0 := (cell_far (p := ⟨gb115, 0, none⟩) (by first | (rw [add_block]; exact hn116_0) | (show (Addr.add _ _).block ≠ _; rw [add_block]; exact hn116_0) | exact hn116_0) (.int .i64 ((rd_T101 l0_0 x43_3).f0))).trans hx116_0
                  replace hx116_1 := (cell_far (p := ⟨gb115, 0, none⟩) (by first | (rw [add_block]; exact hn116_0) | (show (Addr.add _ _).block ≠ _; rw [add_block]; exact hn116_0) | exact hn116_0) (.int .i64 ((rd_T101 l0_0 x43_3).f0))).trans hx116_1
                  replace hx116_2 := (cell_far (p := ⟨gb115, 0, none⟩) (by first | (rw [add_block]; exact hn116_0) | (show (Addr.add _ _).block ≠ _; rw [add_block]; exact hn116_0) | exact hn116_0) (.int .i64 ((rd_T101 l0_0 x43_3).f0))).trans hx116_2
                  replace hx116_0 := (cell_far (p := ⟨gb115, 1, none⟩) (by first | (rw [add_block]; exact hn116_1) | (show (Addr.add _ _).block ≠ _; rw [add_block]; exact hn116_1) | exact hn116_1) (.int .i64 ((rd_T101 l0_0 x43_3).f1))).trans hx116_0
                  replace hx116_1 := (cell_far (p := ⟨gb115, 1, none⟩) (by first | (rw [add_block]; exact hn116_1) | (show (Addr.add _ _).block ≠ _; rw [add_block]; exact hn116_1) | exact hn116_1) (.int .i64 ((rd_T101 l0_0 x43_3).f1))).trans hx116_1
                  replace hx116_2 := (cell_far (p := ⟨gb115, 1, none⟩) (by first | (rw [add_block]; exact hn116_1) | (show (Addr.add _ _).block ≠ _; rw [add_block]; exact hn116_1) | exact hn116_1) (.int .i64 ((rd_T101 l0_0 x43_3).f1))).trans hx116_2
                  replace hx116_0 := (cell_far (p := ⟨gb115, 2, none⟩) (by first | (rw [add_block]; exact hn116_2) | (show (Addr.add _ _).block ≠ _; rw [add_block]; exact hn116_2) | exact hn116_2) (.string ((rd_T101 l0_0 x43_3).f2))).trans hx116_0
                  replace hx116_1 := (cell_far (p := ⟨gb115, 2, none⟩) (by first | (rw [add_block]; exact hn116_2) | (show (Addr.add _ _).block ≠ _; rw [add_block]; exact hn116_2) | exact hn116_2) (.string ((rd_T101 l0_0 x43_3).f2))).trans hx116_1
                  replace hx116_2 := (cell_far (p := ⟨gb115, 2, none⟩) (by first | (rw [add_block]; exact hn116_2) | (show (Addr.add _ _).block ≠ _; rw [add_block]; exact hn116_2) | exact hn116_2) (.string ((rd_T101 l0_0 x43_3).f2))).trans hx116_2
                  (try have hy116_0 := fun (n_ : Nat) => (show (((((w31.drewN n_).setCell ⟨gb115, 0, none⟩ (.int .i64 ((rd_T101 l0_0 x43_3).f0))).setCell ⟨gb115, 1, none⟩ (.int .i64 ((rd_T101 l0_0 x43_3).f1))).setCell ⟨gb115, 2, none⟩ (.string ((rd_T101 l0_0 x43_3).f2)))).cell? _ = some _ from hx116_0))
                  (try have hy116_1 := fun (n_ : Nat) => (show (((((w31.drewN n_).setCell ⟨gb115, 0, none⟩ (.int .i64 ((rd_T101 l0_0 x43_3).f0))).setCell ⟨gb115, 1, none⟩ (.int .i64 ((rd_T101 l0_0 x43_3).f1))).setCell ⟨gb115, 2, none⟩ (.string ((rd_T101 l0_0 x43_3).f2)))).cell? _ = some _ from hx116_1))
                  (try have hy116_2 := fun (n_ : Nat) => (show (((((w31.drewN n_).setCell ⟨gb115, 0, none⟩ (.int .i64 ((rd_T101 l0_0 x43_3).f0))).setCell ⟨gb115, 1, none⟩ (.int .i64 ((rd_T101 l0_0 x43_3).f1))).setCell ⟨gb115, 2, none⟩ (.string ((rd_T101 l0_0 x43_3).f2)))).cell? _ = some _ from hx116_2))
                  clear hn116_0
                  clear hn116_1
                  clear hn116_2
                  replace p116 := eq_true p116
                  replace q116 := eq_true q116
                  go_wp2_with (first | ((with_reducible refine gate_dst (N := 7) rfl ?_); (try (refine gate_guard (by rfl) ?_; dsimp only)); refine box_event ?hg (N := 7) ?hd (cs := #[.int .i64 0, .int .i64 0, .string (⟨#[]⟩ : ByteArray)]) (t := 101) ?hr ?_; (case hd => rfl); (case hg => rfl); (case hr => first | (go_simp; done) | (go_simp; rfl)); intro gb117 hg w41 hbox hb; have BK117 := xM (hbox); have GW117 := xM ((by rw [hg]; exact (below_size (yh HB)) : w.heap.size ≤ gb117)); have GE117 := xM ((by rw [hg]; exact (below_size (yh HB)) : w.heap.size ≤ gb117)); have NB108_117 := xM ((by rw [hg]; exact Nat.ne_of_lt (blk_lt (g := gb108) (o := .cells #[.slice (some ad114) l0_0.length c0_0, .slice A0_1 l0_1.length c0_1] 64 (0, 0)) (by (with_reducible repeat (first | apply xbN | apply xbD | apply xbA)); refine blk_far ?_ NB108_115.out _; (with_reducible repeat (first | apply xbN | apply xbD | apply xbA)); refine blk_far ?_ NB108_115.out _; (with_reducible repeat (first | apply xbN | apply xbD | apply xbA)); refine blk_far ?_ NB108_115.out _; (with_reducible repeat (first | apply xbN | apply xbD | apply xbA)); exact BK108.out)) : gb108 ≠ gb117)); have NB117_108 := xM ((by rw [hg]; exact Nat.ne_of_gt (blk_lt (g := gb108) (o := .cells #[.slice (some ad114) l0_0.length c0_0, .slice A0_1 l0_1.length c0_1] 64 (0, 0)) (by (with_reducible repeat (first | apply xbN | apply xbD | apply xbA)); refine blk_far ?_ NB108_115.out _; (with_reducible repeat (first | apply xbN | apply xbD | apply xbA)); refine blk_far ?_ NB108_115.out _; (with_reducible repeat (first | apply xbN | apply xbD | apply xbA)); refine blk_far ?_ NB108_115.out _; (with_reducible repeat (first | apply xbN | apply xbD | apply xbA)); exact BK108.out)) : gb117 ≠ gb108)); have NB115_117 := xM ((by rw [hg]; exact Nat.ne_of_lt (blk_lt (g := gb115) (o := .cells #[.int .i64 ((rd_T101 l0_0 x43_3).f0), .int .i64 ((rd_T101 l0_0 x43_3).f1), .string ((rd_T101 l0_0 x43_3).f2)] 101 (0, 0)) (by (with_reducible repeat (first | apply xbN | apply xbD | apply xbA)); refine blk_put (cs := #[.int .i64 ((rd_T101 l0_0 x43_3).f0), .int .i64 ((rd_T101 l0_0 x43_3).f1), .string (⟨#[]⟩ : ByteArray)]) ?_ 2 _ rfl; (with_reducible repeat (first | apply xbN | apply xbD | apply xbA)); refine blk_put (cs := #[.int .i64 ((rd_T101 l0_0 x43_3).f0), .int .i64 0, .string (⟨#[]⟩ : ByteArray)]) ?_ 1 _ rfl; (with_reducible repeat (first | apply xbN | apply xbD | apply xbA)); refine blk_put (cs := #[.int .i64 0, .int .i64 0, .string (⟨#[]⟩ : ByteArray)]) ?_ 0 _ rfl; (with_reducible repeat (first | apply xbN | apply xbD | apply xbA)); exact BK115.out)) : gb115 ≠ gb117)); have NB117_115 := xM ((by rw [hg]; exact Nat.ne_of_gt (blk_lt (g := gb115) (o := .cells #[.int .i64 ((rd_T101 l0_0 x43_3).f0), .int .i64 ((rd_T101 l0_0 x43_3).f1), .string ((rd_T101 l0_0 x43_3).f2)] 101 (0, 0)) (by (with_reducible repeat (first | apply xbN | apply xbD | apply xbA)); refine blk_put (cs := #[.int .i64 ((rd_T101 l0_0 x43_3).f0), .int .i64 ((rd_T101 l0_0 x43_3).f1), .string (⟨#[]⟩ : ByteArray)]) ?_ 2 _ rfl; (with_reducible repeat (first | apply xbN | apply xbD | apply xbA)); refine blk_put (cs := #[.int .i64 ((rd_T101 l0_0 x43_3).f0), .int .i64 0, .string (⟨#[]⟩ : ByteArray)]) ?_ 1 _ rfl; (with_reducible repeat (first | apply xbN | apply xbD | apply xbA)); refine blk_put (cs := #[.int .i64 0, .int .i64 0, .string (⟨#[]⟩ : ByteArray)]) ?_ 0 _ rfl; (with_reducible repeat (first | apply xbN | apply xbD | apply xbA)); exact BK115.out)) : gb117 ≠ gb115)); replace BK108 := xM (xB (g := gb108) (o := .cells #[.slice (some ad114) l0_0.length c0_0, .slice A0_1 l0_1.length c0_1] 64 (0, 0)) (by (with_reducible repeat (first | apply xbN | apply xbD | apply xbA)); refine blk_far ?_ NB108_115.out _; (with_reducible repeat (first | apply xbN | apply xbD | apply xbA)); refine blk_far ?_ NB108_115.out _; (with_reducible repeat (first | apply xbN | apply xbD | apply xbA)); refine blk_far ?_ NB108_115.out _; (with_reducible repeat (first | apply xbN | apply xbD | apply xbA)); exact BK108.out) hb); replace BK115 := xM (xB (g := gb115) (o := .cells #[.int .i64 ((rd_T101 l0_0 x43_3).f0), .int .i64 ((rd_T101 l0_0 x43_3).f1), .string ((rd_T101 l0_0 x43_3).f2)] 101 (0, 0)) (by (with_reducible repeat (first | apply xbN | apply xbD | apply xbA)); refine blk_put (cs := #[.int .i64 ((rd_T101 l0_0 x43_3).f0), .int .i64 ((rd_T101 l0_0 x43_3).f1), .string (⟨#[]⟩ : ByteArray)]) ?_ 2 _ rfl; (with_reducible repeat (first | apply xbN | apply xbD | apply xbA)); refine blk_put (cs := #[.int .i64 ((rd_T101 l0_0 x43_3).f0), .int .i64 0, .string (⟨#[]⟩ : ByteArray)]) ?_ 1 _ rfl; (with_reducible repeat (first | apply xbN | apply xbD | apply xbA)); refine blk_put (cs := #[.int .i64 0, .int .i64 0, .string (⟨#[]⟩ : ByteArray)]) ?_ 0 _ rfl; (with_reducible repeat (first | apply xbN | apply xbD | apply xbA)); exact BK115.out) hb); replace HB := xM (below_step (yh HB) hb); clear hb hbox hg; have hnb42 := NB117_108.out; have hnc42 := NB108_117.out; have hnb43 := NB117_115.out; have hnc43 := NB115_117.out; have hcz44_0 : w41.cell? ⟨gb117, 0, none⟩ = some (.int .i64 0) := (blk_cell BK117.out 0).trans rfl; have hcz44_1 : w41.cell? ⟨gb117, 1, none⟩ = some (.int .i64 0) := (blk_cell BK117.out 1).trans rfl; have hcz44_2 : w41.cell? ⟨gb117, 2, none⟩ = some (.string (⟨#[]⟩ : ByteArray)) := (blk_cell BK117.out 2).trans rfl; have hfz44_0 := blk_frozen BK117.out 0; have hfz44_1 := blk_frozen BK117.out 1; have hfz44_2 := blk_frozen BK117.out 2; have hcz45_0 : w41.cell? ⟨gb115, 0, none⟩ = some (.int .i64 ((rd_T101 l0_0 x43_3).f0)) := (blk_cell BK115.out 0).trans rfl; have hcz45_1 : w41.cell? ⟨gb115, 1, none⟩ = some (.int .i64 ((rd_T101 l0_0 x43_3).f1)) := (blk_cell BK115.out 1).trans rfl; have hcz45_2 : w41.cell? ⟨gb115, 2, none⟩ = some (.string ((rd_T101 l0_0 x43_3).f2)) := (blk_cell BK115.out 2).trans rfl; have hfz45_0 := blk_frozen BK115.out 0; have hfz45_1 := blk_frozen BK115.out 1; have hfz45_2 := blk_frozen BK115.out 2))
                  repeat (go_quiet (first | ((with_reducible refine gate_dst (N := 7) rfl ?_); (try (refine gate_guard (by rfl) ?_; dsimp only)); refine box_event ?hg (N := 7) ?hd (cs := #[.int .i64 0, .int .i64 0, .string (⟨#[]⟩ : ByteArray)]) (t := 101) ?hr ?_; (case hd => rfl); (case hg => rfl); (case hr => first | (go_simp; done) | (go_simp; rfl)); intro gb117 hg w41 hbox hb; have BK117 := xM (hbox); have GW117 := xM ((by rw [hg]; exact (below_size (yh HB)) : w.heap.size ≤ gb117)); have GE117 := xM ((by rw [hg]; exact (below_size (yh HB)) : w.heap.size ≤ gb117)); have NB108_117 := xM ((by rw [hg]; exact Nat.ne_of_lt (blk_lt (g := gb108) (o := .cells #[.slice (some ad114) l0_0.length c0_0, .slice A0_1 l0_1.length c0_1] 64 (0, 0)) (by (with_reducible repeat (first | apply xbN | apply xbD | apply xbA)); refine blk_far ?_ NB108_115.out _; (with_reducible repeat (first | apply xbN | apply xbD | apply xbA)); refine blk_far ?_ NB108_115.out _; (with_reducible repeat (first | apply xbN | apply xbD | apply xbA)); refine blk_far ?_ NB108_115.out _; (with_reducible repeat (first | apply xbN | apply xbD | apply xbA)); exact BK108.out)) : gb108 ≠ gb117)); have NB117_108 := xM ((by rw [hg]; exact Nat.ne_of_gt (blk_lt (g := gb108) (o := .cells #[.slice (some ad114) l0_0.length c0_0, .slice A0_1 l0_1.length c0_1] 64 (0, 0)) (by (with_reducible repeat (first | apply xbN | apply xbD | apply xbA)); refine blk_far ?_ NB108_115.out _; (with_reducible repeat (first | apply xbN | apply xbD | apply xbA)); refine blk_far ?_ NB108_115.out _; (with_reducible repeat (first | apply xbN | apply xbD | apply xbA)); refine blk_far ?_ NB108_115.out _; (with_reducible repeat (first | apply xbN | apply xbD | apply xbA)); exact BK108.out)) : gb117 ≠ gb108)); have NB115_117 := xM ((by rw [hg]; exact Nat.ne_of_lt (blk_lt (g := gb115) (o := .cells #[.int .i64 ((rd_T101 l0_0 x43_3).f0), .int .i64 ((rd_T101 l0_0 x43_3).f1), .string ((rd_T101 l0_0 x43_3).f2)] 101 (0, 0)) (by (with_reducible repeat (first | apply xbN | apply xbD | apply xbA)); refine blk_put (cs := #[.int .i64 ((rd_T101 l0_0 x43_3).f0), .int .i64 ((rd_T101 l0_0 x43_3).f1), .string (⟨#[]⟩ : ByteArray)]) ?_ 2 _ rfl; (with_reducible repeat (first | apply xbN | apply xbD | apply xbA)); refine blk_put (cs := #[.int .i64 ((rd_T101 l0_0 x43_3).f0), .int .i64 0, .string (⟨#[]⟩ : ByteArray)]) ?_ 1 _ rfl; (with_reducible repeat (first | apply xbN | apply xbD | apply xbA)); refine blk_put (cs := #[.int .i64 0, .int .i64 0, .string (⟨#[]⟩ : ByteArray)]) ?_ 0 _ rfl; (with_reducible repeat (first | apply xbN | apply xbD | apply xbA)); exact BK115.out)) : gb115 ≠ gb117)); have NB117_115 := xM ((by rw [hg]; exact Nat.ne_of_gt (blk_lt (g := gb115) (o := .cells #[.int .i64 ((rd_T101 l0_0 x43_3).f0), .int .i64 ((rd_T101 l0_0 x43_3).f1), .string ((rd_T101 l0_0 x43_3).f2)] 101 (0, 0)) (by (with_reducible repeat (first | apply xbN | apply xbD | apply xbA)); refine blk_put (cs := #[.int .i64 ((rd_T101 l0_0 x43_3).f0), .int .i64 ((rd_T101 l0_0 x43_3).f1), .string (⟨#[]⟩ : ByteArray)]) ?_ 2 _ rfl; (with_reducible repeat (first | apply xbN | apply xbD | apply xbA)); refine blk_put (cs := #[.int .i64 ((rd_T101 l0_0 x43_3).f0), .int .i64 0, .string (⟨#[]⟩ : ByteArray)]) ?_ 1 _ rfl; (with_reducible repeat (first | apply xbN | apply xbD | apply xbA)); refine blk_put (cs := #[.int .i64 0, .int .i64 0, .string (⟨#[]⟩ : ByteArray)]) ?_ 0 _ rfl; (with_reducible repeat (first | apply xbN | apply xbD | apply xbA)); exact BK115.out)) : gb117 ≠ gb115)); replace BK108 := xM (xB (g := gb108) (o := .cells #[.slice (some ad114) l0_0.length c0_0, .slice A0_1 l0_1.length c0_1] 64 (0, 0)) (by (with_reducible repeat (first | apply xbN | apply xbD | apply xbA)); refine blk_far ?_ NB108_115.out _; (with_reducible repeat (first | apply xbN | apply xbD | apply xbA)); refine blk_far ?_ NB108_115.out _; (with_reducible repeat (first | apply xbN | apply xbD | apply xbA)); refine blk_far ?_ NB108_115.out _; (with_reducible repeat (first | apply xbN | apply xbD | apply xbA)); exact BK108.out) hb); replace BK115 := xM (xB (g := gb115) (o := .cells #[.int .i64 ((rd_T101 l0_0 x43_3).f0), .int .i64 ((rd_T101 l0_0 x43_3).f1), .string ((rd_T101 l0_0 x43_3).f2)] 101 (0, 0)) (by (with_reducible repeat (first | apply xbN | apply xbD | apply xbA)); refine blk_put (cs := #[.int .i64 ((rd_T101 l0_0 x43_3).f0), .int .i64 ((rd_T101 l0_0 x43_3).f1), .string (⟨#[]⟩ : ByteArray)]) ?_ 2 _ rfl; (with_reducible repeat (first | apply xbN | apply xbD | apply xbA)); refine blk_put (cs := #[.int .i64 ((rd_T101 l0_0 x43_3).f0), .int .i64 0, .string (⟨#[]⟩ : ByteArray)]) ?_ 1 _ rfl; (with_reducible repeat (first | apply xbN | apply xbD | apply xbA)); refine blk_put (cs := #[.int .i64 0, .int .i64 0, .string (⟨#[]⟩ : ByteArray)]) ?_ 0 _ rfl; (with_reducible repeat (first | apply xbN | apply xbD | apply xbA)); exact BK115.out) hb); replace HB := xM (below_step (yh HB) hb); clear hb hbox hg; have hnb42 := NB117_108.out; have hnc42 := NB108_117.out; have hnb43 := NB117_115.out; have hnc43 := NB115_117.out; have hcz44_0 : w41.cell? ⟨gb117, 0, none⟩ = some (.int .i64 0) := (blk_cell BK117.out 0).trans rfl; have hcz44_1 : w41.cell? ⟨gb117, 1, none⟩ = some (.int .i64 0) := (blk_cell BK117.out 1).trans rfl; have hcz44_2 : w41.cell? ⟨gb117, 2, none⟩ = some (.string (⟨#[]⟩ : ByteArray)) := (blk_cell BK117.out 2).trans rfl; have hfz44_0 := blk_frozen BK117.out 0; have hfz44_1 := blk_frozen BK117.out 1; have hfz44_2 := blk_frozen BK117.out 2; have hcz45_0 : w41.cell? ⟨gb115, 0, none⟩ = some (.int .i64 ((rd_T101 l0_0 x43_3).f0)) := (blk_cell BK115.out 0).trans rfl; have hcz45_1 : w41.cell? ⟨gb115, 1, none⟩ = some (.int .i64 ((rd_T101 l0_0 x43_3).f1)) := (blk_cell BK115.out 1).trans rfl; have hcz45_2 : w41.cell? ⟨gb115, 2, none⟩ = some (.string ((rd_T101 l0_0 x43_3).f2)) := (blk_cell BK115.out 2).trans rfl; have hfz45_0 := blk_frozen BK115.out 0; have hfz45_1 := blk_frozen BK115.out 1; have hfz45_2 := blk_frozen BK115.out 2)); try go_wp2_with (first | ((with_reducible refine gate_dst (N := 7) rfl ?_); (try (refine gate_guard (by rfl) ?_; dsimp only)); refine box_event ?hg (N := 7) ?hd (cs := #[.int .i64 0, .int .i64 0, .string (⟨#[]⟩ : ByteArray)]) (t := 101) ?hr ?_; (case hd => rfl); (case hg => rfl); (case hr => first | (go_simp; done) | (go_simp; rfl)); intro gb117 hg w41 hbox hb; have BK117 := xM (hbox); have GW117 := xM ((by rw [hg]; exact (below_size (yh HB)) : w.heap.size ≤ gb117)); have GE117 := xM ((by rw [hg]; exact (below_size (yh HB)) : w.heap.size ≤ gb117)); have NB108_117 := xM ((by rw [hg]; exact Nat.ne_of_lt (blk_lt (g := gb108) (o := .cells #[.slice (some ad114) l0_0.length c0_0, .slice A0_1 l0_1.length c0_1] 64 (0, 0)) (by (with_reducible repeat (first | apply xbN | apply xbD | apply xbA)); refine blk_far ?_ NB108_115.out _; (with_reducible repeat (first | apply xbN | apply xbD | apply xbA)); refine blk_far ?_ NB108_115.out _; (with_reducible repeat (first | apply xbN | apply xbD | apply xbA)); refine blk_far ?_ NB108_115.out _; (with_reducible repeat (first | apply xbN | apply xbD | apply xbA)); exact BK108.out)) : gb108 ≠ gb117)); have NB117_108 := xM ((by rw [hg]; exact Nat.ne_of_gt (blk_lt (g := gb108) (o := .cells #[.slice (some ad114) l0_0.length c0_0, .slice A0_1 l0_1.length c0_1] 64 (0, 0)) (by (with_reducible repeat (first | apply xbN | apply xbD | apply xbA)); refine blk_far ?_ NB108_115.out _; (with_reducible repeat (first | apply xbN | apply xbD | apply xbA)); refine blk_far ?_ NB108_115.out _; (with_reducible repeat (first | apply xbN | apply xbD | apply xbA)); refine blk_far ?_ NB108_115.out _; (with_reducible repeat (first | apply xbN | apply xbD | apply xbA)); exact BK108.out)) : gb117 ≠ gb108)); have NB115_117 := xM ((by rw [hg]; exact Nat.ne_of_lt (blk_lt (g := gb115) (o := .cells #[.int .i64 ((rd_T101 l0_0 x43_3).f0), .int .i64 ((rd_T101 l0_0 x43_3).f1), .string ((rd_T101 l0_0 x43_3).f2)] 101 (0, 0)) (by (with_reducible repeat (first | apply xbN | apply xbD | apply xbA)); refine blk_put (cs := #[.int .i64 ((rd_T101 l0_0 x43_3).f0), .int .i64 ((rd_T101 l0_0 x43_3).f1), .string (⟨#[]⟩ : ByteArray)]) ?_ 2 _ rfl; (with_reducible repeat (first | apply xbN | apply xbD | apply xbA)); refine blk_put (cs := #[.int .i64 ((rd_T101 l0_0 x43_3).f0), .int .i64 0, .string (⟨#[]⟩ : ByteArray)]) ?_ 1 _ rfl; (with_reducible repeat (first | apply xbN | apply xbD | apply xbA)); refine blk_put (cs := #[.int .i64 0, .int .i64 0, .string (⟨#[]⟩ : ByteArray)]) ?_ 0 _ rfl; (with_reducible repeat (first | apply xbN | apply xbD | apply xbA)); exact BK115.out)) : gb115 ≠ gb117)); have NB117_115 := xM ((by rw [hg]; exact Nat.ne_of_gt (blk_lt (g := gb115) (o := .cells #[.int .i64 ((rd_T101 l0_0 x43_3).f0), .int .i64 ((rd_T101 l0_0 x43_3).f1), .string ((rd_T101 l0_0 x43_3).f2)] 101 (0, 0)) (by (with_reducible repeat (first | apply xbN | apply xbD | apply xbA)); refine blk_put (cs := #[.int .i64 ((rd_T101 l0_0 x43_3).f0), .int .i64 ((rd_T101 l0_0 x43_3).f1), .string (⟨#[]⟩ : ByteArray)]) ?_ 2 _ rfl; (with_reducible repeat (first | apply xbN | apply xbD | apply xbA)); refine blk_put (cs := #[.int .i64 ((rd_T101 l0_0 x43_3).f0), .int .i64 0, .string (⟨#[]⟩ : ByteArray)]) ?_ 1 _ rfl; (with_reducible repeat (first | apply xbN | apply xbD | apply xbA)); refine blk_put (cs := #[.int .i64 0, .int .i64 0, .string (⟨#[]⟩ : ByteArray)]) ?_ 0 _ rfl; (with_reducible repeat (first | apply xbN | apply xbD | apply xbA)); exact BK115.out)) : gb117 ≠ gb115)); replace BK108 := xM (xB (g := gb108) (o := .cells #[.slice (some ad114) l0_0.length c0_0, .slice A0_1 l0_1.length c0_1] 64 (0, 0)) (by (with_reducible repeat (first | apply xbN | apply xbD | apply xbA)); refine blk_far ?_ NB108_115.out _; (with_reducible repeat (first | apply xbN | apply xbD | apply xbA)); refine blk_far ?_ NB108_115.out _; (with_reducible repeat (first | apply xbN | apply xbD | apply xbA)); refine blk_far ?_ NB108_115.out _; (with_reducible repeat (first | apply xbN | apply xbD | apply xbA)); exact BK108.out) hb); replace BK115 := xM (xB (g := gb115) (o := .cells #[.int .i64 ((rd_T101 l0_0 x43_3).f0), .int .i64 ((rd_T101 l0_0 x43_3).f1), .string ((rd_T101 l0_0 x43_3).f2)] 101 (0, 0)) (by (with_reducible repeat (first | apply xbN | apply xbD | apply xbA)); refine blk_put (cs := #[.int .i64 ((rd_T101 l0_0 x43_3).f0), .int .i64 ((rd_T101 l0_0 x43_3).f1), .string (⟨#[]⟩ : ByteArray)]) ?_ 2 _ rfl; (with_reducible repeat (first | apply xbN | apply xbD | apply xbA)); refine blk_put (cs := #[.int .i64 ((rd_T101 l0_0 x43_3).f0), .int .i64 0, .string (⟨#[]⟩ : ByteArray)]) ?_ 1 _ rfl; (with_reducible repeat (first | apply xbN | apply xbD | apply xbA)); refine blk_put (cs := #[.int .i64 0, .int .i64 0, .string (⟨#[]⟩ : ByteArray)]) ?_ 0 _ rfl; (with_reducible repeat (first | apply xbN | apply xbD | apply xbA)); exact BK115.out) hb); replace HB := xM (below_step (yh HB) hb); clear hb hbox hg; have hnb42 := NB117_108.out; have hnc42 := NB108_117.out; have hnb43 := NB117_115.out; have hnc43 := NB115_117.out; have hcz44_0 : w41.cell? ⟨gb117, 0, none⟩ = some (.int .i64 0) := (blk_cell BK117.out 0).trans rfl; have hcz44_1 : w41.cell? ⟨gb117, 1, none⟩ = some (.int .i64 0) := (blk_cell BK117.out 1).trans rfl; have hcz44_2 : w41.cell? ⟨gb117, 2, none⟩ = some (.string (⟨#[]⟩ : ByteArray)) := (blk_cell BK117.out 2).trans rfl; have hfz44_0 := blk_frozen BK117.out 0; have hfz44_1 := blk_frozen BK117.out 1; have hfz44_2 := blk_frozen BK117.out 2; have hcz45_0 : w41.cell? ⟨gb115, 0, none⟩ = some (.int .i64 ((rd_T101 l0_0 x43_3).f0)) := (blk_cell BK115.out 0).trans rfl; have hcz45_1 : w41.cell? ⟨gb115, 1, none⟩ = some (.int .i64 ((rd_T101 l0_0 x43_3).f1)) := (blk_cell BK115.out 1).trans rfl; have hcz45_2 : w41.cell? ⟨gb115, 2, none⟩ = some (.string ((rd_T101 l0_0 x43_3).f2)) := (blk_cell BK115.out 2).trans rfl; have hfz45_0 := blk_frozen BK115.out 0; have hfz45_1 := blk_frozen BK115.out 1; have hfz45_2 := blk_frozen BK115.out 2)))
                  go_ret
                  exact ⟨by first | rfl | (simp [errW_none, errW_some] <;> rfl) | (simp only [← hji35]; first | rfl | (simp [errW_none, errW_some] <;> rfl)) | (simp [*, errW_none, errW_some] <;> rfl), by repeat (first | (with_reducible first | exact HB.out | apply xa | apply xn | apply xd | refine xs ?_ GE108.out | refine xs ?_ GE115.out | refine xs ?_ GE117.out) | exact HB.out)⟩
                 ·rw [if_neg c38] at H
                  have c38b0 : decide (((rd_T101 l0_0 x43_3).f0) < ((rd_T101 l0_0 (ji35)).f0)) = false := decide_eq_false c38
                  clear c38
                  by_cases c46 : ((rd_T101 l0_0 (ji35)).f0) = ((rd_T101 l0_0 x43_3).f0)
                  ·rw [if_pos c46] at H
                   have c46b0 : (((rd_T101 l0_0 (ji35)).f0) == ((rd_T101 l0_0 x43_3).f0)) = true := beq_iff_eq.mpr c46
                   have c46b1 : (((rd_T101 l0_0 (ji35)).f0) != ((rd_T101 l0_0 x43_3).f0)) = false := bne_eq_false_iff_eq.mpr c46
                   clear c46
                   by_cases c47 : ((rd_T101 l0_0 (ji35)).f1) ≥ ((rd_T101 l0_0 x43_3).f1)
                   ·rw [if_pos c47] at H
                    have c47b0 : decide (((rd_T101 l0_0 x43_3).f1) ≤ ((rd_T101 l0_0 (ji35)).f1)) = true := decide_eq_true c47
                    clear c47
                    obtain rfl := Option.some.inj H
                    have hnb48 := NB108_115.out
                    have hnc48 := NB115_108.out
                    have hcz49_0 : w31.cell? ⟨gb108, 0, none⟩ = some (.slice (some ad114) l0_0.length c0_0) := (blk_cell BK108.out 0).trans rfl
                    have hcz49_1 : w31.cell? ⟨gb108, 1, none⟩ = some (.slice A0_1 l0_1.length c0_1) := (blk_cell BK108.out 1).trans rfl
                    have hfz49_0 := blk_frozen BK108.out 0
                    have hfz49_1 := blk_frozen BK108.out 1
                    have p116 : 0 ≤ ((ji35) : Int) := of_decide_eq_true (by first | (with_reducible assumption) | assumption)
                    have q116 : (ji35) < (l0_0.length : Int) := of_decide_eq_true (by first | (with_reducible assumption) | assumption)
                    obtain ⟨ad116, e116, hx116_0, hx116_1, hx116_2⟩ := at_T101 HR0_0.out (ji35) p116 q116
                    obtain rfl : ad114 = ad116 := (by injection e116)
                    have hn116_0 : ad114.block ≠ gb115 := Nat.ne_of_lt (Nat.lt_of_lt_of_le (by have := World.block_lt_of_cell? _ _ hx116_0; first | rwa [add_block] at this | exact this) GW115.out)
                    have hn116_1 : ad114.block ≠ gb115 := Nat.ne_of_lt (Nat.lt_of_lt_of_le (by have := World.block_lt_of_cell? _ _ hx116_0; first | rwa [add_block] at this | exact this) GW115.out)
                    have hn116_2 : ad114.block ≠ gb115 := Nat.ne_of_lt (Nat.lt_of_lt_of_le (by have := World.block_lt_of_cell? _ _ hx116_0; first | rwa [add_block] at this | exact this) GW115.out)
                    replace hx116_0 := (HB.out.cell (World.block_lt_of_cell? w _ hx116_0)).trans hx116_0
                    replace hx116_1 := (HB.out.cell (World.block_lt_of_cell? w _ hx116_1)).trans hx116_1
                    replace hx116_2 := (HB.out.cell (World.block_lt_of_cell? w _ hx116_2)).trans hx116_2
                    replace hx116_0 := (cell_far (p := ⟨gb115, 0, none⟩) (by first | (rw [add_block]; exact hn116_0) | (show (Addr.add _ _).block ≠ _; rw [add_block]; exact hn116_0) | exact hn116_0) (.int .i64 ((rd_T101 l0_0 x43_3).f0))).trans hx116_0
                    replace hx116_1 := (cell_far (p := ⟨gb115, 0, none⟩) (by first | (rw [add_block]; exact hn116_0) | (show (Addr.add _ _).block ≠ _; rw [add_block]; exact hn116_0) | exact hn116_0) (.int .i64 ((rd_T101 l0_0 x43_3).f0))).trans hx116_1
                    replace hx116_2 := (cell_far (p := ⟨gb115, 0, none⟩) (by first | (rw [add_block]; exact hn116_0) | (show (Addr.add _ _).block ≠ _; rw [add_block]; exact hn116_0) | exact hn116_0) (.int .i64 ((rd_T101 l0_0 x43_3).f0))).trans hx116_2
                    replace hx116_0 := (cell_far (p := ⟨gb115, 1, none⟩) (by first | (rw [add_block]; exact hn116_1) | (show (Addr.add _ _).block ≠ _; rw [add_block]; exact hn116_1) | exact hn116_1) (.int .i64 ((rd_T101 l0_0 x43_3).f1))).trans hx116_0
                    replace hx116_1 := (cell_far (p := ⟨gb115, 1, none⟩) (by first | (rw [add_block]; exact hn116_1) | (show (Addr.add _ _).block ≠ _; rw [add_block]; exact hn116_1) | exact hn116_1) (.int .i64 ((rd_T101 l0_0 x43_3).f1))).trans hx116_1
                    replace hx116_2 := (cell_far (p := ⟨gb115, 1, none⟩) (by first | (rw [add_block]; exact hn116_1) | (show (Addr.add _ _).block ≠ _; rw [add_block]; exact hn116_1) | exact hn116_1) (.int .i64 ((rd_T101 l0_0 x43_3).f1))).trans hx116_2
                    replace hx116_0 := (cell_far (p := ⟨gb115, 2, none⟩) (by first | (rw [add_block]; exact hn116_2) | (show (Addr.add _ _).block ≠ _; rw [add_block]; exact hn116_2) | exact hn116_2) (.string ((rd_T101 l0_0 x43_3).f2))).trans hx116_0
                    replace hx116_1 := (cell_far (p := ⟨gb115, 2, none⟩) (by first | (rw [add_block]; exact hn116_2) | (show (Addr.add _ _).block ≠ _; rw [add_block]; exact hn116_2) | exact hn116_2) (.string ((rd_T101 l0_0 x43_3).f2))).trans hx116_1
                    replace hx116_2 := (cell_far (p := ⟨gb115, 2, none⟩) (by first | (rw [add_block]; exact hn116_2) | (show (Addr.add _ _).block ≠ _; rw [add_block]; exact hn116_2) | exact hn116_2) (.string ((rd_T101 l0_0 x43_3).f2))).trans hx116_2
                    (try have hy116_0 := fun (n_ : Nat) => (show (((((w31.drewN n_).setCell ⟨gb115, 0, none⟩ (.int .i64 ((rd_T101 l0_0 x43_3).f0))).setCell ⟨gb115, 1, none⟩ (.int .i64 ((rd_T101 l0_0 x43_3).f1))).setCell ⟨gb115, 2, none⟩ (.string ((rd_T101 l0_0 x43_3).f2)))).cell? _ = some _ from hx116_0))
                    (try have hy116_1 := fun (n_ : Nat) => (show (((((w31.drewN n_).setCell ⟨gb115, 0, none⟩ (.int .i64 ((rd_T101 l0_0 x43_3).f0))).setCell ⟨gb115, 1, none⟩ (.int .i64 ((rd_T101 l0_0 x43_3).f1))).setCell ⟨gb115, 2, none⟩ (.string ((rd_T101 l0_0 x43_3).f2)))).cell? _ = some _ from hx116_1))
                    (try have hy116_2 := fun (n_ : Nat) => (show (((((w31.drewN n_).setCell ⟨gb115, 0, none⟩ (.int .i64 ((rd_T101 l0_0 x43_3).f0))).setCell ⟨gb115, 1, none⟩ (.int .i64 ((rd_T101 l0_0 x43_3).f1))).setCell ⟨gb115, 2, none⟩ (.string ((rd_T101 l0_0 x43_3).f2)))).cell? _ = some _ from hx116_2))
                    clear hn116_0
                    clear hn116_1
                    clear hn116_2
                    replace p116 := eq_true p116
                    replace q116 := eq_true q116
                    go_wp2_with (first | ((with_reducible refine gate_dst (N := 7) rfl ?_); (try (refine gate_guard (by rfl) ?_; dsimp only)); refine box_event ?hg (N := 7) ?hd (cs := #[.int .i64 0, .int .i64 0, .string (⟨#[]⟩ : ByteArray)]) (t := 101) ?hr ?_; (case hd => rfl); (case hg => rfl); (case hr => first | (go_simp; done) | (go_simp; rfl)); intro gb117 hg w50 hbox hb; have BK117 := xM (hbox); have GW117 := xM ((by rw [hg]; exact (below_size (yh HB)) : w.heap.size ≤ gb117)); have GE117 := xM ((by rw [hg]; exact (below_size (yh HB)) : w.heap.size ≤ gb117)); have NB108_117 := xM ((by rw [hg]; exact Nat.ne_of_lt (blk_lt (g := gb108) (o := .cells #[.slice (some ad114) l0_0.length c0_0, .slice A0_1 l0_1.length c0_1] 64 (0, 0)) (by (with_reducible repeat (first | apply xbN | apply xbD | apply xbA)); refine blk_far ?_ NB108_115.out _; (with_reducible repeat (first | apply xbN | apply xbD | apply xbA)); refine blk_far ?_ NB108_115.out _; (with_reducible repeat (first | apply xbN | apply xbD | apply xbA)); refine blk_far ?_ NB108_115.out _; (with_reducible repeat (first | apply xbN | apply xbD | apply xbA)); exact BK108.out)) : gb108 ≠ gb117)); have NB117_108 := xM ((by rw [hg]; exact Nat.ne_of_gt (blk_lt (g := gb108) (o := .cells #[.slice (some ad114) l0_0.length c0_0, .slice A0_1 l0_1.length c0_1] 64 (0, 0)) (by (with_reducible repeat (first | apply xbN | apply xbD | apply xbA)); refine blk_far ?_ NB108_115.out _; (with_reducible repeat (first | apply xbN | apply xbD | apply xbA)); refine blk_far ?_ NB108_115.out _; (with_reducible repeat (first | apply xbN | apply xbD | apply xbA)); refine blk_far ?_ NB108_115.out _; (with_reducible repeat (first | apply xbN | apply xbD | apply xbA)); exact BK108.out)) : gb117 ≠ gb108)); have NB115_117 := xM ((by rw [hg]; exact Nat.ne_of_lt (blk_lt (g := gb115) (o := .cells #[.int .i64 ((rd_T101 l0_0 x43_3).f0), .int .i64 ((rd_T101 l0_0 x43_3).f1), .string ((rd_T101 l0_0 x43_3).f2)] 101 (0, 0)) (by (with_reducible repeat (first | apply xbN | apply xbD | apply xbA)); refine blk_put (cs := #[.int .i64 ((rd_T101 l0_0 x43_3).f0), .int .i64 ((rd_T101 l0_0 x43_3).f1), .string (⟨#[]⟩ : ByteArray)]) ?_ 2 _ rfl; (with_reducible repeat (first | apply xbN | apply xbD | apply xbA)); refine blk_put (cs := #[.int .i64 ((rd_T101 l0_0 x43_3).f0), .int .i64 0, .string (⟨#[]⟩ : ByteArray)]) ?_ 1 _ rfl; (with_reducible repeat (first | apply xbN | apply xbD | apply xbA)); refine blk_put (cs := #[.int .i64 0, .int .i64 0, .string (⟨#[]⟩ : ByteArray)]) ?_ 0 _ rfl; (with_reducible repeat (first | apply xbN | apply xbD | apply xbA)); exact BK115.out)) : gb115 ≠ gb117)); have NB117_115 := xM ((by rw [hg]; exact Nat.ne_of_gt (blk_lt (g := gb115) (o := .cells #[.int .i64 ((rd_T101 l0_0 x43_3).f0), .int .i64 ((rd_T101 l0_0 x43_3).f1), .string ((rd_T101 l0_0 x43_3).f2)] 101 (0, 0)) (by (with_reducible repeat (first | apply xbN | apply xbD | apply xbA)); refine blk_put (cs := #[.int .i64 ((rd_T101 l0_0 x43_3).f0), .int .i64 ((rd_T101 l0_0 x43_3).f1), .string (⟨#[]⟩ : ByteArray)]) ?_ 2 _ rfl; (with_reducible repeat (first | apply xbN | apply xbD | apply xbA)); refine blk_put (cs := #[.int .i64 ((rd_T101 l0_0 x43_3).f0), .int .i64 0, .string (⟨#[]⟩ : ByteArray)]) ?_ 1 _ rfl; (with_reducible repeat (first | apply xbN | apply xbD | apply xbA)); refine blk_put (cs := #[.int .i64 0, .int .i64 0, .string (⟨#[]⟩ : ByteArray)]) ?_ 0 _ rfl; (with_reducible repeat (first | apply xbN | apply xbD | apply xbA)); exact BK115.out)) : gb117 ≠ gb115)); replace BK108 := xM (xB (g := gb108) (o := .cells #[.slice (some ad114) l0_0.length c0_0, .slice A0_1 l0_1.length c0_1] 64 (0, 0)) (by (with_reducible repeat (first | apply xbN | apply xbD | apply xbA)); refine blk_far ?_ NB108_115.out _; (with_reducible repeat (first | apply xbN | apply xbD | apply xbA)); refine blk_far ?_ NB108_115.out _; (with_reducible repeat (first | apply xbN | apply xbD | apply xbA)); refine blk_far ?_ NB108_115.out _; (with_reducible repeat (first | apply xbN | apply xbD | apply xbA)); exact BK108.out) hb); replace BK115 := xM (xB (g := gb115) (o := .cells #[.int .i64 ((rd_T101 l0_0 x43_3).f0), .int .i64 ((rd_T101 l0_0 x43_3).f1), .string ((rd_T101 l0_0 x43_3).f2)] 101 (0, 0)) (by (with_reducible repeat (first | apply xbN | apply xbD | apply xbA)); refine blk_put (cs := #[.int .i64 ((rd_T101 l0_0 x43_3).f0), .int .i64 ((rd_T101 l0_0 x43_3).f1), .string (⟨#[]⟩ : ByteArray)]) ?_ 2 _ rfl; (with_reducible repeat (first | apply xbN | apply xbD | apply xbA)); refine blk_put (cs := #[.int .i64 ((rd_T101 l0_0 x43_3).f0), .int .i64 0, .string (⟨#[]⟩ : ByteArray)]) ?_ 1 _ rfl; (with_reducible repeat (first | apply xbN | apply xbD | apply xbA)); refine blk_put (cs := #[.int .i64 0, .int .i64 0, .string (⟨#[]⟩ : ByteArray)]) ?_ 0 _ rfl; (with_reducible repeat (first | apply xbN | apply xbD | apply xbA)); exact BK115.out) hb); replace HB := xM (below_step (yh HB) hb); clear hb hbox hg; have hnb51 := NB117_108.out; have hnc51 := NB108_117.out; have hnb52 := NB117_115.out; have hnc52 := NB115_117.out; have hcz53_0 : w50.cell? ⟨gb117, 0, none⟩ = some (.int .i64 0) := (blk_cell BK117.out 0).trans rfl; have hcz53_1 : w50.cell? ⟨gb117, 1, none⟩ = some (.int .i64 0) := (blk_cell BK117.out 1).trans rfl; have hcz53_2 : w50.cell? ⟨gb117, 2, none⟩ = some (.string (⟨#[]⟩ : ByteArray)) := (blk_cell BK117.out 2).trans rfl; have hfz53_0 := blk_frozen BK117.out 0; have hfz53_1 := blk_frozen BK117.out 1; have hfz53_2 := blk_frozen BK117.out 2; have hcz54_0 : w50.cell? ⟨gb115, 0, none⟩ = some (.int .i64 ((rd_T101 l0_0 x43_3).f0)) := (blk_cell BK115.out 0).trans rfl; have hcz54_1 : w50.cell? ⟨gb115, 1, none⟩ = some (.int .i64 ((rd_T101 l0_0 x43_3).f1)) := (blk_cell BK115.out 1).trans rfl; have hcz54_2 : w50.cell? ⟨gb115, 2, none⟩ = some (.string ((rd_T101 l0_0 x43_3).f2)) := (blk_cell BK115.out 2).trans rfl; have hfz54_0 := blk_frozen BK115.out 0; have hfz54_1 := blk_frozen BK115.out 1; have hfz54_2 := blk_frozen BK115.out 2))
                    repeat (go_quiet (first | ((with_reducible refine gate_dst (N := 7) rfl ?_); (try (refine gate_guard (by rfl) ?_; dsimp only)); refine box_event ?hg (N := 7) ?hd (cs := #[.int .i64 0, .int .i64 0, .string (⟨#[]⟩ : ByteArray)]) (t := 101) ?hr ?_; (case hd => rfl); (case hg => rfl); (case hr => first | (go_simp; done) | (go_simp; rfl)); intro gb117 hg w50 hbox hb; have BK117 := xM (hbox); have GW117 := xM ((by rw [hg]; exact (below_size (yh HB)) : w.heap.size ≤ gb117)); have GE117 := xM ((by rw [hg]; exact (below_size (yh HB)) : w.heap.size ≤ gb117)); have NB108_117 := xM ((by rw [hg]; exact Nat.ne_of_lt (blk_lt (g := gb108) (o := .cells #[.slice (some ad114) l0_0.length c0_0, .slice A0_1 l0_1.length c0_1] 64 (0, 0)) (by (with_reducible repeat (first | apply xbN | apply xbD | apply xbA)); refine blk_far ?_ NB108_115.out _; (with_reducible repeat (first | apply xbN | apply xbD | apply xbA)); refine blk_far ?_ NB108_115.out _; (with_reducible repeat (first | apply xbN | apply xbD | apply xbA)); refine blk_far ?_ NB108_115.out _; (with_reducible repeat (first | apply xbN | apply xbD | apply xbA)); exact BK108.out)) : gb108 ≠ gb117)); have NB117_108 := xM ((by rw [hg]; exact Nat.ne_of_gt (blk_lt (g := gb108) (o := .cells #[.slice (some ad114) l0_0.length c0_0, .slice A0_1 l0_1.length c0_1] 64 (0, 0)) (by (with_reducible repeat (first | apply xbN | apply xbD | apply xbA)); refine blk_far ?_ NB108_115.out _; (with_reducible repeat (first | apply xbN | apply xbD | apply xbA)); refine blk_far ?_ NB108_115.out _; (with_reducible repeat (first | apply xbN | apply xbD | apply xbA)); refine blk_far ?_ NB108_115.out _; (with_reducible repeat (first | apply xbN | apply xbD | apply xbA)); exact BK108.out)) : gb117 ≠ gb108)); have NB115_117 := xM ((by rw [hg]; exact Nat.ne_of_lt (blk_lt (g := gb115) (o := .cells #[.int .i64 ((rd_T101 l0_0 x43_3).f0), .int .i64 ((rd_T101 l0_0 x43_3).f1), .string ((rd_T101 l0_0 x43_3).f2)] 101 (0, 0)) (by (with_reducible repeat (first | apply xbN | apply xbD | apply xbA)); refine blk_put (cs := #[.int .i64 ((rd_T101 l0_0 x43_3).f0), .int .i64 ((rd_T101 l0_0 x43_3).f1), .string (⟨#[]⟩ : ByteArray)]) ?_ 2 _ rfl; (with_reducible repeat (first | apply xbN | apply xbD | apply xbA)); refine blk_put (cs := #[.int .i64 ((rd_T101 l0_0 x43_3).f0), .int .i64 0, .string (⟨#[]⟩ : ByteArray)]) ?_ 1 _ rfl; (with_reducible repeat (first | apply xbN | apply xbD | apply xbA)); refine blk_put (cs := #[.int .i64 0, .int .i64 0, .string (⟨#[]⟩ : ByteArray)]) ?_ 0 _ rfl; (with_reducible repeat (first | apply xbN | apply xbD | apply xbA)); exact BK115.out)) : gb115 ≠ gb117)); have NB117_115 := xM ((by rw [hg]; exact Nat.ne_of_gt (blk_lt (g := gb115) (o := .cells #[.int .i64 ((rd_T101 l0_0 x43_3).f0), .int .i64 ((rd_T101 l0_0 x43_3).f1), .string ((rd_T101 l0_0 x43_3).f2)] 101 (0, 0)) (by (with_reducible repeat (first | apply xbN | apply xbD | apply xbA)); refine blk_put (cs := #[.int .i64 ((rd_T101 l0_0 x43_3).f0), .int .i64 ((rd_T101 l0_0 x43_3).f1), .string (⟨#[]⟩ : ByteArray)]) ?_ 2 _ rfl; (with_reducible repeat (first | apply xbN | apply xbD | apply xbA)); refine blk_put (cs := #[.int .i64 ((rd_T101 l0_0 x43_3).f0), .int .i64 0, .string (⟨#[]⟩ : ByteArray)]) ?_ 1 _ rfl; (with_reducible repeat (first | apply xbN | apply xbD | apply xbA)); refine blk_put (cs := #[.int .i64 0, .int .i64 0, .string (⟨#[]⟩ : ByteArray)]) ?_ 0 _ rfl; (with_reducible repeat (first | apply xbN | apply xbD | apply xbA)); exact BK115.out)) : gb117 ≠ gb115)); replace BK108 := xM (xB (g := gb108) (o := .cells #[.slice (some ad114) l0_0.length c0_0, .slice A0_1 l0_1.length c0_1] 64 (0, 0)) (by (with_reducible repeat (first | apply xbN | apply xbD | apply xbA)); refine blk_far ?_ NB108_115.out _; (with_reducible repeat (first | apply xbN | apply xbD | apply xbA)); refine blk_far ?_ NB108_115.out _; (with_reducible repeat (first | apply xbN | apply xbD | apply xbA)); refine blk_far ?_ NB108_115.out _; (with_reducible repeat (first | apply xbN | apply xbD | apply xbA)); exact BK108.out) hb); replace BK115 := xM (xB (g := gb115) (o := .cells #[.int .i64 ((rd_T101 l0_0 x43_3).f0), .int .i64 ((rd_T101 l0_0 x43_3).f1), .string ((rd_T101 l0_0 x43_3).f2)] 101 (0, 0)) (by (with_reducible repeat (first | apply xbN | apply xbD | apply xbA)); refine blk_put (cs := #[.int .i64 ((rd_T101 l0_0 x43_3).f0), .int .i64 ((rd_T101 l0_0 x43_3).f1), .string (⟨#[]⟩ : ByteArray)]) ?_ 2 _ rfl; (with_reducible repeat (first | apply xbN | apply xbD | apply xbA)); refine blk_put (cs := #[.int .i64 ((rd_T101 l0_0 x43_3).f0), .int .i64 0, .string (⟨#[]⟩ : ByteArray)]) ?_ 1 _ rfl; (with_reducible repeat (first | apply xbN | apply xbD | apply xbA)); refine blk_put (cs := #[.int .i64 0, .int .i64 0, .string (⟨#[]⟩ : ByteArray)]) ?_ 0 _ rfl; (with_reducible repeat (first | apply xbN | apply xbD | apply xbA)); exact BK115.out) hb); replace HB := xM (below_step (yh HB) hb); clear hb hbox hg; have hnb51 := NB117_108.out; have hnc51 := NB108_117.out; have hnb52 := NB117_115.out; have hnc52 := NB115_117.out; have hcz53_0 : w50.cell? ⟨gb117, 0, none⟩ = some (.int .i64 0) := (blk_cell BK117.out 0).trans rfl; have hcz53_1 : w50.cell? ⟨gb117, 1, none⟩ = some (.int .i64 0) := (blk_cell BK117.out 1).trans rfl; have hcz53_2 : w50.cell? ⟨gb117, 2, none⟩ = some (.string (⟨#[]⟩ : ByteArray)) := (blk_cell BK117.out 2).trans rfl; have hfz53_0 := blk_frozen BK117.out 0; have hfz53_1 := blk_frozen BK117.out 1; have hfz53_2 := blk_frozen BK117.out 2; have hcz54_0 : w50.cell? ⟨gb115, 0, none⟩ = some (.int .i64 ((rd_T101 l0_0 x43_3).f0)) := (blk_cell BK115.out 0).trans rfl; have hcz54_1 : w50.cell? ⟨gb115, 1, none⟩ = some (.int .i64 ((rd_T101 l0_0 x43_3).f1)) := (blk_cell BK115.out 1).trans rfl; have hcz54_2 : w50.cell? ⟨gb115, 2, none⟩ = some (.string ((rd_T101 l0_0 x43_3).f2)) := (blk_cell BK115.out 2).trans rfl; have hfz54_0 := blk_frozen BK115.out 0; have hfz54_1 := blk_frozen BK115.out 1; have hfz54_2 := blk_frozen BK115.out 2)); try go_wp2_with (first | ((with_reducible refine gate_dst (N := 7) rfl ?_); (try (refine gate_guard (by rfl) ?_; dsimp only)); refine box_event ?hg (N := 7) ?hd (cs := #[.int .i64 0, .int .i64 0, .string (⟨#[]⟩ : ByteArray)]) (t := 101) ?hr ?_; (case hd => rfl); (case hg => rfl); (case hr => first | (go_simp; done) | (go_simp; rfl)); intro gb117 hg w50 hbox hb; have BK117 := xM (hbox); have GW117 := xM ((by rw [hg]; exact (below_size (yh HB)) : w.heap.size ≤ gb117)); have GE117 := xM ((by rw [hg]; exact (below_size (yh HB)) : w.heap.size ≤ gb117)); have NB108_117 := xM ((by rw [hg]; exact Nat.ne_of_lt (blk_lt (g := gb108) (o := .cells #[.slice (some ad114) l0_0.length c0_0, .slice A0_1 l0_1.length c0_1] 64 (0, 0)) (by (with_reducible repeat (first | apply xbN | apply xbD | apply xbA)); refine blk_far ?_ NB108_115.out _; (with_reducible repeat (first | apply xbN | apply xbD | apply xbA)); refine blk_far ?_ NB108_115.out _; (with_reducible repeat (first | apply xbN | apply xbD | apply xbA)); refine blk_far ?_ NB108_115.out _; (with_reducible repeat (first | apply xbN | apply xbD | apply xbA)); exact BK108.out)) : gb108 ≠ gb117)); have NB117_108 := xM ((by rw [hg]; exact Nat.ne_of_gt (blk_lt (g := gb108) (o := .cells #[.slice (some ad114) l0_0.length c0_0, .slice A0_1 l0_1.length c0_1] 64 (0, 0)) (by (with_reducible repeat (first | apply xbN | apply xbD | apply xbA)); refine blk_far ?_ NB108_115.out _; (with_reducible repeat (first | apply xbN | apply xbD | apply xbA)); refine blk_far ?_ NB108_115.out _; (with_reducible repeat (first | apply xbN | apply xbD | apply xbA)); refine blk_far ?_ NB108_115.out _; (with_reducible repeat (first | apply xbN | apply xbD | apply xbA)); exact BK108.out)) : gb117 ≠ gb108)); have NB115_117 := xM ((by rw [hg]; exact Nat.ne_of_lt (blk_lt (g := gb115) (o := .cells #[.int .i64 ((rd_T101 l0_0 x43_3).f0), .int .i64 ((rd_T101 l0_0 x43_3).f1), .string ((rd_T101 l0_0 x43_3).f2)] 101 (0, 0)) (by (with_reducible repeat (first | apply xbN | apply xbD | apply xbA)); refine blk_put (cs := #[.int .i64 ((rd_T101 l0_0 x43_3).f0), .int .i64 ((rd_T101 l0_0 x43_3).f1), .string (⟨#[]⟩ : ByteArray)]) ?_ 2 _ rfl; (with_reducible repeat (first | apply xbN | apply xbD | apply xbA)); refine blk_put (cs := #[.int .i64 ((rd_T101 l0_0 x43_3).f0), .int .i64 0, .string (⟨#[]⟩ : ByteArray)]) ?_ 1 _ rfl; (with_reducible repeat (first | apply xbN | apply xbD | apply xbA)); refine blk_put (cs := #[.int .i64 0, .int .i64 0, .string (⟨#[]⟩ : ByteArray)]) ?_ 0 _ rfl; (with_reducible repeat (first | apply xbN | apply xbD | apply xbA)); exact BK115.out)) : gb115 ≠ gb117)); have NB117_115 := xM ((by rw [hg]; exact Nat.ne_of_gt (blk_lt (g := gb115) (o := .cells #[.int .i64 ((rd_T101 l0_0 x43_3).f0), .int .i64 ((rd_T101 l0_0 x43_3).f1), .string ((rd_T101 l0_0 x43_3).f2)] 101 (0, 0)) (by (with_reducible repeat (first | apply xbN | apply xbD | apply xbA)); refine blk_put (cs := #[.int .i64 ((rd_T101 l0_0 x43_3).f0), .int .i64 ((rd_T101 l0_0 x43_3).f1), .string (⟨#[]⟩ : ByteArray)]) ?_ 2 _ rfl; (with_reducible repeat (first | apply xbN | apply xbD | apply xbA)); refine blk_put (cs := #[.int .i64 ((rd_T101 l0_0 x43_3).f0), .int .i64 0, .string (⟨#[]⟩ : ByteArray)]) ?_ 1 _ rfl; (with_reducible repeat (first | apply xbN | apply xbD | apply xbA)); refine blk_put (cs := #[.int .i64 0, .int .i64 0, .string (⟨#[]⟩ : ByteArray)]) ?_ 0 _ rfl; (with_reducible repeat (first | apply xbN | apply xbD | apply xbA)); exact BK115.out)) : gb117 ≠ gb115)); replace BK108 := xM (xB (g := gb108) (o := .cells #[.slice (some ad114) l0_0.length c0_0, .slice A0_1 l0_1.length c0_1] 64 (0, 0)) (by (with_reducible repeat (first | apply xbN | apply xbD | apply xbA)); refine blk_far ?_ NB108_115.out _; (with_reducible repeat (first | apply xbN | apply xbD | apply xbA)); refine blk_far ?_ NB108_115.out _; (with_reducible repeat (first | apply xbN | apply xbD | apply xbA)); refine blk_far ?_ NB108_115.out _; (with_reducible repeat (first | apply xbN | apply xbD | apply xbA)); exact BK108.out) hb); replace BK115 := xM (xB (g := gb115) (o := .cells #[.int .i64 ((rd_T101 l0_0 x43_3).f0), .int .i64 ((rd_T101 l0_0 x43_3).f1), .string ((rd_T101 l0_0 x43_3).f2)] 101 (0, 0)) (by (with_reducible repeat (first | apply xbN | apply xbD | apply xbA)); refine blk_put (cs := #[.int .i64 ((rd_T101 l0_0 x43_3).f0), .int .i64 ((rd_T101 l0_0 x43_3).f1), .string (⟨#[]⟩ : ByteArray)]) ?_ 2 _ rfl; (with_reducible repeat (first | apply xbN | apply xbD | apply xbA)); refine blk_put (cs := #[.int .i64 ((rd_T101 l0_0 x43_3).f0), .int .i64 0, .string (⟨#[]⟩ : ByteArray)]) ?_ 1 _ rfl; (with_reducible repeat (first | apply xbN | apply xbD | apply xbA)); refine blk_put (cs := #[.int .i64 0, .int .i64 0, .string (⟨#[]⟩ : ByteArray)]) ?_ 0 _ rfl; (with_reducible repeat (first | apply xbN | apply xbD | apply xbA)); exact BK115.out) hb); replace HB := xM (below_step (yh HB) hb); clear hb hbox hg; have hnb51 := NB117_108.out; have hnc51 := NB108_117.out; have hnb52 := NB117_115.out; have hnc52 := NB115_117.out; have hcz53_0 : w50.cell? ⟨gb117, 0, none⟩ = some (.int .i64 0) := (blk_cell BK117.out 0).trans rfl; have hcz53_1 : w50.cell? ⟨gb117, 1, none⟩ = some (.int .i64 0) := (blk_cell BK117.out 1).trans rfl; have hcz53_2 : w50.cell? ⟨gb117, 2, none⟩ = some (.string (⟨#[]⟩ : ByteArray)) := (blk_cell BK117.out 2).trans rfl; have hfz53_0 := blk_frozen BK117.out 0; have hfz53_1 := blk_frozen BK117.out 1; have hfz53_2 := blk_frozen BK117.out 2; have hcz54_0 : w50.cell? ⟨gb115, 0, none⟩ = some (.int .i64 ((rd_T101 l0_0 x43_3).f0)) := (blk_cell BK115.out 0).trans rfl; have hcz54_1 : w50.cell? ⟨gb115, 1, none⟩ = some (.int .i64 ((rd_T101 l0_0 x43_3).f1)) := (blk_cell BK115.out 1).trans rfl; have hcz54_2 : w50.cell? ⟨gb115, 2, none⟩ = some (.string ((rd_T101 l0_0 x43_3).f2)) := (blk_cell BK115.out 2).trans rfl; have hfz54_0 := blk_frozen BK115.out 0; have hfz54_1 := blk_frozen BK115.out 1; have hfz54_2 := blk_frozen BK115.out 2)))
                    go_ret
                    exact ⟨by first | rfl | (simp [errW_none, errW_some] <;> rfl) | (simp only [← hji35]; first | rfl | (simp [errW_none, errW_some] <;> rfl)) | (simp [*, errW_none, errW_some] <;> rfl), by repeat (first | (with_reducible first | exact HB.out | apply xa | apply xn | apply xd | refine xs ?_ GE108.out | refine xs ?_ GE115.out | refine xs ?_ GE117.out) | exact HB.out)⟩
                   ·rw [if_neg c47] at H
                    have c47b0 : decide (((rd_T101 l0_0 x43_3).f1) ≤ ((rd_T101 l0_0 (ji35)).f1)) = false := decide_eq_false c47
                    clear c47
                    have H' := Aside0.mk H
                    clear H
                    have hnb55 := NB108_115.out
                    have hnc55 := NB115_108.out
                    have hcz56_0 : w31.cell? ⟨gb108, 0, none⟩ = some (.slice (some ad114) l0_0.length c0_0) := (blk_cell BK108.out 0).trans rfl
                    have hcz56_1 : w31.cell? ⟨gb108, 1, none⟩ = some (.slice A0_1 l0_1.length c0_1) := (blk_cell BK108.out 1).trans rfl
                    have hfz56_0 := blk_frozen BK108.out 0
                    have hfz56_1 := blk_frozen BK108.out 1
                    have p116 : 0 ≤ ((ji35) : Int) := of_decide_eq_true (by first | (with_reducible assumption) | assumption)
                    have q116 : (ji35) < (l0_0.length : Int) := of_decide_eq_true (by first | (with_reducible assumption) | assumption)
                    obtain ⟨ad116, e116, hx116_0, hx116_1, hx116_2⟩ := at_T101 HR0_0.out (ji35) p116 q116
                    obtain rfl : ad114 = ad116 := (by injection e116)
                    have hn116_0 : ad114.block ≠ gb115 := Nat.ne_of_lt (Nat.lt_of_lt_of_le (by have := World.block_lt_of_cell? _ _ hx116_0; first | rwa [add_block] at this | exact this) GW115.out)
                    have hn116_1 : ad114.block ≠ gb115 := Nat.ne_of_lt (Nat.lt_of_lt_of_le (by have := World.block_lt_of_cell? _ _ hx116_0; first | rwa [add_block] at this | exact this) GW115.out)
                    have hn116_2 : ad114.block ≠ gb115 := Nat.ne_of_lt (Nat.lt_of_lt_of_le (by have := World.block_lt_of_cell? _ _ hx116_0; first | rwa [add_block] at this | exact this) GW115.out)
                    replace hx116_0 := (HB.out.cell (World.block_lt_of_cell? w _ hx116_0)).trans hx116_0
                    replace hx116_1 := (HB.out.cell (World.block_lt_of_cell? w _ hx116_1)).trans hx116_1
                    replace hx116_2 := (HB.out.cell (World.block_lt_of_cell? w _ hx116_2)).trans hx116_2
                    replace hx116_0 := (cell_far (p := ⟨gb115, 0, none⟩) (by first | (rw [add_block]; exact hn116_0) | (show (Addr.add _ _).block ≠ _; rw [add_block]; exact hn116_0) | exact hn116_0) (.int .i64 ((rd_T101 l0_0 x43_3).f0))).trans hx116_0
                    replace hx116_1 := (cell_far (p := ⟨gb115, 0, none⟩) (by first | (rw [add_block]; exact hn116_0) | (show (Addr.add _ _).block ≠ _; rw [add_block]; exact hn116_0) | exact hn116_0) (.int .i64 ((rd_T101 l0_0 x43_3).f0))).trans hx116_1
                    replace hx116_2 := (cell_far (p := ⟨gb115, 0, none⟩) (by first | (rw [add_block]; exact hn116_0) | (show (Addr.add _ _).block ≠ _; rw [add_block]; exact hn116_0) | exact hn116_0) (.int .i64 ((rd_T101 l0_0 x43_3).f0))).trans hx116_2
                    replace hx116_0 := (cell_far (p := ⟨gb115, 1, none⟩) (by first | (rw [add_block]; exact hn116_1) | (show (Addr.add _ _).block ≠ _; rw [add_block]; exact hn116_1) | exact hn116_1) (.int .i64 ((rd_T101 l0_0 x43_3).f1))).trans hx116_0
                    replace hx116_1 := (cell_far (p := ⟨gb115, 1, none⟩) (by first | (rw [add_block]; exact hn116_1) | (show (Addr.add _ _).block ≠ _; rw [add_block]; exact hn116_1) | exact hn116_1) (.int .i64 ((rd_T101 l0_0 x43_3).f1))).trans hx116_1
                    replace hx116_2 := (cell_far (p := ⟨gb115, 1, none⟩) (by first | (rw [add_block]; exact hn116_1) | (show (Addr.add _ _).block ≠ _; rw [add_block]; exact hn116_1) | exact hn116_1) (.int .i64 ((rd_T101 l0_0 x43_3).f1))).trans hx116_2
                    replace hx116_0 := (cell_far (p := ⟨gb115, 2, none⟩) (by first | (rw [add_block]; exact hn116_2) | (show (Addr.add _ _).block ≠ _; rw [add_block]; exact hn116_2) | exact hn116_2) (.string ((rd_T101 l0_0 x43_3).f2))).trans hx116_0
                    replace hx116_1 := (cell_far (p := ⟨gb115, 2, none⟩) (by first | (rw [add_block]; exact hn116_2) | (show (Addr.add _ _).block ≠ _; rw [add_block]; exact hn116_2) | exact hn116_2) (.string ((rd_T101 l0_0 x43_3).f2))).trans hx116_1
                    replace hx116_2 := (cell_far (p := ⟨gb115, 2, none⟩) (by first | (rw [add_block]; exact hn116_2) | (show (Addr.add _ _).block ≠ _; rw [add_block]; exact hn116_2) | exact hn116_2) (.string ((rd_T101 l0_0 x43_3).f2))).trans hx116_2
                    (try have hy116_0 := fun (n_ : Nat) => (show (((((w31.drewN n_).setCell ⟨gb115, 0, none⟩ (.int .i64 ((rd_T101 l0_0 x43_3).f0))).setCell ⟨gb115, 1, none⟩ (.int .i64 ((rd_T101 l0_0 x43_3).f1))).setCell ⟨gb115, 2, none⟩ (.string ((rd_T101 l0_0 x43_3).f2)))).cell? _ = some _ from hx116_0))
                    (try have hy116_1 := fun (n_ : Nat) => (show (((((w31.drewN n_).setCell ⟨gb115, 0, none⟩ (.int .i64 ((rd_T101 l0_0 x43_3).f0))).setCell ⟨gb115, 1, none⟩ (.int .i64 ((rd_T101 l0_0 x43_3).f1))).setCell ⟨gb115, 2, none⟩ (.string ((rd_T101 l0_0 x43_3).f2)))).cell? _ = some _ from hx116_1))
                    (try have hy116_2 := fun (n_ : Nat) => (show (((((w31.drewN n_).setCell ⟨gb115, 0, none⟩ (.int .i64 ((rd_T101 l0_0 x43_3).f0))).setCell ⟨gb115, 1, none⟩ (.int .i64 ((rd_T101 l0_0 x43_3).f1))).setCell ⟨gb115, 2, none⟩ (.string ((rd_T101 l0_0 x43_3).f2)))).cell? _ = some _ from hx116_2))
                    clear hn116_0
                    clear hn116_1
                    clear hn116_2
                    replace p116 := eq_true p116
                    replace q116 := eq_true q116
                    go_wp2_with (first | ((with_reducible refine gate_dst (N := 7) rfl ?_); (try (refine gate_guard (by rfl) ?_; dsimp only)); refine box_event ?hg (N := 7) ?hd (cs := #[.int .i64 0, .int .i64 0, .string (⟨#[]⟩ : ByteArray)]) (t := 101) ?hr ?_; (case hd => rfl); (case hg => rfl); (case hr => first | (go_simp; done) | (go_simp; rfl)); intro gb117 hg w57 hbox hb; have BK117 := xM (hbox); have GW117 := xM ((by rw [hg]; exact (below_size (yh HB)) : w.heap.size ≤ gb117)); have GE117 := xM ((by rw [hg]; exact (below_size (yh HB)) : w.heap.size ≤ gb117)); have NB108_117 := xM ((by rw [hg]; exact Nat.ne_of_lt (blk_lt (g := gb108) (o := .cells #[.slice (some ad114) l0_0.length c0_0, .slice A0_1 l0_1.length c0_1] 64 (0, 0)) (by (with_reducible repeat (first | apply xbN | apply xbD | apply xbA)); refine blk_far ?_ NB108_115.out _; (with_reducible repeat (first | apply xbN | apply xbD | apply xbA)); refine blk_far ?_ NB108_115.out _; (with_reducible repeat (first | apply xbN | apply xbD | apply xbA)); refine blk_far ?_ NB108_115.out _; (with_reducible repeat (first | apply xbN | apply xbD | apply xbA)); exact BK108.out)) : gb108 ≠ gb117)); have NB117_108 := xM ((by rw [hg]; exact Nat.ne_of_gt (blk_lt (g := gb108) (o := .cells #[.slice (some ad114) l0_0.length c0_0, .slice A0_1 l0_1.length c0_1] 64 (0, 0)) (by (with_reducible repeat (first | apply xbN | apply xbD | apply xbA)); refine blk_far ?_ NB108_115.out _; (with_reducible repeat (first | apply xbN | apply xbD | apply xbA)); refine blk_far ?_ NB108_115.out _; (with_reducible repeat (first | apply xbN | apply xbD | apply xbA)); refine blk_far ?_ NB108_115.out _; (with_reducible repeat (first | apply xbN | apply xbD | apply xbA)); exact BK108.out)) : gb117 ≠ gb108)); have NB115_117 := xM ((by rw [hg]; exact Nat.ne_of_lt (blk_lt (g := gb115) (o := .cells #[.int .i64 ((rd_T101 l0_0 x43_3).f0), .int .i64 ((rd_T101 l0_0 x43_3).f1), .string ((rd_T101 l0_0 x43_3).f2)] 101 (0, 0)) (by (with_reducible repeat (first | apply xbN | apply xbD | apply xbA)); refine blk_put (cs := #[.int .i64 ((rd_T101 l0_0 x43_3).f0), .int .i64 ((rd_T101 l0_0 x43_3).f1), .string (⟨#[]⟩ : ByteArray)]) ?_ 2 _ rfl; (with_reducible repeat (first | apply xbN | apply xbD | apply xbA)); refine blk_put (cs := #[.int .i64 ((rd_T101 l0_0 x43_3).f0), .int .i64 0, .string (⟨#[]⟩ : ByteArray)]) ?_ 1 _ rfl; (with_reducible repeat (first | apply xbN | apply xbD | apply xbA)); refine blk_put (cs := #[.int .i64 0, .int .i64 0, .string (⟨#[]⟩ : ByteArray)]) ?_ 0 _ rfl; (with_reducible repeat (first | apply xbN | apply xbD | apply xbA)); exact BK115.out)) : gb115 ≠ gb117)); have NB117_115 := xM ((by rw [hg]; exact Nat.ne_of_gt (blk_lt (g := gb115) (o := .cells #[.int .i64 ((rd_T101 l0_0 x43_3).f0), .int .i64 ((rd_T101 l0_0 x43_3).f1), .string ((rd_T101 l0_0 x43_3).f2)] 101 (0, 0)) (by (with_reducible repeat (first | apply xbN | apply xbD | apply xbA)); refine blk_put (cs := #[.int .i64 ((rd_T101 l0_0 x43_3).f0), .int .i64 ((rd_T101 l0_0 x43_3).f1), .string (⟨#[]⟩ : ByteArray)]) ?_ 2 _ rfl; (with_reducible repeat (first | apply xbN | apply xbD | apply xbA)); refine blk_put (cs := #[.int .i64 ((rd_T101 l0_0 x43_3).f0), .int .i64 0, .string (⟨#[]⟩ : ByteArray)]) ?_ 1 _ rfl; (with_reducible repeat (first | apply xbN | apply xbD | apply xbA)); refine blk_put (cs := #[.int .i64 0, .int .i64 0, .string (⟨#[]⟩ : ByteArray)]) ?_ 0 _ rfl; (with_reducible repeat (first | apply xbN | apply xbD | apply xbA)); exact BK115.out)) : gb117 ≠ gb115)); replace BK108 := xM (xB (g := gb108) (o := .cells #[.slice (some ad114) l0_0.length c0_0, .slice A0_1 l0_1.length c0_1] 64 (0, 0)) (by (with_reducible repeat (first | apply xbN | apply xbD | apply xbA)); refine blk_far ?_ NB108_115.out _; (with_reducible repeat (first | apply xbN | apply xbD | apply xbA)); refine blk_far ?_ NB108_115.out _; (with_reducible repeat (first | apply xbN | apply xbD | apply xbA)); refine blk_far ?_ NB108_115.out _; (with_reducible repeat (first | apply xbN | apply xbD | apply xbA)); exact BK108.out) hb); replace BK115 := xM (xB (g := gb115) (o := .cells #[.int .i64 ((rd_T101 l0_0 x43_3).f0), .int .i64 ((rd_T101 l0_0 x43_3).f1), .string ((rd_T101 l0_0 x43_3).f2)] 101 (0, 0)) (by (with_reducible repeat (first | apply xbN | apply xbD | apply xbA)); refine blk_put (cs := #[.int .i64 ((rd_T101 l0_0 x43_3).f0), .int .i64 ((rd_T101 l0_0 x43_3).f1), .string (⟨#[]⟩ : ByteArray)]) ?_ 2 _ rfl; (with_reducible repeat (first | apply xbN | apply xbD | apply xbA)); refine blk_put (cs := #[.int .i64 ((rd_T101 l0_0 x43_3).f0), .int .i64 0, .string (⟨#[]⟩ : ByteArray)]) ?_ 1 _ rfl; (with_reducible repeat (first | apply xbN | apply xbD | apply xbA)); refine blk_put (cs := #[.int .i64 0, .int .i64 0, .string (⟨#[]⟩ : ByteArray)]) ?_ 0 _ rfl; (with_reducible repeat (first | apply xbN | apply xbD | apply xbA)); exact BK115.out) hb); replace HB := xM (below_step (yh HB) hb); clear hb hbox hg; have hnb58 := NB117_108.out; have hnc58 := NB108_117.out; have hnb59 := NB117_115.out; have hnc59 := NB115_117.out; have hcz60_0 : w57.cell? ⟨gb117, 0, none⟩ = some (.int .i64 0) := (blk_cell BK117.out 0).trans rfl; have hcz60_1 : w57.cell? ⟨gb117, 1, none⟩ = some (.int .i64 0) := (blk_cell BK117.out 1).trans rfl; have hcz60_2 : w57.cell? ⟨gb117, 2, none⟩ = some (.string (⟨#[]⟩ : ByteArray)) := (blk_cell BK117.out 2).trans rfl; have hfz60_0 := blk_frozen BK117.out 0; have hfz60_1 := blk_frozen BK117.out 1; have hfz60_2 := blk_frozen BK117.out 2; have hcz61_0 : w57.cell? ⟨gb115, 0, none⟩ = some (.int .i64 ((rd_T101 l0_0 x43_3).f0)) := (blk_cell BK115.out 0).trans rfl; have hcz61_1 : w57.cell? ⟨gb115, 1, none⟩ = some (.int .i64 ((rd_T101 l0_0 x43_3).f1)) := (blk_cell BK115.out 1).trans rfl; have hcz61_2 : w57.cell? ⟨gb115, 2, none⟩ = some (.string ((rd_T101 l0_0 x43_3).f2)) := (blk_cell BK115.out 2).trans rfl; have hfz61_0 := blk_frozen BK115.out 0; have hfz61_1 := blk_frozen BK115.out 1; have hfz61_2 := blk_frozen BK115.out 2))
                    repeat (go_quiet (first | ((with_reducible refine gate_dst (N := 7) rfl ?_); (try (refine gate_guard (by rfl) ?_; dsimp only)); refine box_event ?hg (N := 7) ?hd (cs := #[.int .i64 0, .int .i64 0, .string (⟨#[]⟩ : ByteArray)]) (t := 101) ?hr ?_; (case hd => rfl); (case hg => rfl); (case hr => first | (go_simp; done) | (go_simp; rfl)); intro gb117 hg w57 hbox hb; have BK117 := xM (hbox); have GW117 := xM ((by rw [hg]; exact (below_size (yh HB)) : w.heap.size ≤ gb117)); have GE117 := xM ((by rw [hg]; exact (below_size (yh HB)) : w.heap.size ≤ gb117)); have NB108_117 := xM ((by rw [hg]; exact Nat.ne_of_lt (blk_lt (g := gb108) (o := .cells #[.slice (some ad114) l0_0.length c0_0, .slice A0_1 l0_1.length c0_1] 64 (0, 0)) (by (with_reducible repeat (first | apply xbN | apply xbD | apply xbA)); refine blk_far ?_ NB108_115.out _; (with_reducible repeat (first | apply xbN | apply xbD | apply xbA)); refine blk_far ?_ NB108_115.out _; (with_reducible repeat (first | apply xbN | apply xbD | apply xbA)); refine blk_far ?_ NB108_115.out _; (with_reducible repeat (first | apply xbN | apply xbD | apply xbA)); exact BK108.out)) : gb108 ≠ gb117)); have NB117_108 := xM ((by rw [hg]; exact Nat.ne_of_gt (blk_lt (g := gb108) (o := .cells #[.slice (some ad114) l0_0.length c0_0, .slice A0_1 l0_1.length c0_1] 64 (0, 0)) (by (with_reducible repeat (first | apply xbN | apply xbD | apply xbA)); refine blk_far ?_ NB108_115.out _; (with_reducible repeat (first | apply xbN | apply xbD | apply xbA)); refine blk_far ?_ NB108_115.out _; (with_reducible repeat (first | apply xbN | apply xbD | apply xbA)); refine blk_far ?_ NB108_115.out _; (with_reducible repeat (first | apply xbN | apply xbD | apply xbA)); exact BK108.out)) : gb117 ≠ gb108)); have NB115_117 := xM ((by rw [hg]; exact Nat.ne_of_lt (blk_lt (g := gb115) (o := .cells #[.int .i64 ((rd_T101 l0_0 x43_3).f0), .int .i64 ((rd_T101 l0_0 x43_3).f1), .string ((rd_T101 l0_0 x43_3).f2)] 101 (0, 0)) (by (with_reducible repeat (first | apply xbN | apply xbD | apply xbA)); refine blk_put (cs := #[.int .i64 ((rd_T101 l0_0 x43_3).f0), .int .i64 ((rd_T101 l0_0 x43_3).f1), .string (⟨#[]⟩ : ByteArray)]) ?_ 2 _ rfl; (with_reducible repeat (first | apply xbN | apply xbD | apply xbA)); refine blk_put (cs := #[.int .i64 ((rd_T101 l0_0 x43_3).f0), .int .i64 0, .string (⟨#[]⟩ : ByteArray)]) ?_ 1 _ rfl; (with_reducible repeat (first | apply xbN | apply xbD | apply xbA)); refine blk_put (cs := #[.int .i64 0, .int .i64 0, .string (⟨#[]⟩ : ByteArray)]) ?_ 0 _ rfl; (with_reducible repeat (first | apply xbN | apply xbD | apply xbA)); exact BK115.out)) : gb115 ≠ gb117)); have NB117_115 := xM ((by rw [hg]; exact Nat.ne_of_gt (blk_lt (g := gb115) (o := .cells #[.int .i64 ((rd_T101 l0_0 x43_3).f0), .int .i64 ((rd_T101 l0_0 x43_3).f1), .string ((rd_T101 l0_0 x43_3).f2)] 101 (0, 0)) (by (with_reducible repeat (first | apply xbN | apply xbD | apply xbA)); refine blk_put (cs := #[.int .i64 ((rd_T101 l0_0 x43_3).f0), .int .i64 ((rd_T101 l0_0 x43_3).f1), .string (⟨#[]⟩ : ByteArray)]) ?_ 2 _ rfl; (with_reducible repeat (first | apply xbN | apply xbD | apply xbA)); refine blk_put (cs := #[.int .i64 ((rd_T101 l0_0 x43_3).f0), .int .i64 0, .string (⟨#[]⟩ : ByteArray)]) ?_ 1 _ rfl; (with_reducible repeat (first | apply xbN | apply xbD | apply xbA)); refine blk_put (cs := #[.int .i64 0, .int .i64 0, .string (⟨#[]⟩ : ByteArray)]) ?_ 0 _ rfl; (with_reducible repeat (first | apply xbN | apply xbD | apply xbA)); exact BK115.out)) : gb117 ≠ gb115)); replace BK108 := xM (xB (g := gb108) (o := .cells #[.slice (some ad114) l0_0.length c0_0, .slice A0_1 l0_1.length c0_1] 64 (0, 0)) (by (with_reducible repeat (first | apply xbN | apply xbD | apply xbA)); refine blk_far ?_ NB108_115.out _; (with_reducible repeat (first | apply xbN | apply xbD | apply xbA)); refine blk_far ?_ NB108_115.out _; (with_reducible repeat (first | apply xbN | apply xbD | apply xbA)); refine blk_far ?_ NB108_115.out _; (with_reducible repeat (first | apply xbN | apply xbD | apply xbA)); exact BK108.out) hb); replace BK115 := xM (xB (g := gb115) (o := .cells #[.int .i64 ((rd_T101 l0_0 x43_3).f0), .int .i64 ((rd_T101 l0_0 x43_3).f1), .string ((rd_T101 l0_0 x43_3).f2)] 101 (0, 0)) (by (with_reducible repeat (first | apply xbN | apply xbD | apply xbA)); refine blk_put (cs := #[.int .i64 ((rd_T101 l0_0 x43_3).f0), .int .i64 ((rd_T101 l0_0 x43_3).f1), .string (⟨#[]⟩ : ByteArray)]) ?_ 2 _ rfl; (with_reducible repeat (first | apply xbN | apply xbD | apply xbA)); refine blk_put (cs := #[.int .i64 ((rd_T101 l0_0 x43_3).f0), .int .i64 0, .string (⟨#[]⟩ : ByteArray)]) ?_ 1 _ rfl; (with_reducible repeat (first | apply xbN | apply xbD | apply xbA)); refine blk_put (cs := #[.int .i64 0, .int .i64 0, .string (⟨#[]⟩ : ByteArray)]) ?_ 0 _ rfl; (with_reducible repeat (first | apply xbN | apply xbD | apply xbA)); exact BK115.out) hb); replace HB := xM (below_step (yh HB) hb); clear hb hbox hg; have hnb58 := NB117_108.out; have hnc58 := NB108_117.out; have hnb59 := NB117_115.out; have hnc59 := NB115_117.out; have hcz60_0 : w57.cell? ⟨gb117, 0, none⟩ = some (.int .i64 0) := (blk_cell BK117.out 0).trans rfl; have hcz60_1 : w57.cell? ⟨gb117, 1, none⟩ = some (.int .i64 0) := (blk_cell BK117.out 1).trans rfl; have hcz60_2 : w57.cell? ⟨gb117, 2, none⟩ = some (.string (⟨#[]⟩ : ByteArray)) := (blk_cell BK117.out 2).trans rfl; have hfz60_0 := blk_frozen BK117.out 0; have hfz60_1 := blk_frozen BK117.out 1; have hfz60_2 := blk_frozen BK117.out 2; have hcz61_0 : w57.cell? ⟨gb115, 0, none⟩ = some (.int .i64 ((rd_T101 l0_0 x43_3).f0)) := (blk_cell BK115.out 0).trans rfl; have hcz61_1 : w57.cell? ⟨gb115, 1, none⟩ = some (.int .i64 ((rd_T101 l0_0 x43_3).f1)) := (blk_cell BK115.out 1).trans rfl; have hcz61_2 : w57.cell? ⟨gb115, 2, none⟩ = some (.string ((rd_T101 l0_0 x43_3).f2)) := (blk_cell BK115.out 2).trans rfl; have hfz61_0 := blk_frozen BK115.out 0; have hfz61_1 := blk_frozen BK115.out 1; have hfz61_2 := blk_frozen BK115.out 2)); try go_wp2_with (first | ((with_reducible refine gate_dst (N := 7) rfl ?_); (try (refine gate_guard (by rfl) ?_; dsimp only)); refine box_event ?hg (N := 7) ?hd (cs := #[.int .i64 0, .int .i64 0, .string (⟨#[]⟩ : ByteArray)]) (t := 101) ?hr ?_; (case hd => rfl); (case hg => rfl); (case hr => first | (go_simp; done) | (go_simp; rfl)); intro gb117 hg w57 hbox hb; have BK117 := xM (hbox); have GW117 := xM ((by rw [hg]; exact (below_size (yh HB)) : w.heap.size ≤ gb117)); have GE117 := xM ((by rw [hg]; exact (below_size (yh HB)) : w.heap.size ≤ gb117)); have NB108_117 := xM ((by rw [hg]; exact Nat.ne_of_lt (blk_lt (g := gb108) (o := .cells #[.slice (some ad114) l0_0.length c0_0, .slice A0_1 l0_1.length c0_1] 64 (0, 0)) (by (with_reducible repeat (first | apply xbN | apply xbD | apply xbA)); refine blk_far ?_ NB108_115.out _; (with_reducible repeat (first | apply xbN | apply xbD | apply xbA)); refine blk_far ?_ NB108_115.out _; (with_reducible repeat (first | apply xbN | apply xbD | apply xbA)); refine blk_far ?_ NB108_115.out _; (with_reducible repeat (first | apply xbN | apply xbD | apply xbA)); exact BK108.out)) : gb108 ≠ gb117)); have NB117_108 := xM ((by rw [hg]; exact Nat.ne_of_gt (blk_lt (g := gb108) (o := .cells #[.slice (some ad114) l0_0.length c0_0, .slice A0_1 l0_1.length c0_1] 64 (0, 0)) (by (with_reducible repeat (first | apply xbN | apply xbD | apply xbA)); refine blk_far ?_ NB108_115.out _; (with_reducible repeat (first | apply xbN | apply xbD | apply xbA)); refine blk_far ?_ NB108_115.out _; (with_reducible repeat (first | apply xbN | apply xbD | apply xbA)); refine blk_far ?_ NB108_115.out _; (with_reducible repeat (first | apply xbN | apply xbD | apply xbA)); exact BK108.out)) : gb117 ≠ gb108)); have NB115_117 := xM ((by rw [hg]; exact Nat.ne_of_lt (blk_lt (g := gb115) (o := .cells #[.int .i64 ((rd_T101 l0_0 x43_3).f0), .int .i64 ((rd_T101 l0_0 x43_3).f1), .string ((rd_T101 l0_0 x43_3).f2)] 101 (0, 0)) (by (with_reducible repeat (first | apply xbN | apply xbD | apply xbA)); refine blk_put (cs := #[.int .i64 ((rd_T101 l0_0 x43_3).f0), .int .i64 ((rd_T101 l0_0 x43_3).f1), .string (⟨#[]⟩ : ByteArray)]) ?_ 2 _ rfl; (with_reducible repeat (first | apply xbN | apply xbD | apply xbA)); refine blk_put (cs := #[.int .i64 ((rd_T101 l0_0 x43_3).f0), .int .i64 0, .string (⟨#[]⟩ : ByteArray)]) ?_ 1 _ rfl; (with_reducible repeat (first | apply xbN | apply xbD | apply xbA)); refine blk_put (cs := #[.int .i64 0, .int .i64 0, .string (⟨#[]⟩ : ByteArray)]) ?_ 0 _ rfl; (with_reducible repeat (first | apply xbN | apply xbD | apply xbA)); exact BK115.out)) : gb115 ≠ gb117)); have NB117_115 := xM ((by rw [hg]; exact Nat.ne_of_gt (blk_lt (g := gb115) (o := .cells #[.int .i64 ((rd_T101 l0_0 x43_3).f0), .int .i64 ((rd_T101 l0_0 x43_3).f1), .string ((rd_T101 l0_0 x43_3).f2)] 101 (0, 0)) (by (with_reducible repeat (first | apply xbN | apply xbD | apply xbA)); refine blk_put (cs := #[.int .i64 ((rd_T101 l0_0 x43_3).f0), .int .i64 ((rd_T101 l0_0 x43_3).f1), .string (⟨#[]⟩ : ByteArray)]) ?_ 2 _ rfl; (with_reducible repeat (first | apply xbN | apply xbD | apply xbA)); refine blk_put (cs := #[.int .i64 ((rd_T101 l0_0 x43_3).f0), .int .i64 0, .string (⟨#[]⟩ : ByteArray)]) ?_ 1 _ rfl; (with_reducible repeat (first | apply xbN | apply xbD | apply xbA)); refine blk_put (cs := #[.int .i64 0, .int .i64 0, .string (⟨#[]⟩ : ByteArray)]) ?_ 0 _ rfl; (with_reducible repeat (first | apply xbN | apply xbD | apply xbA)); exact BK115.out)) : gb117 ≠ gb115)); replace BK108 := xM (xB (g := gb108) (o := .cells #[.slice (some ad114) l0_0.length c0_0, .slice A0_1 l0_1.length c0_1] 64 (0, 0)) (by (with_reducible repeat (first | apply xbN | apply xbD | apply xbA)); refine blk_far ?_ NB108_115.out _; (with_reducible repeat (first | apply xbN | apply xbD | apply xbA)); refine blk_far ?_ NB108_115.out _; (with_reducible repeat (first | apply xbN | apply xbD | apply xbA)); refine blk_far ?_ NB108_115.out _; (with_reducible repeat (first | apply xbN | apply xbD | apply xbA)); exact BK108.out) hb); replace BK115 := xM (xB (g := gb115) (o := .cells #[.int .i64 ((rd_T101 l0_0 x43_3).f0), .int .i64 ((rd_T101 l0_0 x43_3).f1), .string ((rd_T101 l0_0 x43_3).f2)] 101 (0, 0)) (by (with_reducible repeat (first | apply xbN | apply xbD | apply xbA)); refine blk_put (cs := #[.int .i64 ((rd_T101 l0_0 x43_3).f0), .int .i64 ((rd_T101 l0_0 x43_3).f1), .string (⟨#[]⟩ : ByteArray)]) ?_ 2 _ rfl; (with_reducible repeat (first | apply xbN | apply xbD | apply xbA)); refine blk_put (cs := #[.int .i64 ((rd_T101 l0_0 x43_3).f0), .int .i64 0, .string (⟨#[]⟩ : ByteArray)]) ?_ 1 _ rfl; (with_reducible repeat (first | apply xbN | apply xbD | apply xbA)); refine blk_put (cs := #[.int .i64 0, .int .i64 0, .string (⟨#[]⟩ : ByteArray)]) ?_ 0 _ rfl; (with_reducible repeat (first | apply xbN | apply xbD | apply xbA)); exact BK115.out) hb); replace HB := xM (below_step (yh HB) hb); clear hb hbox hg; have hnb58 := NB117_108.out; have hnc58 := NB108_117.out; have hnb59 := NB117_115.out; have hnc59 := NB115_117.out; have hcz60_0 : w57.cell? ⟨gb117, 0, none⟩ = some (.int .i64 0) := (blk_cell BK117.out 0).trans rfl; have hcz60_1 : w57.cell? ⟨gb117, 1, none⟩ = some (.int .i64 0) := (blk_cell BK117.out 1).trans rfl; have hcz60_2 : w57.cell? ⟨gb117, 2, none⟩ = some (.string (⟨#[]⟩ : ByteArray)) := (blk_cell BK117.out 2).trans rfl; have hfz60_0 := blk_frozen BK117.out 0; have hfz60_1 := blk_frozen BK117.out 1; have hfz60_2 := blk_frozen BK117.out 2; have hcz61_0 : w57.cell? ⟨gb115, 0, none⟩ = some (.int .i64 ((rd_T101 l0_0 x43_3).f0)) := (blk_cell BK115.out 0).trans rfl; have hcz61_1 : w57.cell? ⟨gb115, 1, none⟩ = some (.int .i64 ((rd_T101 l0_0 x43_3).f1)) := (blk_cell BK115.out 1).trans rfl; have hcz61_2 : w57.cell? ⟨gb115, 2, none⟩ = some (.string ((rd_T101 l0_0 x43_3).f2)) := (blk_cell BK115.out 2).trans rfl; have hfz61_0 := blk_frozen BK115.out 0; have hfz61_1 := blk_frozen BK115.out 1; have hfz61_2 := blk_frozen BK115.out 2)))
                    go_meet
                    case rel => exact ⟨_, H', ⟨by have := HJ1.out; have := HK2.out; have := HK3.out; first | omega | exact Nat.le_refl _⟩, ⟨by (with_reducible repeat (first | apply xbN | apply xbD | apply xbA)); refine blk_far ?_ NB108_117.out _; (with_reducible repeat (first | apply xbN | apply xbD | apply xbA)); refine blk_far ?_ NB108_117.out _; (with_reducible repeat (first | apply xbN | apply xbD | apply xbA)); refine blk_far ?_ NB108_117.out _; (with_reducible repeat (first | apply xbN | apply xbD | apply xbA)); exact BK108.out⟩, ⟨by (with_reducible repeat (first | apply xbN | apply xbD | apply xbA)); refine blk_far ?_ NB115_117.out _; (with_reducible repeat (first | apply xbN | apply xbD | apply xbA)); refine blk_far ?_ NB115_117.out _; (with_reducible repeat (first | apply xbN | apply xbD | apply xbA)); refine blk_far ?_ NB115_117.out _; (with_reducible repeat (first | apply xbN | apply xbD | apply xbA)); exact BK115.out⟩, ⟨yh HB⟩⟩
                  ·rw [if_neg c46] at H
                   have c46b0 : (((rd_T101 l0_0 (ji35)).f0) == ((rd_T101 l0_0 x43_3).f0)) = false := beq_eq_false_iff_ne.mpr c46
                   have c46b1 : (((rd_T101 l0_0 (ji35)).f0) != ((rd_T101 l0_0 x43_3).f0)) = true := bne_iff_ne.mpr c46
                   have H' := Aside0.mk H
                   clear H
                   have hnb62 := NB108_115.out
                   have hnc62 := NB115_108.out
                   have hcz63_0 : w31.cell? ⟨gb108, 0, none⟩ = some (.slice (some ad114) l0_0.length c0_0) := (blk_cell BK108.out 0).trans rfl
                   have hcz63_1 : w31.cell? ⟨gb108, 1, none⟩ = some (.slice A0_1 l0_1.length c0_1) := (blk_cell BK108.out 1).trans rfl
                   have hfz63_0 := blk_frozen BK108.out 0
                   have hfz63_1 := blk_frozen BK108.out 1
                   have p116 : 0 ≤ ((ji35) : Int) := of_decide_eq_true (by first | (with_reducible assumption) | assumption)
                   have q116 : (ji35) < (l0_0.length : Int) := of_decide_eq_true (by first | (with_reducible assumption) | assumption)
                   obtain ⟨ad116, e116, hx116_0, hx116_1, hx116_2⟩ := at_T101 HR0_0.out (ji35) p116 q116
                   obtain rfl : ad114 = ad116 := (by injection e116)
                   have hn116_0 : ad114.block ≠ gb115 := Nat.ne_of_lt (Nat.lt_of_lt_of_le (by have := World.block_lt_of_cell? _ _ hx116_0; first | rwa [add_block] at this | exact this) GW115.out)
                   have hn116_1 : ad114.block ≠ gb115 := Nat.ne_of_lt (Nat.lt_of_lt_of_le (by have := World.block_lt_of_cell? _ _ hx116_0; first | rwa [add_block] at this | exact this) GW115.out)
                   have hn116_2 : ad114.block ≠ gb115 := Nat.ne_of_lt (Nat.lt_of_lt_of_le (by have := World.block_lt_of_cell? _ _ hx116_0; first | rwa [add_block] at this | exact this) GW115.out)
                   replace hx116_0 := (HB.out.cell (World.block_lt_of_cell? w _ hx116_0)).trans hx116_0
                   replace hx116_1 := (HB.out.cell (World.block_lt_of_cell? w _ hx116_1)).trans hx116_1
                   replace hx116_2 := (HB.out.cell (World.block_lt_of_cell? w _ hx116_2)).trans hx116_2
                   replace hx116_0 := (cell_far (p := ⟨gb115, 0, none⟩) (by first | (rw [add_block]; exact hn116_0) | (show (Addr.add _ _).block ≠ _; rw [add_block]; exact hn116_0) | exact hn116_0) (.int .i64 ((rd_T101 l0_0 x43_3).f0))).trans hx116_0
                   replace hx116_1 := (cell_far (p := ⟨gb115, 0, none⟩) (by first | (rw [add_block]; exact hn116_0) | (show (Addr.add _ _).block ≠ _; rw [add_block]; exact hn116_0) | exact hn116_0) (.int .i64 ((rd_T101 l0_0 x43_3).f0))).trans hx116_1
                   replace hx116_2 := (cell_far (p := ⟨gb115, 0, none⟩) (by first | (rw [add_block]; exact hn116_0) | (show (Addr.add _ _).block ≠ _; rw [add_block]; exact hn116_0) | exact hn116_0) (.int .i64 ((rd_T101 l0_0 x43_3).f0))).trans hx116_2
                   replace hx116_0 := (cell_far (p := ⟨gb115, 1, none⟩) (by first | (rw [add_block]; exact hn116_1) | (show (Addr.add _ _).block ≠ _; rw [add_block]; exact hn116_1) | exact hn116_1) (.int .i64 ((rd_T101 l0_0 x43_3).f1))).trans hx116_0
                   replace hx116_1 := (cell_far (p := ⟨gb115, 1, none⟩) (by first | (rw [add_block]; exact hn116_1) | (show (Addr.add _ _).block ≠ _; rw [add_block]; exact hn116_1) | exact hn116_1) (.int .i64 ((rd_T101 l0_0 x43_3).f1))).trans hx116_1
                   replace hx116_2 := (cell_far (p := ⟨gb115, 1, none⟩) (by first | (rw [add_block]; exact hn116_1) | (show (Addr.add _ _).block ≠ _; rw [add_block]; exact hn116_1) | exact hn116_1) (.int .i64 ((rd_T101 l0_0 x43_3).f1))).trans hx116_2
                   replace hx116_0 := (cell_far (p := ⟨gb115, 2, none⟩) (by first | (rw [add_block]; exact hn116_2) | (show (Addr.add _ _).block ≠ _; rw [add_block]; exact hn116_2) | exact hn116_2) (.string ((rd_T101 l0_0 x43_3).f2))).trans hx116_0
                   replace hx116_1 := (cell_far (p := ⟨gb115, 2, none⟩) (by first | (rw [add_block]; exact hn116_2) | (show (Addr.add _ _).block ≠ _; rw [add_block]; exact hn116_2) | exact hn116_2) (.string ((rd_T101 l0_0 x43_3).f2))).trans hx116_1
                   replace hx116_2 := (cell_far (p := ⟨gb115, 2, none⟩) (by first | (rw [add_block]; exact hn116_2) | (show (Addr.add _ _).block ≠ _; rw [add_block]; exact hn116_2) | exact hn116_2) (.string ((rd_T101 l0_0 x43_3).f2))).trans hx116_2
                   (try have hy116_0 := fun (n_ : Nat) => (show (((((w31.drewN n_).setCell ⟨gb115, 0, none⟩ (.int .i64 ((rd_T101 l0_0 x43_3).f0))).setCell ⟨gb115, 1, none⟩ (.int .i64 ((rd_T101 l0_0 x43_3).f1))).setCell ⟨gb115, 2, none⟩ (.string ((rd_T101 l0_0 x43_3).f2)))).cell? _ = some _ from hx116_0))
                   (try have hy116_1 := fun (n_ : Nat) => (show (((((w31.drewN n_).setCell ⟨gb115, 0, none⟩ (.int .i64 ((rd_T101 l0_0 x43_3).f0))).setCell ⟨gb115, 1, none⟩ (.int .i64 ((rd_T101 l0_0 x43_3).f1))).setCell ⟨gb115, 2, none⟩ (.string ((rd_T101 l0_0 x43_3).f2)))).cell? _ = some _ from hx116_1))
                   (try have hy116_2 := fun (n_ : Nat) => (show (((((w31.drewN n_).setCell ⟨gb115, 0, none⟩ (.int .i64 ((rd_T101 l0_0 x43_3).f0))).setCell ⟨gb115, 1, none⟩ (.int .i64 ((rd_T101 l0_0 x43_3).f1))).setCell ⟨gb115, 2, none⟩ (.string ((rd_T101 l0_0 x43_3).f2)))).cell? _ = some _ from hx116_2))
                   clear hn116_0
                   clear hn116_1
                   clear hn116_2
                   replace p116 := eq_true p116
                   replace q116 := eq_true q116
                   go_wp2_with (first | ((with_reducible refine gate_dst (N := 7) rfl ?_); (try (refine gate_guard (by rfl) ?_; dsimp only)); refine box_event ?hg (N := 7) ?hd (cs := #[.int .i64 0, .int .i64 0, .string (⟨#[]⟩ : ByteArray)]) (t := 101) ?hr ?_; (case hd => rfl); (case hg => rfl); (case hr => first | (go_simp; done) | (go_simp; rfl)); intro gb117 hg w64 hbox hb; have BK117 := xM (hbox); have GW117 := xM ((by rw [hg]; exact (below_size (yh HB)) : w.heap.size ≤ gb117)); have GE117 := xM ((by rw [hg]; exact (below_size (yh HB)) : w.heap.size ≤ gb117)); have NB108_117 := xM ((by rw [hg]; exact Nat.ne_of_lt (blk_lt (g := gb108) (o := .cells #[.slice (some ad114) l0_0.length c0_0, .slice A0_1 l0_1.length c0_1] 64 (0, 0)) (by (with_reducible repeat (first | apply xbN | apply xbD | apply xbA)); refine blk_far ?_ NB108_115.out _; (with_reducible repeat (first | apply xbN | apply xbD | apply xbA)); refine blk_far ?_ NB108_115.out _; (with_reducible repeat (first | apply xbN | apply xbD | apply xbA)); refine blk_far ?_ NB108_115.out _; (with_reducible repeat (first | apply xbN | apply xbD | apply xbA)); exact BK108.out)) : gb108 ≠ gb117)); have NB117_108 := xM ((by rw [hg]; exact Nat.ne_of_gt (blk_lt (g := gb108) (o := .cells #[.slice (some ad114) l0_0.length c0_0, .slice A0_1 l0_1.length c0_1] 64 (0, 0)) (by (with_reducible repeat (first | apply xbN | apply xbD | apply xbA)); refine blk_far ?_ NB108_115.out _; (with_reducible repeat (first | apply xbN | apply xbD | apply xbA)); refine blk_far ?_ NB108_115.out _; (with_reducible repeat (first | apply xbN | apply xbD | apply xbA)); refine blk_far ?_ NB108_115.out _; (with_reducible repeat (first | apply xbN | apply xbD | apply xbA)); exact BK108.out)) : gb117 ≠ gb108)); have NB115_117 := xM ((by rw [hg]; exact Nat.ne_of_lt (blk_lt (g := gb115) (o := .cells #[.int .i64 ((rd_T101 l0_0 x43_3).f0), .int .i64 ((rd_T101 l0_0 x43_3).f1), .string ((rd_T101 l0_0 x43_3).f2)] 101 (0, 0)) (by (with_reducible repeat (first | apply xbN | apply xbD | apply xbA)); refine blk_put (cs := #[.int .i64 ((rd_T101 l0_0 x43_3).f0), .int .i64 ((rd_T101 l0_0 x43_3).f1), .string (⟨#[]⟩ : ByteArray)]) ?_ 2 _ rfl; (with_reducible repeat (first | apply xbN | apply xbD | apply xbA)); refine blk_put (cs := #[.int .i64 ((rd_T101 l0_0 x43_3).f0), .int .i64 0, .string (⟨#[]⟩ : ByteArray)]) ?_ 1 _ rfl; (with_reducible repeat (first | apply xbN | apply xbD | apply xbA)); refine blk_put (cs := #[.int .i64 0, .int .i64 0, .string (⟨#[]⟩ : ByteArray)]) ?_ 0 _ rfl; (with_reducible repeat (first | apply xbN | apply xbD | apply xbA)); exact BK115.out)) : gb115 ≠ gb117)); have NB117_115 := xM ((by rw [hg]; exact Nat.ne_of_gt (blk_lt (g := gb115) (o := .cells #[.int .i64 ((rd_T101 l0_0 x43_3).f0), .int .i64 ((rd_T101 l0_0 x43_3).f1), .string ((rd_T101 l0_0 x43_3).f2)] 101 (0, 0)) (by (with_reducible repeat (first | apply xbN | apply xbD | apply xbA)); refine blk_put (cs := #[.int .i64 ((rd_T101 l0_0 x43_3).f0), .int .i64 ((rd_T101 l0_0 x43_3).f1), .string (⟨#[]⟩ : ByteArray)]) ?_ 2 _ rfl; (with_reducible repeat (first | apply xbN | apply xbD | apply xbA)); refine blk_put (cs := #[.int .i64 ((rd_T101 l0_0 x43_3).f0), .int .i64 0, .string (⟨#[]⟩ : ByteArray)]) ?_ 1 _ rfl; (with_reducible repeat (first | apply xbN | apply xbD | apply xbA)); refine blk_put (cs := #[.int .i64 0, .int .i64 0, .string (⟨#[]⟩ : ByteArray)]) ?_ 0 _ rfl; (with_reducible repeat (first | apply xbN | apply xbD | apply xbA)); exact BK115.out)) : gb117 ≠ gb115)); replace BK108 := xM (xB (g := gb108) (o := .cells #[.slice (some ad114) l0_0.length c0_0, .slice A0_1 l0_1.length c0_1] 64 (0, 0)) (by (with_reducible repeat (first | apply xbN | apply xbD | apply xbA)); refine blk_far ?_ NB108_115.out _; (with_reducible repeat (first | apply xbN | apply xbD | apply xbA)); refine blk_far ?_ NB108_115.out _; (with_reducible repeat (first | apply xbN | apply xbD | apply xbA)); refine blk_far ?_ NB108_115.out _; (with_reducible repeat (first | apply xbN | apply xbD | apply xbA)); exact BK108.out) hb); replace BK115 := xM (xB (g := gb115) (o := .cells #[.int .i64 ((rd_T101 l0_0 x43_3).f0), .int .i64 ((rd_T101 l0_0 x43_3).f1), .string ((rd_T101 l0_0 x43_3).f2)] 101 (0, 0)) (by (with_reducible repeat (first | apply xbN | apply xbD | apply xbA)); refine blk_put (cs := #[.int .i64 ((rd_T101 l0_0 x43_3).f0), .int .i64 ((rd_T101 l0_0 x43_3).f1), .string (⟨#[]⟩ : ByteArray)]) ?_ 2 _ rfl; (with_reducible repeat (first | apply xbN | apply xbD | apply xbA)); refine blk_put (cs := #[.int .i64 ((rd_T101 l0_0 x43_3).f0), .int .i64 0, .string (⟨#[]⟩ : ByteArray)]) ?_ 1 _ rfl; (with_reducible repeat (first | apply xbN | apply xbD | apply xbA)); refine blk_put (cs := #[.int .i64 0, .int .i64 0, .string (⟨#[]⟩ : ByteArray)]) ?_ 0 _ rfl; (with_reducible repeat (first | apply xbN | apply xbD | apply xbA)); exact BK115.out) hb); replace HB := xM (below_step (yh HB) hb); clear hb hbox hg; have hnb65 := NB117_108.out; have hnc65 := NB108_117.out; have hnb66 := NB117_115.out; have hnc66 := NB115_117.out; have hcz67_0 : w64.cell? ⟨gb117, 0, none⟩ = some (.int .i64 0) := (blk_cell BK117.out 0).trans rfl; have hcz67_1 : w64.cell? ⟨gb117, 1, none⟩ = some (.int .i64 0) := (blk_cell BK117.out 1).trans rfl; have hcz67_2 : w64.cell? ⟨gb117, 2, none⟩ = some (.string (⟨#[]⟩ : ByteArray)) := (blk_cell BK117.out 2).trans rfl; have hfz67_0 := blk_frozen BK117.out 0; have hfz67_1 := blk_frozen BK117.out 1; have hfz67_2 := blk_frozen BK117.out 2; have hcz68_0 : w64.cell? ⟨gb115, 0, none⟩ = some (.int .i64 ((rd_T101 l0_0 x43_3).f0)) := (blk_cell BK115.out 0).trans rfl; have hcz68_1 : w64.cell? ⟨gb115, 1, none⟩ = some (.int .i64 ((rd_T101 l0_0 x43_3).f1)) := (blk_cell BK115.out 1).trans rfl; have hcz68_2 : w64.cell? ⟨gb115, 2, none⟩ = some (.string ((rd_T101 l0_0 x43_3).f2)) := (blk_cell BK115.out 2).trans rfl; have hfz68_0 := blk_frozen BK115.out 0; have hfz68_1 := blk_frozen BK115.out 1; have hfz68_2 := blk_frozen BK115.out 2))
                   repeat (go_quiet (first | ((with_reducible refine gate_dst (N := 7) rfl ?_); (try (refine gate_guard (by rfl) ?_; dsimp only)); refine box_event ?hg (N := 7) ?hd (cs := #[.int .i64 0, .int .i64 0, .string (⟨#[]⟩ : ByteArray)]) (t := 101) ?hr ?_; (case hd => rfl); (case hg => rfl); (case hr => first | (go_simp; done) | (go_simp; rfl)); intro gb117 hg w64 hbox hb; have BK117 := xM (hbox); have GW117 := xM ((by rw [hg]; exact (below_size (yh HB)) : w.heap.size ≤ gb117)); have GE117 := xM ((by rw [hg]; exact (below_size (yh HB)) : w.heap.size ≤ gb117)); have NB108_117 := xM ((by rw [hg]; exact Nat.ne_of_lt (blk_lt (g := gb108) (o := .cells #[.slice (some ad114) l0_0.length c0_0, .slice A0_1 l0_1.length c0_1] 64 (0, 0)) (by (with_reducible repeat (first | apply xbN | apply xbD | apply xbA)); refine blk_far ?_ NB108_115.out _; (with_reducible repeat (first | apply xbN | apply xbD | apply xbA)); refine blk_far ?_ NB108_115.out _; (with_reducible repeat (first | apply xbN | apply xbD | apply xbA)); refine blk_far ?_ NB108_115.out _; (with_reducible repeat (first | apply xbN | apply xbD | apply xbA)); exact BK108.out)) : gb108 ≠ gb117)); have NB117_108 := xM ((by rw [hg]; exact Nat.ne_of_gt (blk_lt (g := gb108) (o := .cells #[.slice (some ad114) l0_0.length c0_0, .slice A0_1 l0_1.length c0_1] 64 (0, 0)) (by (with_reducible repeat (first | apply xbN | apply xbD | apply xbA)); refine blk_far ?_ NB108_115.out _; (with_reducible repeat (first | apply xbN | apply xbD | apply xbA)); refine blk_far ?_ NB108_115.out _; (with_reducible repeat (first | apply xbN | apply xbD | apply xbA)); refine blk_far ?_ NB108_115.out _; (with_reducible repeat (first | apply xbN | apply xbD | apply xbA)); exact BK108.out)) : gb117 ≠ gb108)); have NB115_117 := xM ((by rw [hg]; exact Nat.ne_of_lt (blk_lt (g := gb115) (o := .cells #[.int .i64 ((rd_T101 l0_0 x43_3).f0), .int .i64 ((rd_T101 l0_0 x43_3).f1), .string ((rd_T101 l0_0 x43_3).f2)] 101 (0, 0)) (by (with_reducible repeat (first | apply xbN | apply xbD | apply xbA)); refine blk_put (cs := #[.int .i64 ((rd_T101 l0_0 x43_3).f0), .int .i64 ((rd_T101 l0_0 x43_3).f1), .string (⟨#[]⟩ : ByteArray)]) ?_ 2 _ rfl; (with_reducible repeat (first | apply xbN | apply xbD | apply xbA)); refine blk_put (cs := #[.int .i64 ((rd_T101 l0_0 x43_3).f0), .int .i64 0, .string (⟨#[]⟩ : ByteArray)]) ?_ 1 _ rfl; (with_reducible repeat (first | apply xbN | apply xbD | apply xbA)); refine blk_put (cs := #[.int .i64 0, .int .i64 0, .string (⟨#[]⟩ : ByteArray)]) ?_ 0 _ rfl; (with_reducible repeat (first | apply xbN | apply xbD | apply xbA)); exact BK115.out)) : gb115 ≠ gb117)); have NB117_115 := xM ((by rw [hg]; exact Nat.ne_of_gt (blk_lt (g := gb115) (o := .cells #[.int .i64 ((rd_T101 l0_0 x43_3).f0), .int .i64 ((rd_T101 l0_0 x43_3).f1), .string ((rd_T101 l0_0 x43_3).f2)] 101 (0, 0)) (by (with_reducible repeat (first | apply xbN | apply xbD | apply xbA)); refine blk_put (cs := #[.int .i64 ((rd_T101 l0_0 x43_3).f0), .int .i64 ((rd_T101 l0_0 x43_3).f1), .string (⟨#[]⟩ : ByteArray)]) ?_ 2 _ rfl; (with_reducible repeat (first | apply xbN | apply xbD | apply xbA)); refine blk_put (cs := #[.int .i64 ((rd_T101 l0_0 x43_3).f0), .int .i64 0, .string (⟨#[]⟩ : ByteArray)]) ?_ 1 _ rfl; (with_reducible repeat (first | apply xbN | apply xbD | apply xbA)); refine blk_put (cs := #[.int .i64 0, .int .i64 0, .string (⟨#[]⟩ : ByteArray)]) ?_ 0 _ rfl; (with_reducible repeat (first | apply xbN | apply xbD | apply xbA)); exact BK115.out)) : gb117 ≠ gb115)); replace BK108 := xM (xB (g := gb108) (o := .cells #[.slice (some ad114) l0_0.length c0_0, .slice A0_1 l0_1.length c0_1] 64 (0, 0)) (by (with_reducible repeat (first | apply xbN | apply xbD | apply xbA)); refine blk_far ?_ NB108_115.out _; (with_reducible repeat (first | apply xbN | apply xbD | apply xbA)); refine blk_far ?_ NB108_115.out _; (with_reducible repeat (first | apply xbN | apply xbD | apply xbA)); refine blk_far ?_ NB108_115.out _; (with_reducible repeat (first | apply xbN | apply xbD | apply xbA)); exact BK108.out) hb); replace BK115 := xM (xB (g := gb115) (o := .cells #[.int .i64 ((rd_T101 l0_0 x43_3).f0), .int .i64 ((rd_T101 l0_0 x43_3).f1), .string ((rd_T101 l0_0 x43_3).f2)] 101 (0, 0)) (by (with_reducible repeat (first | apply xbN | apply xbD | apply xbA)); refine blk_put (cs := #[.int .i64 ((rd_T101 l0_0 x43_3).f0), .int .i64 ((rd_T101 l0_0 x43_3).f1), .string (⟨#[]⟩ : ByteArray)]) ?_ 2 _ rfl; (with_reducible repeat (first | apply xbN | apply xbD | apply xbA)); refine blk_put (cs := #[.int .i64 ((rd_T101 l0_0 x43_3).f0), .int .i64 0, .string (⟨#[]⟩ : ByteArray)]) ?_ 1 _ rfl; (with_reducible repeat (first | apply xbN | apply xbD | apply xbA)); refine blk_put (cs := #[.int .i64 0, .int .i64 0, .string (⟨#[]⟩ : ByteArray)]) ?_ 0 _ rfl; (with_reducible repeat (first | apply xbN | apply xbD | apply xbA)); exact BK115.out) hb); replace HB := xM (below_step (yh HB) hb); clear hb hbox hg; have hnb65 := NB117_108.out; have hnc65 := NB108_117.out; have hnb66 := NB117_115.out; have hnc66 := NB115_117.out; have hcz67_0 : w64.cell? ⟨gb117, 0, none⟩ = some (.int .i64 0) := (blk_cell BK117.out 0).trans rfl; have hcz67_1 : w64.cell? ⟨gb117, 1, none⟩ = some (.int .i64 0) := (blk_cell BK117.out 1).trans rfl; have hcz67_2 : w64.cell? ⟨gb117, 2, none⟩ = some (.string (⟨#[]⟩ : ByteArray)) := (blk_cell BK117.out 2).trans rfl; have hfz67_0 := blk_frozen BK117.out 0; have hfz67_1 := blk_frozen BK117.out 1; have hfz67_2 := blk_frozen BK117.out 2; have hcz68_0 : w64.cell? ⟨gb115, 0, none⟩ = some (.int .i64 ((rd_T101 l0_0 x43_3).f0)) := (blk_cell BK115.out 0).trans rfl; have hcz68_1 : w64.cell? ⟨gb115, 1, none⟩ = some (.int .i64 ((rd_T101 l0_0 x43_3).f1)) := (blk_cell BK115.out 1).trans rfl; have hcz68_2 : w64.cell? ⟨gb115, 2, none⟩ = some (.string ((rd_T101 l0_0 x43_3).f2)) := (blk_cell BK115.out 2).trans rfl; have hfz68_0 := blk_frozen BK115.out 0; have hfz68_1 := blk_frozen BK115.out 1; have hfz68_2 := blk_frozen BK115.out 2)); try go_wp2_with (first | ((with_reducible refine gate_dst (N := 7) rfl ?_); (try (refine gate_guard (by rfl) ?_; dsimp only)); refine box_event ?hg (N := 7) ?hd (cs := #[.int .i64 0, .int .i64 0, .string (⟨#[]⟩ : ByteArray)]) (t := 101) ?hr ?_; (case hd => rfl); (case hg => rfl); (case hr => first | (go_simp; done) | (go_simp; rfl)); intro gb117 hg w64 hbox hb; have BK117 := xM (hbox); have GW117 := xM ((by rw [hg]; exact (below_size (yh HB)) : w.heap.size ≤ gb117)); have GE117 := xM ((by rw [hg]; exact (below_size (yh HB)) : w.heap.size ≤ gb117)); have NB108_117 := xM ((by rw [hg]; exact Nat.ne_of_lt (blk_lt (g := gb108) (o := .cells #[.slice (some ad114) l0_0.length c0_0, .slice A0_1 l0_1.length c0_1] 64 (0, 0)) (by (with_reducible repeat (first | apply xbN | apply xbD | apply xbA)); refine blk_far ?_ NB108_115.out _; (with_reducible repeat (first | apply xbN | apply xbD | apply xbA)); refine blk_far ?_ NB108_115.out _; (with_reducible repeat (first | apply xbN | apply xbD | apply xbA)); refine blk_far ?_ NB108_115.out _; (with_reducible repeat (first | apply xbN | apply xbD | apply xbA)); exact BK108.out)) : gb108 ≠ gb117)); have NB117_108 := xM ((by rw [hg]; exact Nat.ne_of_gt (blk_lt (g := gb108) (o := .cells #[.slice (some ad114) l0_0.length c0_0, .slice A0_1 l0_1.length c0_1] 64 (0, 0)) (by (with_reducible repeat (first | apply xbN | apply xbD | apply xbA)); refine blk_far ?_ NB108_115.out _; (with_reducible repeat (first | apply xbN | apply xbD | apply xbA)); refine blk_far ?_ NB108_115.out _; (with_reducible repeat (first | apply xbN | apply xbD | apply xbA)); refine blk_far ?_ NB108_115.out _; (with_reducible repeat (first | apply xbN | apply xbD | apply xbA)); exact BK108.out)) : gb117 ≠ gb108)); have NB115_117 := xM ((by rw [hg]; exact Nat.ne_of_lt (blk_lt (g := gb115) (o := .cells #[.int .i64 ((rd_T101 l0_0 x43_3).f0), .int .i64 ((rd_T101 l0_0 x43_3).f1), .string ((rd_T101 l0_0 x43_3).f2)] 101 (0, 0)) (by (with_reducible repeat (first | apply xbN | apply xbD | apply xbA)); refine blk_put (cs := #[.int .i64 ((rd_T101 l0_0 x43_3).f0), .int .i64 ((rd_T101 l0_0 x43_3).f1), .string (⟨#[]⟩ : ByteArray)]) ?_ 2 _ rfl; (with_reducible repeat (first | apply xbN | apply xbD | apply xbA)); refine blk_put (cs := #[.int .i64 ((rd_T101 l0_0 x43_3).f0), .int .i64 0, .string (⟨#[]⟩ : ByteArray)]) ?_ 1 _ rfl; (with_reducible repeat (first | apply xbN | apply xbD | apply xbA)); refine blk_put (cs := #[.int .i64 0, .int .i64 0, .string (⟨#[]⟩ : ByteArray)]) ?_ 0 _ rfl; (with_reducible repeat (first | apply xbN | apply xbD | apply xbA)); exact BK115.out)) : gb115 ≠ gb117)); have NB117_115 := xM ((by rw [hg]; exact Nat.ne_of_gt (blk_lt (g := gb115) (o := .cells #[.int .i64 ((rd_T101 l0_0 x43_3).f0), .int .i64 ((rd_T101 l0_0 x43_3).f1), .string ((rd_T101 l0_0 x43_3).f2)] 101 (0, 0)) (by (with_reducible repeat (first | apply xbN | apply xbD | apply xbA)); refine blk_put (cs := #[.int .i64 ((rd_T101 l0_0 x43_3).f0), .int .i64 ((rd_T101 l0_0 x43_3).f1), .string (⟨#[]⟩ : ByteArray)]) ?_ 2 _ rfl; (with_reducible repeat (first | apply xbN | apply xbD | apply xbA)); refine blk_put (cs := #[.int .i64 ((rd_T101 l0_0 x43_3).f0), .int .i64 0, .string (⟨#[]⟩ : ByteArray)]) ?_ 1 _ rfl; (with_reducible repeat (first | apply xbN | apply xbD | apply xbA)); refine blk_put (cs := #[.int .i64 0, .int .i64 0, .string (⟨#[]⟩ : ByteArray)]) ?_ 0 _ rfl; (with_reducible repeat (first | apply xbN | apply xbD | apply xbA)); exact BK115.out)) : gb117 ≠ gb115)); replace BK108 := xM (xB (g := gb108) (o := .cells #[.slice (some ad114) l0_0.length c0_0, .slice A0_1 l0_1.length c0_1] 64 (0, 0)) (by (with_reducible repeat (first | apply xbN | apply xbD | apply xbA)); refine blk_far ?_ NB108_115.out _; (with_reducible repeat (first | apply xbN | apply xbD | apply xbA)); refine blk_far ?_ NB108_115.out _; (with_reducible repeat (first | apply xbN | apply xbD | apply xbA)); refine blk_far ?_ NB108_115.out _; (with_reducible repeat (first | apply xbN | apply xbD | apply xbA)); exact BK108.out) hb); replace BK115 := xM (xB (g := gb115) (o := .cells #[.int .i64 ((rd_T101 l0_0 x43_3).f0), .int .i64 ((rd_T101 l0_0 x43_3).f1), .string ((rd_T101 l0_0 x43_3).f2)] 101 (0, 0)) (by (with_reducible repeat (first | apply xbN | apply xbD | apply xbA)); refine blk_put (cs := #[.int .i64 ((rd_T101 l0_0 x43_3).f0), .int .i64 ((rd_T101 l0_0 x43_3).f1), .string (⟨#[]⟩ : ByteArray)]) ?_ 2 _ rfl; (with_reducible repeat (first | apply xbN | apply xbD | apply xbA)); refine blk_put (cs := #[.int .i64 ((rd_T101 l0_0 x43_3).f0), .int .i64 0, .string (⟨#[]⟩ : ByteArray)]) ?_ 1 _ rfl; (with_reducible repeat (first | apply xbN | apply xbD | apply xbA)); refine blk_put (cs := #[.int .i64 0, .int .i64 0, .string (⟨#[]⟩ : ByteArray)]) ?_ 0 _ rfl; (with_reducible repeat (first | apply xbN | apply xbD | apply xbA)); exact BK115.out) hb); replace HB := xM (below_step (yh HB) hb); clear hb hbox hg; have hnb65 := NB117_108.out; have hnc65 := NB108_117.out; have hnb66 := NB117_115.out; have hnc66 := NB115_117.out; have hcz67_0 : w64.cell? ⟨gb117, 0, none⟩ = some (.int .i64 0) := (blk_cell BK117.out 0).trans rfl; have hcz67_1 : w64.cell? ⟨gb117, 1, none⟩ = some (.int .i64 0) := (blk_cell BK117.out 1).trans rfl; have hcz67_2 : w64.cell? ⟨gb117, 2, none⟩ = some (.string (⟨#[]⟩ : ByteArray)) := (blk_cell BK117.out 2).trans rfl; have hfz67_0 := blk_frozen BK117.out 0; have hfz67_1 := blk_frozen BK117.out 1; have hfz67_2 := blk_frozen BK117.out 2; have hcz68_0 : w64.cell? ⟨gb115, 0, none⟩ = some (.int .i64 ((rd_T101 l0_0 x43_3).f0)) := (blk_cell BK115.out 0).trans rfl; have hcz68_1 : w64.cell? ⟨gb115, 1, none⟩ = some (.int .i64 ((rd_T101 l0_0 x43_3).f1)) := (blk_cell BK115.out 1).trans rfl; have hcz68_2 : w64.cell? ⟨gb115, 2, none⟩ = some (.string ((rd_T101 l0_0 x43_3).f2)) := (blk_cell BK115.out 2).trans rfl; have hfz68_0 := blk_frozen BK115.out 0; have hfz68_1 := blk_frozen BK115.out 1; have hfz68_2 := blk_frozen BK115.out 2)))
                   go_meet
                   case rel => exact ⟨_, H', ⟨by have := HJ1.out; have := HK2.out; have := HK3.out; first | omega | exact Nat.le_refl _⟩, ⟨by (with_reducible repeat (first | apply xbN | apply xbD | apply xbA)); refine blk_far ?_ NB108_117.out _; (with_reducible repeat (first | apply xbN | apply xbD | apply xbA)); refine blk_far ?_ NB108_117.out _; (with_reducible repeat (first | apply xbN | apply xbD | apply xbA)); refine blk_far ?_ NB108_117.out _; (with_reducible repeat (first | apply xbN | apply xbD | apply xbA)); exact BK108.out⟩, ⟨by (with_reducible repeat (first | apply xbN | apply xbD | apply xbA)); refine blk_far ?_ NB115_117.out _; (with_reducible repeat (first | apply xbN | apply xbD | apply xbA)); refine blk_far ?_ NB115_117.out _; (with_reducible repeat (first | apply xbN | apply xbD | apply xbA)); refine blk_far ?_ NB115_117.out _; (with_reducible repeat (first | apply xbN | apply xbD | apply xbA)); exact BK115.out⟩, ⟨yh HB⟩⟩
                ·rw [if_neg c37] at H
                 exact absurd H (by simp)
               ·rw [if_neg c36] at H
                exact absurd H (by simp)
              ·rw [if_neg c34] at H
               have c34b0 : decide (0 < x43_3) = false := decide_eq_false c34
               clear c34
               (first | rw [c34b0] | (simp only [i64_w, i32_w]; rw [c34b0]) | skip)
               have H' := Aside0.mk H
               clear H
               go_wp2
               repeat (go_quiet (fail); try go_wp2)
               go_meet
               case rel => exact ⟨_, H', ⟨by have := HJ1.out; have := HK2.out; have := HK3.out; first | omega | exact Nat.le_refl _⟩, ⟨by (with_reducible repeat (first | apply xbN | apply xbD | apply xbA)); refine blk_far ?_ NB108_115.out _; (with_reducible repeat (first | apply xbN | apply xbD | apply xbA)); refine blk_far ?_ NB108_115.out _; (with_reducible repeat (first | apply xbN | apply xbD | apply xbA)); refine blk_far ?_ NB108_115.out _; (with_reducible repeat (first | apply xbN | apply xbD | apply xbA)); exact BK108.out⟩, ⟨by (with_reducible repeat (first | apply xbN | apply xbD | apply xbA)); refine blk_put (cs := #[.int .i64 ((rd_T101 l0_0 x43_3).f0), .int .i64 ((rd_T101 l0_0 x43_3).f1), .string (⟨#[]⟩ : ByteArray)]) ?_ 2 _ rfl; (with_reducible repeat (first | apply xbN | apply xbD | apply xbA)); refine blk_put (cs := #[.int .i64 ((rd_T101 l0_0 x43_3).f0), .int .i64 0, .string (⟨#[]⟩ : ByteArray)]) ?_ 1 _ rfl; (with_reducible repeat (first | apply xbN | apply xbD | apply xbA)); refine blk_put (cs := #[.int .i64 0, .int .i64 0, .string (⟨#[]⟩ : ByteArray)]) ?_ 0 _ rfl; (with_reducible repeat (first | apply xbN | apply xbD | apply xbA)); exact BK115.out⟩, ⟨yh HB⟩⟩
             case rest =>
              clear HC30
              try clear c1
              try clear p1
              try clear q1
              try clear hx1
              try clear c2
              try clear p2
              try clear c3
              try clear c4
              try clear c4b0
              try clear c4b1
              try clear c5
              try clear c6
              try clear p6
              try clear c8
              try clear c10
              try clear c10b0
              try clear c11
              try clear c11b0
              try clear p11
              try clear q11
              try clear hx11
              try clear c12
              try clear c12b0
              try clear c14
              try clear c16
              try clear c18
              try clear c21
              try clear c24
              try clear c27
              try clear c27b0
              try clear c28
              try clear c28b0
              try clear c29
              try clear c29b0
              try clear c32
              try clear c34
              try clear c34b0
              try clear c36
              try clear c36b0
              try clear c37
              try clear c37b0
              try clear c38
              try clear c38b0
              try clear c39
              try clear c42
              try clear c43
              try clear c46
              try clear c46b0
              try clear c46b1
              try clear c47
              try clear c47b0
              try clear c48
              try clear c51
              try clear c52
              try clear c55
              try clear c58
              try clear c59
              try clear c62
              try clear p64
              try clear c65
              try clear c66
              try clear hcz19_0
              try clear hcz19_1
              try clear hcz22_0
              try clear hcz22_1
              try clear hcz25_0
              try clear hcz25_1
              try clear hcz26_0
              try clear hcz26_1
              try clear hcz33_0
              try clear hcz33_1
              try clear hcz33_2
              try clear hcz40_0
              try clear hcz40_1
              try clear hcz44_0
              try clear hcz44_1
              try clear hcz44_2
              try clear hcz45_0
              try clear hcz45_1
              try clear hcz45_2
              try clear hcz49_0
              try clear hcz49_1
              try clear hcz53_0
              try clear hcz53_1
              try clear hcz53_2
              try clear hcz54_0
              try clear hcz54_1
              try clear hcz54_2
              try clear hcz56_0
              try clear hcz56_1
              try clear hcz5_0
              try clear hcz5_1
              try clear hcz60_0
              try clear hcz60_1
              try clear hcz60_2
              try clear hcz61_0
              try clear hcz61_1
              try clear hcz61_2
              try clear hcz63_0
              try clear hcz63_1
              try clear hcz67_0
              try clear hcz67_1
              try clear hcz67_2
              try clear hcz68_0
              try clear hcz68_1
              try clear hcz68_2
              try clear hcz7_0
              try clear hcz7_1
              try clear hcz9_0
              try clear hcz9_1
              try clear hfz19_0
              try clear hfz19_1
              try clear hfz22_0
              try clear hfz22_1
              try clear hfz25_0
              try clear hfz25_1
              try clear hfz26_0
              try clear hfz26_1
              try clear hfz33_0
              try clear hfz33_1
              try clear hfz33_2
              try clear hfz40_0
              try clear hfz40_1
              try clear hfz44_0
              try clear hfz44_1
              try clear hfz44_2
              try clear hfz45_0
              try clear hfz45_1
              try clear hfz45_2
              try clear hfz49_0
              try clear hfz49_1
              try clear hfz53_0
              try clear hfz53_1
              try clear hfz53_2
              try clear hfz54_0
              try clear hfz54_1
              try clear hfz54_2
              try clear hfz56_0
              try clear hfz56_1
              try clear hfz5_0
              try clear hfz5_1
              try clear hfz60_0
              try clear hfz60_1
              try clear hfz60_2
              try clear hfz61_0
              try clear hfz61_1
              try clear hfz61_2
              try clear hfz63_0
              try clear hfz63_1
              try clear hfz67_0
              try clear hfz67_1
              try clear hfz67_2
              try clear hfz68_0
              try clear hfz68_1
              try clear hfz68_2
              try clear hfz7_0
              try clear hfz7_1
              try clear hfz9_0
              try clear hfz9_1
              try clear hx110_0
              try clear hx110_1
              try clear hx114_0
              try clear hx114_1
              try clear hx114_2
              try clear hx116_0
              try clear hx116_1
              try clear hx116_2
              try clear p1
              try clear p11
              try clear p110
              try clear p114
              try clear p116
              try clear p2
              try clear p6
              try clear q1
              try clear q11
              try clear q110
              try clear q114
              try clear q116
              obtain ⟨kq, HA, HJ29, BK108, BK115, HB⟩ := hcut
              cases kq with
              | zero => exact absurd HA.out (by simp [spec_GoodShelf.j3])
              | succ kj29 =>
               have H := HA.out
               clear HA
               simp only [spec_GoodShelf.j3] at H
               have HC69 := Aside0.mk H
               clear H
               go_upto_region 16 with (fail)
               repeat (go_quiet (fail); go_upto_region 16 with (fail))
               go_cut [94] (fun v94 wc => ∃ (kq : Nat) (x94_68 : Bool), v94 = .bool x94_68 ∧ Aside0 (spec_GoodShelf.j4 kq l0_0 (l0_0.length : Int) x43_3 x94_68 l0_0 l0_1 ((rd_T101 l0_0 x43_3).f0) ((rd_T101 l0_0 x43_3).f1) ((rd_T101 l0_0 x43_3).f2) = some r) ∧ Aside0 (kq ≤ kj29) ∧ Aside0 (wc.heap[gb108]? = some (.cells #[(.slice (some ad114) l0_0.length c0_0), (.slice A0_1 l0_1.length c0_1)] 64 (0, 0))) ∧ Aside0 (wc.heap[gb115]? = some (.cells #[.int .i64 ((rd_T101 l0_0 x43_3).f0), .int .i64 ((rd_T101 l0_0 x43_3).f1), .string ((rd_T101 l0_0 x43_3).f2)] 101 (0, 0))) ∧ Aside0 (Below w.heap.size w wc))
               case first =>
                have H := HC69.out
                clear HC69
                replace H := Option.bind_eq_some_iff.mp H
                obtain ⟨t118, A700, H⟩ := H
                replace H : (if t118 = true then ((spec_l1In.f ((rd_T101 l0_0 x43_3).f1) 0 4).bind fun t119 => (if t119 = true then (spec_GoodShelf.j4 kj29 l0_0 (l0_0.length : Int) x43_3 (decide ((((rd_T101 l0_0 x43_3).f2).size : Int) > 60)) l0_0 l0_1 ((rd_T101 l0_0 x43_3).f0) ((rd_T101 l0_0 x43_3).f1) ((rd_T101 l0_0 x43_3).f2)) else (spec_GoodShelf.j4 kj29 l0_0 (l0_0.length : Int) x43_3 true l0_0 l0_1 ((rd_T101 l0_0 x43_3).f0) ((rd_T101 l0_0 x43_3).f1) ((rd_T101 l0_0 x43_3).f2)))) else (spec_GoodShelf.j4 kj29 l0_0 (l0_0.length : Int) x43_3 true l0_0 l0_1 ((rd_T101 l0_0 x43_3).f0) ((rd_T101 l0_0 x43_3).f1) ((rd_T101 l0_0 x43_3).f2))) = some r := H
                have A70 := Aside0.mk A700
                clear A700
                by_cases c71 : t118 = true
                ·subst c71
                 have H1 : ((spec_l1In.f ((rd_T101 l0_0 x43_3).f1) 0 4).bind fun t119 => (if t119 = true then (spec_GoodShelf.j4 kj29 l0_0 (l0_0.length : Int) x43_3 (decide ((((rd_T101 l0_0 x43_3).f2).size : Int) > 60)) l0_0 l0_1 ((rd_T101 l0_0 x43_3).f0) ((rd_T101 l0_0 x43_3).f1) ((rd_T101 l0_0 x43_3).f2)) else (spec_GoodShelf.j4 kj29 l0_0 (l0_0.length : Int) x43_3 true l0_0 l0_1 ((rd_T101 l0_0 x43_3).f0) ((rd_T101 l0_0 x43_3).f1) ((rd_T101 l0_0 x43_3).f2)))) = some r := by rw [if_pos rfl] at H; exact H
                 clear H
                 have H := H1
                 clear H1
                 replace H := Option.bind_eq_some_iff.mp H
                 obtain ⟨t119, A720, H⟩ := H
                 replace H : (if t119 = true then (spec_GoodShelf.j4 kj29 l0_0 (l0_0.length : Int) x43_3 (decide ((((rd_T101 l0_0 x43_3).f2).size : Int) > 60)) l0_0 l0_1 ((rd_T101 l0_0 x43_3).f0) ((rd_T101 l0_0 x43_3).f1) ((rd_T101 l0_0 x43_3).f2)) else (spec_GoodShelf.j4 kj29 l0_0 (l0_0.length : Int) x43_3 true l0_0 l0_1 ((rd_T101 l0_0 x43_3).f0) ((rd_T101 l0_0 x43_3).f1) ((rd_T101 l0_0 x43_3).f2))) = some r := H
                 have A72 := Aside0.mk A720
                 clear A720
                 by_cases c73 : t119 = true
                 ·subst c73
                  have H1 : (spec_GoodShelf.j4 kj29 l0_0 (l0_0.length : Int) x43_3 (decide ((((rd_T101 l0_0 x43_3).f2).size : Int) > 60)) l0_0 l0_1 ((rd_T101 l0_0 x43_3).f0) ((rd_T101 l0_0 x43_3).f1) ((rd_T101 l0_0 x43_3).f2)) = some r := by rw [if_pos rfl] at H; exact H
                  clear H
                  have H := H1
                  clear H1
                  have H' := Aside0.mk H
                  clear H
                  have hnb74 := NB115_108.out
                  have hnc74 := NB108_115.out
                  have hcz75_0 : wc.cell? ⟨gb115, 0, none⟩ = some (.int .i64 ((rd_T101 l0_0 x43_3).f0)) := (blk_cell BK115.out 0).trans rfl
                  have hcz75_1 : wc.cell? ⟨gb115, 1, none⟩ = some (.int .i64 ((rd_T101 l0_0 x43_3).f1)) := (blk_cell BK115.out 1).trans rfl
                  have hcz75_2 : wc.cell? ⟨gb115, 2, none⟩ = some (.string ((rd_T101 l0_0 x43_3).f2)) := (blk_cell BK115.out 2).trans rfl
                  have hfz75_0 := blk_frozen BK115.out 0
                  have hfz75_1 := blk_frozen BK115.out 1
                  have hfz75_2 := blk_frozen BK115.out 2
                  have hcz76_0 : wc.cell? ⟨gb108, 0, none⟩ = some (.slice (some ad114) l0_0.length c0_0) := (blk_cell BK108.out 0).trans rfl
                  have hcz76_1 : wc.cell? ⟨gb108, 1, none⟩ = some (.slice A0_1 l0_1.length c0_1) := (blk_cell BK108.out 1).trans rfl
                  have hfz76_0 := blk_frozen BK108.out 0
                  have hfz76_1 := blk_frozen BK108.out 1
                  go_wp2_with (first | (go_at_call 54; (with_reducible refine (spec_l1In.calls ((rd_T101 l0_0 x43_3).f0) 1 (wrap64 ((l0_1.length : Int) + 1)) true _ A70.out).mono ?_); rintro e w' ⟨rfl, ⟨nd, rfl⟩⟩; (try first | exact ⟨rfl, _, World.drewN_drewN _ _ _⟩ | exact ⟨rfl, _, Eq.trans (World.drewN_drewN _ _ _) (congrArg (World.drewN _) (Nat.add_assoc _ _ _))⟩)) | (go_at_call 54; (with_reducible refine (spec_l1In.calls ((rd_T101 l0_0 x43_3).f1) 0 4 true _ A72.out).mono ?_); rintro e w' ⟨rfl, ⟨nd, rfl⟩⟩; (try first | exact ⟨rfl, _, World.drewN_drewN _ _ _⟩ | exact ⟨rfl, _, Eq.trans (World.drewN_drewN _ _ _) (congrArg (World.drewN _) (Nat.add_assoc _ _ _))⟩)))
                  repeat (go_quiet (first | (go_at_call 54; (with_reducible refine (spec_l1In.calls ((rd_T101 l0_0 x43_3).f0) 1 (wrap64 ((l0_1.length : Int) + 1)) true _ A70.out).mono ?_); rintro e w' ⟨rfl, ⟨nd, rfl⟩⟩; (try first | exact ⟨rfl, _, World.drewN_drewN _ _ _⟩ | exact ⟨rfl, _, Eq.trans (World.drewN_drewN _ _ _) (congrArg (World.drewN _) (Nat.add_assoc _ _ _))⟩)) | (go_at_call 54; (with_reducible refine (spec_l1In.calls ((rd_T101 l0_0 x43_3).f1) 0 4 true _ A72.out).mono ?_); rintro e w' ⟨rfl, ⟨nd, rfl⟩⟩; (try first | exact ⟨rfl, _, World.drewN_drewN _ _ _⟩ | exact ⟨rfl, _, Eq.trans (World.drewN_drewN _ _ _) (congrArg (World.drewN _) (Nat.add_assoc _ _ _))⟩))); try go_wp2_with (first | (go_at_call 54; (with_reducible refine (spec_l1In.calls ((rd_T101 l0_0 x43_3).f0) 1 (wrap64 ((l0_1.length : Int) + 1)) true _ A70.out).mono ?_); rintro e w' ⟨rfl, ⟨nd, rfl⟩⟩; (try first | exact ⟨rfl, _, World.drewN_drewN _ _ _⟩ | exact ⟨rfl, _, Eq.trans (World.drewN_drewN _ _ _) (congrArg (World.drewN _) (Nat.add_assoc _ _ _))⟩)) | (go_at_call 54; (with_reducible refine (spec_l1In.calls ((rd_T101 l0_0 x43_3).f1) 0 4 true _ A72.out).mono ?_); rintro e w' ⟨rfl, ⟨nd, rfl⟩⟩; (try first | exact ⟨rfl, _, World.drewN_drewN _ _ _⟩ | exact ⟨rfl, _, Eq.trans (World.drewN_drewN _ _ _) (congrArg (World.drewN _) (Nat.add_assoc _ _ _))⟩))))
                  go_meet
                  case rel => exact ⟨_, (decide ((((rd_T101 l0_0 x43_3).f2).size : Int) > 60)), (by first | rfl | (simp; done) | (simp [*]; done)), H', ⟨by have := HJ1.out; have := HK2.out; have := HK3.out; have := HJ29.out; first | omega | exact Nat.le_refl _⟩, ⟨by (with_reducible repeat (first | apply xbN | apply xbD | apply xbA)); exact BK108.out⟩, ⟨by (with_reducible repeat (first | apply xbN | apply xbD | apply xbA)); exact BK115.out⟩, ⟨yh HB⟩⟩
                 ·replace c73 := Bool.eq_false_iff.mpr c73
                  subst c73
                  have H1 : (spec_GoodShelf.j4 kj29 l0_0 (l0_0.length : Int) x43_3 true l0_0 l0_1 ((rd_T101 l0_0 x43_3).f0) ((rd_T101 l0_0 x43_3).f1) ((rd_T101 l0_0 x43_3).f2)) = some r := by rw [if_neg (show ¬ (false = true) by decide)] at H; exact H
                  clear H
                  have H := H1
                  clear H1
                  have H' := Aside0.mk H
                  clear H
                  have hnb77 := NB115_108.out
                  have hnc77 := NB108_115.out
                  have hcz78_0 : wc.cell? ⟨gb115, 0, none⟩ = some (.int .i64 ((rd_T101 l0_0 x43_3).f0)) := (blk_cell BK115.out 0).trans rfl
                  have hcz78_1 : wc.cell? ⟨gb115, 1, none⟩ = some (.int .i64 ((rd_T101 l0_0 x43_3).f1)) := (blk_cell BK115.out 1).trans rfl
                  have hcz78_2 : wc.cell? ⟨gb115, 2, none⟩ = some (.string ((rd_T101 l0_0 x43_3).f2)) := (blk_cell BK115.out 2).trans rfl
                  have hfz78_0 := blk_frozen BK115.out 0
                  have hfz78_1 := blk_frozen BK115.out 1
                  have hfz78_2 := blk_frozen BK115.out 2
                  have hcz79_0 : wc.cell? ⟨gb108, 0, none⟩ = some (.slice (some ad114) l0_0.length c0_0) := (blk_cell BK108.out 0).trans rfl
                  have hcz79_1 : wc.cell? ⟨gb108, 1, none⟩ = some (.slice A0_1 l0_1.length c0_1) := (blk_cell BK108.out 1).trans rfl
                  have hfz79_0 := blk_frozen BK108.out 0
                  have hfz79_1 := blk_frozen BK108.out 1
                  go_wp2_with (first | (go_at_call 54; (with_reducible refine (spec_l1In.calls ((rd_T101 l0_0 x43_3).f0) 1 (wrap64 ((l0_1.length : Int) + 1)) true _ A70.out).mono ?_); rintro e w' ⟨rfl, ⟨nd, rfl⟩⟩; (try first | exact ⟨rfl, _, World.drewN_drewN _ _ _⟩ | exact ⟨rfl, _, Eq.trans (World.drewN_drewN _ _ _) (congrArg (World.drewN _) (Nat.add_assoc _ _ _))⟩)) | (go_at_call 54; (with_reducible refine (spec_l1In.calls ((rd_T101 l0_0 x43_3).f1) 0 4 false _ A72.out).mono ?_); rintro e w' ⟨rfl, ⟨nd, rfl⟩⟩; (try first | exact ⟨rfl, _, World.drewN_drewN _ _ _⟩ | exact ⟨rfl, _, Eq.trans (World.drewN_drewN _ _ _) (congrArg (World.drewN _) (Nat.add_assoc _ _ _))⟩)))
                  repeat (go_quiet (first | (go_at_call 54; (with_reducible refine (spec_l1In.calls ((rd_T101 l0_0 x43_3).f0) 1 (wrap64 ((l0_1.length : Int) + 1)) true _ A70.out).mono ?_); rintro e w' ⟨rfl, ⟨nd, rfl⟩⟩; (try first | exact ⟨rfl, _, World.drewN_drewN _ _ _⟩ | exact ⟨rfl, _, Eq.trans (World.drewN_drewN _ _ _) (congrArg (World.drewN _) (Nat.add_assoc _ _ _))⟩)) | (go_at_call 54; (with_reducible refine (spec_l1In.calls ((rd_T101 l0_0 x43_3).f1) 0 4 false _ A72.out).mono ?_); rintro e w' ⟨rfl, ⟨nd, rfl⟩⟩; (try first | exact ⟨rfl, _, World.drewN_drewN _ _ _⟩ | exact ⟨rfl, _, Eq.trans (World.drewN_drewN _ _ _) (congrArg (World.drewN _) (Nat.add_assoc _ _ _))⟩))); try go_wp2_with (first | (go_at_call 54; (with_reducible refine (spec_l1In.calls ((rd_T101 l0_0 x43_3).f0) 1 (wrap64 ((l0_1.length : Int) + 1)) true _ A70.out).mono ?_); rintro e w' ⟨rfl, ⟨nd, rfl⟩⟩; (try first | exact ⟨rfl, _, World.drewN_drewN _ _ _⟩ | exact ⟨rfl, _, Eq.trans (World.drewN_drewN _ _ _) (congrArg (World.drewN _) (Nat.add_assoc _ _ _))⟩)) | (go_at_call 54; (with_reducible refine (spec_l1In.calls ((rd_T101 l0_0 x43_3).f1) 0 4 false _ A72.out).mono ?_); rintro e w' ⟨rfl, ⟨nd, rfl⟩⟩; (try first | exact ⟨rfl, _, World.drewN_drewN _ _ _⟩ | exact ⟨rfl, _, Eq.trans (World.drewN_drewN _ _ _) (congrArg (World.drewN _) (Nat.add_assoc _ _ _))⟩))))
                  go_meet
                  case rel => exact ⟨_, (true), (by first | rfl | (simp; done) | (simp [*]; done)), H', ⟨by have := HJ1.out; have := HK2.out; have := HK3.out; have := HJ29.out; first | omega | exact Nat.le_refl _⟩, ⟨by (with_reducible repeat (first | apply xbN | apply xbD | apply xbA)); exact BK108.out⟩, ⟨by (with_reducible repeat (first | apply xbN | apply xbD | apply xbA)); exact BK115.out⟩, ⟨yh HB⟩⟩
                ·replace c71 := Bool.eq_false_iff.mpr c71
                 subst c71
                 have H1 : (spec_GoodShelf.j4 kj29 l0_0 (l0_0.length : Int) x43_3 true l0_0 l0_1 ((rd_T101 l0_0 x43_3).f0) ((rd_T101 l0_0 x43_3).f1) ((rd_T101 l0_0 x43_3).f2)) = some r := by rw [if_neg (show ¬ (false = true) by decide)] at H; exact H
                 clear H
                 have H := H1
                 clear H1
                 have H' := Aside0.mk H
                 clear H
                 have hnb80 := NB115_108.out
                 have hnc80 := NB108_115.out
                 have hcz81_0 : wc.cell? ⟨gb115, 0, none⟩ = some (.int .i64 ((rd_T101 l0_0 x43_3).f0)) := (blk_cell BK115.out 0).trans rfl
                 have hcz81_1 : wc.cell? ⟨gb115, 1, none⟩ = some (.int .i64 ((rd_T101 l0_0 x43_3).f1)) := (blk_cell BK115.out 1).trans rfl
                 have hcz81_2 : wc.cell? ⟨gb115, 2, none⟩ = some (.string ((rd_T101 l0_0 x43_3).f2)) := (blk_cell BK115.out 2).trans rfl
                 have hfz81_0 := blk_frozen BK115.out 0
                 have hfz81_1 := blk_frozen BK115.out 1
                 have hfz81_2 := blk_frozen BK115.out 2
                 have hcz82_0 : wc.cell? ⟨gb108, 0, none⟩ = some (.slice (some ad114) l0_0.length c0_0) := (blk_cell BK108.out 0).trans rfl
                 have hcz82_1 : wc.cell? ⟨gb108, 1, none⟩ = some (.slice A0_1 l0_1.length c0_1) := (blk_cell BK108.out 1).trans rfl
                 have hfz82_0 := blk_frozen BK108.out 0
                 have hfz82_1 := blk_frozen BK108.out 1
                 go_wp2_with (first | (go_at_call 54; (with_reducible refine (spec_l1In.calls ((rd_T101 l0_0 x43_3).f0) 1 (wrap64 ((l0_1.length : Int) + 1)) false _ A70.out).mono ?_); rintro e w' ⟨rfl, ⟨nd, rfl⟩⟩; (try first | exact ⟨rfl, _, World.drewN_drewN _ _ _⟩ | exact ⟨rfl, _, Eq.trans (World.drewN_drewN _ _ _) (congrArg (World.drewN _) (Nat.add_assoc _ _ _))⟩)))
                 repeat (go_quiet (first | (go_at_call 54; (with_reducible refine (spec_l1In.calls ((rd_T101 l0_0 x43_3).f0) 1 (wrap64 ((l0_1.length : Int) + 1)) false _ A70.out).mono ?_); rintro e w' ⟨rfl, ⟨nd, rfl⟩⟩; (try first | exact ⟨rfl, _, World.drewN_drewN _ _ _⟩ | exact ⟨rfl, _, Eq.trans (World.drewN_drewN _ _ _) (congrArg (World.drewN _) (Nat.add_assoc _ _ _))⟩))); try go_wp2_with (first | (go_at_call 54; (with_reducible refine (spec_l1In.calls ((rd_T101 l0_0 x43_3).f0) 1 (wrap64 ((l0_1.length : Int) + 1)) false _ A70.out).mono ?_); rintro e w' ⟨rfl, ⟨nd, rfl⟩⟩; (try first | exact ⟨rfl, _, World.drewN_drewN _ _ _⟩ | exact ⟨rfl, _, Eq.trans (World.drewN_drewN _ _ _) (congrArg (World.drewN _) (Nat.add_assoc _ _ _))⟩))))
                 go_meet
                 case rel => exact ⟨_, (true), (by first | rfl | (simp; done) | (simp [*]; done)), H', ⟨by have := HJ1.out; have := HK2.out; have := HK3.out; have := HJ29.out; first | omega | exact Nat.le_refl _⟩, ⟨by (with_reducible repeat (first | apply xbN | apply xbD | apply xbA)); exact BK108.out⟩, ⟨by (with_reducible repeat (first | apply xbN | apply xbD | apply xbA)); exact BK115.out⟩, ⟨yh HB⟩⟩
               case rest =>
                clear HC69
                try clear c1
                try clear p1
                try clear q1
                try clear hx1
                try clear c2
                try clear p2
                try clear c3
                try clear c4
                try clear c4b0
                try clear c4b1
                try clear c5
                try clear c6
                try clear p6
                try clear c7
                try clear c8
                try clear c10
                try clear c10b0
                try clear c11
                try clear c11b0
                try clear p11
                try clear q11
                try clear hx11
                try clear c12
                try clear c12b0
                try clear c14
                try clear c16
                try clear c18
                try clear c21
                try clear c24
                try clear c27
                try clear c27b0
                try clear c28
                try clear c28b0
                try clear c29
                try clear c29b0
                try clear c32
                try clear c34
                try clear c34b0
                try clear c36
                try clear c36b0
                try clear c37
                try clear c37b0
                try clear c38
                try clear c38b0
                try clear c39
                try clear c42
                try clear c43
                try clear c46
                try clear c46b0
                try clear c46b1
                try clear c47
                try clear c47b0
                try clear c48
                try clear c51
                try clear c52
                try clear c55
                try clear c58
                try clear c59
                try clear c62
                try clear p64
                try clear c65
                try clear c66
                try clear c71
                try clear c73
                try clear c74
                try clear c77
                try clear c80
                try clear hcz19_0
                try clear hcz19_1
                try clear hcz22_0
                try clear hcz22_1
                try clear hcz25_0
                try clear hcz25_1
                try clear hcz26_0
                try clear hcz26_1
                try clear hcz33_0
                try clear hcz33_1
                try clear hcz33_2
                try clear hcz40_0
                try clear hcz40_1
                try clear hcz44_0
                try clear hcz44_1
                try clear hcz44_2
                try clear hcz45_0
                try clear hcz45_1
                try clear hcz45_2
                try clear hcz49_0
                try clear hcz49_1
                try clear hcz53_0
                try clear hcz53_1
                try clear hcz53_2
                try clear hcz54_0
                try clear hcz54_1
                try clear hcz54_2
                try clear hcz56_0
                try clear hcz56_1
                try clear hcz5_0
                try clear hcz5_1
                try clear hcz60_0
                try clear hcz60_1
                try clear hcz60_2
                try clear hcz61_0
                try clear hcz61_1
                try clear hcz61_2
                try clear hcz63_0
                try clear hcz63_1
                try clear hcz67_0
                try clear hcz67_1
                try clear hcz67_2
                try clear hcz68_0
                try clear hcz68_1
                try clear hcz68_2
                try clear hcz75_0
                try clear hcz75_1
                try clear hcz75_2
                try clear hcz76_0
                try clear hcz76_1
                try clear hcz78_0
                try clear hcz78_1
                try clear hcz78_2
                try clear hcz79_0
                try clear hcz79_1
                try clear hcz7_0
                try clear hcz7_1
                try clear hcz81_0
                try clear hcz81_1
                try clear hcz81_2
                try clear hcz82_0
                try clear hcz82_1
                try clear hcz9_0
                try clear hcz9_1
                try clear hfz19_0
                try clear hfz19_1
                try clear hfz22_0
                try clear hfz22_1
                try clear hfz25_0
                try clear hfz25_1
                try clear hfz26_0
                try clear hfz26_1
                try clear hfz33_0
                try clear hfz33_1
                try clear hfz33_2
                try clear hfz40_0
                try clear hfz40_1
                try clear hfz44_0
                try clear hfz44_1
                try clear hfz44_2
                try clear hfz45_0
                try clear hfz45_1
                try clear hfz45_2
                try clear hfz49_0
                try clear hfz49_1
                try clear hfz53_0
                try clear hfz53_1
                try clear hfz53_2
                try clear hfz54_0
                try clear hfz54_1
                try clear hfz54_2
                try clear hfz56_0
                try clear hfz56_1
                try clear hfz5_0
                try clear hfz5_1
                try clear hfz60_0
                try clear hfz60_1
                try clear hfz60_2
                try clear hfz61_0
                try clear hfz61_1
                try clear hfz61_2
                try clear hfz63_0
                try clear hfz63_1
                try clear hfz67_0
                try clear hfz67_1
                try clear hfz67_2
                try clear hfz68_0
                try clear hfz68_1
                try clear hfz68_2
                try clear hfz75_0
                try clear hfz75_1
                try clear hfz75_2
                try clear hfz76_0
                try clear hfz76_1
                try clear hfz78_0
                try clear hfz78_1
                try clear hfz78_2
                try clear hfz79_0
                try clear hfz79_1
                try clear hfz7_0
                try clear hfz7_1
                try clear hfz81_0
                try clear hfz81_1
                try clear hfz81_2
                try clear hfz82_0
                try clear hfz82_1
                try clear hfz9_0
                try clear hfz9_1
                try clear hx110_0
                try clear hx110_1
                try clear hx114_0
                try clear hx114_1
                try clear hx114_2
                try clear hx116_0
                try clear hx116_1
                try clear hx116_2
                try clear p1
                try clear p11
                try clear p110
                try clear p114
                try clear p116
                try clear p2
                try clear p6
                try clear p64
                try clear q1
                try clear q11
                try clear q110
                try clear q114
                try clear q116
                obtain ⟨kq, x94_68, rfl, HA, HJ68, BK108, BK115, HB⟩ := hcut
                cases kq with
                | zero => exact absurd HA.out (by simp [spec_GoodShelf.j4])
                | succ kj68 =>
                 have H := HA.out
                 clear HA
                 simp only [spec_GoodShelf.j4] at H
                 by_cases c83 : x94_68 = true
                 ·subst c83
                  have H1 : (some false) = some r := by rw [if_pos rfl] at H; exact H
                  clear H
                  have H := H1
                  clear H1
                  obtain rfl := Option.some.inj H
                  go_wp2
                  repeat (go_quiet (fail); try go_wp2)
                  go_ret
                  exact ⟨by first | rfl | (simp [errW_none, errW_some] <;> rfl) | (simp [*, errW_none, errW_some] <;> rfl), by repeat (first | (with_reducible first | exact HB.out | apply xa | apply xn | apply xd | refine xs ?_ GE108.out | refine xs ?_ GE115.out) | exact HB.out)⟩
                 ·replace c83 := Bool.eq_false_iff.mpr c83
                  subst c83
                  have H1 : (if ((rd_T101 l0_0 x43_3).f0) ≤ (l0_1.length : Int) then (if 0 ≤ (wrap64 (((rd_T101 l0_0 x43_3).f0) - 1)) then (if (wrap64 (((rd_T101 l0_0 x43_3).f0) - 1)) < (l0_1.length : Int) then ((spec_l17Many.f ((rd_T99 l0_1 (wrap64 (((rd_T101 l0_0 x43_3).f0) - 1))).f0)).bind fun bt122 => (if ((rd_T101 l0_0 x43_3).f1) ≥ bt122.1 then (some false) else ((spec_l17Long.f ((rd_T99 l0_1 (wrap64 (((rd_T101 l0_0 x43_3).f0) - 1))).f0) ((rd_T99 l0_1 (wrap64 (((rd_T101 l0_0 x43_3).f0) - 1))).f1)).bind fun t124 => (if (((rd_T101 l0_0 x43_3).f2).size : Int) = t124 then (spec_GoodShelf.l1 kj68 l0_0 (l0_0.length : Int) (wrap64 (x43_3 + 1)) l0_0 l0_1) else (some false))))) else (none)) else (none)) else (spec_GoodShelf.l1 kj68 l0_0 (l0_0.length : Int) (wrap64 (x43_3 + 1)) l0_0 l0_1)) = some r := by rw [if_neg (show ¬ (false = true) by decide)] at H; exact H
                  clear H
                  have H := H1
                  clear H1
                  by_cases c84 : ((rd_T101 l0_0 x43_3).f0) ≤ (l0_1.length : Int)
                  ·rw [if_pos c84] at H
                   have c84b0 : decide (((rd_T101 l0_0 x43_3).f0) ≤ (l0_1.length : Int)) = true := decide_eq_true c84
                   clear c84
                   obtain ⟨ji85, hji85⟩ : ∃ j_ : Int, (wrap64 (((rd_T101 l0_0 x43_3).f0) - 1)) = j_ := ⟨_, rfl⟩
                   replace H : (if 0 ≤ (ji85) then (if (ji85) < (l0_1.length : Int) then ((spec_l17Many.f ((rd_T99 l0_1 (ji85)).f0)).bind fun bt122 => (if ((rd_T101 l0_0 x43_3).f1) ≥ bt122.1 then (some false) else ((spec_l17Long.f ((rd_T99 l0_1 (ji85)).f0) ((rd_T99 l0_1 (ji85)).f1)).bind fun t124 => (if (((rd_T101 l0_0 x43_3).f2).size : Int) = t124 then (spec_GoodShelf.l1 kj68 l0_0 (l0_0.length : Int) (wrap64 (x43_3 + 1)) l0_0 l0_1) else (some false))))) else (none)) else (none)) = some r := by first | (rw [hji85] at H; exact H) | (simp only [hji85] at H ⊢; exact H)
                   have hji85w : (IntKind.i64.wrap (((rd_T101 l0_0 x43_3).f0) - 1)) = ji85 := (i64_w _).trans hji85
                   by_cases c86 : 0 ≤ (ji85)
                   ·rw [if_pos c86] at H
                    have c86b0 : decide (0 ≤ (ji85)) = true := decide_eq_true c86
                    clear c86
                    by_cases c87 : (ji85) < (l0_1.length : Int)
                    ·rw [if_pos c87] at H
                     have c87b0 : decide ((ji85) < (l0_1.length : Int)) = true := decide_eq_true c87
                     clear c87
                     replace H := Option.bind_eq_some_iff.mp H
                     obtain ⟨⟨t122, t123⟩, A880, H⟩ := H
                     replace H : (if ((rd_T101 l0_0 x43_3).f1) ≥ t122 then (some false) else ((spec_l17Long.f ((rd_T99 l0_1 (ji85)).f0) ((rd_T99 l0_1 (ji85)).f1)).bind fun t124 => (if (((rd_T101 l0_0 x43_3).f2).size : Int) = t124 then (spec_GoodShelf.l1 kj68 l0_0 (l0_0.length : Int) (wrap64 (x43_3 + 1)) l0_0 l0_1) else (some false)))) = some r := H
                     have A88 := Aside0.mk A880
                     clear A880
                     by_cases c89 : ((rd_T101 l0_0 x43_3).f1) ≥ t122
                     ·rw [if_pos c89] at H
                      have c89b0 : decide (t122 ≤ ((rd_T101 l0_0 x43_3).f1)) = true := decide_eq_true c89
                      clear c89
                      obtain rfl := Option.some.inj H
                      have hnb90 := NB115_108.out
                      have hnc90 := NB108_115.out
                      have hcz91_0 : wc.cell? ⟨gb115, 0, none⟩ = some (.int .i64 ((rd_T101 l0_0 x43_3).f0)) := (blk_cell BK115.out 0).trans rfl
                      have hcz91_1 : wc.cell? ⟨gb115, 1, none⟩ = some (.int .i64 ((rd_T101 l0_0 x43_3).f1)) := (blk_cell BK115.out 1).trans rfl
                      have hcz91_2 : wc.cell? ⟨gb115, 2, none⟩ = some (.string ((rd_T101 l0_0 x43_3).f2)) := (blk_cell BK115.out 2).trans rfl
                      have hfz91_0 := blk_frozen BK115.out 0
                      have hfz91_1 := blk_frozen BK115.out 1
                      have hfz91_2 := blk_frozen BK115.out 2
                      have hcz92_0 : wc.cell? ⟨gb108, 0, none⟩ = some (.slice (some ad114) l0_0.length c0_0) := (blk_cell BK108.out 0).trans rfl
                      have hcz92_1 : wc.cell? ⟨gb108, 1, none⟩ = some (.slice A0_1 l0_1.length c0_1) := (blk_cell BK108.out 1).trans rfl
                      have hfz92_0 := blk_frozen BK108.out 0
                      have hfz92_1 := blk_frozen BK108.out 1
                      have p120 : 0 ≤ ((ji85) : Int) := of_decide_eq_true (by first | (with_reducible assumption) | assumption)
                      have q120 : (ji85) < (l0_1.length : Int) := of_decide_eq_true (by first | (with_reducible assumption) | assumption)
                      obtain ⟨ad120, e120, hx120_0, hx120_1⟩ := at_T99 HR0_1.out (ji85) p120 q120
                      cases e120
                      replace hx120_0 := (HB.out.cell (World.block_lt_of_cell? w _ hx120_0)).trans hx120_0
                      replace hx120_1 := (HB.out.cell (World.block_lt_of_cell? w _ hx120_1)).trans hx120_1
                      replace p120 := eq_true p120
                      replace q120 := eq_true q120
                      go_wp2_with (first | ((with_reducible refine gate_dst (N := 8) rfl ?_); (try (refine gate_guard (by rfl) ?_; dsimp only)); refine box_event ?hg (N := 8) ?hd (cs := #[.int .i64 0, .int .i64 0]) (t := 99) ?hr ?_; (case hd => rfl); (case hg => rfl); (case hr => first | (go_simp; done) | (go_simp; rfl)); intro gb121 hg w93 hbox hb; have BK121 := xM (hbox); have GW121 := xM ((by rw [hg]; exact (below_size (yh HB)) : w.heap.size ≤ gb121)); have GE121 := xM ((by rw [hg]; exact (below_size (yh HB)) : w.heap.size ≤ gb121)); have NB108_121 := xM ((by rw [hg]; exact Nat.ne_of_lt (blk_lt (yb BK108)) : gb108 ≠ gb121)); have NB121_108 := xM ((by rw [hg]; exact Nat.ne_of_gt (blk_lt (yb BK108)) : gb121 ≠ gb108)); have NB115_121 := xM ((by rw [hg]; exact Nat.ne_of_lt (blk_lt (yb BK115)) : gb115 ≠ gb121)); have NB121_115 := xM ((by rw [hg]; exact Nat.ne_of_gt (blk_lt (yb BK115)) : gb121 ≠ gb115)); replace BK108 := xM (xB (yb BK108) hb); replace BK115 := xM (xB (yb BK115) hb); replace HB := xM (below_step (yh HB) hb); clear hb hbox hg; have hnb94 := NB121_108.out; have hnc94 := NB108_121.out; have hnb95 := NB121_115.out; have hnc95 := NB115_121.out; have hcz96_0 : w93.cell? ⟨gb121, 0, none⟩ = some (.int .i64 0) := (blk_cell BK121.out 0).trans rfl; have hcz96_1 : w93.cell? ⟨gb121, 1, none⟩ = some (.int .i64 0) := (blk_cell BK121.out 1).trans rfl; have hfz96_0 := blk_frozen BK121.out 0; have hfz96_1 := blk_frozen BK121.out 1) | (go_at_call 82; (with_reducible refine (spec_l17Many.calls ((rd_T99 l0_1 (ji85)).f0) t122 t123 _ A88.out).mono ?_); rintro e w' ⟨rfl, ⟨nd, rfl⟩⟩; (try first | exact ⟨rfl, _, World.drewN_drewN _ _ _⟩ | exact ⟨rfl, _, Eq.trans (World.drewN_drewN _ _ _) (congrArg (World.drewN _) (Nat.add_assoc _ _ _))⟩); have hcz97_0 : w93.cell? ⟨gb115, 0, none⟩ = some (.int .i64 ((rd_T101 l0_0 x43_3).f0)) := (blk_cell BK115.out 0).trans rfl; have hcz97_1 : w93.cell? ⟨gb115, 1, none⟩ = some (.int .i64 ((rd_T101 l0_0 x43_3).f1)) := (blk_cell BK115.out 1).trans rfl; have hcz97_2 : w93.cell? ⟨gb115, 2, none⟩ = some (.string ((rd_T101 l0_0 x43_3).f2)) := (blk_cell BK115.out 2).trans rfl; have hfz97_0 := blk_frozen BK115.out 0; have hfz97_1 := blk_frozen BK115.out 1; have hfz97_2 := blk_frozen BK115.out 2))
                      repeat (go_quiet (first | ((with_reducible refine gate_dst (N := 8) rfl ?_); (try (refine gate_guard (by rfl) ?_; dsimp only)); refine box_event ?hg (N := 8) ?hd (cs := #[.int .i64 0, .int .i64 0]) (t := 99) ?hr ?_; (case hd => rfl); (case hg => rfl); (case hr => first | (go_simp; done) | (go_simp; rfl)); intro gb121 hg w93 hbox hb; have BK121 := xM (hbox); have GW121 := xM ((by rw [hg]; exact (below_size (yh HB)) : w.heap.size ≤ gb121)); have GE121 := xM ((by rw [hg]; exact (below_size (yh HB)) : w.heap.size ≤ gb121)); have NB108_121 := xM ((by rw [hg]; exact Nat.ne_of_lt (blk_lt (yb BK108)) : gb108 ≠ gb121)); have NB121_108 := xM ((by rw [hg]; exact Nat.ne_of_gt (blk_lt (yb BK108)) : gb121 ≠ gb108)); have NB115_121 := xM ((by rw [hg]; exact Nat.ne_of_lt (blk_lt (yb BK115)) : gb115 ≠ gb121)); have NB121_115 := xM ((by rw [hg]; exact Nat.ne_of_gt (blk_lt (yb BK115)) : gb121 ≠ gb115)); replace BK108 := xM (xB (yb BK108) hb); replace BK115 := xM (xB (yb BK115) hb); replace HB := xM (below_step (yh HB) hb); clear hb hbox hg; have hnb94 := NB121_108.out; have hnc94 := NB108_121.out; have hnb95 := NB121_115.out; have hnc95 := NB115_121.out; have hcz96_0 : w93.cell? ⟨gb121, 0, none⟩ = some (.int .i64 0) := (blk_cell BK121.out 0).trans rfl; have hcz96_1 : w93.cell? ⟨gb121, 1, none⟩ = some (.int .i64 0) := (blk_cell BK121.out 1).trans rfl; have hfz96_0 := blk_frozen BK121.out 0; have hfz96_1 := blk_frozen BK121.out 1) | (go_at_call 82; (with_reducible refine (spec_l17Many.calls ((rd_T99 l0_1 (ji85)).f0) t122 t123 _ A88.out).mono ?_); rintro e w' ⟨rfl, ⟨nd, rfl⟩⟩; (try first | exact ⟨rfl, _, World.drewN_drewN _ _ _⟩ | exact ⟨rfl, _, Eq.trans (World.drewN_drewN _ _ _) (congrArg (World.drewN _) (Nat.add_assoc _ _ _))⟩); have hcz97_0 : w93.cell? ⟨gb115, 0, none⟩ = some (.int .i64 ((rd_T101 l0_0 x43_3).f0)) := (blk_cell BK115.out 0).trans rfl; have hcz97_1 : w93.cell? ⟨gb115, 1, none⟩ = some (.int .i64 ((rd_T101 l0_0 x43_3).f1)) := (blk_cell BK115.out 1).trans rfl; have hcz97_2 : w93.cell? ⟨gb115, 2, none⟩ = some (.string ((rd_T101 l0_0 x43_3).f2)) := (blk_cell BK115.out 2).trans rfl; have hfz97_0 := blk_frozen BK115.out 0; have hfz97_1 := blk_frozen BK115.out 1; have hfz97_2 := blk_frozen BK115.out 2)); try go_wp2_with (first | ((with_reducible refine gate_dst (N := 8) rfl ?_); (try (refine gate_guard (by rfl) ?_; dsimp only)); refine box_event ?hg (N := 8) ?hd (cs := #[.int .i64 0, .int .i64 0]) (t := 99) ?hr ?_; (case hd => rfl); (case hg => rfl); (case hr => first | (go_simp; done) | (go_simp; rfl)); intro gb121 hg w93 hbox hb; have BK121 := xM (hbox); have GW121 := xM ((by rw [hg]; exact (below_size (yh HB)) : w.heap.size ≤ gb121)); have GE121 := xM ((by rw [hg]; exact (below_size (yh HB)) : w.heap.size ≤ gb121)); have NB108_121 := xM ((by rw [hg]; exact Nat.ne_of_lt (blk_lt (yb BK108)) : gb108 ≠ gb121)); have NB121_108 := xM ((by rw [hg]; exact Nat.ne_of_gt (blk_lt (yb BK108)) : gb121 ≠ gb108)); have NB115_121 := xM ((by rw [hg]; exact Nat.ne_of_lt (blk_lt (yb BK115)) : gb115 ≠ gb121)); have NB121_115 := xM ((by rw [hg]; exact Nat.ne_of_gt (blk_lt (yb BK115)) : gb121 ≠ gb115)); replace BK108 := xM (xB (yb BK108) hb); replace BK115 := xM (xB (yb BK115) hb); replace HB := xM (below_step (yh HB) hb); clear hb hbox hg; have hnb94 := NB121_108.out; have hnc94 := NB108_121.out; have hnb95 := NB121_115.out; have hnc95 := NB115_121.out; have hcz96_0 : w93.cell? ⟨gb121, 0, none⟩ = some (.int .i64 0) := (blk_cell BK121.out 0).trans rfl; have hcz96_1 : w93.cell? ⟨gb121, 1, none⟩ = some (.int .i64 0) := (blk_cell BK121.out 1).trans rfl; have hfz96_0 := blk_frozen BK121.out 0; have hfz96_1 := blk_frozen BK121.out 1) | (go_at_call 82; (with_reducible refine (spec_l17Many.calls ((rd_T99 l0_1 (ji85)).f0) t122 t123 _ A88.out).mono ?_); rintro e w' ⟨rfl, ⟨nd, rfl⟩⟩; (try first | exact ⟨rfl, _, World.drewN_drewN _ _ _⟩ | exact ⟨rfl, _, Eq.trans (World.drewN_drewN _ _ _) (congrArg (World.drewN _) (Nat.add_assoc _ _ _))⟩); have hcz97_0 : w93.cell? ⟨gb115, 0, none⟩ = some (.int .i64 ((rd_T101 l0_0 x43_3).f0)) := (blk_cell BK115.out 0).trans rfl; have hcz97_1 : w93.cell? ⟨gb115, 1, none⟩ = some (.int .i64 ((rd_T101 l0_0 x43_3).f1)) := (blk_cell BK115.out 1).trans rfl; have hcz97_2 : w93.cell? ⟨gb115, 2, none⟩ = some (.string ((rd_T101 l0_0 x43_3).f2)) := (blk_cell BK115.out 2).trans rfl; have hfz97_0 := blk_frozen BK115.out 0; have hfz97_1 := blk_frozen BK115.out 1; have hfz97_2 := blk_frozen BK115.out 2)))
                      go_ret
                      exact ⟨by first | rfl | (simp [errW_none, errW_some] <;> rfl) | (simp only [← hji85]; first | rfl | (simp [errW_none, errW_some] <;> rfl)) | (simp [*, errW_none, errW_some] <;> rfl), by repeat (first | (with_reducible first | exact HB.out | apply xa | apply xn | apply xd | refine xs ?_ GE108.out | refine xs ?_ GE115.out | refine xs ?_ GE121.out) | exact HB.out)⟩
                     ·rw [if_neg c89] at H
                      have c89b0 : decide (t122 ≤ ((rd_T101 l0_0 x43_3).f1)) = false := decide_eq_false c89
                      clear c89
                      replace H := Option.bind_eq_some_iff.mp H
                      obtain ⟨t124, A980, H⟩ := H
                      replace H : (if (((rd_T101 l0_0 x43_3).f2).size : Int) = t124 then (spec_GoodShelf.l1 kj68 l0_0 (l0_0.length : Int) (wrap64 (x43_3 + 1)) l0_0 l0_1) else (some false)) = some r := H
                      have A98 := Aside0.mk A980
                      clear A980
                      by_cases c99 : (((rd_T101 l0_0 x43_3).f2).size : Int) = t124
                      ·rw [if_pos c99] at H
                       have c99b0 : ((((rd_T101 l0_0 x43_3).f2).size : Int) == t124) = true := beq_iff_eq.mpr c99
                       have c99b1 : ((((rd_T101 l0_0 x43_3).f2).size : Int) != t124) = false := bne_eq_false_iff_eq.mpr c99
                       clear c99
                       have H' := Aside0.mk H
                       clear H
                       have hnb100 := NB115_108.out
                       have hnc100 := NB108_115.out
                       have hcz101_0 : wc.cell? ⟨gb115, 0, none⟩ = some (.int .i64 ((rd_T101 l0_0 x43_3).f0)) := (blk_cell BK115.out 0).trans rfl
                       have hcz101_1 : wc.cell? ⟨gb115, 1, none⟩ = some (.int .i64 ((rd_T101 l0_0 x43_3).f1)) := (blk_cell BK115.out 1).trans rfl
                       have hcz101_2 : wc.cell? ⟨gb115, 2, none⟩ = some (.string ((rd_T101 l0_0 x43_3).f2)) := (blk_cell BK115.out 2).trans rfl
                       have hfz101_0 := blk_frozen BK115.out 0
                       have hfz101_1 := blk_frozen BK115.out 1
                       have hfz101_2 := blk_frozen BK115.out 2
                       have hcz102_0 : wc.cell? ⟨gb108, 0, none⟩ = some (.slice (some ad114) l0_0.length c0_0) := (blk_cell BK108.out 0).trans rfl
                       have hcz102_1 : wc.cell? ⟨gb108, 1, none⟩ = some (.slice A0_1 l0_1.length c0_1) := (blk_cell BK108.out 1).trans rfl
                       have hfz102_0 := blk_frozen BK108.out 0
                       have hfz102_1 := blk_frozen BK108.out 1
                       have p120 : 0 ≤ ((ji85) : Int) := of_decide_eq_true (by first | (with_reducible assumption) | assumption)
                       have q120 : (ji85) < (l0_1.length : Int) := of_decide_eq_true (by first | (with_reducible assumption) | assumption)
                       obtain ⟨ad120, e120, hx120_0, hx120_1⟩ := at_T99 HR0_1.out (ji85) p120 q120
                       cases e120
                       replace hx120_0 := (HB.out.cell (World.block_lt_of_cell? w _ hx120_0)).trans hx120_0
                       replace hx120_1 := (HB.out.cell (World.block_lt_of_cell? w _ hx120_1)).trans hx120_1
                       replace p120 := eq_true p120
                       replace q120 := eq_true q120
                       go_wp2_with (first | ((with_reducible refine gate_dst (N := 8) rfl ?_); (try (refine gate_guard (by rfl) ?_; dsimp only)); refine box_event ?hg (N := 8) ?hd (cs := #[.int .i64 0, .int .i64 0]) (t := 99) ?hr ?_; (case hd => rfl); (case hg => rfl); (case hr => first | (go_simp; done) | (go_simp; rfl)); intro gb121 hg w103 hbox hb; have BK121 := xM (hbox); have GW121 := xM ((by rw [hg]; exact (below_size (yh HB)) : w.heap.size ≤ gb121)); have GE121 := xM ((by rw [hg]; exact (below_size (yh HB)) : w.heap.size ≤ gb121)); have NB108_121 := xM ((by rw [hg]; exact Nat.ne_of_lt (blk_lt (yb BK108)) : gb108 ≠ gb121)); have NB121_108 := xM ((by rw [hg]; exact Nat.ne_of_gt (blk_lt (yb BK108)) : gb121 ≠ gb108)); have NB115_121 := xM ((by rw [hg]; exact Nat.ne_of_lt (blk_lt (yb BK115)) : gb115 ≠ gb121)); have NB121_115 := xM ((by rw [hg]; exact Nat.ne_of_gt (blk_lt (yb BK115)) : gb121 ≠ gb115)); replace BK108 := xM (xB (yb BK108) hb); replace BK115 := xM (xB (yb BK115) hb); replace HB := xM (below_step (yh HB) hb); clear hb hbox hg; have hnb104 := NB121_108.out; have hnc104 := NB108_121.out; have hnb105 := NB121_115.out; have hnc105 := NB115_121.out; have hcz106_0 : w103.cell? ⟨gb121, 0, none⟩ = some (.int .i64 0) := (blk_cell BK121.out 0).trans rfl; have hcz106_1 : w103.cell? ⟨gb121, 1, none⟩ = some (.int .i64 0) := (blk_cell BK121.out 1).trans rfl; have hfz106_0 := blk_frozen BK121.out 0; have hfz106_1 := blk_frozen BK121.out 1) | (go_at_call 82; (with_reducible refine (spec_l17Many.calls ((rd_T99 l0_1 (ji85)).f0) t122 t123 _ A88.out).mono ?_); rintro e w' ⟨rfl, ⟨nd, rfl⟩⟩; (try first | exact ⟨rfl, _, World.drewN_drewN _ _ _⟩ | exact ⟨rfl, _, Eq.trans (World.drewN_drewN _ _ _) (congrArg (World.drewN _) (Nat.add_assoc _ _ _))⟩); have hcz107_0 : w103.cell? ⟨gb115, 0, none⟩ = some (.int .i64 ((rd_T101 l0_0 x43_3).f0)) := (blk_cell BK115.out 0).trans rfl; have hcz107_1 : w103.cell? ⟨gb115, 1, none⟩ = some (.int .i64 ((rd_T101 l0_0 x43_3).f1)) := (blk_cell BK115.out 1).trans rfl; have hcz107_2 : w103.cell? ⟨gb115, 2, none⟩ = some (.string ((rd_T101 l0_0 x43_3).f2)) := (blk_cell BK115.out 2).trans rfl; have hfz107_0 := blk_frozen BK115.out 0; have hfz107_1 := blk_frozen BK115.out 1; have hfz107_2 := blk_frozen BK115.out 2) | (go_at_call 83; (with_reducible refine (spec_l17Long.calls ((rd_T99 l0_1 (ji85)).f0) ((rd_T99 l0_1 (ji85)).f1) t124 _ A98.out).mono ?_); rintro e w' ⟨rfl, ⟨nd, rfl⟩⟩; (try first | exact ⟨rfl, _, World.drewN_drewN _ _ _⟩ | exact ⟨rfl, _, Eq.trans (World.drewN_drewN _ _ _) (congrArg (World.drewN _) (Nat.add_assoc _ _ _))⟩)))
                       repeat (go_quiet (first | ((with_reducible refine gate_dst (N := 8) rfl ?_); (try (refine gate_guard (by rfl) ?_; dsimp only)); refine box_event ?hg (N := 8) ?hd (cs := #[.int .i64 0, .int .i64 0]) (t := 99) ?hr ?_; (case hd => rfl); (case hg => rfl); (case hr => first | (go_simp; done) | (go_simp; rfl)); intro gb121 hg w103 hbox hb; have BK121 := xM (hbox); have GW121 := xM ((by rw [hg]; exact (below_size (yh HB)) : w.heap.size ≤ gb121)); have GE121 := xM ((by rw [hg]; exact (below_size (yh HB)) : w.heap.size ≤ gb121)); have NB108_121 := xM ((by rw [hg]; exact Nat.ne_of_lt (blk_lt (yb BK108)) : gb108 ≠ gb121)); have NB121_108 := xM ((by rw [hg]; exact Nat.ne_of_gt (blk_lt (yb BK108)) : gb121 ≠ gb108)); have NB115_121 := xM ((by rw [hg]; exact Nat.ne_of_lt (blk_lt (yb BK115)) : gb115 ≠ gb121)); have NB121_115 := xM ((by rw [hg]; exact Nat.ne_of_gt (blk_lt (yb BK115)) : gb121 ≠ gb115)); replace BK108 := xM (xB (yb BK108) hb); replace BK115 := xM (xB (yb BK115) hb); replace HB := xM (below_step (yh HB) hb); clear hb hbox hg; have hnb104 := NB121_108.out; have hnc104 := NB108_121.out; have hnb105 := NB121_115.out; have hnc105 := NB115_121.out; have hcz106_0 : w103.cell? ⟨gb121, 0, none⟩ = some (.int .i64 0) := (blk_cell BK121.out 0).trans rfl; have hcz106_1 : w103.cell? ⟨gb121, 1, none⟩ = some (.int .i64 0) := (blk_cell BK121.out 1).trans rfl; have hfz106_0 := blk_frozen BK121.out 0; have hfz106_1 := blk_frozen BK121.out 1) | (go_at_call 82; (with_reducible refine (spec_l17Many.calls ((rd_T99 l0_1 (ji85)).f0) t122 t123 _ A88.out).mono ?_); rintro e w' ⟨rfl, ⟨nd, rfl⟩⟩; (try first | exact ⟨rfl, _, World.drewN_drewN _ _ _⟩ | exact ⟨rfl, _, Eq.trans (World.drewN_drewN _ _ _) (congrArg (World.drewN _) (Nat.add_assoc _ _ _))⟩); have hcz107_0 : w103.cell? ⟨gb115, 0, none⟩ = some (.int .i64 ((rd_T101 l0_0 x43_3).f0)) := (blk_cell BK115.out 0).trans rfl; have hcz107_1 : w103.cell? ⟨gb115, 1, none⟩ = some (.int .i64 ((rd_T101 l0_0 x43_3).f1)) := (blk_cell BK115.out 1).trans rfl; have hcz107_2 : w103.cell? ⟨gb115, 2, none⟩ = some (.string ((rd_T101 l0_0 x43_3).f2)) := (blk_cell BK115.out 2).trans rfl; have hfz107_0 := blk_frozen BK115.out 0; have hfz107_1 := blk_frozen BK115.out 1; have hfz107_2 := blk_frozen BK115.out 2) | (go_at_call 83; (with_reducible refine (spec_l17Long.calls ((rd_T99 l0_1 (ji85)).f0) ((rd_T99 l0_1 (ji85)).f1) t124 _ A98.out).mono ?_); rintro e w' ⟨rfl, ⟨nd, rfl⟩⟩; (try first | exact ⟨rfl, _, World.drewN_drewN _ _ _⟩ | exact ⟨rfl, _, Eq.trans (World.drewN_drewN _ _ _) (congrArg (World.drewN _) (Nat.add_assoc _ _ _))⟩))); try go_wp2_with (first | ((with_reducible refine gate_dst (N := 8) rfl ?_); (try (refine gate_guard (by rfl) ?_; dsimp only)); refine box_event ?hg (N := 8) ?hd (cs := #[.int .i64 0, .int .i64 0]) (t := 99) ?hr ?_; (case hd => rfl); (case hg => rfl); (case hr => first | (go_simp; done) | (go_simp; rfl)); intro gb121 hg w103 hbox hb; have BK121 := xM (hbox); have GW121 := xM ((by rw [hg]; exact (below_size (yh HB)) : w.heap.size ≤ gb121)); have GE121 := xM ((by rw [hg]; exact (below_size (yh HB)) : w.heap.size ≤ gb121)); have NB108_121 := xM ((by rw [hg]; exact Nat.ne_of_lt (blk_lt (yb BK108)) : gb108 ≠ gb121)); have NB121_108 := xM ((by rw [hg]; exact Nat.ne_of_gt (blk_lt (yb BK108)) : gb121 ≠ gb108)); have NB115_121 := xM ((by rw [hg]; exact Nat.ne_of_lt (blk_lt (yb BK115)) : gb115 ≠ gb121)); have NB121_115 := xM ((by rw [hg]; exact Nat.ne_of_gt (blk_lt (yb BK115)) : gb121 ≠ gb115)); replace BK108 := xM (xB (yb BK108) hb); replace BK115 := xM (xB (yb BK115) hb); replace HB := xM (below_step (yh HB) hb); clear hb hbox hg; have hnb104 := NB121_108.out; have hnc104 := NB108_121.out; have hnb105 := NB121_115.out; have hnc105 := NB115_121.out; have hcz106_0 : w103.cell? ⟨gb121, 0, none⟩ = some (.int .i64 0) := (blk_cell BK121.out 0).trans rfl; have hcz106_1 : w103.cell? ⟨gb121, 1, none⟩ = some (.int .i64 0) := (blk_cell BK121.out 1).trans rfl; have hfz106_0 := blk_frozen BK121.out 0; have hfz106_1 := blk_frozen BK121.out 1) | (go_at_call 82; (with_reducible refine (spec_l17Many.calls ((rd_T99 l0_1 (ji85)).f0) t122 t123 _ A88.out).mono ?_); rintro e w' ⟨rfl, ⟨nd, rfl⟩⟩; (try first | exact ⟨rfl, _, World.drewN_drewN _ _ _⟩ | exact ⟨rfl, _, Eq.trans (World.drewN_drewN _ _ _) (congrArg (World.drewN _) (Nat.add_assoc _ _ _))⟩); have hcz107_0 : w103.cell? ⟨gb115, 0, none⟩ = some (.int .i64 ((rd_T101 l0_0 x43_3).f0)) := (blk_cell BK115.out 0).trans rfl; have hcz107_1 : w103.cell? ⟨gb115, 1, none⟩ = some (.int .i64 ((rd_T101 l0_0 x43_3).f1)) := (blk_cell BK115.out 1).trans rfl; have hcz107_2 : w103.cell? ⟨gb115, 2, none⟩ = some (.string ((rd_T101 l0_0 x43_3).f2)) := (blk_cell BK115.out 2).trans rfl; have hfz107_0 := blk_frozen BK115.out 0; have hfz107_1 := blk_frozen BK115.out 1; have hfz107_2 := blk_frozen BK115.out 2) | (go_at_call 83; (with_reducible refine (spec_l17Long.calls ((rd_T99 l0_1 (ji85)).f0) ((rd_T99 l0_1 (ji85)).f1) t124 _ A98.out).mono ?_); rintro e w' ⟨rfl, ⟨nd, rfl⟩⟩; (try first | exact ⟨rfl, _, World.drewN_drewN _ _ _⟩ | exact ⟨rfl, _, Eq.trans (World.drewN_drewN _ _ _) (congrArg (World.drewN _) (Nat.add_assoc _ _ _))⟩))))
                       go_roundg kj68
                       case measure => have := HJ1.out; have := HK2.out; have := HK3.out; have := HJ29.out; have := HJ68.out; omega
                       case rel => exact ⟨(wrap64 (x43_3 + 1)), (by first | rfl | (simp; done) | (simp [*]; done)), H', ⟨by have := HJ1.out; have := HK2.out; have := HK3.out; have := HJ29.out; have := HJ68.out; omega⟩, ⟨by (with_reducible repeat (first | apply xbN | apply xbD | apply xbA)); refine blk_far ?_ NB108_121.out _; (with_reducible repeat (first | apply xbN | apply xbD | apply xbA)); refine blk_far ?_ NB108_121.out _; (with_reducible repeat (first | apply xbN | apply xbD | apply xbA)); exact BK108.out⟩, ⟨yh HB⟩⟩
                      ·rw [if_neg c99] at H
                       have c99b0 : ((((rd_T101 l0_0 x43_3).f2).size : Int) == t124) = false := beq_eq_false_iff_ne.mpr c99
                       have c99b1 : ((((rd_T101 l0_0 x43_3).f2).size : Int) != t124) = true := bne_iff_ne.mpr c99
                       obtain rfl := Option.some.inj H
                       have hnb108 := NB115_108.out
                       have hnc108 := NB108_115.out
                       have hcz109_0 : wc.cell? ⟨gb115, 0, none⟩ = some (.int .i64 ((rd_T101 l0_0 x43_3).f0)) := (blk_cell BK115.out 0).trans rfl
                       have hcz109_1 : wc.cell? ⟨gb115, 1, none⟩ = some (.int .i64 ((rd_T101 l0_0 x43_3).f1)) := (blk_cell BK115.out 1).trans rfl
                       have hcz109_2 : wc.cell? ⟨gb115, 2, none⟩ = some (.string ((rd_T101 l0_0 x43_3).f2)) := (blk_cell BK115.out 2).trans rfl
                       have hfz109_0 := blk_frozen BK115.out 0
                       have hfz109_1 := blk_frozen BK115.out 1
                       have hfz109_2 := blk_frozen BK115.out 2
                       have hcz110_0 : wc.cell? ⟨gb108, 0, none⟩ = some (.slice (some ad114) l0_0.length c0_0) := (blk_cell BK108.out 0).trans rfl
                       have hcz110_1 : wc.cell? ⟨gb108, 1, none⟩ = some (.slice A0_1 l0_1.length c0_1) := (blk_cell BK108.out 1).trans rfl
                       have hfz110_0 := blk_frozen BK108.out 0
                       have hfz110_1 := blk_frozen BK108.out 1
                       have p120 : 0 ≤ ((ji85) : Int) := of_decide_eq_true (by first | (with_reducible assumption) | assumption)
                       have q120 : (ji85) < (l0_1.length : Int) := of_decide_eq_true (by first | (with_reducible assumption) | assumption)
                       obtain ⟨ad120, e120, hx120_0, hx120_1⟩ := at_T99 HR0_1.out (ji85) p120 q120
                       cases e120
                       replace hx120_0 := (HB.out.cell (World.block_lt_of_cell? w _ hx120_0)).trans hx120_0
                       replace hx120_1 := (HB.out.cell (World.block_lt_of_cell? w _ hx120_1)).trans hx120_1
                       replace p120 := eq_true p120
                       replace q120 := eq_true q120
                       go_wp2_with (first | ((with_reducible refine gate_dst (N := 8) rfl ?_); (try (refine gate_guard (by rfl) ?_; dsimp only)); refine box_event ?hg (N := 8) ?hd (cs := #[.int .i64 0, .int .i64 0]) (t := 99) ?hr ?_; (case hd => rfl); (case hg => rfl); (case hr => first | (go_simp; done) | (go_simp; rfl)); intro gb121 hg w111 hbox hb; have BK121 := xM (hbox); have GW121 := xM ((by rw [hg]; exact (below_size (yh HB)) : w.heap.size ≤ gb121)); have GE121 := xM ((by rw [hg]; exact (below_size (yh HB)) : w.heap.size ≤ gb121)); have NB108_121 := xM ((by rw [hg]; exact Nat.ne_of_lt (blk_lt (yb BK108)) : gb108 ≠ gb121)); have NB121_108 := xM ((by rw [hg]; exact Nat.ne_of_gt (blk_lt (yb BK108)) : gb121 ≠ gb108)); have NB115_121 := xM ((by rw [hg]; exact Nat.ne_of_lt (blk_lt (yb BK115)) : gb115 ≠ gb121)); have NB121_115 := xM ((by rw [hg]; exact Nat.ne_of_gt (blk_lt (yb BK115)) : gb121 ≠ gb115)); replace BK108 := xM (xB (yb BK108) hb); replace BK115 := xM (xB (yb BK115) hb); replace HB := xM (below_step (yh HB) hb); clear hb hbox hg; have hnb112 := NB121_108.out; have hnc112 := NB108_121.out; have hnb113 := NB121_115.out; have hnc113 := NB115_121.out; have hcz114_0 : w111.cell? ⟨gb121, 0, none⟩ = some (.int .i64 0) := (blk_cell BK121.out 0).trans rfl; have hcz114_1 : w111.cell? ⟨gb121, 1, none⟩ = some (.int .i64 0) := (blk_cell BK121.out 1).trans rfl; have hfz114_0 := blk_frozen BK121.out 0; have hfz114_1 := blk_frozen BK121.out 1) | (go_at_call 82; (with_reducible refine (spec_l17Many.calls ((rd_T99 l0_1 (ji85)).f0) t122 t123 _ A88.out).mono ?_); rintro e w' ⟨rfl, ⟨nd, rfl⟩⟩; (try first | exact ⟨rfl, _, World.drewN_drewN _ _ _⟩ | exact ⟨rfl, _, Eq.trans (World.drewN_drewN _ _ _) (congrArg (World.drewN _) (Nat.add_assoc _ _ _))⟩); have hcz115_0 : w111.cell? ⟨gb115, 0, none⟩ = some (.int .i64 ((rd_T101 l0_0 x43_3).f0)) := (blk_cell BK115.out 0).trans rfl; have hcz115_1 : w111.cell? ⟨gb115, 1, none⟩ = some (.int .i64 ((rd_T101 l0_0 x43_3).f1)) := (blk_cell BK115.out 1).trans rfl; have hcz115_2 : w111.cell? ⟨gb115, 2, none⟩ = some (.string ((rd_T101 l0_0 x43_3).f2)) := (blk_cell BK115.out 2).trans rfl; have hfz115_0 := blk_frozen BK115.out 0; have hfz115_1 := blk_frozen BK115.out 1; have hfz115_2 := blk_frozen BK115.out 2) | (go_at_call 83; (with_reducible refine (spec_l17Long.calls ((rd_T99 l0_1 (ji85)).f0) ((rd_T99 l0_1 (ji85)).f1) t124 _ A98.out).mono ?_); rintro e w' ⟨rfl, ⟨nd, rfl⟩⟩; (try first | exact ⟨rfl, _, World.drewN_drewN _ _ _⟩ | exact ⟨rfl, _, Eq.trans (World.drewN_drewN _ _ _) (congrArg (World.drewN _) (Nat.add_assoc _ _ _))⟩)))
                       repeat (go_quiet (first | ((with_reducible refine gate_dst (N := 8) rfl ?_); (try (refine gate_guard (by rfl) ?_; dsimp only)); refine box_event ?hg (N := 8) ?hd (cs := #[.int .i64 0, .int .i64 0]) (t := 99) ?hr ?_; (case hd => rfl); (case hg => rfl); (case hr => first | (go_simp; done) | (go_simp; rfl)); intro gb121 hg w111 hbox hb; have BK121 := xM (hbox); have GW121 := xM ((by rw [hg]; exact (below_size (yh HB)) : w.heap.size ≤ gb121)); have GE121 := xM ((by rw [hg]; exact (below_size (yh HB)) : w.heap.size ≤ gb121)); have NB108_121 := xM ((by rw [hg]; exact Nat.ne_of_lt (blk_lt (yb BK108)) : gb108 ≠ gb121)); have NB121_108 := xM ((by rw [hg]; exact Nat.ne_of_gt (blk_lt (yb BK108)) : gb121 ≠ gb108)); have NB115_121 := xM ((by rw [hg]; exact Nat.ne_of_lt (blk_lt (yb BK115)) : gb115 ≠ gb121)); have NB121_115 := xM ((by rw [hg]; exact Nat.ne_of_gt (blk_lt (yb BK115)) : gb121 ≠ gb115)); replace BK108 := xM (xB (yb BK108) hb); replace BK115 := xM (xB (yb BK115) hb); replace HB := xM (below_step (yh HB) hb); clear hb hbox hg; have hnb112 := NB121_108.out; have hnc112 := NB108_121.out; have hnb113 := NB121_115.out; have hnc113 := NB115_121.out; have hcz114_0 : w111.cell? ⟨gb121, 0, none⟩ = some (.int .i64 0) := (blk_cell BK121.out 0).trans rfl; have hcz114_1 : w111.cell? ⟨gb121, 1, none⟩ = some (.int .i64 0) := (blk_cell BK121.out 1).trans rfl; have hfz114_0 := blk_frozen BK121.out 0; have hfz114_1 := blk_frozen BK121.out 1) | (go_at_call 82; (with_reducible refine (spec_l17Many.calls ((rd_T99 l0_1 (ji85)).f0) t122 t123 _ A88.out).mono ?_); rintro e w' ⟨rfl, ⟨nd, rfl⟩⟩; (try first | exact ⟨rfl, _, World.drewN_drewN _ _ _⟩ | exact ⟨rfl, _, Eq.trans (World.drewN_drewN _ _ _) (congrArg (World.drewN _) (Nat.add_assoc _ _ _))⟩); have hcz115_0 : w111.cell? ⟨gb115, 0, none⟩ = some (.int .i64 ((rd_T101 l0_0 x43_3).f0)) := (blk_cell BK115.out 0).trans rfl; have hcz115_1 : w111.cell? ⟨gb115, 1, none⟩ = some (.int .i64 ((rd_T101 l0_0 x43_3).f1)) := (blk_cell BK115.out 1).trans rfl; have hcz115_2 : w111.cell? ⟨gb115, 2, none⟩ = some (.string ((rd_T101 l0_0 x43_3).f2)) := (blk_cell BK115.out 2).trans rfl; have hfz115_0 := blk_frozen BK115.out 0; have hfz115_1 := blk_frozen BK115.out 1; have hfz115_2 := blk_frozen BK115.out 2) | (go_at_call 83; (with_reducible refine (spec_l17Long.calls ((rd_T99 l0_1 (ji85)).f0) ((rd_T99 l0_1 (ji85)).f1) t124 _ A98.out).mono ?_); rintro e w' ⟨rfl, ⟨nd, rfl⟩⟩; (try first | exact ⟨rfl, _, World.drewN_drewN _ _ _⟩ | exact ⟨rfl, _, Eq.trans (World.drewN_drewN _ _ _) (congrArg (World.drewN _) (Nat.add_assoc _ _ _))⟩))); try go_wp2_with (first | ((with_reducible refine gate_dst (N := 8) rfl ?_); (try (refine gate_guard (by rfl) ?_; dsimp only)); refine box_event ?hg (N := 8) ?hd (cs := #[.int .i64 0, .int .i64 0]) (t := 99) ?hr ?_; (case hd => rfl); (case hg => rfl); (case hr => first | (go_simp; done) | (go_simp; rfl)); intro gb121 hg w111 hbox hb; have BK121 := xM (hbox); have GW121 := xM ((by rw [hg]; exact (below_size (yh HB)) : w.heap.size ≤ gb121)); have GE121 := xM ((by rw [hg]; exact (below_size (yh HB)) : w.heap.size ≤ gb121)); have NB108_121 := xM ((by rw [hg]; exact Nat.ne_of_lt (blk_lt (yb BK108)) : gb108 ≠ gb121)); have NB121_108 := xM ((by rw [hg]; exact Nat.ne_of_gt (blk_lt (yb BK108)) : gb121 ≠ gb108)); have NB115_121 := xM ((by rw [hg]; exact Nat.ne_of_lt (blk_lt (yb BK115)) : gb115 ≠ gb121)); have NB121_115 := xM ((by rw [hg]; exact Nat.ne_of_gt (blk_lt (yb BK115)) : gb121 ≠ gb115)); replace BK108 := xM (xB (yb BK108) hb); replace BK115 := xM (xB (yb BK115) hb); replace HB := xM (below_step (yh HB) hb); clear hb hbox hg; have hnb112 := NB121_108.out; have hnc112 := NB108_121.out; have hnb113 := NB121_115.out; have hnc113 := NB115_121.out; have hcz114_0 : w111.cell? ⟨gb121, 0, none⟩ = some (.int .i64 0) := (blk_cell BK121.out 0).trans rfl; have hcz114_1 : w111.cell? ⟨gb121, 1, none⟩ = some (.int .i64 0) := (blk_cell BK121.out 1).trans rfl; have hfz114_0 := blk_frozen BK121.out 0; have hfz114_1 := blk_frozen BK121.out 1) | (go_at_call 82; (with_reducible refine (spec_l17Many.calls ((rd_T99 l0_1 (ji85)).f0) t122 t123 _ A88.out).mono ?_); rintro e w' ⟨rfl, ⟨nd, rfl⟩⟩; (try first | exact ⟨rfl, _, World.drewN_drewN _ _ _⟩ | exact ⟨rfl, _, Eq.trans (World.drewN_drewN _ _ _) (congrArg (World.drewN _) (Nat.add_assoc _ _ _))⟩); have hcz115_0 : w111.cell? ⟨gb115, 0, none⟩ = some (.int .i64 ((rd_T101 l0_0 x43_3).f0)) := (blk_cell BK115.out 0).trans rfl; have hcz115_1 : w111.cell? ⟨gb115, 1, none⟩ = some (.int .i64 ((rd_T101 l0_0 x43_3).f1)) := (blk_cell BK115.out 1).trans rfl; have hcz115_2 : w111.cell? ⟨gb115, 2, none⟩ = some (.string ((rd_T101 l0_0 x43_3).f2)) := (blk_cell BK115.out 2).trans rfl; have hfz115_0 := blk_frozen BK115.out 0; have hfz115_1 := blk_frozen BK115.out 1; have hfz115_2 := blk_frozen BK115.out 2) | (go_at_call 83; (with_reducible refine (spec_l17Long.calls ((rd_T99 l0_1 (ji85)).f0) ((rd_T99 l0_1 (ji85)).f1) t124 _ A98.out).mono ?_); rintro e w' ⟨rfl, ⟨nd, rfl⟩⟩; (try first | exact ⟨rfl, _, World.drewN_drewN _ _ _⟩ | exact ⟨rfl, _, Eq.trans (World.drewN_drewN _ _ _) (congrArg (World.drewN _) (Nat.add_assoc _ _ _))⟩))))
                       go_ret
                       exact ⟨by first | rfl | (simp [errW_none, errW_some] <;> rfl) | (simp only [← hji85]; first | rfl | (simp [errW_none, errW_some] <;> rfl)) | (simp [*, errW_none, errW_some] <;> rfl), by repeat (first | (with_reducible first | exact HB.out | apply xa | apply xn | apply xd | refine xs ?_ GE108.out | refine xs ?_ GE115.out | refine xs ?_ GE121.out) | exact HB.out)⟩
                    ·rw [if_neg c87] at H
                     exact absurd H (by simp)
                   ·rw [if_neg c86] at H
                    exact absurd H (by simp)
                  ·rw [if_neg c84] at H
                   have c84b0 : decide (((rd_T101 l0_0 x43_3).f0) ≤ (l0_1.length : Int)) = false := decide_eq_false c84
                   clear c84
                   have H' := Aside0.mk H
                   clear H
                   have hnb116 := NB115_108.out
                   have hnc116 := NB108_115.out
                   have hcz117_0 : wc.cell? ⟨gb115, 0, none⟩ = some (.int .i64 ((rd_T101 l0_0 x43_3).f0)) := (blk_cell BK115.out 0).trans rfl
                   have hcz117_1 : wc.cell? ⟨gb115, 1, none⟩ = some (.int .i64 ((rd_T101 l0_0 x43_3).f1)) := (blk_cell BK115.out 1).trans rfl
                   have hcz117_2 : wc.cell? ⟨gb115, 2, none⟩ = some (.string ((rd_T101 l0_0 x43_3).f2)) := (blk_cell BK115.out 2).trans rfl
                   have hfz117_0 := blk_frozen BK115.out 0
                   have hfz117_1 := blk_frozen BK115.out 1
                   have hfz117_2 := blk_frozen BK115.out 2
                   have hcz118_0 : wc.cell? ⟨gb108, 0, none⟩ = some (.slice (some ad114) l0_0.length c0_0) := (blk_cell BK108.out 0).trans rfl
                   have hcz118_1 : wc.cell? ⟨gb108, 1, none⟩ = some (.slice A0_1 l0_1.length c0_1) := (blk_cell BK108.out 1).trans rfl
                   have hfz118_0 := blk_frozen BK108.out 0
                   have hfz118_1 := blk_frozen BK108.out 1
                   go_wp2
                   repeat (go_quiet (fail); try go_wp2)
                   go_roundg kj68
                   case measure => have := HJ1.out; have := HK2.out; have := HK3.out; have := HJ29.out; have := HJ68.out; omega
                   case rel => exact ⟨(wrap64 (x43_3 + 1)), (by first | rfl | (simp; done) | (simp [*]; done)), H', ⟨by have := HJ1.out; have := HK2.out; have := HK3.out; have := HJ29.out; have := HJ68.out; omega⟩, ⟨by (with_reducible repeat (first | apply xbN | apply xbD | apply xbA)); exact BK108.out⟩, ⟨yh HB⟩⟩
            ·rw [if_neg c29] at H
             exact absurd H (by simp)
           ·rw [if_neg c28] at H
            exact absurd H (by simp)
          ·rw [if_neg c27] at H
           have c27b0 : decide (x43_3 < (l0_0.length : Int)) = false := decide_eq_false c27
           clear c27
           obtain rfl := Option.some.inj H
           go_wp2
           repeat (go_quiet (fail); try go_wp2)
           go_ret
           exact ⟨by first | rfl | (simp [errW_none, errW_some] <;> rfl) | (simp [*, errW_none, errW_some] <;> rfl), by repeat (first | (with_reducible first | exact HB.out | apply xa | apply xn | apply xd | refine xs ?_ GE108.out) | exact HB.out)⟩

end Go.Proofs.Ytppgkkejddjacaa.PFnExactGoodShelf

-- This text was written by the session's own program wip/tools/xprint.py, over the kit's print; Lean checks it.
import Derived.Test.YtppgkkejddjacaaPFnAnsx0
import Derived.Test.YtppgkkejddjacaaPFnAnsx1
import Derived.Test.YtppgkkejddjacaaPFnAnsx2
import Derived.Test.YtppgkkejddjacaaPFnAnsx3
import Derived.Test.YtppgkkejddjacaaPFnAnsx4
namespace Go.Proofs.Ytppgkkejddjacaa.PFnAns
open Go.RowKit Go.Proofs.YtppgkkejddjacaaW.PrintWords Go.Proofs.YtppgkkejddjacaaW.PrintLast Go.Proofs.YtppgkkejddjacaaW.PrintMore
attribute [local go_sem] max2_int min2_int max_two min_two max_three min_three max_four min_four   -- for this text's walks alone
set_option linter.unusedVariables false
set_option linter.unusedSimpArgs false

/-! ### spec_TakeSymbol: function 32 -/
mutual
def spec_TakeSymbol.j0 : Nat → List Int → Bool → Int → List Int → Option (Int × Int × List Int × Bool)
  | 0, _, _, _, _ => none
  | k + 1, x0, x25, x177000, x177001 => if x25 = true then (some (0, 0, ([] : List Int), false)) else ((spec_l14At.f k x0 (Int.tmod x177000 64)).bind fun t181 => (if 0 ≤ t181 then (if t181 < (x0.length : Int) then ((spec_l14Starts.f k x0).bind fun t183 => (if t181 < (t183.length : Int) then ((some (([] : List Int) : List Int)).bind fun y187 => (if y187.length + x177001.length < 17592186044416 then (spec_TakeSymbol.l0 k t181 (wrap64 ((wrap64 ((wrap64 ((rd x0 t181) * (wrap64 (Int.tdiv x177000 64)))) + (Int.tmod x177000 64))) - (rd t183 t181))) (y187 ++ x177001)) else (none))) else (none))) else (none)) else (none)))
def spec_TakeSymbol.l0 : Nat → Int → Int → List Int → Option (Int × Int × List Int × Bool)
  | 0, _, _, _ => none
  | k + 1, x8, x9, x10 => if x9 < 4096 then (if (x10.length : Int) > 0 then (if 0 ≤ (wrap64 ((x10.length : Int) - 1)) then (if (wrap64 ((x10.length : Int) - 1)) < (x10.length : Int) then (if (wrap64 ((x10.length : Int) - 1)) ≤ (x10.length : Int) then (spec_TakeSymbol.l0 k x8 (wrap64 ((wrap64 (16 * x9)) + (rd x10 (wrap64 ((x10.length : Int) - 1))))) (x10.take ((wrap64 ((x10.length : Int) - 1)) : Int).toNat)) else (none)) else (none)) else (none)) else ((spec_l14State.f x9).bind fun t197 => (if t197 = true then (some (x8, x9, x10, true)) else (some (0, 0, ([] : List Int), false))))) else ((spec_l14State.f x9).bind fun t198 => (if t198 = true then (some (x8, x9, x10, true)) else (some (0, 0, ([] : List Int), false))))
end
def spec_TakeSymbol.f (k : Nat) (l0 : List Int) (a1_0 : Int) (l1_1 : List Int) : Option (Int × Int × List Int × Bool) := (spec_GoodCounts.f k l0).bind fun t178 => (if t178 = true then ((spec_l14State.f a1_0).bind fun t179 => (if t179 = true then ((spec_l14Words.f k l1_1).bind fun t180 => (spec_TakeSymbol.j0 k l0 (!t180) a1_0 l1_1)) else (spec_TakeSymbol.j0 k l0 true a1_0 l1_1))) else (spec_TakeSymbol.j0 k l0 true a1_0 l1_1))
theorem spec_TakeSymbol.mono_l : ∀ k, (∀ y0 y1 y2 y3, LeO (spec_TakeSymbol.j0 k y0 y1 y2 y3) (spec_TakeSymbol.j0 (k + 1) y0 y1 y2 y3)) ∧ (∀ y0 y1 y2, LeO (spec_TakeSymbol.l0 k y0 y1 y2) (spec_TakeSymbol.l0 (k + 1) y0 y1 y2))
  | 0 => ⟨fun _ _ _ _ r h => by simp [spec_TakeSymbol.j0] at h, fun _ _ _ r h => by simp [spec_TakeSymbol.l0] at h⟩
  | k + 1 => by
   obtain ⟨ih0, ih1⟩ := spec_TakeSymbol.mono_l k
   refine ⟨?_, ?_⟩
   ·intro y0 y1 y2 y3
    unfold spec_TakeSymbol.j0
    repeat' first
    | (with_reducible exact ih0 _ _ _ _)
    | (with_reducible exact ih1 _ _ _)
    | (with_reducible exact spec_GoodCounts.mono _ _)
    | (with_reducible exact spec_l14At.mono _ _ _)
    | (with_reducible exact spec_l14Starts.mono _ _)
    | (with_reducible exact spec_l14Words.mono _ _)
    | (with_reducible exact LeO.refl _)
    | (with_reducible exact LeO.none _)
    | (with_reducible refine LeO.ite ?_ ?_)
    | (with_reducible refine LeO.bind ?_ (fun _ => ?_))
    | exact ih0 _ _ _ _
    | exact ih1 _ _ _
    | exact spec_GoodCounts.mono _ _
    | exact spec_l14At.mono _ _ _
    | exact spec_l14Starts.mono _ _
    | exact spec_l14Words.mono _ _
    | exact LeO.none _
    | refine LeO.ite ?_ ?_
    | refine LeO.bind ?_ (fun _ => ?_)
   ·intro y0 y1 y2
    unfold spec_TakeSymbol.l0
    repeat' first
    | (with_reducible exact ih0 _ _ _ _)
    | (with_reducible exact ih1 _ _ _)
    | (with_reducible exact spec_GoodCounts.mono _ _)
    | (with_reducible exact spec_l14At.mono _ _ _)
    | (with_reducible exact spec_l14Starts.mono _ _)
    | (with_reducible exact spec_l14Words.mono _ _)
    | (with_reducible exact LeO.refl _)
    | (with_reducible exact LeO.none _)
    | (with_reducible refine LeO.ite ?_ ?_)
    | (with_reducible refine LeO.bind ?_ (fun _ => ?_))
    | exact ih0 _ _ _ _
    | exact ih1 _ _ _
    | exact spec_GoodCounts.mono _ _
    | exact spec_l14At.mono _ _ _
    | exact spec_l14Starts.mono _ _
    | exact spec_l14Words.mono _ _
    | exact LeO.none _
    | refine LeO.ite ?_ ?_
    | refine LeO.bind ?_ (fun _ => ?_)
theorem spec_TakeSymbol.mono : ∀ a0 a1 a2 k, LeO (spec_TakeSymbol.f k a0 a1 a2) (spec_TakeSymbol.f (k + 1) a0 a1 a2) := by
  intro a0 a1 a2 k
  obtain ⟨ih0, ih1⟩ := spec_TakeSymbol.mono_l k
  unfold spec_TakeSymbol.f
  repeat' first
    | (with_reducible exact ih0 _ _ _ _)
    | (with_reducible exact ih1 _ _ _)
    | (with_reducible exact spec_GoodCounts.mono _ _)
    | (with_reducible exact spec_l14At.mono _ _ _)
    | (with_reducible exact spec_l14Starts.mono _ _)
    | (with_reducible exact spec_l14Words.mono _ _)
    | (with_reducible exact LeO.refl _)
    | (with_reducible exact LeO.none _)
    | (with_reducible refine LeO.ite ?_ ?_)
    | (with_reducible refine LeO.bind ?_ (fun _ => ?_))
    | exact ih0 _ _ _ _
    | exact ih1 _ _ _
    | exact spec_GoodCounts.mono _ _
    | exact spec_l14At.mono _ _ _
    | exact spec_l14Starts.mono _ _
    | exact spec_l14Words.mono _ _
    | exact LeO.none _
    | refine LeO.ite ?_ ?_
    | refine LeO.bind ?_ (fun _ => ?_)
def spec_TakeSymbol.T5 : Bool × List (List Nat × List Nat) := (true, [([], []), ([], []), ([0, 1], [0, 1]), ([2], [2]), ([], []), ([4], [4]), ([5], [5]), ([3, 6], [3, 6]), ([], []), ([7, 8], [7, 8]), ([], []), ([10], [10]), ([], []), ([11, 12], [11, 12]), ([13], [13]), ([9, 14], [9, 14]), ([15, 11, 0, 1, 2, 3, 4, 5, 6, 7, 8, 9, 10, 11, 12, 13, 14, 15], [15])])
def spec_TakeSymbol.B5 : List Nat := [0, 0, 3, 7, 0, 16, 48, 127, 0, 511, 0, 1024, 0, 7168, 15360, 32767, 65535]
theorem spec_TakeSymbol.tab5 : rtab .any (opsOf Try.f32 5) = spec_TakeSymbol.T5 := by kernel_rfl
theorem spec_TakeSymbol.bits5 : waitsOk spec_TakeSymbol.T5.2 spec_TakeSymbol.B5 = true := by kernel_rfl
set_option maxHeartbeats 8000000 in
set_option maxRecDepth 100000 in
theorem spec_TakeSymbol.calls (k : Nat) (A0 : Option Addr) (c0 : Nat) (l0 : List Int) (a1_0 : Int) (A1_1 : Option Addr) (c1_1 : Nat) (l1_1 : List Int) (r1 : Int) (r2 : Int) (r3 : List Int) (r4 : Bool) (w : World) (hr0 : Kd.C (Kd.int .i64) w A0 l0.length l0) (hc0 : l0.length ≤ c0) (hr1_1 : Kd.C (Kd.int .i64) w A1_1 l1_1.length l1_1) (hc1_1 : l1_1.length ≤ c1_1) (h : spec_TakeSymbol.f k l0 a1_0 l1_1 = some (r1, r2, r3, r4)) :
   Calls Try.prog 32 #[.slice A0 l0.length c0, .agg #[.int .i64 a1_0, .slice A1_1 l1_1.length c1_1]] w fun e w' => ∃ v2_ : Value, e = .returned (.tuple #[.int .i64 r1, .agg #[.int .i64 r2, v2_], .bool r4]) ∧ Kd.R (Kd.int .i64) 3 w' w.heap.size (fun _ => True) v2_ r3 ∧ Below w.heap.size w w' := by
  have hu33 := Try.underlying33
  have HR0 := Aside0.mk hr0
  have HC0 := Aside0.mk hc0
  clear hr0 hc0
  have HR1_1 := Aside0.mk hr1_1
  have HC1_1 := Aside0.mk hc1_1
  clear hr1_1 hc1_1
  have HB := xM (Below.refl w.heap.size w)
  have H : ((spec_GoodCounts.f k l0).bind fun t178 => (if t178 = true then ((spec_l14State.f a1_0).bind fun t179 => (if t179 = true then ((spec_l14Words.f k l1_1).bind fun t180 => (spec_TakeSymbol.j0 k l0 (!t180) a1_0 l1_1)) else (spec_TakeSymbol.j0 k l0 true a1_0 l1_1))) else (spec_TakeSymbol.j0 k l0 true a1_0 l1_1))) = some (r1, r2, r3, r4) := h
  clear h
  have HC3 := Aside0.mk H
  clear H
  go_enter Try.func32, Try.ntmps32
  go_upto_region 1 with (first | ((with_reducible refine gate_dst (N := 3) rfl ?_); (try (refine gate_guard (by rfl) ?_; dsimp only)); refine box_event ?hg (N := 3) ?hd (cs := #[.int .i64 a1_0, .slice A1_1 l1_1.length c1_1]) (t := 33) ?hr ?_; (case hd => rfl); (case hg => rfl); (case hr => first | (go_simp; done) | (go_simp; rfl)); intro gb176 hg w4 hbox hb; have BK176 := xM (hbox); have GW176 := xM ((by rw [hg]; exact (below_size (yh HB)) : w.heap.size ≤ gb176)); have GE176 := xM ((by rw [hg]; exact (below_size (yh HB)) : w.heap.size ≤ gb176)); replace HB := xM (below_step (yh HB) hb); clear hb hbox hg) | ((with_reducible refine gate_dst (N := 5) rfl ?_); (try (refine gate_guard (by rfl) ?_; dsimp only)); refine box_event ?hg (N := 5) ?hd (cs := #[.int .i64 0, .slice none 0 0]) (t := 33) ?hr ?_; (case hd => rfl); (case hg => rfl); (case hr => first | (go_simp; done) | (go_simp; rfl)); intro gb177 hg w5 hbox hb; have BK177 := xM (hbox); have GW177 := xM ((by rw [hg]; exact (below_size (yh HB)) : w.heap.size ≤ gb177)); have GE177 := xM ((by rw [hg]; exact (below_size (yh HB)) : w.heap.size ≤ gb177)); have NB176_177 := xM ((by rw [hg]; exact Nat.ne_of_lt (blk_lt (yb BK176)) : gb176 ≠ gb177)); have NB177_176 := xM ((by rw [hg]; exact Nat.ne_of_gt (blk_lt (yb BK176)) : gb177 ≠ gb176)); replace BK176 := xM (xB (yb BK176) hb); replace HB := xM (below_step (yh HB) hb); clear hb hbox hg))
  (try simp only [Act.put, List.setIfInBounds_toArray, List.set_cons_zero, List.set_cons_succ])
  go_cut [25] (fun v25 wc => ∃ (kq : Nat) (x25_2 : Bool), v25 = .bool x25_2 ∧ Aside0 (spec_TakeSymbol.j0 kq l0 x25_2 a1_0 l1_1 = some (r1, r2, r3, r4)) ∧ Aside0 (kq ≤ k) ∧ Aside0 (wc.heap[gb176]? = some (.cells #[.int .i64 a1_0, (.slice A1_1 l1_1.length c1_1)] 33 (0, 0))) ∧ Aside0 (wc.heap[gb177]? = some (.cells #[.int .i64 0, (.slice none 0 0)] 33 (0, 0))) ∧ Aside0 (Below w.heap.size w wc))
  case first =>
   have H := HC3.out
   clear HC3
   replace H := Option.bind_eq_some_iff.mp H
   obtain ⟨t178, A60, H⟩ := H
   replace H : (if t178 = true then ((spec_l14State.f a1_0).bind fun t179 => (if t179 = true then ((spec_l14Words.f k l1_1).bind fun t180 => (spec_TakeSymbol.j0 k l0 (!t180) a1_0 l1_1)) else (spec_TakeSymbol.j0 k l0 true a1_0 l1_1))) else (spec_TakeSymbol.j0 k l0 true a1_0 l1_1)) = some (r1, r2, r3, r4) := H
   have A6 := Aside0.mk A60
   clear A60
   by_cases c7 : t178 = true
   ·subst c7
    have H1 : ((spec_l14State.f a1_0).bind fun t179 => (if t179 = true then ((spec_l14Words.f k l1_1).bind fun t180 => (spec_TakeSymbol.j0 k l0 (!t180) a1_0 l1_1)) else (spec_TakeSymbol.j0 k l0 true a1_0 l1_1))) = some (r1, r2, r3, r4) := by rw [if_pos rfl] at H; exact H
    clear H
    have H := H1
    clear H1
    replace H := Option.bind_eq_some_iff.mp H
    obtain ⟨t179, A80, H⟩ := H
    replace H : (if t179 = true then ((spec_l14Words.f k l1_1).bind fun t180 => (spec_TakeSymbol.j0 k l0 (!t180) a1_0 l1_1)) else (spec_TakeSymbol.j0 k l0 true a1_0 l1_1)) = some (r1, r2, r3, r4) := H
    have A8 := Aside0.mk A80
    clear A80
    by_cases c9 : t179 = true
    ·subst c9
     have H1 : ((spec_l14Words.f k l1_1).bind fun t180 => (spec_TakeSymbol.j0 k l0 (!t180) a1_0 l1_1)) = some (r1, r2, r3, r4) := by rw [if_pos rfl] at H; exact H
     clear H
     have H := H1
     clear H1
     replace H := Option.bind_eq_some_iff.mp H
     obtain ⟨t180, A100, H⟩ := H
     replace H : (spec_TakeSymbol.j0 k l0 (!t180) a1_0 l1_1) = some (r1, r2, r3, r4) := H
     have A10 := Aside0.mk A100
     clear A100
     have H' := Aside0.mk H
     clear H
     go_wp2_with (first | ((with_reducible refine gate_callee (f := 58) rfl ?_); refine goesL_ (some 12) rfl rfl Try.func58 (by kernel_rfl) rfl #[.slice A0 l0.length c0] rfl (by (try simp only [List.map_toArray, List.map_cons, List.map_nil]); first | done | rfl | (simp only [List.length_drop, List.length_take]; rfl)) ?_; (with_reducible refine (spec_GoodCounts.calls k _ _ l0 true _ ?side1 ?side2 A6.out).mono ?_); (case side1 => repeat (first | exact (Kd.C_below HR0.out HB.out) | (with_reducible refine Kd.C_alloc ?_ _) | (with_reducible refine Kd.C_drewN ?_ _) | (with_reducible refine Kd.C_drew ?_))); (case side2 => exact HC0.out); rintro e w' ⟨rfl, ⟨nd, rfl⟩⟩; refine ⟨_, rfl, ?_⟩; have hnb11 := NB176_177.out; have hnc11 := NB177_176.out; have hcz12_0 : w5.cell? ⟨gb176, 0, none⟩ = some (.int .i64 a1_0) := (blk_cell BK176.out 0).trans rfl; have hcz12_1 : w5.cell? ⟨gb176, 1, none⟩ = some (.slice A1_1 l1_1.length c1_1) := (blk_cell BK176.out 1).trans rfl; have hfz12_0 := blk_frozen BK176.out 0; have hfz12_1 := blk_frozen BK176.out 1) | (go_at_call 59; (with_reducible refine (spec_l14State.calls a1_0 true _ A8.out).mono ?_); rintro e w' ⟨rfl, ⟨nd, rfl⟩⟩) | (go_at_call 74; (with_reducible refine (spec_l14Words.calls k _ _ l1_1 t180 _ ?side1 ?side2 A10.out).mono ?_); (case side1 => repeat (first | exact (Kd.C_below HR1_1.out (yh HB)) | (with_reducible refine Kd.C_alloc ?_ _) | (with_reducible refine Kd.C_drewN ?_ _) | (with_reducible refine Kd.C_drew ?_))); (case side2 => exact HC1_1.out); rintro e w' ⟨rfl, ⟨nd, rfl⟩⟩))
     go_meet
     case rel => exact ⟨_, (!t180), (by first | rfl | (simp; done) | (simp [*]; done)), H', ⟨by first | omega | exact Nat.le_refl _⟩, ⟨by (with_reducible repeat (first | apply xbN | apply xbD | apply xbA)); exact BK176.out⟩, ⟨by (with_reducible repeat (first | apply xbN | apply xbD | apply xbA)); exact BK177.out⟩, ⟨yh HB⟩⟩
    ·replace c9 := Bool.eq_false_iff.mpr c9
     subst c9
     have H1 : (spec_TakeSymbol.j0 k l0 true a1_0 l1_1) = some (r1, r2, r3, r4) := by rw [if_neg (show ¬ (false = true) by decide)] at H; exact H
     clear H
     have H := H1
     clear H1
     have H' := Aside0.mk H
     clear H
     go_wp2_with (first | ((with_reducible refine gate_callee (f := 58) rfl ?_); refine goesL_ (some 12) rfl rfl Try.func58 (by kernel_rfl) rfl #[.slice A0 l0.length c0] rfl (by (try simp only [List.map_toArray, List.map_cons, List.map_nil]); first | done | rfl | (simp only [List.length_drop, List.length_take]; rfl)) ?_; (with_reducible refine (spec_GoodCounts.calls k _ _ l0 true _ ?side1 ?side2 A6.out).mono ?_); (case side1 => repeat (first | exact (Kd.C_below HR0.out HB.out) | (with_reducible refine Kd.C_alloc ?_ _) | (with_reducible refine Kd.C_drewN ?_ _) | (with_reducible refine Kd.C_drew ?_))); (case side2 => exact HC0.out); rintro e w' ⟨rfl, ⟨nd, rfl⟩⟩; refine ⟨_, rfl, ?_⟩; have hnb13 := NB176_177.out; have hnc13 := NB177_176.out; have hcz14_0 : w5.cell? ⟨gb176, 0, none⟩ = some (.int .i64 a1_0) := (blk_cell BK176.out 0).trans rfl; have hcz14_1 : w5.cell? ⟨gb176, 1, none⟩ = some (.slice A1_1 l1_1.length c1_1) := (blk_cell BK176.out 1).trans rfl; have hfz14_0 := blk_frozen BK176.out 0; have hfz14_1 := blk_frozen BK176.out 1) | (go_at_call 59; (with_reducible refine (spec_l14State.calls a1_0 false _ A8.out).mono ?_); rintro e w' ⟨rfl, ⟨nd, rfl⟩⟩))
     go_meet
     case rel => exact ⟨_, (true), (by first | rfl | (simp; done) | (simp [*]; done)), H', ⟨by first | omega | exact Nat.le_refl _⟩, ⟨by (with_reducible repeat (first | apply xbN | apply xbD | apply xbA)); exact BK176.out⟩, ⟨by (with_reducible repeat (first | apply xbN | apply xbD | apply xbA)); exact BK177.out⟩, ⟨yh HB⟩⟩
   ·replace c7 := Bool.eq_false_iff.mpr c7
    subst c7
    have H1 : (spec_TakeSymbol.j0 k l0 true a1_0 l1_1) = some (r1, r2, r3, r4) := by rw [if_neg (show ¬ (false = true) by decide)] at H; exact H
    clear H
    have H := H1
    clear H1
    have H' := Aside0.mk H
    clear H
    go_wp2_with (first | ((with_reducible refine gate_callee (f := 58) rfl ?_); refine goesL_ (some 12) rfl rfl Try.func58 (by kernel_rfl) rfl #[.slice A0 l0.length c0] rfl (by (try simp only [List.map_toArray, List.map_cons, List.map_nil]); first | done | rfl | (simp only [List.length_drop, List.length_take]; rfl)) ?_; (with_reducible refine (spec_GoodCounts.calls k _ _ l0 false _ ?side1 ?side2 A6.out).mono ?_); (case side1 => repeat (first | exact (Kd.C_below HR0.out HB.out) | (with_reducible refine Kd.C_alloc ?_ _) | (with_reducible refine Kd.C_drewN ?_ _) | (with_reducible refine Kd.C_drew ?_))); (case side2 => exact HC0.out); rintro e w' ⟨rfl, ⟨nd, rfl⟩⟩; refine ⟨_, rfl, ?_⟩))
    go_meet
    case rel => exact ⟨_, (true), (by first | rfl | (simp; done) | (simp [*]; done)), H', ⟨by first | omega | exact Nat.le_refl _⟩, ⟨by (with_reducible repeat (first | apply xbN | apply xbD | apply xbA)); exact BK176.out⟩, ⟨by (with_reducible repeat (first | apply xbN | apply xbD | apply xbA)); exact BK177.out⟩, ⟨yh HB⟩⟩
  case rest =>
   clear HC3
   try clear c1
   try clear p2
   try clear c3
   try clear c5
   try clear c7
   try clear c9
   try clear c11
   try clear c13
   try clear hcz12_0
   try clear hcz12_1
   try clear hcz14_0
   try clear hcz14_1
   try clear hfz12_0
   try clear hfz12_1
   try clear hfz14_0
   try clear hfz14_1
   obtain ⟨kq, x25_2, rfl, HA, HJ2, BK176, BK177, HB⟩ := hcut
   cases kq with
   | zero => exact absurd HA.out (by simp [spec_TakeSymbol.j0])
   | succ kj2 =>
    have H := HA.out
    clear HA
    simp only [spec_TakeSymbol.j0] at H
    by_cases c15 : x25_2 = true
    ·subst c15
     have H1 : (some (0, 0, ([] : List Int), false)) = some (r1, r2, r3, r4) := by rw [if_pos rfl] at H; exact H
     clear H
     have H := H1
     clear H1
     simp only [Option.some.injEq, Prod.mk.injEq] at H
     obtain ⟨rfl, rfl, rfl, rfl⟩ := H
     have hnb16 := NB177_176.out
     have hnc16 := NB176_177.out
     have hcz17_0 : wc.cell? ⟨gb177, 0, none⟩ = some (.int .i64 0) := (blk_cell BK177.out 0).trans rfl
     have hcz17_1 : wc.cell? ⟨gb177, 1, none⟩ = some (.slice none 0 0) := (blk_cell BK177.out 1).trans rfl
     have hfz17_0 := blk_frozen BK177.out 0
     have hfz17_1 := blk_frozen BK177.out 1
     go_wp2
     refine bodyPost_ret (results_list (rs := [.tmp 4, .cell 5 33, .tmp 6]) rfl (by simp) (.tmp (.cell gb177 33 #[.int .i64 0, .slice none 0 0] (0, 0) _ rfl (by (with_reducible repeat (first | apply xbN | apply xbD | apply xbA)); refine blk_put (cs := #[.int .i64 0, .slice none 0 0]) ?_ 1 _ rfl; (with_reducible repeat (first | apply xbN | apply xbD | apply xbA)); refine blk_put (cs := #[.int .i64 0, .slice none 0 0]) ?_ 0 _ rfl; (with_reducible repeat (first | apply xbN | apply xbD | apply xbA)); exact BK177.out) Try.underlying33 rfl (by kernel_rfl) (.tmp .nil)))) rfl ?_
     exact ⟨_, by first | rfl | (simp [errW_none, errW_some] <;> rfl) | (simp [*, errW_none, errW_some] <;> rfl), by first | exact Kd.R_nil _ _ _ _ _ | exact Kd.N_nil _ _ _ _ _ | exact Kd.V_nil _ _ _ _ _ | exact Kd.Q_nil _ _ _ _ _ | exact Kd.S_nil _ _ _ _ _, by repeat (first | (with_reducible first | exact HB.out | apply xa | apply xn | apply xd | refine xs ?_ GE176.out | refine xs ?_ GE177.out) | exact HB.out)⟩
    ·replace c15 := Bool.eq_false_iff.mpr c15
     subst c15
     have H1 : ((spec_l14At.f kj2 l0 (Int.tmod a1_0 64)).bind fun t181 => (if 0 ≤ t181 then (if t181 < (l0.length : Int) then ((spec_l14Starts.f kj2 l0).bind fun t183 => (if t181 < (t183.length : Int) then ((some (([] : List Int) : List Int)).bind fun y187 => (if y187.length + l1_1.length < 17592186044416 then (spec_TakeSymbol.l0 kj2 t181 (wrap64 ((wrap64 ((wrap64 ((rd l0 t181) * (wrap64 (Int.tdiv a1_0 64)))) + (Int.tmod a1_0 64))) - (rd t183 t181))) (y187 ++ l1_1)) else (none))) else (none))) else (none)) else (none))) = some (r1, r2, r3, r4) := by rw [if_neg (show ¬ (false = true) by decide)] at H; exact H
     clear H
     have H := H1
     clear H1
     replace H := Option.bind_eq_some_iff.mp H
     obtain ⟨t181, A180, H⟩ := H
     replace H : (if 0 ≤ t181 then (if t181 < (l0.length : Int) then ((spec_l14Starts.f kj2 l0).bind fun t183 => (if t181 < (t183.length : Int) then ((some (([] : List Int) : List Int)).bind fun y187 => (if y187.length + l1_1.length < 17592186044416 then (spec_TakeSymbol.l0 kj2 t181 (wrap64 ((wrap64 ((wrap64 ((rd l0 t181) * (wrap64 (Int.tdiv a1_0 64)))) + (Int.tmod a1_0 64))) - (rd t183 t181))) (y187 ++ l1_1)) else (none))) else (none))) else (none)) else (none)) = some (r1, r2, r3, r4) := H
     have A18 := Aside0.mk A180
     clear A180
     by_cases c19 : 0 ≤ t181
     ·rw [if_pos c19] at H
      have c19b0 : decide (0 ≤ t181) = true := decide_eq_true c19
      clear c19
      by_cases c20 : t181 < (l0.length : Int)
      ·rw [if_pos c20] at H
       have c20b0 : decide (t181 < (l0.length : Int)) = true := decide_eq_true c20
       clear c20
       replace H := Option.bind_eq_some_iff.mp H
       obtain ⟨t183, A210, H⟩ := H
       replace H : (if t181 < (t183.length : Int) then ((some (([] : List Int) : List Int)).bind fun y187 => (if y187.length + l1_1.length < 17592186044416 then (spec_TakeSymbol.l0 kj2 t181 (wrap64 ((wrap64 ((wrap64 ((rd l0 t181) * (wrap64 (Int.tdiv a1_0 64)))) + (Int.tmod a1_0 64))) - (rd t183 t181))) (y187 ++ l1_1)) else (none))) else (none)) = some (r1, r2, r3, r4) := H
       have A21 := Aside0.mk A210
       clear A210
       by_cases c22 : t181 < (t183.length : Int)
       ·rw [if_pos c22] at H
        have c22b0 : decide (t181 < (t183.length : Int)) = true := decide_eq_true c22
        clear c22
        obtain ⟨y187, hy187⟩ : ∃ y_ : List Int, y_ = (([] : List Int)) := ⟨_, rfl⟩
        replace H : (if y187.length + l1_1.length < 17592186044416 then (spec_TakeSymbol.l0 kj2 t181 (wrap64 ((wrap64 ((wrap64 ((rd l0 t181) * (wrap64 (Int.tdiv a1_0 64)))) + (Int.tmod a1_0 64))) - (rd t183 t181))) (y187 ++ l1_1)) else (none)) = some (r1, r2, r3, r4) := by first | (rw [hy187]; with_reducible exact H) | (have H2_ := (Option.bind_some _ _).symm.trans H; rw [hy187]; with_reducible exact H2_) | (have H2_ := (Option.bind_some _ _).symm.trans H; with_reducible exact H2_) | with_reducible exact H | (rw [hy187]; exact H) | exact H
        have Ny187 := Aside0.mk hy187
        clear hy187
        by_cases c23 : y187.length + l1_1.length < 17592186044416
        ·rw [if_pos c23] at H
         have LMc23 := Aside0.mk c23
         clear c23
         obtain ⟨y190, hy190⟩ : ∃ y_ : List Int, y_ = (y187 ++ l1_1) := ⟨_, rfl⟩
         replace H : (spec_TakeSymbol.l0 kj2 t181 (wrap64 ((wrap64 ((wrap64 ((rd l0 t181) * (wrap64 (Int.tdiv a1_0 64)))) + (Int.tmod a1_0 64))) - (rd t183 t181))) y190) = some (r1, r2, r3, r4) := by first | (rw [hy190]; with_reducible exact H) | (have H2_ := (Option.bind_some _ _).symm.trans H; rw [hy190]; with_reducible exact H2_) | (have H2_ := (Option.bind_some _ _).symm.trans H; with_reducible exact H2_) | with_reducible exact H | (rw [hy190]; exact H) | exact H
         have Ny190 := Aside0.mk hy190
         clear hy190
         have H' := Aside0.mk H
         clear H
         have hnb24 := NB176_177.out
         have hnc24 := NB177_176.out
         have hcz25_0 : wc.cell? ⟨gb176, 0, none⟩ = some (.int .i64 a1_0) := (blk_cell BK176.out 0).trans rfl
         have hcz25_1 : wc.cell? ⟨gb176, 1, none⟩ = some (.slice A1_1 l1_1.length c1_1) := (blk_cell BK176.out 1).trans rfl
         have hfz25_0 := blk_frozen BK176.out 0
         have hfz25_1 := blk_frozen BK176.out 1
         try go_wp2_with (first | ((with_reducible refine gate_callee (f := 75) rfl ?_); refine goesL_ (some 32) rfl rfl Try.func75 (by kernel_rfl) rfl #[.slice A0 l0.length c0, .int .i64 (Int.tmod a1_0 64)] rfl (by (try simp only [List.map_toArray, List.map_cons, List.map_nil]); first | done | rfl | (simp only [List.length_drop, List.length_take]; rfl)) ?_; (with_reducible refine (spec_l14At.calls kj2 _ _ l0 (Int.tmod a1_0 64) t181 _ ?side1 ?side2 A18.out).mono ?_); (case side1 => repeat (first | exact (Kd.C_below HR0.out HB.out) | (with_reducible refine Kd.C_alloc ?_ _) | (with_reducible refine Kd.C_drewN ?_ _) | (with_reducible refine Kd.C_drew ?_))); (case side2 => exact HC0.out); rintro e w26 ⟨rfl, hb⟩; refine ⟨_, rfl, ?_⟩; replace BK176 := xM (xB (yb BK176) hb); replace BK177 := xM (xB (yb BK177) hb); replace HB := xM (below_step (yh HB) hb); (try clear hb)))
         replace BK176 := xM (blk_drew BK176.out)
         replace BK177 := xM (blk_drew BK177.out)
         replace HB := xM (below_drew1 HB.out)
         have p182 : 0 ≤ (t181 : Int) := of_decide_eq_true (by first | (with_reducible assumption) | assumption)
         have q182 : t181 < (l0.length : Int) := of_decide_eq_true (by first | (with_reducible assumption) | assumption)
         obtain ⟨ad182, e182, hx182_0⟩ := Kd.at_int HR0.out t181 p182 q182
         have hw182_0 := hx182_0
         cases e182
         replace hx182_0 := (HB.out.cell (World.block_lt_of_cell? w _ hx182_0)).trans hx182_0
         replace p182 := eq_true p182
         replace q182 := eq_true q182
         refine start_ (n := 17) (S := fun w' => w'.cell? ⟨gb176, 0, none⟩ = some (.int .i64 a1_0) ∧ w'.cell? ⟨gb176, 1, none⟩ = some (.slice A1_1 l1_1.length c1_1) ∧ w'.cell? (ad182.add (t181).toNat) = some (.int .i64 (rd l0 t181))) (ds := []) #[false, false, false, false, false, false, false, false, false, false, false, false, false, false, false, false, false] (by kernel_rfl) rfl rfl ⟨(blk_cell BK176.out 0).trans rfl, (blk_cell BK176.out 1).trans rfl, ((HB.out.cell (World.block_lt_of_cell? w _ hw182_0)).trans hw182_0)⟩ (fun hHeld => ?_); refine with_tabW spec_TakeSymbol.tab5 spec_TakeSymbol.bits5 (fun HT_ HW_ => ?_)
         generalize w26.drew = w27 at BK176 BK177 HB hx182_0 hHeld ⊢
         refine pure_ (i := 0) (N := some 33) (v := ?_) (a' := ?_) #[true, false, false, false, false, false, false, false, false, false, false, false, false, false, false, false, false] rfl rfl (any_of HT_.out (by kernel_rfl)) (fun _ _ _ h => h) (Or.inl ⟨by rfl, ?_⟩) ?_ ?_
         rotate_left
         ·intro w'
          go_simp
          with_reducible rfl
         rotate_left
         ·simp only [Act.put, List.setIfInBounds_toArray, List.set_cons_zero, List.set_cons_succ, i64_w, i32_w]
          rfl
         refine pure_ (i := 1) (N := some 34) (v := ?_) (a' := ?_) #[true, true, false, false, false, false, false, false, false, false, false, false, false, false, false, false, false] rfl rfl (any_of HT_.out (by kernel_rfl)) (fun _ _ _ h => h) (Or.inl ⟨by rfl, ?_⟩) ?_ ?_
         rotate_left
         ·intro w'
          go_simp
          with_reducible rfl
         rotate_left
         ·simp only [Act.put, List.setIfInBounds_toArray, List.set_cons_zero, List.set_cons_succ, i64_w, i32_w]
          rfl
         refine pure_ (i := 2) (N := some 35) (v := ?_) (a' := ?_) #[true, true, true, false, false, false, false, false, false, false, false, false, false, false, false, false, false] rfl rfl (any_of HT_.out (by kernel_rfl)) (fun _ _ _ h => h) (Or.inl ⟨by rfl, ?_⟩) ?_ ?_
         rotate_left
         ·intro w'
          go_simp
          with_reducible rfl
         rotate_left
         ·simp only [Act.put, List.setIfInBounds_toArray, List.set_cons_zero, List.set_cons_succ, i64_w, i32_w]
          rfl
         refine pure_ (i := 4) (N := some 37) (v := ?_) (a' := ?_) #[true, true, true, false, true, false, false, false, false, false, false, false, false, false, false, false, false] rfl rfl (any_of HT_.out (by kernel_rfl)) (fun _ _ _ h => h) (Or.inl ⟨by rfl, ?_⟩) ?_ ?_
         rotate_left
         ·intro w'
          go_simp
          with_reducible rfl
         rotate_left
         ·simp only [Act.put, List.setIfInBounds_toArray, List.set_cons_zero, List.set_cons_succ, i64_w, i32_w]
          rfl
         refine pure_ (i := 8) (N := some 41) (v := ?_) (a' := ?_) #[true, true, true, false, true, false, false, false, true, false, false, false, false, false, false, false, false] rfl rfl (any_of HT_.out (by kernel_rfl)) (fun _ _ _ h => h) (Or.inl ⟨by rfl, ?_⟩) ?_ ?_
         rotate_left
         ·intro w'
          go_simp
          with_reducible rfl
         rotate_left
         ·simp only [Act.put, List.setIfInBounds_toArray, List.set_cons_zero, List.set_cons_succ, i64_w, i32_w]
          rfl
         refine pure_ (i := 10) (N := some 43) (v := ?_) (a' := ?_) #[true, true, true, false, true, false, false, false, true, false, true, false, false, false, false, false, false] rfl rfl (any_of HT_.out (by kernel_rfl)) (fun _ _ _ h => h) (Or.inl ⟨by rfl, ?_⟩) ?_ ?_
         rotate_left
         ·intro w'
          go_simp
          with_reducible rfl
         rotate_left
         ·simp only [Act.put, List.setIfInBounds_toArray, List.set_cons_zero, List.set_cons_succ, i64_w, i32_w]
          rfl
         refine pure_ (i := 12) (N := some 45) (v := ?_) (a' := ?_) #[true, true, true, false, true, false, false, false, true, false, true, false, true, false, false, false, false] rfl rfl (any_of HT_.out (by kernel_rfl)) (fun _ _ _ h => h) (Or.inl ⟨by rfl, ?_⟩) ?_ ?_
         rotate_left
         ·intro w'
          go_simp
          with_reducible rfl
         rotate_left
         ·simp only [Act.put, List.setIfInBounds_toArray, List.set_cons_zero, List.set_cons_succ, i64_w, i32_w]
          rfl
         refine take_ (i := 3) (N := some 36) (v := ?_) (a' := ?_) #[true, true, true, true, true, false, false, false, true, false, true, false, true, false, false, false, false] rfl rfl (take_ofW HT_.out HW_.out (by kernel_rfl)) (fun _ _ _ h => h) (Or.inl ⟨by rfl, ?_⟩) hHeld ?_ ?_
         rotate_left
         ·rintro w' ⟨s0, s1, s2⟩
          go_simp
          with_reducible rfl
         rotate_left
         ·simp only [Act.put, List.setIfInBounds_toArray, List.set_cons_zero, List.set_cons_succ, i64_w, i32_w]
          rfl
         refine take_ (i := 5) (N := some 38) (v := ?_) (a' := ?_) #[true, true, true, true, true, true, false, false, true, false, true, false, true, false, false, false, false] rfl rfl (take_ofW HT_.out HW_.out (by kernel_rfl)) (fun _ _ _ h => h) (Or.inl ⟨by rfl, ?_⟩) hHeld ?_ ?_
         rotate_left
         ·rintro w' ⟨s0, s1, s2⟩
          go_simp
          with_reducible rfl
         rotate_left
         ·simp only [Act.put, List.setIfInBounds_toArray, List.set_cons_zero, List.set_cons_succ, i64_w, i32_w]
          rfl
         refine pure_ (i := 6) (N := some 39) (v := ?_) (a' := ?_) #[true, true, true, true, true, true, true, false, true, false, true, false, true, false, false, false, false] rfl rfl (any_of HT_.out (by kernel_rfl)) (fun _ _ _ h => h) (Or.inl ⟨by rfl, ?_⟩) ?_ ?_
         rotate_left
         ·intro w'
          go_simp
          with_reducible rfl
         rotate_left
         ·simp only [Act.put, List.setIfInBounds_toArray, List.set_cons_zero, List.set_cons_succ, i64_w, i32_w]
          rfl
         refine pure_ (i := 7) (N := some 40) (v := ?_) (a' := ?_) #[true, true, true, true, true, true, true, true, true, false, true, false, true, false, false, false, false] rfl rfl (any_of HT_.out (by kernel_rfl)) (fun _ _ _ h => h) (Or.inl ⟨by rfl, ?_⟩) ?_ ?_
         rotate_left
         ·intro w'
          go_simp
          with_reducible rfl
         rotate_left
         ·simp only [Act.put, List.setIfInBounds_toArray, List.set_cons_zero, List.set_cons_succ, i64_w, i32_w]
          rfl
         refine pure_ (i := 9) (N := some 42) (v := ?_) (a' := ?_) #[true, true, true, true, true, true, true, true, true, true, true, false, true, false, false, false, false] rfl rfl (any_of HT_.out (by kernel_rfl)) (fun _ _ _ h => h) (Or.inl ⟨by rfl, ?_⟩) ?_ ?_
         rotate_left
         ·intro w'
          go_simp
          with_reducible rfl
         rotate_left
         ·simp only [Act.put, List.setIfInBounds_toArray, List.set_cons_zero, List.set_cons_succ, i64_w, i32_w]
          rfl
         refine one_ (i := 11) (N := some 44) #[true, true, true, true, true, true, true, true, true, true, true, true, true, false, false, false, false] rfl rfl (one_of HT_.out (by kernel_rfl)) (by decide) (fun K hK => ?_)
         refine goes_ Try.func60 (by kernel_rfl) rfl #[.slice (some ad182) l0.length c0] (by rfl) rfl rfl (by (try simp only [List.map_toArray, List.map_cons, List.map_nil]); first | done | rfl | (simp only [List.length_drop, List.length_take]; rfl)) ?_
         with_reducible refine (spec_l14Starts.calls kj2 _ _ l0 t183 _ ?side1 ?side2 A21.out).mono ?_
         (case side1 => repeat (first | exact (Kd.C_below HR0.out HB.out) | (with_reducible refine Kd.C_alloc ?_ _) | (with_reducible refine Kd.C_drewN ?_ _) | (with_reducible refine Kd.C_drew ?_)))
         (case side2 => exact HC0.out)
         rintro e w28 ⟨v184, rfl, ho0, hb⟩
         refine ⟨_, rfl, ?_⟩
         have HO185 := xM (Kd.R_lower ho0 (below_size (yh HB)))
         replace BK176 := xM (xB (yb BK176) hb)
         replace BK177 := xM (xB (yb BK177) hb)
         replace HB := xM (below_step (yh HB) hb)
         (try clear hb)
         (try clear hb2)
         (try clear hk)
         (try clear hi)
         (try clear ho0)
         obtain ⟨Ao29, co29, eo29⟩ := Kd.R_slice HO185.out
         (first | subst eo29 | (injection eo29 with f1_ f2_ f3_; have f4_ := f1_.symm; have f5_ := f3_.symm; clear f1_ f2_ f3_; subst f4_; subst f5_))
         have p186 : 0 ≤ (t181 : Int) := of_decide_eq_true (by first | (with_reducible assumption) | assumption)
         have q186 : t181 < (t183.length : Int) := of_decide_eq_true (by first | (with_reducible assumption) | assumption)
         obtain ⟨ad186, e186, hx186_0⟩ := Kd.at_int (Kd.R_reads' HO185.out).2.2 t181 p186 q186
         cases e186
         replace p186 := eq_true p186
         replace q186 := eq_true q186
         refine hK.out _ _ ⟨(blk_cell BK176.out 0).trans rfl, (blk_cell BK176.out 1).trans rfl, ((HB.out.cell (World.block_lt_of_cell? w _ hw182_0)).trans hw182_0)⟩ (fun hHeld => ?_)
         clear hK K
         refine norm_ (a' := ?_) ?_ ?_
         rotate_left
         ·show Act.put _ (some 44) _ = _
          simp only [Act.put, List.setIfInBounds_toArray, List.set_cons_zero, List.set_cons_succ, i64_w, i32_w]
          rfl
         refine pure_ (i := 13) (N := some 46) (v := ?_) (a' := ?_) #[true, true, true, true, true, true, true, true, true, true, true, true, true, true, false, false, false] rfl rfl (any_of HT_.out (by kernel_rfl)) (fun _ _ _ h => h) (Or.inl ⟨by rfl, ?_⟩) ?_ ?_
         rotate_left
         ·intro w'
          go_simp
          with_reducible rfl
         rotate_left
         ·simp only [Act.put, List.setIfInBounds_toArray, List.set_cons_zero, List.set_cons_succ, i64_w, i32_w]
          rfl
         refine one_ (i := 14) (N := some 47) #[true, true, true, true, true, true, true, true, true, true, true, true, true, true, true, false, false] rfl rfl (one_of HT_.out (by kernel_rfl)) (by decide) (fun K hK => ?_)
         rw [if_pos (by kernel_rfl)]
         go_simp
         refine hK.out _ _ (by first | exact hHeld | trivial) (fun hHeld => ?_)
         clear hK K
         refine pure_ (i := 15) (N := some 48) (v := ?_) (a' := ?_) #[true, true, true, true, true, true, true, true, true, true, true, true, true, true, true, true, false] rfl rfl (any_of HT_.out (by kernel_rfl)) (fun _ _ _ h => h) (Or.inl ⟨by rfl, ?_⟩) ?_ ?_
         rotate_left
         ·intro w'
          go_simp
          with_reducible rfl
         rotate_left
         ·simp only [Act.put, List.setIfInBounds_toArray, List.set_cons_zero, List.set_cons_succ, i64_w, i32_w]
          rfl
         refine pure_ (i := 16) (N := some 9) (v := ?_) (a' := ?_) #[true, true, true, true, true, true, true, true, true, true, true, true, true, true, true, true, true] rfl rfl (any_of HT_.out (by kernel_rfl)) (fun _ _ _ h => h) (Or.inl ⟨by rfl, ?_⟩) ?_ ?_
         rotate_left
         ·intro w'
          go_simp
          with_reducible rfl
         rotate_left
         ·simp only [Act.put, List.setIfInBounds_toArray, List.set_cons_zero, List.set_cons_succ, i64_w, i32_w]
          rfl
         refine done_ (done_of HT_.out (by kernel_rfl)) ?_
         try go_wp2_with (first | ((with_reducible refine gate_dst (N := 49) rfl ?_); (try (refine gate_guard (by rfl) ?_; dsimp only)); refine Kd.R_lit (Kd.int .i64) _ 3 ?hg (N := 49) ?hd (xs := ([] : List Int)) (inner := []) (ok := fun _ => True) (okp := fun _ => True) ?hr ?hp (fun _ hk => hk) trivial (Below.refl _ _) (Nat.le_refl _) (by simp) ?_; (case hd => rfl); (case hg => rfl); (case hr => first | (go_simp; done) | (go_simp; rfl)); (case hp => exact (Reps.none _ _)); intro v188 w30 ho31 hb hg_ hnew_; clear hg_ hnew_; (first | rw [← Ny187.out] at ho31 | (simp only [Int.reduceToNat] at ho31; rw [← Ny187.out] at ho31)); have HO189 := xM (Kd.R_lower (Kd.R_new' ho31 (xL (yR HO185))) (below_size (yh HB))); replace HO185 := xM (Kd.R_elder' (yR HO185) (Kd.R_base ho31) hb); replace BK176 := xM (xB (yb BK176) hb); replace BK177 := xM (xB (yb BK177) hb); replace HB := xM (below_step (yh HB) hb); clear hb ho31; have hcz32_0 : w30.cell? ⟨gb176, 0, none⟩ = some (.int .i64 a1_0) := (blk_cell BK176.out 0).trans rfl; have hcz32_1 : w30.cell? ⟨gb176, 1, none⟩ = some (.slice A1_1 l1_1.length c1_1) := (blk_cell BK176.out 1).trans rfl; have hfz32_0 := blk_frozen BK176.out 0; have hfz32_1 := blk_frozen BK176.out 1) | ((with_reducible refine gate_builtin (b := .append) (xs := #[.tmp 49, .tmp 51]) rfl ?_); (try (refine gate_guard (by rfl) ?_; dsimp only)); at_builtin; refine Kd.R_append_rows (Kd.int .i64) (w0 := w) w.heap.size rfl (.tmp 49) (.tmp 51) 22 3 (.int .i64 0) 8 rfl Try.underlying22 info3 rfl (by decide) (by omega) v188 y187 l1_1 _ _ _ (fun k_ => some k_ ≠ (.slice (some ad186) t183.length co29 : Value).ownBlock) (fun _ => False) rfl rfl ?aO ?aR (fun _ _ h => h) (fun _ h => h.elim) ?aF ?aB ?aS ?aL ?_; (case aR => repeat (first | exact (Kd.C_below HR1_1.out HB.out) | (with_reducible refine Kd.C_alloc ?_ _) | (with_reducible refine Kd.C_drewN ?_ _) | (with_reducible refine Kd.C_drew ?_))); (case aB => exact (yh HB)); (case aF => exact (fun k_ hk => Kd.fresh' (xL (yR HO185)) k_ hk)); (case aO => exact (by (with_reducible repeat (first | apply xRA | apply xRN | apply xRD)); exact Kd.R_mono HO189.out (fun _ hk => hk.2))); (case aS => exact (below_size (yh HB))); (case aL => have := LMc23.out; omega); intro v191 w33 ho hb hg hat; rw [← Ny190.out] at ho; have n0_ := xM (blk_grown (yb BK176) hg (Kd.R_ne HO189.out BK176.out (by decide))); have n1_ := xM (blk_grown (yb BK177) hg (Kd.R_ne HO189.out BK177.out (by decide))); have n2_ := xM (Kd.R_after (ok := (fun _ => True)) (yR HO185) hg hat); have n3_ := xM (hb); have n4_ := xM (ho); clear BK176; clear BK177; clear HO185; clear HB; clear HO189; have BK176 := n0_; have BK177 := n1_; have HO185 := n2_; have HB := n3_; have HO192 := n4_; clear n0_ n1_ n2_ n3_ n4_; clear ho hb hg hat))
         go_loopg [9, 10] kj2 (fun kq v9 v10 w' => ∃ (x9_2 : Int) (x10_2 : List Int), v9 = .int .i64 x9_2 ∧ Aside0 (spec_TakeSymbol.l0 kq t181 x9_2 x10_2 = some (r1, r2, r3, r4)) ∧ Aside0 (kq ≤ kj2) ∧ Aside0 (Kd.R (Kd.int .i64) 3 w' w.heap.size (fun _ => True) v10 x10_2) ∧ Aside0 (w'.heap[gb176]? = some (.cells #[.int .i64 a1_0, (.slice A1_1 l1_1.length c1_1)] 33 (0, 0))) ∧ Aside0 (w'.heap[gb177]? = some (.cells #[.int .i64 0, (.slice none 0 0)] 33 (0, 0))) ∧ Aside0 (Below w.heap.size w w'))
         case atStart => exact ⟨(wrap64 ((wrap64 ((wrap64 ((rd l0 t181) * (wrap64 (Int.tdiv a1_0 64)))) + (Int.tmod a1_0 64))) - (rd t183 t181))), (y190), (by first | rfl | (simp; done) | (simp [*]; done)), H', ⟨Nat.le_refl _⟩, ⟨by (with_reducible repeat (first | apply xRA | apply xRN | apply xRD)); exact Kd.R_mono HO192.out (fun _ hk => trivial)⟩, ⟨by (with_reducible repeat (first | apply xbN | apply xbD | apply xbA)); exact BK176.out⟩, ⟨by (with_reducible repeat (first | apply xbN | apply xbD | apply xbA)); exact BK177.out⟩, ⟨yh HB⟩⟩
         case round =>
          clear H'
          try clear c1
          try clear p1
          try clear q1
          try clear hx1
          try clear c2
          try clear p2
          try clear c3
          try clear c5
          try clear c6
          try clear p6
          try clear c7
          try clear c9
          try clear c11
          try clear c13
          try clear c15
          try clear c16
          try clear p18
          try clear q18
          try clear hx18
          try clear c19
          try clear c19b0
          try clear c20
          try clear c20b0
          try clear c22
          try clear c22b0
          try clear c23
          try clear c24
          try clear c32
          try clear hcz12_0
          try clear hcz12_1
          try clear hcz14_0
          try clear hcz14_1
          try clear hcz17_0
          try clear hcz17_1
          try clear hcz25_0
          try clear hcz25_1
          try clear hcz32_0
          try clear hcz32_1
          try clear hfz12_0
          try clear hfz12_1
          try clear hfz14_0
          try clear hfz14_1
          try clear hfz17_0
          try clear hfz17_1
          try clear hfz25_0
          try clear hfz25_1
          try clear hfz32_0
          try clear hfz32_1
          try clear hx182_0
          try clear hx186_0
          try clear p182
          try clear p186
          try clear p2
          try clear q182
          try clear q186
          obtain ⟨x9_2, x10_2, rfl, HA, HK2, HO_10, BK176, BK177, HB⟩ := hrel
          cases gk with
          | zero => exact absurd HA.out (by simp [spec_TakeSymbol.l0])
          | succ k2 =>
           have H := HA.out
           clear HA
           simp only [spec_TakeSymbol.l0] at H
           by_cases c34 : x9_2 < 4096
           ·rw [if_pos c34] at H
            have c34b0 : decide (x9_2 < 4096) = true := decide_eq_true c34
            clear c34
            by_cases c35 : (x10_2.length : Int) > 0
            ·rw [if_pos c35] at H
             have c35b0 : decide (0 < (x10_2.length : Int)) = true := decide_eq_true c35
             have c35b1 : decide (0 < x10_2.length) = true := decide_eq_true (by omega)
             clear c35
             obtain ⟨ji36, hji36⟩ : ∃ j_ : Int, (wrap64 ((x10_2.length : Int) - 1)) = j_ := ⟨_, rfl⟩
             replace H : (if 0 ≤ (ji36) then (if (ji36) < (x10_2.length : Int) then (if (ji36) ≤ (x10_2.length : Int) then (spec_TakeSymbol.l0 k2 t181 (wrap64 ((wrap64 (16 * x9_2)) + (rd x10_2 (ji36)))) (x10_2.take ((ji36) : Int).toNat)) else (none)) else (none)) else (none)) = some (r1, r2, r3, r4) := by first | (rw [hji36] at H; exact H) | (simp only [hji36] at H ⊢; exact H)
             have hji36w : (IntKind.i64.wrap ((x10_2.length : Int) - 1)) = ji36 := (i64_w _).trans hji36
             by_cases c37 : 0 ≤ (ji36)
             ·rw [if_pos c37] at H
              have c37b0 : decide (0 ≤ (ji36)) = true := decide_eq_true c37
              clear c37
              by_cases c38 : (ji36) < (x10_2.length : Int)
              ·rw [if_pos c38] at H
               have c38b0 : decide ((ji36) < (x10_2.length : Int)) = true := decide_eq_true c38
               clear c38
               by_cases c39 : (ji36) ≤ (x10_2.length : Int)
               ·rw [if_pos c39] at H
                have c39b0 := eq_true c39
                have c39b1 : decide ((ji36) ≤ (x10_2.length : Int)) = true := decide_eq_true c39
                clear c39
                obtain ⟨y194, hy194⟩ : ∃ y_ : List Int, y_ = (x10_2.take ((ji36) : Int).toNat) := ⟨_, rfl⟩
                replace H : (spec_TakeSymbol.l0 k2 t181 (wrap64 ((wrap64 (16 * x9_2)) + (rd x10_2 (ji36)))) y194) = some (r1, r2, r3, r4) := by first | (rw [hy194]; with_reducible exact H) | (have H2_ := (Option.bind_some _ _).symm.trans H; rw [hy194]; with_reducible exact H2_) | (have H2_ := (Option.bind_some _ _).symm.trans H; with_reducible exact H2_) | with_reducible exact H | (rw [hy194]; exact H) | exact H
                have Ny194 := Aside0.mk hy194
                clear hy194
                have H' := Aside0.mk H
                clear H
                obtain ⟨Ao40, co40, eo40⟩ := Kd.R_slice HO_10.out
                subst eo40
                have p193 : 0 ≤ ((ji36) : Int) := of_decide_eq_true (by first | (with_reducible assumption) | assumption)
                have q193 : (ji36) < (x10_2.length : Int) := of_decide_eq_true (by first | (with_reducible assumption) | assumption)
                obtain ⟨ad193, e193, hx193_0⟩ := Kd.at_int (Kd.R_reads' HO_10.out).2.2 (ji36) p193 q193
                cases e193
                replace p193 := eq_true p193
                replace q193 := eq_true q193
                have q41 : ((ji36) : Int) ≤ ((x10_2.length : Int) : Int) := of_decide_eq_true (by first | (with_reducible assumption) | assumption)
                obtain ⟨i041, hi041, _, hsz41, _⟩ := info_parts info3
                have hcut41 := cut_to (P := Try.prog) 22 3 .i64 Try.underlying22 hi041 (some ad193) x10_2.length co40 (ji36) (of_decide_eq_true (by first | (with_reducible assumption) | assumption)) q41 (Kd.R_reads' HO_10.out).2.1
                have hr41 := Kd.R_take (m := ((ji36) : Int).toNat) HO_10.out (by omega)
                have hy41 : y194.length = ((ji36) : Int).toNat := (by rw [Ny194.out, List.length_take]; omega)
                rw [← Ny194.out] at hr41
                rw [← hy41] at hr41 hcut41
                clear hy41 hi041 hsz41 HO_10
                have HO196 := Aside0.mk hr41
                clear hr41
                replace q41 := eq_true q41
                go_wp2
                go_roundg k2
                case measure => have := HJ2.out; have := HK2.out; omega
                case rel => exact ⟨(wrap64 ((wrap64 (16 * x9_2)) + (rd x10_2 (ji36)))), (y194), (by first | rfl | (simp; done) | (simp only [← hji36] <;> (first | rfl | simp)) | (simp [*]; done)), H', ⟨by have := HJ2.out; have := HK2.out; omega⟩, ⟨yR HO196⟩, ⟨by (with_reducible repeat (first | apply xbN | apply xbD | apply xbA)); exact BK176.out⟩, ⟨by (with_reducible repeat (first | apply xbN | apply xbD | apply xbA)); exact BK177.out⟩, ⟨yh HB⟩⟩
               ·rw [if_neg c39] at H
                exact absurd H (by simp)
              ·rw [if_neg c38] at H
               exact absurd H (by simp)
             ·rw [if_neg c37] at H
              exact absurd H (by simp)
            ·rw [if_neg c35] at H
             have c35b0 : decide (0 < (x10_2.length : Int)) = false := decide_eq_false c35
             have c35b1 : decide (0 < x10_2.length) = false := decide_eq_false (by omega)
             clear c35
             replace H := Option.bind_eq_some_iff.mp H
             obtain ⟨t197, A420, H⟩ := H
             replace H : (if t197 = true then (some (t181, x9_2, x10_2, true)) else (some (0, 0, ([] : List Int), false))) = some (r1, r2, r3, r4) := H
             have A42 := Aside0.mk A420
             clear A420
             by_cases c43 : t197 = true
             ·subst c43
              have H1 : (some (t181, x9_2, x10_2, true)) = some (r1, r2, r3, r4) := by rw [if_pos rfl] at H; exact H
              clear H
              have H := H1
              clear H1
              simp only [Option.some.injEq, Prod.mk.injEq] at H
              obtain ⟨rfl, rfl, rfl, rfl⟩ := H
              obtain ⟨Ao44, co44, eo44⟩ := Kd.R_slice HO_10.out
              subst eo44
              go_wp2_with (first | ((with_reducible refine gate_callee (f := 59) rfl ?_); refine goesL_ (some 75) rfl rfl Try.func59 (by kernel_rfl) rfl #[.int .i64 x9_2] rfl (by (try simp only [List.map_toArray, List.map_cons, List.map_nil]); first | done | rfl | (simp only [List.length_drop, List.length_take]; rfl)) ?_; (with_reducible refine (spec_l14State.calls x9_2 true _ A42.out).mono ?_); rintro e w' ⟨rfl, ⟨nd, rfl⟩⟩; refine ⟨_, rfl, ?_⟩; (try (rw [drewN_self wr]; generalize hq_ : World.drewN wr _ = wr; have n0_ := xM (Kd.R_at hq_ HO_10.out); have n1_ := xM (blk_at hq_ BK176.out); have n2_ := xM (blk_at hq_ BK177.out); have n3_ := xM (below_at hq_ HB.out); clear hq_ HO_10 BK176 BK177 HB; have HO_10 := n0_; have BK176 := n1_; have BK177 := n2_; have HB := n3_; clear n0_ n1_ n2_ n3_)); have hnb45 := NB177_176.out; have hnc45 := NB176_177.out; have hcz46_0 : wr.cell? ⟨gb177, 0, none⟩ = some (.int .i64 0) := (blk_cell BK177.out 0).trans rfl; have hcz46_1 : wr.cell? ⟨gb177, 1, none⟩ = some (.slice none 0 0) := (blk_cell BK177.out 1).trans rfl; have hfz46_0 := blk_frozen BK177.out 0; have hfz46_1 := blk_frozen BK177.out 1))
              refine bodyPost_ret (results_list (rs := [.tmp 4, .cell 5 33, .tmp 6]) rfl (by simp) (.tmp (.cell gb177 33 #[.int .i64 x9_2, .slice Ao44 x10_2.length co44] (0, 0) _ rfl (by (with_reducible repeat (first | apply xbN | apply xbD | apply xbA)); refine blk_put (cs := #[.int .i64 x9_2, .slice none 0 0]) ?_ 1 _ rfl; (with_reducible repeat (first | apply xbN | apply xbD | apply xbA)); refine blk_put (cs := #[.int .i64 0, .slice none 0 0]) ?_ 0 _ rfl; (with_reducible repeat (first | apply xbN | apply xbD | apply xbA)); exact BK177.out) Try.underlying33 rfl (by kernel_rfl) (.tmp .nil)))) rfl ?_
              exact ⟨_, by first | rfl | (simp [errW_none, errW_some] <;> rfl) | (simp [*, errW_none, errW_some] <;> rfl), by (with_reducible repeat (first | apply xRA | apply xRN | apply xRD)); exact xO (xF (p := ⟨gb177, 1, none⟩) (xF (p := ⟨gb177, 0, none⟩) (Kd.R_types HO_10.out BK177.out (by decide)) (fun _ hk => hk.2) (.int .i64 x9_2)) (fun _ hk => hk.2) (.slice Ao44 x10_2.length co44)) (fun _ hk => trivial), by repeat (first | (with_reducible first | exact HB.out | apply xa | apply xn | apply xd | refine xs ?_ GE176.out | refine xs ?_ GE177.out) | exact HB.out)⟩
             ·replace c43 := Bool.eq_false_iff.mpr c43
              subst c43
              have H1 : (some (0, 0, ([] : List Int), false)) = some (r1, r2, r3, r4) := by rw [if_neg (show ¬ (false = true) by decide)] at H; exact H
              clear H
              have H := H1
              clear H1
              simp only [Option.some.injEq, Prod.mk.injEq] at H
              obtain ⟨rfl, rfl, rfl, rfl⟩ := H
              obtain ⟨Ao47, co47, eo47⟩ := Kd.R_slice HO_10.out
              subst eo47
              go_wp2_with (first | ((with_reducible refine gate_callee (f := 59) rfl ?_); refine goesL_ (some 75) rfl rfl Try.func59 (by kernel_rfl) rfl #[.int .i64 x9_2] rfl (by (try simp only [List.map_toArray, List.map_cons, List.map_nil]); first | done | rfl | (simp only [List.length_drop, List.length_take]; rfl)) ?_; (with_reducible refine (spec_l14State.calls x9_2 false _ A42.out).mono ?_); rintro e w' ⟨rfl, ⟨nd, rfl⟩⟩; refine ⟨_, rfl, ?_⟩; (try (rw [drewN_self wr]; generalize hq_ : World.drewN wr _ = wr; have n0_ := xM (Kd.R_at hq_ HO_10.out); have n1_ := xM (blk_at hq_ BK176.out); have n2_ := xM (blk_at hq_ BK177.out); have n3_ := xM (below_at hq_ HB.out); clear hq_ HO_10 BK176 BK177 HB; have HO_10 := n0_; have BK176 := n1_; have BK177 := n2_; have HB := n3_; clear n0_ n1_ n2_ n3_)); have hnb48 := NB177_176.out; have hnc48 := NB176_177.out; have hcz49_0 : wr.cell? ⟨gb177, 0, none⟩ = some (.int .i64 0) := (blk_cell BK177.out 0).trans rfl; have hcz49_1 : wr.cell? ⟨gb177, 1, none⟩ = some (.slice none 0 0) := (blk_cell BK177.out 1).trans rfl; have hfz49_0 := blk_frozen BK177.out 0; have hfz49_1 := blk_frozen BK177.out 1))
              refine bodyPost_ret (results_list (rs := [.tmp 4, .cell 5 33, .tmp 6]) rfl (by simp) (.tmp (.cell gb177 33 #[.int .i64 0, .slice none 0 0] (0, 0) _ rfl (by (with_reducible repeat (first | apply xbN | apply xbD | apply xbA)); refine blk_put (cs := #[.int .i64 0, .slice none 0 0]) ?_ 1 _ rfl; (with_reducible repeat (first | apply xbN | apply xbD | apply xbA)); refine blk_put (cs := #[.int .i64 0, .slice none 0 0]) ?_ 0 _ rfl; (with_reducible repeat (first | apply xbN | apply xbD | apply xbA)); exact BK177.out) Try.underlying33 rfl (by kernel_rfl) (.tmp .nil)))) rfl ?_
              exact ⟨_, by first | rfl | (simp [errW_none, errW_some] <;> rfl) | (simp [*, errW_none, errW_some] <;> rfl), by first | exact Kd.R_nil _ _ _ _ _ | exact Kd.N_nil _ _ _ _ _ | exact Kd.V_nil _ _ _ _ _ | exact Kd.Q_nil _ _ _ _ _ | exact Kd.S_nil _ _ _ _ _, by repeat (first | (with_reducible first | exact HB.out | apply xa | apply xn | apply xd | refine xs ?_ GE176.out | refine xs ?_ GE177.out) | exact HB.out)⟩
           ·rw [if_neg c34] at H
            have c34b0 : decide (x9_2 < 4096) = false := decide_eq_false c34
            clear c34
            replace H := Option.bind_eq_some_iff.mp H
            obtain ⟨t198, A500, H⟩ := H
            replace H : (if t198 = true then (some (t181, x9_2, x10_2, true)) else (some (0, 0, ([] : List Int), false))) = some (r1, r2, r3, r4) := H
            have A50 := Aside0.mk A500
            clear A500
            by_cases c51 : t198 = true
            ·subst c51
             have H1 : (some (t181, x9_2, x10_2, true)) = some (r1, r2, r3, r4) := by rw [if_pos rfl] at H; exact H
             clear H
             have H := H1
             clear H1
             simp only [Option.some.injEq, Prod.mk.injEq] at H
             obtain ⟨rfl, rfl, rfl, rfl⟩ := H
             go_wp2_with (first | ((with_reducible refine gate_callee (f := 59) rfl ?_); refine goesL_ (some 75) rfl rfl Try.func59 (by kernel_rfl) rfl #[.int .i64 x9_2] rfl (by (try simp only [List.map_toArray, List.map_cons, List.map_nil]); first | done | rfl | (simp only [List.length_drop, List.length_take]; rfl)) ?_; (with_reducible refine (spec_l14State.calls x9_2 true _ A50.out).mono ?_); rintro e w' ⟨rfl, ⟨nd, rfl⟩⟩; refine ⟨_, rfl, ?_⟩; (try (rw [drewN_self wr]; generalize hq_ : World.drewN wr _ = wr; have n0_ := xM (Kd.R_at hq_ HO_10.out); have n1_ := xM (blk_at hq_ BK176.out); have n2_ := xM (blk_at hq_ BK177.out); have n3_ := xM (below_at hq_ HB.out); clear hq_ HO_10 BK176 BK177 HB; have HO_10 := n0_; have BK176 := n1_; have BK177 := n2_; have HB := n3_; clear n0_ n1_ n2_ n3_)); obtain ⟨Ao52, co52, eo52⟩ := Kd.R_slice HO_10.out; subst eo52; have hnb53 := NB177_176.out; have hnc53 := NB176_177.out; have hcz54_0 : wr.cell? ⟨gb177, 0, none⟩ = some (.int .i64 0) := (blk_cell BK177.out 0).trans rfl; have hcz54_1 : wr.cell? ⟨gb177, 1, none⟩ = some (.slice none 0 0) := (blk_cell BK177.out 1).trans rfl; have hfz54_0 := blk_frozen BK177.out 0; have hfz54_1 := blk_frozen BK177.out 1))
             refine bodyPost_ret (results_list (rs := [.tmp 4, .cell 5 33, .tmp 6]) rfl (by simp) (.tmp (.cell gb177 33 #[.int .i64 x9_2, .slice Ao52 x10_2.length co52] (0, 0) _ rfl (by (with_reducible repeat (first | apply xbN | apply xbD | apply xbA)); refine blk_put (cs := #[.int .i64 x9_2, .slice none 0 0]) ?_ 1 _ rfl; (with_reducible repeat (first | apply xbN | apply xbD | apply xbA)); refine blk_put (cs := #[.int .i64 0, .slice none 0 0]) ?_ 0 _ rfl; (with_reducible repeat (first | apply xbN | apply xbD | apply xbA)); exact BK177.out) Try.underlying33 rfl (by kernel_rfl) (.tmp .nil)))) rfl ?_
             exact ⟨_, by first | rfl | (simp [errW_none, errW_some] <;> rfl) | (simp [*, errW_none, errW_some] <;> rfl), by (with_reducible repeat (first | apply xRA | apply xRN | apply xRD)); exact xO (xF (p := ⟨gb177, 1, none⟩) (xF (p := ⟨gb177, 0, none⟩) (Kd.R_types HO_10.out BK177.out (by decide)) (fun _ hk => hk.2) (.int .i64 x9_2)) (fun _ hk => hk.2) (.slice Ao52 x10_2.length co52)) (fun _ hk => trivial), by repeat (first | (with_reducible first | exact HB.out | apply xa | apply xn | apply xd | refine xs ?_ GE176.out | refine xs ?_ GE177.out) | exact HB.out)⟩
            ·replace c51 := Bool.eq_false_iff.mpr c51
             subst c51
             have H1 : (some (0, 0, ([] : List Int), false)) = some (r1, r2, r3, r4) := by rw [if_neg (show ¬ (false = true) by decide)] at H; exact H
             clear H
             have H := H1
             clear H1
             simp only [Option.some.injEq, Prod.mk.injEq] at H
             obtain ⟨rfl, rfl, rfl, rfl⟩ := H
             go_wp2_with (first | ((with_reducible refine gate_callee (f := 59) rfl ?_); refine goesL_ (some 75) rfl rfl Try.func59 (by kernel_rfl) rfl #[.int .i64 x9_2] rfl (by (try simp only [List.map_toArray, List.map_cons, List.map_nil]); first | done | rfl | (simp only [List.length_drop, List.length_take]; rfl)) ?_; (with_reducible refine (spec_l14State.calls x9_2 false _ A50.out).mono ?_); rintro e w' ⟨rfl, ⟨nd, rfl⟩⟩; refine ⟨_, rfl, ?_⟩; (try (rw [drewN_self wr]; generalize hq_ : World.drewN wr _ = wr; have n0_ := xM (Kd.R_at hq_ HO_10.out); have n1_ := xM (blk_at hq_ BK176.out); have n2_ := xM (blk_at hq_ BK177.out); have n3_ := xM (below_at hq_ HB.out); clear hq_ HO_10 BK176 BK177 HB; have HO_10 := n0_; have BK176 := n1_; have BK177 := n2_; have HB := n3_; clear n0_ n1_ n2_ n3_)); have hnb55 := NB177_176.out; have hnc55 := NB176_177.out; have hcz56_0 : wr.cell? ⟨gb177, 0, none⟩ = some (.int .i64 0) := (blk_cell BK177.out 0).trans rfl; have hcz56_1 : wr.cell? ⟨gb177, 1, none⟩ = some (.slice none 0 0) := (blk_cell BK177.out 1).trans rfl; have hfz56_0 := blk_frozen BK177.out 0; have hfz56_1 := blk_frozen BK177.out 1))
             refine bodyPost_ret (results_list (rs := [.tmp 4, .cell 5 33, .tmp 6]) rfl (by simp) (.tmp (.cell gb177 33 #[.int .i64 0, .slice none 0 0] (0, 0) _ rfl (by (with_reducible repeat (first | apply xbN | apply xbD | apply xbA)); refine blk_put (cs := #[.int .i64 0, .slice none 0 0]) ?_ 1 _ rfl; (with_reducible repeat (first | apply xbN | apply xbD | apply xbA)); refine blk_put (cs := #[.int .i64 0, .slice none 0 0]) ?_ 0 _ rfl; (with_reducible repeat (first | apply xbN | apply xbD | apply xbA)); exact BK177.out) Try.underlying33 rfl (by kernel_rfl) (.tmp .nil)))) rfl ?_
             exact ⟨_, by first | rfl | (simp [errW_none, errW_some] <;> rfl) | (simp [*, errW_none, errW_some] <;> rfl), by first | exact Kd.R_nil _ _ _ _ _ | exact Kd.N_nil _ _ _ _ _ | exact Kd.V_nil _ _ _ _ _ | exact Kd.Q_nil _ _ _ _ _ | exact Kd.S_nil _ _ _ _ _, by repeat (first | (with_reducible first | exact HB.out | apply xa | apply xn | apply xd | refine xs ?_ GE176.out | refine xs ?_ GE177.out) | exact HB.out)⟩
        ·rw [if_neg c23] at H
         exact absurd H (by simp)
       ·rw [if_neg c22] at H
        exact absurd H (by simp)
      ·rw [if_neg c20] at H
       exact absurd H (by simp)
     ·rw [if_neg c19] at H
      exact absurd H (by simp)

/-! ### cf_impl_isCoded_1: function 9108 -/
/-- Is a number of l0 no word? -/
def cf_impl_isCoded_1.f (l0 : List Int) : Option Bool := anyO (fun x => (impl_within.f x 0 15).bind fun b => some (!b)) l0
set_option maxHeartbeats 8000000 in
set_option maxRecDepth 100000 in
theorem cf_impl_isCoded_1.calls (A0 : Option Addr) (c0 : Nat) (l0 : List Int) (r : Bool) (w : World) (hr0 : Kd.C (Kd.int .i64) w A0 l0.length l0) (hc0 : l0.length ≤ c0) (h : cf_impl_isCoded_1.f l0 = some r) :
    Calls Try.prog 56 #[.slice A0 l0.length c0, .func (.func 108) #[] #[]] w fun e w' => e = .returned (.bool r) ∧ Below w.heap.size w w' := by
  refine slices_ContainsFunc_int_int.any _ 108 _ (Go.Proofs.enters_of Try.func108 (by kernel_rfl) rfl) A0 c0 l0 r w hr0 (fun W x b hB hx => ?_) h
  clear hB h
  obtain ⟨q, hq, hx⟩ := Option.bind_eq_some_iff.1 hx
  injection hx with hx
  subst hx
  show Calls Try.prog 108 #[.int .i64 x] W _
  have hcon := fun W => impl_within.calls x 0 15 q W hq
  clear hq
  go_enter Try.func108, Try.ntmps108
  go_wp2_with (go_at_call 55; refine (hcon _).mono ?_; rintro e w' ⟨rfl, hd⟩)
  go_ret
  exact ⟨rfl, hd.below⟩

/-! ### impl_isCoded: function 76 -/
def impl_isCoded.f (a0_0 : Int) (l0_1 : List Int) : Option (Bool) := (impl_isState.f a0_0).bind fun t200 => (if t200 = true then (if (l0_1.length : Int) ≤ 320 then ((cf_impl_isCoded_1.f l0_1).bind fun t201 => (some (!t201))) else (some false)) else (some false))
set_option maxHeartbeats 8000000 in
set_option maxRecDepth 100000 in
theorem impl_isCoded.calls (a0_0 : Int) (A0_1 : Option Addr) (c0_1 : Nat) (l0_1 : List Int) (r : Bool) (w : World) (hr0_1 : Kd.C (Kd.int .i64) w A0_1 l0_1.length l0_1) (hc0_1 : l0_1.length ≤ c0_1) (h : impl_isCoded.f a0_0 l0_1 = some r) :
    Calls Try.prog 76 #[.agg #[.int .i64 a0_0, .slice A0_1 l0_1.length c0_1]] w fun e w' => e = .returned (.bool r) ∧ Below w.heap.size w w' := by
  have hu33 := Try.underlying33
  have HR0_1 := Aside0.mk hr0_1
  have HC0_1 := Aside0.mk hc0_1
  clear hr0_1 hc0_1
  have HB := Aside0.mk (Below.refl w.heap.size w)
  have H : ((impl_isState.f a0_0).bind fun t200 => (if t200 = true then (if (l0_1.length : Int) ≤ 320 then ((cf_impl_isCoded_1.f l0_1).bind fun t201 => (some (!t201))) else (some false)) else (some false))) = some r := h
  clear h
  replace H := Option.bind_eq_some_iff.mp H
  obtain ⟨t200, A20, H⟩ := H
  replace H : (if t200 = true then (if (l0_1.length : Int) ≤ 320 then ((cf_impl_isCoded_1.f l0_1).bind fun t201 => (some (!t201))) else (some false)) else (some false)) = some r := H
  have A2 := Aside0.mk A20
  clear A20
  by_cases c3 : t200 = true
  · subst c3
    have H1 : (if (l0_1.length : Int) ≤ 320 then ((cf_impl_isCoded_1.f l0_1).bind fun t201 => (some (!t201))) else (some false)) = some r := by rw [if_pos rfl] at H; exact H
    clear H
    have H := H1
    clear H1
    by_cases c4 : (l0_1.length : Int) ≤ 320
    · rw [if_pos c4] at H
      have c4b0 : decide ((l0_1.length : Int) ≤ 320) = true := decide_eq_true c4
      have c4b1 : decide (l0_1.length ≤ 320) = true := decide_eq_true (by omega)
      clear c4
      replace H := Option.bind_eq_some_iff.mp H
      obtain ⟨t201, A50, H⟩ := H
      replace H : (some (!t201)) = some r := H
      have A5 := Aside0.mk A50
      clear A50
      obtain rfl := Option.some.inj H
      go_enter Try.func76, Try.ntmps76
      go_wp2_with (first | ((with_reducible refine gate_dst (N := 1) rfl ?_); (try (refine gate_guard (by rfl) ?_; dsimp only)); refine box_event ?hg (N := 1) ?hd (cs := #[.int .i64 a0_0, .slice A0_1 l0_1.length c0_1]) (t := 33) ?hr ?_; (case hd => rfl); (case hg => rfl); (case hr => first | (go_simp; done) | (go_simp; rfl)); intro gb199 hg w6 hbox hb; have n0_ := Aside0.mk (below_step (by repeat (first | (with_reducible first | exact HB.out | apply below_alloc | apply pw_below_drewN | apply below_drew1) | exact HB.out)) hb); have n1_ := Aside0.mk (hbox); have n2_ := Aside0.mk ((by rw [hg]; exact (below_size (by repeat (first | (with_reducible first | exact HB.out | apply below_alloc | apply pw_below_drewN | apply below_drew1) | exact HB.out))) : w.heap.size ≤ gb199)); have n3_ := Aside0.mk ((by rw [hg]; exact (below_size (by repeat (first | (with_reducible first | exact HB.out | apply below_alloc | apply pw_below_drewN | apply below_drew1) | exact HB.out))) : w.heap.size ≤ gb199)); clear HB; have HB := n0_; have BK199 := n1_; have GW199 := n2_; have GE199 := n3_; clear n0_ n1_ n2_ n3_; clear hb hbox hg; have hcz7_0 : w6.cell? ⟨gb199, 0, none⟩ = some (.int .i64 a0_0) := (blk_cell BK199.out 0).trans rfl; have hcz7_1 : w6.cell? ⟨gb199, 1, none⟩ = some (.slice A0_1 l0_1.length c0_1) := (blk_cell BK199.out 1).trans rfl; have hfz7_0 := blk_frozen BK199.out 0; have hfz7_1 := blk_frozen BK199.out 1) | ((with_reducible refine gate_callee (f := 62) rfl ?_); refine goesL_ (some 5) rfl rfl Try.func62 (by kernel_rfl) rfl #[.int .i64 a0_0] rfl (by (try simp only [List.map_toArray, List.map_cons, List.map_nil]); first | done | rfl | (simp only [List.length_drop, List.length_take]; rfl)) ?_; (with_reducible refine (impl_isState.calls a0_0 true _ A2.out).mono ?_); rintro e w' ⟨rfl, ⟨nd, rfl⟩⟩; refine ⟨_, rfl, ?_⟩) | (go_at_call 56; (with_reducible refine (cf_impl_isCoded_1.calls _ _ l0_1 t201 _ ?side1 ?side2 A5.out).mono ?_); (case side1 => repeat (first | exact (Kd.C_below HR0_1.out (by repeat (first | (with_reducible first | exact HB.out | apply below_alloc | apply pw_below_drewN | apply below_drew1 | refine below_set ?_ GE199.out) | exact HB.out))) | (with_reducible refine Kd.C_alloc ?_ _) | (with_reducible refine Kd.C_drewN ?_ _) | (with_reducible refine Kd.C_drew ?_))); (case side2 => exact HC0_1.out); rintro e w8 ⟨rfl, hb⟩; have n0_ := Aside0.mk (blk_below (g := gb199) (o := .cells #[.int .i64 a0_0, .slice A0_1 l0_1.length c0_1] 33 (0, 0)) (by (with_reducible repeat (first | refine blk_drewN ?_ _ | refine blk_drew ?_ | refine blk_alloc ?_ _)); exact BK199.out) hb); have n1_ := Aside0.mk (below_step (by repeat (first | (with_reducible first | exact HB.out | apply below_alloc | apply pw_below_drewN | apply below_drew1 | refine below_set ?_ GE199.out) | exact HB.out)) hb); clear BK199; clear HB; have BK199 := n0_; have HB := n1_; clear n0_ n1_; (try clear hb); (try clear hb2); (try clear hk); (try clear hi)))
      go_ret
      exact ⟨by first | rfl | (simp [errW_none, errW_some] <;> rfl) | (simp [*, errW_none, errW_some] <;> rfl), by repeat (first | (with_reducible first | exact HB.out | apply below_alloc | apply pw_below_drewN | apply below_drew1 | refine below_set ?_ GE199.out) | exact HB.out)⟩
    · rw [if_neg c4] at H
      have c4b0 : decide ((l0_1.length : Int) ≤ 320) = false := decide_eq_false c4
      have c4b1 : decide (l0_1.length ≤ 320) = false := decide_eq_false (by omega)
      clear c4
      obtain rfl := Option.some.inj H
      go_enter Try.func76, Try.ntmps76
      go_wp2_with (first | ((with_reducible refine gate_dst (N := 1) rfl ?_); (try (refine gate_guard (by rfl) ?_; dsimp only)); refine box_event ?hg (N := 1) ?hd (cs := #[.int .i64 a0_0, .slice A0_1 l0_1.length c0_1]) (t := 33) ?hr ?_; (case hd => rfl); (case hg => rfl); (case hr => first | (go_simp; done) | (go_simp; rfl)); intro gb199 hg w9 hbox hb; have n0_ := Aside0.mk (below_step (by repeat (first | (with_reducible first | exact HB.out | apply below_alloc | apply pw_below_drewN | apply below_drew1) | exact HB.out)) hb); have n1_ := Aside0.mk (hbox); have n2_ := Aside0.mk ((by rw [hg]; exact (below_size (by repeat (first | (with_reducible first | exact HB.out | apply below_alloc | apply pw_below_drewN | apply below_drew1) | exact HB.out))) : w.heap.size ≤ gb199)); have n3_ := Aside0.mk ((by rw [hg]; exact (below_size (by repeat (first | (with_reducible first | exact HB.out | apply below_alloc | apply pw_below_drewN | apply below_drew1) | exact HB.out))) : w.heap.size ≤ gb199)); clear HB; have HB := n0_; have BK199 := n1_; have GW199 := n2_; have GE199 := n3_; clear n0_ n1_ n2_ n3_; clear hb hbox hg; have hcz10_0 : w9.cell? ⟨gb199, 0, none⟩ = some (.int .i64 a0_0) := (blk_cell BK199.out 0).trans rfl; have hcz10_1 : w9.cell? ⟨gb199, 1, none⟩ = some (.slice A0_1 l0_1.length c0_1) := (blk_cell BK199.out 1).trans rfl; have hfz10_0 := blk_frozen BK199.out 0; have hfz10_1 := blk_frozen BK199.out 1) | ((with_reducible refine gate_callee (f := 62) rfl ?_); refine goesL_ (some 5) rfl rfl Try.func62 (by kernel_rfl) rfl #[.int .i64 a0_0] rfl (by (try simp only [List.map_toArray, List.map_cons, List.map_nil]); first | done | rfl | (simp only [List.length_drop, List.length_take]; rfl)) ?_; (with_reducible refine (impl_isState.calls a0_0 true _ A2.out).mono ?_); rintro e w' ⟨rfl, ⟨nd, rfl⟩⟩; refine ⟨_, rfl, ?_⟩))
      go_ret
      exact ⟨by first | rfl | (simp [errW_none, errW_some] <;> rfl) | (simp [*, errW_none, errW_some] <;> rfl), by repeat (first | (with_reducible first | exact HB.out | apply below_alloc | apply pw_below_drewN | apply below_drew1 | refine below_set ?_ GE199.out) | exact HB.out)⟩
  · replace c3 := Bool.eq_false_iff.mpr c3
    subst c3
    have H1 : (some false) = some r := by rw [if_neg (show ¬ (false = true) by decide)] at H; exact H
    clear H
    have H := H1
    clear H1
    obtain rfl := Option.some.inj H
    go_enter Try.func76, Try.ntmps76
    go_wp2_with (first | ((with_reducible refine gate_dst (N := 1) rfl ?_); (try (refine gate_guard (by rfl) ?_; dsimp only)); refine box_event ?hg (N := 1) ?hd (cs := #[.int .i64 a0_0, .slice A0_1 l0_1.length c0_1]) (t := 33) ?hr ?_; (case hd => rfl); (case hg => rfl); (case hr => first | (go_simp; done) | (go_simp; rfl)); intro gb199 hg w11 hbox hb; have n0_ := Aside0.mk (below_step (by repeat (first | (with_reducible first | exact HB.out | apply below_alloc | apply pw_below_drewN | apply below_drew1) | exact HB.out)) hb); have n1_ := Aside0.mk (hbox); have n2_ := Aside0.mk ((by rw [hg]; exact (below_size (by repeat (first | (with_reducible first | exact HB.out | apply below_alloc | apply pw_below_drewN | apply below_drew1) | exact HB.out))) : w.heap.size ≤ gb199)); have n3_ := Aside0.mk ((by rw [hg]; exact (below_size (by repeat (first | (with_reducible first | exact HB.out | apply below_alloc | apply pw_below_drewN | apply below_drew1) | exact HB.out))) : w.heap.size ≤ gb199)); clear HB; have HB := n0_; have BK199 := n1_; have GW199 := n2_; have GE199 := n3_; clear n0_ n1_ n2_ n3_; clear hb hbox hg; have hcz12_0 : w11.cell? ⟨gb199, 0, none⟩ = some (.int .i64 a0_0) := (blk_cell BK199.out 0).trans rfl; have hcz12_1 : w11.cell? ⟨gb199, 1, none⟩ = some (.slice A0_1 l0_1.length c0_1) := (blk_cell BK199.out 1).trans rfl; have hfz12_0 := blk_frozen BK199.out 0; have hfz12_1 := blk_frozen BK199.out 1) | ((with_reducible refine gate_callee (f := 62) rfl ?_); refine goesL_ (some 5) rfl rfl Try.func62 (by kernel_rfl) rfl #[.int .i64 a0_0] rfl (by (try simp only [List.map_toArray, List.map_cons, List.map_nil]); first | done | rfl | (simp only [List.length_drop, List.length_take]; rfl)) ?_; (with_reducible refine (impl_isState.calls a0_0 false _ A2.out).mono ?_); rintro e w' ⟨rfl, ⟨nd, rfl⟩⟩; refine ⟨_, rfl, ?_⟩))
    go_ret
    exact ⟨by first | rfl | (simp [errW_none, errW_some] <;> rfl) | (simp [*, errW_none, errW_some] <;> rfl), by repeat (first | (with_reducible first | exact HB.out | apply below_alloc | apply pw_below_drewN | apply below_drew1 | refine below_set ?_ GE199.out) | exact HB.out)⟩

/-! ### impl_symbolAt: function 95 -/
def impl_symbolAt.l0 : Nat → List Int → Int → Int → Option (Int)
  | 0, _, _, _ => none
  | k + 1, x0, x1, x5 => if 0 ≤ x5 then (if x5 < (x0.length : Int) then (if x1 ≥ (rd x0 x5) then (impl_symbolAt.l0 k x0 (wrap64 (x1 - (rd x0 x5))) (wrap64 (x5 + 1))) else (some x5)) else (none)) else (none)
def impl_symbolAt.f (k : Nat) (l0 : List Int) (a1 : Int) : Option (Int) := impl_symbolAt.l0 k l0 a1 0
theorem impl_symbolAt.mono_l : ∀ k, (∀ y0 y1 y2, LeO (impl_symbolAt.l0 k y0 y1 y2) (impl_symbolAt.l0 (k + 1) y0 y1 y2))
  | 0 => fun _ _ _ r h => by simp [impl_symbolAt.l0] at h
  | k + 1 => by
    have ih0 := impl_symbolAt.mono_l k
    · intro y0 y1 y2
      unfold impl_symbolAt.l0
      repeat' first
      | (with_reducible exact ih0 _ _ _)
      | (with_reducible exact LeO.refl _)
      | (with_reducible exact LeO.none _)
      | (with_reducible refine LeO.ite ?_ ?_)
      | (with_reducible refine LeO.bind ?_ (fun _ => ?_))
      | exact ih0 _ _ _
      | exact LeO.none _
      | refine LeO.ite ?_ ?_
      | refine LeO.bind ?_ (fun _ => ?_)
theorem impl_symbolAt.mono : ∀ a0 a1 k, LeO (impl_symbolAt.f k a0 a1) (impl_symbolAt.f (k + 1) a0 a1) := by
  intro a0 a1 k
  have ih0 := impl_symbolAt.mono_l k
  unfold impl_symbolAt.f
  repeat' first
      | (with_reducible exact ih0 _ _ _)
      | (with_reducible exact LeO.refl _)
      | (with_reducible exact LeO.none _)
      | (with_reducible refine LeO.ite ?_ ?_)
      | (with_reducible refine LeO.bind ?_ (fun _ => ?_))
      | exact ih0 _ _ _
      | exact LeO.none _
      | refine LeO.ite ?_ ?_
      | refine LeO.bind ?_ (fun _ => ?_)
set_option maxHeartbeats 8000000 in
set_option maxRecDepth 100000 in
theorem impl_symbolAt.calls (k : Nat) (A0 : Option Addr) (c0 : Nat) (l0 : List Int) (a1 : Int) (r : Int) (w : World) (hr0 : Kd.C (Kd.int .i64) w A0 l0.length l0) (hc0 : l0.length ≤ c0) (h : impl_symbolAt.f k l0 a1 = some r) :
    Calls Try.prog 95 #[.slice A0 l0.length c0, .int .i64 a1] w fun e w' => e = .returned (.int .i64 r) ∧ Drawn0 w w' := by
  have HR0 := Aside0.mk hr0
  have HC0 := Aside0.mk hc0
  clear hr0 hc0
  have H : (impl_symbolAt.l0 k l0 a1 0) = some r := h
  clear h
  have H' := Aside0.mk H
  clear H
  go_enter Try.func95, Try.ntmps95
  go_wp2
  go_loopg [1, 5] k (fun kq v1 v5 w' => ∃ (x1_1 : Int) (x5_1 : Int), v1 = .int .i64 x1_1 ∧ v5 = .int .i64 x5_1 ∧ Aside0 (impl_symbolAt.l0 kq l0 x1_1 x5_1 = some r) ∧ Aside0 (kq ≤ k) ∧ Drawn0 w w')
  case atStart => exact ⟨(a1), (0), (by first | rfl | (simp; done) | (simp [*]; done)), (by first | rfl | (simp; done) | (simp [*]; done)), H', ⟨Nat.le_refl _⟩, by repeat (first | exact Drawn0.refl _ | apply Drawn0.step)⟩
  case round =>
    clear H'
    try clear p2
    obtain ⟨x1_1, x5_1, rfl, rfl, HA, HK1, ⟨m1, rfl⟩⟩ := hrel
    cases gk with
    | zero => exact absurd HA.out (by simp [impl_symbolAt.l0])
    | succ k1 =>
      have H := HA.out
      clear HA
      simp only [impl_symbolAt.l0] at H
      by_cases c3 : 0 ≤ x5_1
      · rw [if_pos c3] at H
        have c3b0 : decide (0 ≤ x5_1) = true := decide_eq_true c3
        clear c3
        by_cases c4 : x5_1 < (l0.length : Int)
        · rw [if_pos c4] at H
          have c4b0 : decide (x5_1 < (l0.length : Int)) = true := decide_eq_true c4
          clear c4
          by_cases c5 : x1_1 ≥ (rd l0 x5_1)
          · rw [if_pos c5] at H
            have c5b0 : decide ((rd l0 x5_1) ≤ x1_1) = true := decide_eq_true c5
            clear c5
            have H' := Aside0.mk H
            clear H
            have p202 : 0 ≤ (x5_1 : Int) := of_decide_eq_true (by first | (with_reducible assumption) | assumption)
            have q202 : x5_1 < (l0.length : Int) := of_decide_eq_true (by first | (with_reducible assumption) | assumption)
            obtain ⟨ad202, e202, hx202_0⟩ := Kd.at_int HR0.out x5_1 p202 q202
            cases e202
            replace p202 := eq_true p202
            replace q202 := eq_true q202
            have p203 : 0 ≤ (x5_1 : Int) := of_decide_eq_true (by first | (with_reducible assumption) | assumption)
            have q203 : x5_1 < (l0.length : Int) := of_decide_eq_true (by first | (with_reducible assumption) | assumption)
            obtain ⟨ad203, e203, hx203_0⟩ := Kd.at_int HR0.out x5_1 p203 q203
            obtain rfl : ad202 = ad203 := (by injection e203)
            replace p203 := eq_true p203
            replace q203 := eq_true q203
            go_wp2
            go_roundg k1
            case measure => have := HK1.out; omega
            case rel => exact ⟨(wrap64 (x1_1 - (rd l0 x5_1))), (wrap64 (x5_1 + 1)), (by first | rfl | (simp; done) | (simp [*]; done)), (by first | rfl | (simp; done) | (simp [*]; done)), H', ⟨by have := HK1.out; omega⟩, by repeat (first | exact Drawn0.refl _ | apply Drawn0.step)⟩
          · rw [if_neg c5] at H
            have c5b0 : decide ((rd l0 x5_1) ≤ x1_1) = false := decide_eq_false c5
            clear c5
            obtain rfl := Option.some.inj H
            have p202 : 0 ≤ (x5_1 : Int) := of_decide_eq_true (by first | (with_reducible assumption) | assumption)
            have q202 : x5_1 < (l0.length : Int) := of_decide_eq_true (by first | (with_reducible assumption) | assumption)
            obtain ⟨ad202, e202, hx202_0⟩ := Kd.at_int HR0.out x5_1 p202 q202
            cases e202
            replace p202 := eq_true p202
            replace q202 := eq_true q202
            go_wp2
            go_ret
            exact ⟨by first | rfl | (simp; done) | (simp [*]; done), by repeat (first | exact Drawn0.refl _ | apply Drawn0.step)⟩
        · rw [if_neg c4] at H
          exact absurd H (by simp)
      · rw [if_neg c3] at H
        exact absurd H (by simp)

end Go.Proofs.Ytppgkkejddjacaa.PFnAns

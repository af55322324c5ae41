-- This text was written by the session's own program wip/tools/xprint.py, over the kit's print; Lean checks it.
import Derived.Test.YtppgkkejddjacaaPFnAnsx0
import Derived.Test.YtppgkkejddjacaaPFnAnsx3
import Derived.Test.YtppgkkejddjacaaPFnAnsx8
import Derived.Test.YtppgkkejddjacaaPFnAnsx10
namespace Go.Proofs.Ytppgkkejddjacaa.PFnAns
open Go.RowKit Go.Proofs.YtppgkkejddjacaaW.PrintWords Go.Proofs.YtppgkkejddjacaaW.PrintLast Go.Proofs.YtppgkkejddjacaaW.PrintMore
attribute [local go_sem] max2_int min2_int max_two min_two max_three min_three max_four min_four   -- for this text's walks alone
set_option linter.unusedVariables false
set_option linter.unusedSimpArgs false

/-! ### spec_l1Cur_coded: function 101 -/
def spec_l1Cur_coded.j0 : Nat → List Int → List Int → List Int → Int → Int → Int → List Int → Option (List Int × Int × List Int × Int × Int × Int)
  | 0, _, _, _, _, _, _, _ => none
  | k + 1, x5, x6, x1000, x1001, x1002, x392000, x392001 => (spec_l1Cur_one.f x1000 x1001 x1002 8).bind fun bt401 => (if bt401.1 = true then ((spec_l1Cur_pick.f x1000 bt401.2.1 bt401.2.2 9).bind fun bt404 => (some (x5, wrap64 (x392000 + (wrap64 (bt404.1 - 4))), x392001, (x6.length : Int), bt404.2.1, bt404.2.2))) else (some (x5, x392000, x392001, (x6.length : Int), bt401.2.1, bt401.2.2)))
def spec_l1Cur_coded.f (k : Nat) (s0_0 : List Int) (s0_1 : Int) (s0_2 : Int) : Option (List Int × Int × List Int × Int × Int × Int) := (spec_l1Cur_counts.f k s0_0 s0_1 s0_2).bind fun bt376 => ((spec_l1Cur_symbols.f k s0_0 bt376.2.1 bt376.2.2 (bt376.1.length : Int)).bind fun bt381 => ((spec_CodeSymbols.f k bt376.1 bt381.1).bind fun bt386 => (if bt386.2.2 = true then (spec_l1Cur_coded.j0 k bt376.1 bt381.1 s0_0 bt381.2.1 bt381.2.2 bt386.1 bt386.2.1) else ((spec_l1Cur_pick.f s0_0 bt381.2.1 bt381.2.2 500).bind fun bt392 => ((spec_l1Cur_pick.f s0_0 bt392.2.1 bt392.2.2 17).bind fun bt395 => (spec_l1Cur_coded.j0 k bt376.1 bt381.1 s0_0 bt395.2.1 bt395.2.2 (wrap64 (4096 + bt392.1)) (([bt395.1] : List Int))))))))
theorem spec_l1Cur_coded.mono_l : ∀ k, (∀ y0 y1 y2 y3 y4 y5 y6, LeO (spec_l1Cur_coded.j0 k y0 y1 y2 y3 y4 y5 y6) (spec_l1Cur_coded.j0 (k + 1) y0 y1 y2 y3 y4 y5 y6))
  | 0 => fun _ _ _ _ _ _ _ r h => by simp [spec_l1Cur_coded.j0] at h
  | k + 1 => by
   have ih0 := spec_l1Cur_coded.mono_l k
   ·intro y0 y1 y2 y3 y4 y5 y6
    unfold spec_l1Cur_coded.j0
    repeat' first
    | (with_reducible exact ih0 _ _ _ _ _ _ _)
    | (with_reducible exact spec_CodeSymbols.mono _ _ _)
    | (with_reducible exact spec_l1Cur_counts.mono _ _ _ _)
    | (with_reducible exact spec_l1Cur_symbols.mono _ _ _ _ _)
    | (with_reducible exact LeO.refl _)
    | (with_reducible exact LeO.none _)
    | (with_reducible refine LeO.ite ?_ ?_)
    | (with_reducible refine LeO.bind ?_ (fun _ => ?_))
    | exact ih0 _ _ _ _ _ _ _
    | exact spec_CodeSymbols.mono _ _ _
    | exact spec_l1Cur_counts.mono _ _ _ _
    | exact spec_l1Cur_symbols.mono _ _ _ _ _
    | exact LeO.none _
    | refine LeO.ite ?_ ?_
    | refine LeO.bind ?_ (fun _ => ?_)
theorem spec_l1Cur_coded.mono : ∀ a0 a1 a2 k, LeO (spec_l1Cur_coded.f k a0 a1 a2) (spec_l1Cur_coded.f (k + 1) a0 a1 a2) := by
  intro a0 a1 a2 k
  have ih0 := spec_l1Cur_coded.mono_l k
  unfold spec_l1Cur_coded.f
  repeat' first
    | (with_reducible exact ih0 _ _ _ _ _ _ _)
    | (with_reducible exact spec_CodeSymbols.mono _ _ _)
    | (with_reducible exact spec_l1Cur_counts.mono _ _ _ _)
    | (with_reducible exact spec_l1Cur_symbols.mono _ _ _ _ _)
    | (with_reducible exact LeO.refl _)
    | (with_reducible exact LeO.none _)
    | (with_reducible refine LeO.ite ?_ ?_)
    | (with_reducible refine LeO.bind ?_ (fun _ => ?_))
    | exact ih0 _ _ _ _ _ _ _
    | exact spec_CodeSymbols.mono _ _ _
    | exact spec_l1Cur_counts.mono _ _ _ _
    | exact spec_l1Cur_symbols.mono _ _ _ _ _
    | exact LeO.none _
    | refine LeO.ite ?_ ?_
    | refine LeO.bind ?_ (fun _ => ?_)
def spec_l1Cur_coded.T7 : Bool × List (List Nat × List Nat) := (true, [([], []), ([0], [0]), ([], []), ([2], [2]), ([3], [3]), ([1, 4], [1, 4]), ([0, 1, 2, 3, 4, 5], []), ([6, 5, 3, 0, 1, 2, 3, 4, 5], [5, 6])])
def spec_l1Cur_coded.B7 : List Nat := [0, 1, 0, 4, 12, 31, 63, 127]
theorem spec_l1Cur_coded.tab7 : rtab .any (opsOf Try.f101 7) = spec_l1Cur_coded.T7 := by kernel_rfl
theorem spec_l1Cur_coded.bits7 : waitsOk spec_l1Cur_coded.T7.2 spec_l1Cur_coded.B7 = true := by kernel_rfl
set_option maxHeartbeats 8000000 in
set_option maxRecDepth 100000 in
theorem spec_l1Cur_coded.calls (k : Nat) (g : Nat) (s0_0 : List Int) (s0_1 : Int) (s0_2 : Int) (r1 : List Int) (r2 : Int) (r3 : List Int) (r4 : Int) (r5 : Int) (r6 : Int) (w0 w : World) (hI : IsS116 w0 w g s0_0 s0_1 s0_2) (hB : Below w0.heap.size w0 w) (h : spec_l1Cur_coded.f k s0_0 s0_1 s0_2 = some (r1, r2, r3, r4, r5, r6)) :
   Calls Try.prog 101 #[.pointer (some ⟨g, 0, none⟩)] w fun e w' => ∃ v0_ v2_ : Value, e = .returned (.tuple #[v0_, .agg #[.int .i64 r2, v2_], .int .i64 r4]) ∧ Kd.R (Kd.int .i64) 3 w' w.heap.size (fun k_ => some k_ ≠ (v2_ : Value).ownBlock) v0_ r1 ∧ Kd.R (Kd.int .i64) 3 w' w.heap.size (fun k_ => some k_ ≠ (v0_ : Value).ownBlock) v2_ r3 ∧ IsS116 w0 w' g s0_0 r5 r6 ∧ Below w0.heap.size w0 w' ∧ KeepBut w w' g none := by
  have hu33 := Try.underlying33
  have HI0 := Aside0.mk hI
  have HK := xM (KeepBut.refl w g none)
  have HL := Aside0.mk hB.size
  clear hI
  have HW0 := Aside0.mk hB.size
  have HB := Aside0.mk hB
  clear hB
  have H : ((spec_l1Cur_counts.f k s0_0 s0_1 s0_2).bind fun bt376 => ((spec_l1Cur_symbols.f k s0_0 bt376.2.1 bt376.2.2 (bt376.1.length : Int)).bind fun bt381 => ((spec_CodeSymbols.f k bt376.1 bt381.1).bind fun bt386 => (if bt386.2.2 = true then (spec_l1Cur_coded.j0 k bt376.1 bt381.1 s0_0 bt381.2.1 bt381.2.2 bt386.1 bt386.2.1) else ((spec_l1Cur_pick.f s0_0 bt381.2.1 bt381.2.2 500).bind fun bt392 => ((spec_l1Cur_pick.f s0_0 bt392.2.1 bt392.2.2 17).bind fun bt395 => (spec_l1Cur_coded.j0 k bt376.1 bt381.1 s0_0 bt395.2.1 bt395.2.2 (wrap64 (4096 + bt392.1)) (([bt395.1] : List Int))))))))) = some (r1, r2, r3, r4, r5, r6) := h
  clear h
  replace H := Option.bind_eq_some_iff.mp H
  obtain ⟨⟨t376, t379, t380⟩, A20, H⟩ := H
  replace H : ((spec_l1Cur_symbols.f k s0_0 t379 t380 (t376.length : Int)).bind fun bt381 => ((spec_CodeSymbols.f k t376 bt381.1).bind fun bt386 => (if bt386.2.2 = true then (spec_l1Cur_coded.j0 k t376 bt381.1 s0_0 bt381.2.1 bt381.2.2 bt386.1 bt386.2.1) else ((spec_l1Cur_pick.f s0_0 bt381.2.1 bt381.2.2 500).bind fun bt392 => ((spec_l1Cur_pick.f s0_0 bt392.2.1 bt392.2.2 17).bind fun bt395 => (spec_l1Cur_coded.j0 k t376 bt381.1 s0_0 bt395.2.1 bt395.2.2 (wrap64 (4096 + bt392.1)) (([bt395.1] : List Int)))))))) = some (r1, r2, r3, r4, r5, r6) := H
  have A2 := Aside0.mk A20
  clear A20
  replace H := Option.bind_eq_some_iff.mp H
  obtain ⟨⟨t381, t384, t385⟩, A30, H⟩ := H
  replace H : ((spec_CodeSymbols.f k t376 t381).bind fun bt386 => (if bt386.2.2 = true then (spec_l1Cur_coded.j0 k t376 t381 s0_0 t384 t385 bt386.1 bt386.2.1) else ((spec_l1Cur_pick.f s0_0 t384 t385 500).bind fun bt392 => ((spec_l1Cur_pick.f s0_0 bt392.2.1 bt392.2.2 17).bind fun bt395 => (spec_l1Cur_coded.j0 k t376 t381 s0_0 bt395.2.1 bt395.2.2 (wrap64 (4096 + bt392.1)) (([bt395.1] : List Int))))))) = some (r1, r2, r3, r4, r5, r6) := H
  have A3 := Aside0.mk A30
  clear A30
  replace H := Option.bind_eq_some_iff.mp H
  obtain ⟨⟨t386, t387, t390⟩, A40, H⟩ := H
  replace H : (if t390 = true then (spec_l1Cur_coded.j0 k t376 t381 s0_0 t384 t385 t386 t387) else ((spec_l1Cur_pick.f s0_0 t384 t385 500).bind fun bt392 => ((spec_l1Cur_pick.f s0_0 bt392.2.1 bt392.2.2 17).bind fun bt395 => (spec_l1Cur_coded.j0 k t376 t381 s0_0 bt395.2.1 bt395.2.2 (wrap64 (4096 + bt392.1)) (([bt395.1] : List Int)))))) = some (r1, r2, r3, r4, r5, r6) := H
  have A4 := Aside0.mk A40
  clear A40
  have HC5 := Aside0.mk H
  clear H
  go_enter Try.func101, Try.ntmps101
  go_upto_if 22 with (first | ((with_reducible refine gate_dst (N := 3) rfl ?_); refine box_event ?hg (N := 3) ?hd (cs := #[.int .i64 0, .slice none 0 0]) (t := 33) ?hr ?_; (case hd => rfl); (case hg => rfl); (case hr => first | (go_simp; done) | (go_simp; rfl)); intro gb375 hg w6 hbox hb; have BK375 := xM (hbox); have GW375 := xM ((by rw [hg]; exact (keep_size (w := w) (g := g) (row := none) (by repeat (first | (with_reducible first | exact HK.out | apply KeepBut.set_ | apply keep_drewN | apply keep_drew | apply keep_alloc) | exact HK.out))) : w.heap.size ≤ gb375)); have GE375 := xM ((Nat.le_trans HW0.out (by rw [hg]; exact (keep_size (w := w) (g := g) (row := none) (by repeat (first | (with_reducible first | exact HK.out | apply KeepBut.set_ | apply keep_drewN | apply keep_drew | apply keep_alloc) | exact HK.out))) : w.heap.size ≤ gb375) : w0.heap.size ≤ gb375)); have NB0_375 := xM ((by rw [hg]; exact Nat.ne_of_lt (IsS116.lt (show IsS116 w0 _ g s0_0 s0_1 s0_2 from by (try simp only [Int.add_zero]); repeat (first | (with_reducible first | exact HI0.out | apply IsS116.alloc | apply IsS116.drewN | apply IsS116.drew | apply IsS116.set_1 | apply IsS116.set_2) | exact HI0.out))) : g ≠ gb375)); have NB375_0 := xM ((by rw [hg]; exact Nat.ne_of_gt (IsS116.lt (show IsS116 w0 _ g s0_0 s0_1 s0_2 from by (try simp only [Int.add_zero]); repeat (first | (with_reducible first | exact HI0.out | apply IsS116.alloc | apply IsS116.drewN | apply IsS116.drew | apply IsS116.set_1 | apply IsS116.set_2) | exact HI0.out))) : gb375 ≠ g)); replace HK := xM (KeepBut.trans (by repeat (first | (with_reducible first | exact HK.out | apply KeepBut.set_ | apply keep_drewN | apply keep_drew | apply keep_alloc) | exact HK.out)) (KeepBut.of_below hb g none) (.inl rfl)); replace HB := xM (below_step (by repeat (first | (with_reducible first | exact HB.out | apply xa | apply xn | apply xd | refine xs ?_ (IsS116.ge HI0.out)) | exact HB.out)) hb); replace HI0 := xM (IsS116.below (by (try simp only [Int.add_zero]); repeat (first | (with_reducible first | exact HI0.out | apply IsS116.alloc | apply IsS116.drewN | apply IsS116.drew | apply IsS116.set_1 | apply IsS116.set_2) | exact HI0.out)) hb); clear hb hbox hg) | ((with_reducible refine gate_callee (f := 99) rfl ?_); refine goesL_ (some 10) rfl rfl Try.func99 (by kernel_rfl) rfl #[.pointer (some ⟨g, 0, none⟩)] rfl (by (try simp only [List.map_toArray, List.map_cons, List.map_nil]); first | done | rfl | (simp only [List.length_drop, List.length_take]; rfl)) ?_; (with_reducible refine (spec_l1Cur_counts.calls k g s0_0 s0_1 s0_2 t376 t379 t380 w0 _ ?side1 ?side2 A2.out).mono ?_); (case side1 => repeat (first | (with_reducible first | exact HI0.out | apply IsS116.alloc | apply IsS116.drewN | apply IsS116.drew | apply IsS116.set_1 | apply IsS116.set_2 | refine IsS116.far ?_ NB0_375.out _) | exact HI0.out)); (case side2 => repeat (first | (with_reducible first | exact HB.out | apply xa | apply xn | apply xd | refine xs ?_ (IsS116.ge HI0.out) | refine xs ?_ GE375.out) | exact HB.out)); rintro e w7 ⟨v377, rfl, ho0, hi, hb, hk⟩; refine ⟨_, rfl, ?_⟩; have HO378 := xM (Kd.R_lower ho0 (keep_size (w := w) (g := g) (row := none) (by repeat (first | (with_reducible first | exact HK.out | apply KeepBut.set_ | apply keep_drewN | apply keep_drew | apply keep_alloc | refine keep_far ?_ GW375.out _) | exact HK.out)))); replace BK375 := xM (KeepBut.blk hk (g' := gb375) (o := .cells #[.int .i64 0, .slice none 0 0] 33 (0, 0)) (yb BK375) NB375_0.out (by simp)); replace HK := xM (KeepBut.trans (by repeat (first | (with_reducible first | exact HK.out | apply KeepBut.set_ | apply keep_drewN | apply keep_drew | apply keep_alloc | refine keep_far ?_ GW375.out _) | exact HK.out)) hk (.inl rfl)); replace HB := xM (hb); replace HI0 := xM (hi); (try clear hb); (try clear ho0); obtain ⟨Ao8, co8, eo8⟩ := Kd.R_slice HO378.out; subst eo8) | ((with_reducible refine gate_callee (f := 98) rfl ?_); refine goesL_ (some 14) rfl rfl Try.func98 (by kernel_rfl) rfl #[.pointer (some ⟨g, 0, none⟩), .int .i64 (t376.length : Int)] rfl (by (try simp only [List.map_toArray, List.map_cons, List.map_nil]); first | done | rfl | (simp only [List.length_drop, List.length_take]; rfl)) ?_; (with_reducible refine (spec_l1Cur_symbols.calls k g s0_0 t379 t380 (t376.length : Int) t381 t384 t385 w0 _ ?side1 ?side2 A3.out).mono ?_); (case side1 => repeat (first | (with_reducible first | exact HI0.out | apply IsS116.alloc | apply IsS116.drewN | apply IsS116.drew | apply IsS116.set_1 | apply IsS116.set_2 | refine IsS116.far ?_ NB0_375.out _) | exact HI0.out)); (case side2 => repeat (first | (with_reducible first | exact HB.out | apply xa | apply xn | apply xd | refine xs ?_ (IsS116.ge HI0.out) | refine xs ?_ GE375.out) | exact HB.out)); rintro e w9 ⟨v382, rfl, ho0, hi, hb, hk⟩; refine ⟨_, rfl, ?_⟩; have HO383 := xM (Kd.R_lower (Kd.R_new' ho0 (xL (yR HO378))) (keep_size (w := w) (g := g) (row := none) (by repeat (first | (with_reducible first | exact HK.out | apply KeepBut.set_ | apply keep_drewN | apply keep_drew | apply keep_alloc | refine keep_far ?_ GW375.out _) | exact HK.out)))); replace BK375 := xM (KeepBut.blk hk (g' := gb375) (o := .cells #[.int .i64 0, .slice none 0 0] 33 (0, 0)) (yb BK375) NB375_0.out (by simp)); replace HO378 := xM (xO (Kd.R_told (Kd.R_oldK (IsS116.apart (show IsS116 w0 _ g s0_0 t379 t380 from by (try simp only [Int.add_zero]); repeat (first | (with_reducible first | exact HI0.out | apply IsS116.alloc | apply IsS116.drewN | apply IsS116.drew | apply IsS116.set_1 | apply IsS116.set_2 | refine IsS116.far ?_ NB0_375.out _) | exact HI0.out)) (yR HO378) (by decide)) hk) (Kd.R_base ho0)) (fun _ h_ => h_.1)); replace HK := xM (KeepBut.trans (by repeat (first | (with_reducible first | exact HK.out | apply KeepBut.set_ | apply keep_drewN | apply keep_drew | apply keep_alloc | refine keep_far ?_ GW375.out _) | exact HK.out)) hk (.inl rfl)); replace HB := xM (hb); replace HI0 := xM (hi); (try clear hb); (try clear ho0); obtain ⟨Ao10, co10, eo10⟩ := Kd.R_slice HO383.out; subst eo10) | ((with_reducible refine gate_callee (f := 21) rfl ?_); refine goesL_ (some 18) rfl rfl Try.func21 (by kernel_rfl) rfl #[.slice Ao8 t376.length co8, .slice Ao10 t381.length co10] rfl (by (try simp only [List.map_toArray, List.map_cons, List.map_nil]); first | done | rfl | (simp only [List.length_drop, List.length_take]; rfl)) ?_; (with_reducible refine (spec_CodeSymbols.calls k _ _ t376 _ _ t381 t386 t387 t390 _ ?side1 ?side2 ?side3 ?side4 A4.out).mono ?_); (case side1 => repeat (first | exact (Kd.R_reads' HO378.out).2.2 | (with_reducible refine Kd.C_alloc ?_ _) | (with_reducible refine Kd.C_drewN ?_ _) | (with_reducible refine Kd.C_drew ?_))); (case side2 => exact (Kd.R_reads' HO378.out).2.1); (case side3 => repeat (first | exact (Kd.R_reads' HO383.out).2.2 | (with_reducible refine Kd.C_alloc ?_ _) | (with_reducible refine Kd.C_drewN ?_ _) | (with_reducible refine Kd.C_drew ?_))); (case side4 => exact (Kd.R_reads' HO383.out).2.1); rintro e w11 ⟨v388, rfl, ho0, hb⟩; refine ⟨_, rfl, ?_⟩; have HO389 := xM (Kd.R_lower (Kd.R_new' (Kd.R_new' ho0 (xL (yR HO378))) (xL (yR HO383))) (keep_size (w := w) (g := g) (row := none) (by repeat (first | (with_reducible first | exact HK.out | apply KeepBut.set_ | apply keep_drewN | apply keep_drew | apply keep_alloc | refine keep_far ?_ GW375.out _) | exact HK.out)))); replace HO378 := xM (Kd.R_elder' (yR HO378) (Kd.R_base ho0) hb); replace HO383 := xM (Kd.R_elder' (yR HO383) (Kd.R_base ho0) hb); replace BK375 := xM (xB (yb BK375) hb); replace HK := xM (KeepBut.trans (by repeat (first | (with_reducible first | exact HK.out | apply KeepBut.set_ | apply keep_drewN | apply keep_drew | apply keep_alloc | refine keep_far ?_ GW375.out _) | exact HK.out)) (KeepBut.of_below hb g none) (.inl rfl)); replace HB := xM (below_step (by repeat (first | (with_reducible first | exact HB.out | apply xa | apply xn | apply xd | refine xs ?_ (IsS116.ge HI0.out) | refine xs ?_ GE375.out) | exact HB.out)) hb); replace HI0 := xM (IsS116.below (by (try simp only [Int.add_zero]); repeat (first | (with_reducible first | exact HI0.out | apply IsS116.alloc | apply IsS116.drewN | apply IsS116.drew | apply IsS116.set_1 | apply IsS116.set_2 | refine IsS116.far ?_ NB0_375.out _) | exact HI0.out)) hb); (try clear hb); (try clear ho0)) | ((with_reducible refine gate_dst (N := 7) rfl ?_); refine box_event ?hg (N := 7) ?hd (cs := #[.int .i64 0, .slice none 0 0]) (t := 33) ?hr ?_; (case hd => rfl); (case hg => rfl); (case hr => first | (go_simp; done) | (go_simp; rfl)); intro gb391 hg w12 hbox hb; have BK391 := xM (hbox); have GW391 := xM ((by rw [hg]; exact (keep_size (w := w) (g := g) (row := none) (by repeat (first | (with_reducible first | exact HK.out | apply KeepBut.set_ | apply keep_drewN | apply keep_drew | apply keep_alloc | refine keep_far ?_ GW375.out _) | exact HK.out))) : w.heap.size ≤ gb391)); have GE391 := xM ((Nat.le_trans HW0.out (by rw [hg]; exact (keep_size (w := w) (g := g) (row := none) (by repeat (first | (with_reducible first | exact HK.out | apply KeepBut.set_ | apply keep_drewN | apply keep_drew | apply keep_alloc | refine keep_far ?_ GW375.out _) | exact HK.out))) : w.heap.size ≤ gb391) : w0.heap.size ≤ gb391)); have NB375_391 := xM ((by rw [hg]; exact Nat.ne_of_lt (blk_lt (yb BK375)) : gb375 ≠ gb391)); have NB391_375 := xM ((by rw [hg]; exact Nat.ne_of_gt (blk_lt (yb BK375)) : gb391 ≠ gb375)); have NB0_391 := xM ((by rw [hg]; exact Nat.ne_of_lt (IsS116.lt (show IsS116 w0 _ g s0_0 t384 t385 from by (try simp only [Int.add_zero]); repeat (first | (with_reducible first | exact HI0.out | apply IsS116.alloc | apply IsS116.drewN | apply IsS116.drew | apply IsS116.set_1 | apply IsS116.set_2 | refine IsS116.far ?_ NB0_375.out _) | exact HI0.out))) : g ≠ gb391)); have NB391_0 := xM ((by rw [hg]; exact Nat.ne_of_gt (IsS116.lt (show IsS116 w0 _ g s0_0 t384 t385 from by (try simp only [Int.add_zero]); repeat (first | (with_reducible first | exact HI0.out | apply IsS116.alloc | apply IsS116.drewN | apply IsS116.drew | apply IsS116.set_1 | apply IsS116.set_2 | refine IsS116.far ?_ NB0_375.out _) | exact HI0.out))) : gb391 ≠ g)); replace HO378 := xM (xW (yR HO378) hb); replace HO383 := xM (xW (yR HO383) hb); replace HO389 := xM (xW (yR HO389) hb); replace BK375 := xM (xB (yb BK375) hb); replace HK := xM (KeepBut.trans (by repeat (first | (with_reducible first | exact HK.out | apply KeepBut.set_ | apply keep_drewN | apply keep_drew | apply keep_alloc | refine keep_far ?_ GW375.out _) | exact HK.out)) (KeepBut.of_below hb g none) (.inl rfl)); replace HB := xM (below_step (by repeat (first | (with_reducible first | exact HB.out | apply xa | apply xn | apply xd | refine xs ?_ (IsS116.ge HI0.out) | refine xs ?_ GE375.out) | exact HB.out)) hb); replace HI0 := xM (IsS116.below (by (try simp only [Int.add_zero]); repeat (first | (with_reducible first | exact HI0.out | apply IsS116.alloc | apply IsS116.drewN | apply IsS116.drew | apply IsS116.set_1 | apply IsS116.set_2 | refine IsS116.far ?_ NB0_375.out _) | exact HI0.out)) hb); clear hb hbox hg; have hnb13 := NB391_375.out; have hnc13 := NB375_391.out; have hnb14 := NB391_0.out; have hnc14 := NB0_391.out; have hcz15_0 : w12.cell? ⟨gb391, 0, none⟩ = some (.int .i64 0) := (blk_cell BK391.out 0).trans rfl; have hcz15_1 : w12.cell? ⟨gb391, 1, none⟩ = some (.slice none 0 0) := (blk_cell BK391.out 1).trans rfl; have hfz15_0 := blk_frozen BK391.out 0; have hfz15_1 := blk_frozen BK391.out 1; obtain ⟨Ao16, co16, eo16⟩ := Kd.R_slice HO389.out; subst eo16))
  (try simp only [Act.put, List.setIfInBounds_toArray, List.set_cons_zero, List.set_cons_succ])
  go_cut [] (fun wc => ∃ (kq : Nat) (x1001_4 : Int) (x1002_4 : Int) (x392000_4 : Int) (x392001_4 : List Int) (u392001 : Value), Aside0 (spec_l1Cur_coded.j0 kq t376 t381 s0_0 x1001_4 x1002_4 x392000_4 x392001_4 = some (r1, r2, r3, r4, r5, r6)) ∧ Aside0 (kq ≤ k) ∧ Aside0 (Kd.R (Kd.int .i64) 3 wc w.heap.size (fun k_ => some k_ ≠ ((.slice Ao10 t381.length co10) : Value).ownBlock ∧ some k_ ≠ (u392001 : Value).ownBlock) (.slice Ao8 t376.length co8) t376) ∧ Aside0 (Kd.R (Kd.int .i64) 3 wc w.heap.size (fun k_ => some k_ ≠ ((.slice Ao8 t376.length co8) : Value).ownBlock ∧ some k_ ≠ (u392001 : Value).ownBlock) (.slice Ao10 t381.length co10) t381) ∧ Aside0 (Kd.R (Kd.int .i64) 3 wc w.heap.size (fun k_ => some k_ ≠ ((.slice Ao8 t376.length co8) : Value).ownBlock ∧ some k_ ≠ ((.slice Ao10 t381.length co10) : Value).ownBlock) u392001 x392001_4) ∧ Aside0 (wc.heap[gb375]? = some (.cells #[.int .i64 0, (.slice none 0 0)] 33 (0, 0))) ∧ Aside0 (wc.heap[gb391]? = some (.cells #[.int .i64 x392000_4, u392001] 33 (0, 0))) ∧ Aside0 (IsS116 w0 wc g s0_0 x1001_4 x1002_4) ∧ Aside0 (KeepBut w wc g none) ∧ Aside0 (Below w0.heap.size w0 wc))
  case first =>
   have H := HC5.out
   clear HC5
   by_cases c17 : t390 = true
   ·subst c17
    have H1 : (spec_l1Cur_coded.j0 k t376 t381 s0_0 t384 t385 t386 t387) = some (r1, r2, r3, r4, r5, r6) := by rw [if_pos rfl] at H; exact H
    clear H
    have H := H1
    clear H1
    have H' := Aside0.mk H
    clear H
    go_wp2
    go_meet
    case rel => exact ⟨_, (t384), (t385), (t386), (t387), (.slice Ao16 t387.length co16), H', ⟨by first | omega | exact Nat.le_refl _⟩, ⟨by (with_reducible repeat (first | apply xRA | apply xRN | apply xRD)); exact xO (xF (p := ⟨gb391, 1, none⟩) (xF (p := ⟨gb391, 0, none⟩) (Kd.R_types HO378.out BK391.out (by decide)) (fun _ hk => hk.2) (.int .i64 t386)) (fun _ hk => hk.2) (.slice Ao16 t387.length co16)) (fun _ hk => ⟨hk.1.1.2, hk.1.2⟩)⟩, ⟨by (with_reducible repeat (first | apply xRA | apply xRN | apply xRD)); exact xO (xF (p := ⟨gb391, 1, none⟩) (xF (p := ⟨gb391, 0, none⟩) (Kd.R_types HO383.out BK391.out (by decide)) (fun _ hk => hk.2) (.int .i64 t386)) (fun _ hk => hk.2) (.slice Ao16 t387.length co16)) (fun _ hk => ⟨hk.1.1.2, hk.1.2⟩)⟩, ⟨by (with_reducible repeat (first | apply xRA | apply xRN | apply xRD)); exact xO (xF (p := ⟨gb391, 1, none⟩) (xF (p := ⟨gb391, 0, none⟩) (Kd.R_types HO389.out BK391.out (by decide)) (fun _ hk => hk.2) (.int .i64 t386)) (fun _ hk => hk.2) (.slice Ao16 t387.length co16)) (fun _ hk => ⟨hk.1.1.2, hk.1.2⟩)⟩, ⟨by (with_reducible repeat (first | apply xbN | apply xbD | apply xbA)); refine blk_far ?_ NB375_391.out _; (with_reducible repeat (first | apply xbN | apply xbD | apply xbA)); refine blk_far ?_ NB375_391.out _; (with_reducible repeat (first | apply xbN | apply xbD | apply xbA)); exact BK375.out⟩, ⟨by (with_reducible repeat (first | apply xbN | apply xbD | apply xbA)); refine blk_put (cs := #[.int .i64 t386, .slice none 0 0]) ?_ 1 _ rfl; (with_reducible repeat (first | apply xbN | apply xbD | apply xbA)); refine blk_put (cs := #[.int .i64 0, .slice none 0 0]) ?_ 0 _ rfl; (with_reducible repeat (first | apply xbN | apply xbD | apply xbA)); exact BK391.out⟩, ⟨by (try simp only [Int.add_zero]); repeat (first | (with_reducible first | exact HI0.out | apply IsS116.alloc | apply IsS116.drewN | apply IsS116.drew | apply IsS116.set_1 | apply IsS116.set_2 | refine IsS116.far ?_ NB0_375.out _ | refine IsS116.far ?_ NB0_391.out _) | exact HI0.out)⟩, ⟨by repeat (first | (with_reducible first | exact HK.out | apply KeepBut.set_ | apply keep_drewN | apply keep_drew | apply keep_alloc | refine keep_far ?_ GW375.out _ | refine keep_far ?_ GW391.out _) | exact HK.out)⟩, ⟨by repeat (first | (with_reducible first | exact HB.out | apply xa | apply xn | apply xd | refine xs ?_ (IsS116.ge HI0.out) | refine xs ?_ GE375.out | refine xs ?_ GE391.out) | exact HB.out)⟩⟩
   ·replace c17 := Bool.eq_false_iff.mpr c17
    subst c17
    have H1 : ((spec_l1Cur_pick.f s0_0 t384 t385 500).bind fun bt392 => ((spec_l1Cur_pick.f s0_0 bt392.2.1 bt392.2.2 17).bind fun bt395 => (spec_l1Cur_coded.j0 k t376 t381 s0_0 bt395.2.1 bt395.2.2 (wrap64 (4096 + bt392.1)) (([bt395.1] : List Int))))) = some (r1, r2, r3, r4, r5, r6) := by rw [if_neg (show ¬ (false = true) by decide)] at H; exact H
    clear H
    have H := H1
    clear H1
    replace H := Option.bind_eq_some_iff.mp H
    obtain ⟨⟨t392, t393, t394⟩, A180, H⟩ := H
    replace H : ((spec_l1Cur_pick.f s0_0 t393 t394 17).bind fun bt395 => (spec_l1Cur_coded.j0 k t376 t381 s0_0 bt395.2.1 bt395.2.2 (wrap64 (4096 + t392)) (([bt395.1] : List Int)))) = some (r1, r2, r3, r4, r5, r6) := H
    have A18 := Aside0.mk A180
    clear A180
    replace H := Option.bind_eq_some_iff.mp H
    obtain ⟨⟨t395, t396, t397⟩, A190, H⟩ := H
    replace H : (spec_l1Cur_coded.j0 k t376 t381 s0_0 t396 t397 (wrap64 (4096 + t392)) (([t395] : List Int))) = some (r1, r2, r3, r4, r5, r6) := H
    have A19 := Aside0.mk A190
    clear A190
    obtain ⟨y398, hy398⟩ : ∃ y_ : List Int, y_ = (([t395] : List Int)) := ⟨_, rfl⟩
    replace H : (spec_l1Cur_coded.j0 k t376 t381 s0_0 t396 t397 (wrap64 (4096 + t392)) y398) = some (r1, r2, r3, r4, r5, r6) := by first | (rw [hy398]; with_reducible exact H) | (have H2_ := (Option.bind_some _ _).symm.trans H; rw [hy398]; with_reducible exact H2_) | (have H2_ := (Option.bind_some _ _).symm.trans H; with_reducible exact H2_) | with_reducible exact H | (rw [hy398]; exact H) | exact H
    have Ny398 := Aside0.mk hy398
    clear hy398
    have H' := Aside0.mk H
    clear H
    go_wp2_with (first | ((with_reducible refine gate_callee (f := 100) rfl ?_); refine goesL_ (some 24) rfl rfl Try.func100 (by kernel_rfl) rfl #[.pointer (some ⟨g, 0, none⟩), .int .i64 500] rfl (by (try simp only [List.map_toArray, List.map_cons, List.map_nil]); first | done | rfl | (simp only [List.length_drop, List.length_take]; rfl)) ?_; (with_reducible refine (spec_l1Cur_pick.calls g s0_0 t384 t385 500 t392 t393 t394 w0 _ ?side1 ?side2 A18.out).mono ?_); (case side1 => repeat (first | (with_reducible first | exact HI0.out | apply IsS116.alloc | apply IsS116.drewN | apply IsS116.drew | apply IsS116.set_1 | apply IsS116.set_2 | refine IsS116.far ?_ NB0_375.out _ | refine IsS116.far ?_ NB0_391.out _) | exact HI0.out)); (case side2 => repeat (first | (with_reducible first | exact HB.out | apply xa | apply xn | apply xd | refine xs ?_ (IsS116.ge HI0.out) | refine xs ?_ GE375.out | refine xs ?_ GE391.out) | exact HB.out)); rintro e w20 ⟨rfl, hi, hb, hk⟩; refine ⟨_, rfl, ?_⟩; replace BK375 := xM (KeepBut.blk hk (g' := gb375) (o := .cells #[.int .i64 0, .slice none 0 0] 33 (0, 0)) (by (with_reducible repeat (first | apply xbN | apply xbD | apply xbA)); refine blk_far ?_ NB375_391.out _; (with_reducible repeat (first | apply xbN | apply xbD | apply xbA)); refine blk_far ?_ NB375_391.out _; (with_reducible repeat (first | apply xbN | apply xbD | apply xbA)); exact BK375.out) NB375_0.out (by simp)); replace HO378 := xM (xO (Kd.R_keep (IsS116.apart (show IsS116 w0 _ g s0_0 t384 t385 from by (try simp only [Int.add_zero]); repeat (first | (with_reducible first | exact HI0.out | apply IsS116.alloc | apply IsS116.drewN | apply IsS116.drew | apply IsS116.set_1 | apply IsS116.set_2 | refine IsS116.far ?_ NB0_375.out _ | refine IsS116.far ?_ NB0_391.out _) | exact HI0.out)) (by (with_reducible repeat (first | apply xRA | apply xRN | apply xRD)); exact (xO (xF (p := ⟨gb391, 1, none⟩) (xF (p := ⟨gb391, 0, none⟩) (Kd.R_types HO378.out BK391.out (by decide)) (fun _ hk => hk.2) (.int .i64 t386)) (fun _ hk => hk.2) (.slice Ao16 t387.length co16)) (fun _ h_ => h_.1))) (by decide)) hk (fun _ h => h.2)) (fun _ h => h.1)); replace HO383 := xM (xO (Kd.R_keep (IsS116.apart (show IsS116 w0 _ g s0_0 t384 t385 from by (try simp only [Int.add_zero]); repeat (first | (with_reducible first | exact HI0.out | apply IsS116.alloc | apply IsS116.drewN | apply IsS116.drew | apply IsS116.set_1 | apply IsS116.set_2 | refine IsS116.far ?_ NB0_375.out _ | refine IsS116.far ?_ NB0_391.out _) | exact HI0.out)) (by (with_reducible repeat (first | apply xRA | apply xRN | apply xRD)); exact (xO (xF (p := ⟨gb391, 1, none⟩) (xF (p := ⟨gb391, 0, none⟩) (Kd.R_types HO383.out BK391.out (by decide)) (fun _ hk => hk.2) (.int .i64 t386)) (fun _ hk => hk.2) (.slice Ao16 t387.length co16)) (fun _ h_ => h_.1))) (by decide)) hk (fun _ h => h.2)) (fun _ h => h.1)); replace HO389 := xM (xO (Kd.R_keep (IsS116.apart (show IsS116 w0 _ g s0_0 t384 t385 from by (try simp only [Int.add_zero]); repeat (first | (with_reducible first | exact HI0.out | apply IsS116.alloc | apply IsS116.drewN | apply IsS116.drew | apply IsS116.set_1 | apply IsS116.set_2 | refine IsS116.far ?_ NB0_375.out _ | refine IsS116.far ?_ NB0_391.out _) | exact HI0.out)) (by (with_reducible repeat (first | apply xRA | apply xRN | apply xRD)); exact (xO (xF (p := ⟨gb391, 1, none⟩) (xF (p := ⟨gb391, 0, none⟩) (Kd.R_types HO389.out BK391.out (by decide)) (fun _ hk => hk.2) (.int .i64 t386)) (fun _ hk => hk.2) (.slice Ao16 t387.length co16)) (fun _ h_ => h_.1))) (by decide)) hk (fun _ h => h.2)) (fun _ h => h.1)); replace BK391 := xM (KeepBut.blk hk (g' := gb391) (o := .cells #[.int .i64 t386, .slice Ao16 t387.length co16] 33 (0, 0)) (by (with_reducible repeat (first | apply xbN | apply xbD | apply xbA)); refine blk_put (cs := #[.int .i64 t386, .slice none 0 0]) ?_ 1 _ rfl; (with_reducible repeat (first | apply xbN | apply xbD | apply xbA)); refine blk_put (cs := #[.int .i64 0, .slice none 0 0]) ?_ 0 _ rfl; (with_reducible repeat (first | apply xbN | apply xbD | apply xbA)); exact BK391.out) NB391_0.out (by simp)); replace HK := xM (KeepBut.trans (by repeat (first | (with_reducible first | exact HK.out | apply KeepBut.set_ | apply keep_drewN | apply keep_drew | apply keep_alloc | refine keep_far ?_ GW375.out _ | refine keep_far ?_ GW391.out _) | exact HK.out)) hk (.inl rfl)); replace HB := xM (hb); replace HI0 := xM (hi); (try clear hb)) | ((with_reducible refine gate_callee (f := 100) rfl ?_); refine goesL_ (some 27) rfl rfl Try.func100 (by kernel_rfl) rfl #[.pointer (some ⟨g, 0, none⟩), .int .i64 17] rfl (by (try simp only [List.map_toArray, List.map_cons, List.map_nil]); first | done | rfl | (simp only [List.length_drop, List.length_take]; rfl)) ?_; (with_reducible refine (spec_l1Cur_pick.calls g s0_0 t393 t394 17 t395 t396 t397 w0 _ ?side1 ?side2 A19.out).mono ?_); (case side1 => repeat (first | (with_reducible first | exact HI0.out | apply IsS116.alloc | apply IsS116.drewN | apply IsS116.drew | apply IsS116.set_1 | apply IsS116.set_2 | refine IsS116.far ?_ NB0_375.out _ | refine IsS116.far ?_ NB0_391.out _) | exact HI0.out)); (case side2 => repeat (first | (with_reducible first | exact HB.out | apply xa | apply xn | apply xd | refine xs ?_ (IsS116.ge HI0.out) | refine xs ?_ GE375.out | refine xs ?_ GE391.out) | exact HB.out)); rintro e w21 ⟨rfl, hi, hb, hk⟩; refine ⟨_, rfl, ?_⟩; replace BK375 := xM (KeepBut.blk hk (g' := gb375) (o := .cells #[.int .i64 0, .slice none 0 0] 33 (0, 0)) (yb BK375) NB375_0.out (by simp)); replace HO378 := xM (xO (Kd.R_keep (IsS116.apart (show IsS116 w0 _ g s0_0 t393 t394 from by (try simp only [Int.add_zero]); repeat (first | (with_reducible first | exact HI0.out | apply IsS116.alloc | apply IsS116.drewN | apply IsS116.drew | apply IsS116.set_1 | apply IsS116.set_2 | refine IsS116.far ?_ NB0_375.out _ | refine IsS116.far ?_ NB0_391.out _) | exact HI0.out)) (yR HO378) (by decide)) hk (fun _ h => h.2)) (fun _ h => h.1)); replace HO383 := xM (xO (Kd.R_keep (IsS116.apart (show IsS116 w0 _ g s0_0 t393 t394 from by (try simp only [Int.add_zero]); repeat (first | (with_reducible first | exact HI0.out | apply IsS116.alloc | apply IsS116.drewN | apply IsS116.drew | apply IsS116.set_1 | apply IsS116.set_2 | refine IsS116.far ?_ NB0_375.out _ | refine IsS116.far ?_ NB0_391.out _) | exact HI0.out)) (yR HO383) (by decide)) hk (fun _ h => h.2)) (fun _ h => h.1)); replace HO389 := xM (xO (Kd.R_keep (IsS116.apart (show IsS116 w0 _ g s0_0 t393 t394 from by (try simp only [Int.add_zero]); repeat (first | (with_reducible first | exact HI0.out | apply IsS116.alloc | apply IsS116.drewN | apply IsS116.drew | apply IsS116.set_1 | apply IsS116.set_2 | refine IsS116.far ?_ NB0_375.out _ | refine IsS116.far ?_ NB0_391.out _) | exact HI0.out)) (yR HO389) (by decide)) hk (fun _ h => h.2)) (fun _ h => h.1)); replace BK391 := xM (KeepBut.blk hk (g' := gb391) (o := .cells #[.int .i64 t386, .slice Ao16 t387.length co16] 33 (0, 0)) (yb BK391) NB391_0.out (by simp)); replace HK := xM (KeepBut.trans (by repeat (first | (with_reducible first | exact HK.out | apply KeepBut.set_ | apply keep_drewN | apply keep_drew | apply keep_alloc | refine keep_far ?_ GW375.out _ | refine keep_far ?_ GW391.out _) | exact HK.out)) hk (.inl rfl)); replace HB := xM (hb); replace HI0 := xM (hi); (try clear hb)) | ((with_reducible refine gate_dst (N := 28) rfl ?_); refine Kd.R_lit (Kd.int .i64) _ 3 ?hg (N := 28) ?hd (xs := ([t395] : List Int)) (inner := [.int .i64 t395]) (ok := fun _ => True) (okp := fun _ => True) ?hr ?hp (fun _ hk => hk) trivial (Below.refl _ _) (Nat.le_refl _) (by simp) ?_; (case hd => rfl); (case hg => rfl); (case hr => first | (go_simp; done) | (go_simp; rfl)); (case hp => exact (Reps.one (show Kd.M (Kd.int .i64) _ _ _ t395 [.int .i64 t395] from rfl) (Reps.none _ _))); intro v399 w22 ho23 hb hg_ hnew_; clear hg_ hnew_; (first | rw [← Ny398.out] at ho23 | (simp only [Int.reduceToNat] at ho23; rw [← Ny398.out] at ho23)); have HO400 := xM (Kd.R_lower (Kd.R_new' (Kd.R_new' (Kd.R_new' ho23 (xL (yR HO378))) (xL (yR HO383))) (xL (yR HO389))) (keep_size (w := w) (g := g) (row := none) (by repeat (first | (with_reducible first | exact HK.out | apply KeepBut.set_ | apply keep_drewN | apply keep_drew | apply keep_alloc | refine keep_far ?_ GW375.out _ | refine keep_far ?_ GW391.out _) | exact HK.out)))); replace HO378 := xM (Kd.R_elder' (yR HO378) (Kd.R_base ho23) hb); replace HO383 := xM (Kd.R_elder' (yR HO383) (Kd.R_base ho23) hb); replace HO389 := xM (Kd.R_elder' (yR HO389) (Kd.R_base ho23) hb); replace BK375 := xM (xB (yb BK375) hb); replace BK391 := xM (xB (yb BK391) hb); replace HK := xM (KeepBut.trans (by repeat (first | (with_reducible first | exact HK.out | apply KeepBut.set_ | apply keep_drewN | apply keep_drew | apply keep_alloc | refine keep_far ?_ GW375.out _ | refine keep_far ?_ GW391.out _) | exact HK.out)) (KeepBut.of_below hb g none) (.inl rfl)); replace HB := xM (below_step (by repeat (first | (with_reducible first | exact HB.out | apply xa | apply xn | apply xd | refine xs ?_ (IsS116.ge HI0.out) | refine xs ?_ GE375.out | refine xs ?_ GE391.out) | exact HB.out)) hb); replace HI0 := xM (IsS116.below (by (try simp only [Int.add_zero]); repeat (first | (with_reducible first | exact HI0.out | apply IsS116.alloc | apply IsS116.drewN | apply IsS116.drew | apply IsS116.set_1 | apply IsS116.set_2 | refine IsS116.far ?_ NB0_375.out _ | refine IsS116.far ?_ NB0_391.out _) | exact HI0.out)) hb); clear hb ho23; obtain ⟨Ao24, co24, eo24⟩ := Kd.R_slice HO400.out; subst eo24; have hnb25 := NB391_375.out; have hnc25 := NB375_391.out; have hnb26 := NB391_0.out; have hnc26 := NB0_391.out; have hcz27_0 : w22.cell? ⟨gb391, 0, none⟩ = some (.int .i64 t386) := (blk_cell BK391.out 0).trans rfl; have hcz27_1 : w22.cell? ⟨gb391, 1, none⟩ = some (.slice Ao16 t387.length co16) := (blk_cell BK391.out 1).trans rfl; have hfz27_0 := blk_frozen BK391.out 0; have hfz27_1 := blk_frozen BK391.out 1))
    go_meet
    case rel => exact ⟨_, (t396), (t397), (wrap64 (4096 + t392)), (y398), (.slice Ao24 y398.length co24), H', ⟨by first | omega | exact Nat.le_refl _⟩, ⟨by (with_reducible repeat (first | apply xRA | apply xRN | apply xRD)); exact xO (xF (p := ⟨gb391, 1, none⟩) (xF (p := ⟨gb391, 0, none⟩) (Kd.R_types HO378.out BK391.out (by decide)) (fun _ hk => hk.2) (.int .i64 (wrap64 (4096 + t392)))) (fun _ hk => hk.2) (.slice Ao24 y398.length co24)) (fun _ hk => ⟨hk.1.1.1.2, hk.1.2⟩)⟩, ⟨by (with_reducible repeat (first | apply xRA | apply xRN | apply xRD)); exact xO (xF (p := ⟨gb391, 1, none⟩) (xF (p := ⟨gb391, 0, none⟩) (Kd.R_types HO383.out BK391.out (by decide)) (fun _ hk => hk.2) (.int .i64 (wrap64 (4096 + t392)))) (fun _ hk => hk.2) (.slice Ao24 y398.length co24)) (fun _ hk => ⟨hk.1.1.1.2, hk.1.2⟩)⟩, ⟨by (with_reducible repeat (first | apply xRA | apply xRN | apply xRD)); exact xO (xF (p := ⟨gb391, 1, none⟩) (xF (p := ⟨gb391, 0, none⟩) (Kd.R_types HO400.out BK391.out (by decide)) (fun _ hk => hk.2) (.int .i64 (wrap64 (4096 + t392)))) (fun _ hk => hk.2) (.slice Ao24 y398.length co24)) (fun _ hk => ⟨hk.1.1.1.2, hk.1.1.2⟩)⟩, ⟨by (with_reducible repeat (first | apply xbN | apply xbD | apply xbA)); refine blk_far ?_ NB375_391.out _; (with_reducible repeat (first | apply xbN | apply xbD | apply xbA)); refine blk_far ?_ NB375_391.out _; (with_reducible repeat (first | apply xbN | apply xbD | apply xbA)); exact BK375.out⟩, ⟨by (with_reducible repeat (first | apply xbN | apply xbD | apply xbA)); refine blk_put (cs := #[.int .i64 (wrap64 (4096 + t392)), .slice Ao16 t387.length co16]) ?_ 1 _ rfl; (with_reducible repeat (first | apply xbN | apply xbD | apply xbA)); refine blk_put (cs := #[.int .i64 t386, .slice Ao16 t387.length co16]) ?_ 0 _ rfl; (with_reducible repeat (first | apply xbN | apply xbD | apply xbA)); exact BK391.out⟩, ⟨by (try simp only [Int.add_zero]); repeat (first | (with_reducible first | exact HI0.out | apply IsS116.alloc | apply IsS116.drewN | apply IsS116.drew | apply IsS116.set_1 | apply IsS116.set_2 | refine IsS116.far ?_ NB0_375.out _ | refine IsS116.far ?_ NB0_391.out _) | exact HI0.out)⟩, ⟨by repeat (first | (with_reducible first | exact HK.out | apply KeepBut.set_ | apply keep_drewN | apply keep_drew | apply keep_alloc | refine keep_far ?_ GW375.out _ | refine keep_far ?_ GW391.out _) | exact HK.out)⟩, ⟨by repeat (first | (with_reducible first | exact HB.out | apply xa | apply xn | apply xd | refine xs ?_ (IsS116.ge HI0.out) | refine xs ?_ GE375.out | refine xs ?_ GE391.out) | exact HB.out)⟩⟩
  case rest =>
   clear HC5
   try clear c1
   try clear c2
   try clear p2
   try clear p6
   try clear c9
   try clear c10
   try clear c13
   try clear c14
   try clear c17
   try clear c21
   try clear c25
   try clear c26
   try clear hcz15_0
   try clear hcz15_1
   try clear hcz27_0
   try clear hcz27_1
   try clear hfz15_0
   try clear hfz15_1
   try clear hfz27_0
   try clear hfz27_1
   obtain ⟨kq, x1001_4, x1002_4, x392000_4, x392001_4, u392001, HA, HJ4, HO_5, HO_6, HO_392001, BK375, BK391, HI0, HK, HB⟩ := hcut
   cases kq with
   | zero => exact absurd HA.out (by simp [spec_l1Cur_coded.j0])
   | succ kj4 =>
    have H := HA.out
    clear HA
    simp only [spec_l1Cur_coded.j0] at H
    replace H := Option.bind_eq_some_iff.mp H
    obtain ⟨⟨t401, t402, t403⟩, A280, H⟩ := H
    replace H : (if t401 = true then ((spec_l1Cur_pick.f s0_0 t402 t403 9).bind fun bt404 => (some (t376, wrap64 (x392000_4 + (wrap64 (bt404.1 - 4))), x392001_4, (t381.length : Int), bt404.2.1, bt404.2.2))) else (some (t376, x392000_4, x392001_4, (t381.length : Int), t402, t403))) = some (r1, r2, r3, r4, r5, r6) := H
    have A28 := Aside0.mk A280
    clear A280
    by_cases c29 : t401 = true
    ·subst c29
     have H1 : ((spec_l1Cur_pick.f s0_0 t402 t403 9).bind fun bt404 => (some (t376, wrap64 (x392000_4 + (wrap64 (bt404.1 - 4))), x392001_4, (t381.length : Int), bt404.2.1, bt404.2.2))) = some (r1, r2, r3, r4, r5, r6) := by rw [if_pos rfl] at H; exact H
     clear H
     have H := H1
     clear H1
     replace H := Option.bind_eq_some_iff.mp H
     obtain ⟨⟨t404, t405, t406⟩, A300, H⟩ := H
     replace H : (some (t376, wrap64 (x392000_4 + (wrap64 (t404 - 4))), x392001_4, (t381.length : Int), t405, t406)) = some (r1, r2, r3, r4, r5, r6) := H
     have A30 := Aside0.mk A300
     clear A300
     simp only [Option.some.injEq, Prod.mk.injEq] at H
     obtain ⟨rfl, rfl, rfl, rfl, rfl, rfl⟩ := H
     try go_wp2_with (first | ((with_reducible refine gate_callee (f := 97) rfl ?_); refine goesL_ (some 31) rfl rfl Try.func97 (by kernel_rfl) rfl #[.pointer (some ⟨g, 0, none⟩), .int .i64 8] rfl (by (try simp only [List.map_toArray, List.map_cons, List.map_nil]); first | done | rfl | (simp only [List.length_drop, List.length_take]; rfl)) ?_; (with_reducible refine (spec_l1Cur_one.calls g s0_0 x1001_4 x1002_4 8 true t402 t403 w0 _ ?side1 ?side2 A28.out).mono ?_); (case side1 => repeat (first | (with_reducible first | exact HI0.out | apply IsS116.alloc | apply IsS116.drewN | apply IsS116.drew | apply IsS116.set_1 | apply IsS116.set_2 | refine IsS116.far ?_ NB0_375.out _ | refine IsS116.far ?_ NB0_391.out _) | exact HI0.out)); (case side2 => repeat (first | (with_reducible first | exact HB.out | apply xa | apply xn | apply xd | refine xs ?_ (IsS116.ge HI0.out) | refine xs ?_ GE375.out | refine xs ?_ GE391.out) | exact HB.out)); rintro e w31 ⟨rfl, hi, hb, hk⟩; refine ⟨_, rfl, ?_⟩; replace HO_5 := xM (xO (Kd.R_keep (IsS116.apart (show IsS116 w0 _ g s0_0 x1001_4 x1002_4 from by (try simp only [Int.add_zero]); repeat (first | (with_reducible first | exact HI0.out | apply IsS116.alloc | apply IsS116.drewN | apply IsS116.drew | apply IsS116.set_1 | apply IsS116.set_2 | refine IsS116.far ?_ NB0_375.out _ | refine IsS116.far ?_ NB0_391.out _) | exact HI0.out)) (yR HO_5) (by decide)) hk (fun _ h => h.2)) (fun _ h => h.1)); replace HO_6 := xM (xO (Kd.R_keep (IsS116.apart (show IsS116 w0 _ g s0_0 x1001_4 x1002_4 from by (try simp only [Int.add_zero]); repeat (first | (with_reducible first | exact HI0.out | apply IsS116.alloc | apply IsS116.drewN | apply IsS116.drew | apply IsS116.set_1 | apply IsS116.set_2 | refine IsS116.far ?_ NB0_375.out _ | refine IsS116.far ?_ NB0_391.out _) | exact HI0.out)) (yR HO_6) (by decide)) hk (fun _ h => h.2)) (fun _ h => h.1)); replace HO_392001 := xM (xO (Kd.R_keep (IsS116.apart (show IsS116 w0 _ g s0_0 x1001_4 x1002_4 from by (try simp only [Int.add_zero]); repeat (first | (with_reducible first | exact HI0.out | apply IsS116.alloc | apply IsS116.drewN | apply IsS116.drew | apply IsS116.set_1 | apply IsS116.set_2 | refine IsS116.far ?_ NB0_375.out _ | refine IsS116.far ?_ NB0_391.out _) | exact HI0.out)) (yR HO_392001) (by decide)) hk (fun _ h => h.2)) (fun _ h => h.1)); replace BK375 := xM (KeepBut.blk hk (g' := gb375) (o := .cells #[.int .i64 0, .slice none 0 0] 33 (0, 0)) (yb BK375) NB375_0.out (by simp)); replace BK391 := xM (KeepBut.blk hk (g' := gb391) (o := .cells #[.int .i64 x392000_4, u392001] 33 (0, 0)) (yb BK391) NB391_0.out (by simp)); replace HK := xM (KeepBut.trans (by repeat (first | (with_reducible first | exact HK.out | apply KeepBut.set_ | apply keep_drewN | apply keep_drew | apply keep_alloc | refine keep_far ?_ GW375.out _ | refine keep_far ?_ GW391.out _) | exact HK.out)) hk (.inl rfl)); replace HB := xM (hb); replace HI0 := xM (hi); (try clear hb)))
     replace HO_5 := xM (Kd.R_drew HO_5.out)
     replace HO_6 := xM (Kd.R_drew HO_6.out)
     replace HO_392001 := xM (Kd.R_drew HO_392001.out)
     replace BK375 := xM (blk_drew BK375.out)
     replace BK391 := xM (blk_drew BK391.out)
     replace HI0 := xM (IsS116.drew HI0.out)
     replace HK := xM (keep_drew HK.out)
     replace HB := xM (below_drew1 HB.out)
     refine start_ (n := 8) (S := fun w' => w'.cell? ⟨gb391, 0, none⟩ = some (.int .i64 x392000_4) ∧ w'.cell? ⟨gb391, 1, none⟩ = some (u392001)) (ds := [7]) #[false, false, false, false, false, false, false, false] (by kernel_rfl) rfl rfl ⟨(blk_cell BK391.out 0).trans rfl, (blk_cell BK391.out 1).trans rfl⟩ (fun hHeld => ?_); refine with_tabW spec_l1Cur_coded.tab7 spec_l1Cur_coded.bits7 (fun HT_ HW_ => ?_)
     generalize w31.drew = w32 at HO_5 HO_6 HO_392001 BK375 BK391 HI0 HK HB hHeld ⊢
     refine pure_ (i := 0) (N := some 32) (v := ?_) (a' := ?_) #[true, false, false, false, false, false, false, false] rfl rfl (any_of HT_.out (by kernel_rfl)) (fun _ _ _ h => h) (Or.inl ⟨by rfl, ?_⟩) ?_ ?_
     rotate_left
     ·intro w'
      go_simp
      with_reducible rfl
     rotate_left
     ·simp only [Act.put, List.setIfInBounds_toArray, List.set_cons_zero, List.set_cons_succ, i64_w, i32_w]
      rfl
     refine pure_ (i := 2) (N := some 34) (v := ?_) (a' := ?_) #[true, false, true, false, false, false, false, false] rfl rfl (any_of HT_.out (by kernel_rfl)) (fun _ _ _ h => h) (Or.inl ⟨by rfl, ?_⟩) ?_ ?_
     rotate_left
     ·intro w'
      go_simp
      with_reducible rfl
     rotate_left
     ·simp only [Act.put, List.setIfInBounds_toArray, List.set_cons_zero, List.set_cons_succ, i64_w, i32_w]
      rfl
     refine take_ (i := 1) (N := some 33) (v := ?_) (a' := ?_) #[true, true, true, false, false, false, false, false] rfl rfl (take_ofW HT_.out HW_.out (by kernel_rfl)) (fun _ _ _ h => h) (Or.inl ⟨by rfl, ?_⟩) hHeld ?_ ?_
     rotate_left
     ·rintro w' ⟨s0, s1⟩
      go_simp
      with_reducible rfl
     rotate_left
     ·simp only [Act.put, List.setIfInBounds_toArray, List.set_cons_zero, List.set_cons_succ, i64_w, i32_w]
      rfl
     refine one_ (i := 3) (N := some 35) #[true, true, true, true, false, false, false, false] rfl rfl (one_of HT_.out (by kernel_rfl)) (by decide) (fun K hK => ?_)
     refine goes_ Try.func100 (by kernel_rfl) rfl #[.pointer (some ⟨g, 0, none⟩), .int .i64 9] (by rfl) rfl rfl (by (try simp only [List.map_toArray, List.map_cons, List.map_nil]); first | done | rfl | (simp only [List.length_drop, List.length_take]; rfl)) ?_
     with_reducible refine (spec_l1Cur_pick.calls g s0_0 t402 t403 9 t404 t405 t406 w0 _ ?side1 ?side2 A30.out).mono ?_
     (case side1 => repeat (first | (with_reducible first | exact HI0.out | apply IsS116.alloc | apply IsS116.drewN | apply IsS116.drew | apply IsS116.set_1 | apply IsS116.set_2 | refine IsS116.far ?_ NB0_375.out _ | refine IsS116.far ?_ NB0_391.out _) | exact HI0.out))
     (case side2 => repeat (first | (with_reducible first | exact HB.out | apply xa | apply xn | apply xd | refine xs ?_ (IsS116.ge HI0.out) | refine xs ?_ GE375.out | refine xs ?_ GE391.out) | exact HB.out))
     rintro e w33 ⟨rfl, hi, hb, hk⟩
     refine ⟨_, rfl, ?_⟩
     replace HO_5 := xM (xO (Kd.R_keep (IsS116.apart (show IsS116 w0 _ g s0_0 t402 t403 from by (try simp only [Int.add_zero]); repeat (first | (with_reducible first | exact HI0.out | apply IsS116.alloc | apply IsS116.drewN | apply IsS116.drew | apply IsS116.set_1 | apply IsS116.set_2 | refine IsS116.far ?_ NB0_375.out _ | refine IsS116.far ?_ NB0_391.out _) | exact HI0.out)) (yR HO_5) (by decide)) hk (fun _ h => h.2)) (fun _ h => h.1))
     replace HO_6 := xM (xO (Kd.R_keep (IsS116.apart (show IsS116 w0 _ g s0_0 t402 t403 from by (try simp only [Int.add_zero]); repeat (first | (with_reducible first | exact HI0.out | apply IsS116.alloc | apply IsS116.drewN | apply IsS116.drew | apply IsS116.set_1 | apply IsS116.set_2 | refine IsS116.far ?_ NB0_375.out _ | refine IsS116.far ?_ NB0_391.out _) | exact HI0.out)) (yR HO_6) (by decide)) hk (fun _ h => h.2)) (fun _ h => h.1))
     replace HO_392001 := xM (xO (Kd.R_keep (IsS116.apart (show IsS116 w0 _ g s0_0 t402 t403 from by (try simp only [Int.add_zero]); repeat (first | (with_reducible first | exact HI0.out | apply IsS116.alloc | apply IsS116.drewN | apply IsS116.drew | apply IsS116.set_1 | apply IsS116.set_2 | refine IsS116.far ?_ NB0_375.out _ | refine IsS116.far ?_ NB0_391.out _) | exact HI0.out)) (yR HO_392001) (by decide)) hk (fun _ h => h.2)) (fun _ h => h.1))
     replace BK375 := xM (KeepBut.blk hk (g' := gb375) (o := .cells #[.int .i64 0, .slice none 0 0] 33 (0, 0)) (yb BK375) NB375_0.out (by simp))
     replace BK391 := xM (KeepBut.blk hk (g' := gb391) (o := .cells #[.int .i64 x392000_4, u392001] 33 (0, 0)) (yb BK391) NB391_0.out (by simp))
     replace HK := xM (KeepBut.trans (by repeat (first | (with_reducible first | exact HK.out | apply KeepBut.set_ | apply keep_drewN | apply keep_drew | apply keep_alloc | refine keep_far ?_ GW375.out _ | refine keep_far ?_ GW391.out _) | exact HK.out)) hk (.inl rfl))
     replace HB := xM (hb)
     replace HI0 := xM (hi)
     (try clear hb)
     (try clear hb2)
     (try clear hk)
     (try clear hi)
     refine hK.out _ _ ⟨(blk_cell BK391.out 0).trans rfl, (blk_cell BK391.out 1).trans rfl⟩ (fun hHeld => ?_)
     clear hK K
     refine norm_ (a' := ?_) ?_ ?_
     rotate_left
     ·show Act.put _ (some 35) _ = _
      simp only [Act.put, List.setIfInBounds_toArray, List.set_cons_zero, List.set_cons_succ, i64_w, i32_w]
      rfl
     refine pure_ (i := 4) (N := some 36) (v := ?_) (a' := ?_) #[true, true, true, true, true, false, false, false] rfl rfl (any_of HT_.out (by kernel_rfl)) (fun _ _ _ h => h) (Or.inl ⟨by rfl, ?_⟩) ?_ ?_
     rotate_left
     ·intro w'
      go_simp
      with_reducible rfl
     rotate_left
     ·simp only [Act.put, List.setIfInBounds_toArray, List.set_cons_zero, List.set_cons_succ, i64_w, i32_w]
      rfl
     refine pure_ (i := 5) (N := some 37) (v := ?_) (a' := ?_) #[true, true, true, true, true, true, false, false] rfl rfl (any_of HT_.out (by kernel_rfl)) (fun _ _ _ h => h) (Or.inl ⟨by rfl, ?_⟩) ?_ ?_
     rotate_left
     ·intro w'
      go_simp
      with_reducible rfl
     rotate_left
     ·simp only [Act.put, List.setIfInBounds_toArray, List.set_cons_zero, List.set_cons_succ, i64_w, i32_w]
      rfl
     refine pure_ (i := 6) (N := some 38) (v := ?_) (a' := ?_) #[true, true, true, true, true, true, true, false] rfl rfl (any_of HT_.out (by kernel_rfl)) (fun _ _ _ h => h) (Or.inl ⟨by rfl, ?_⟩) ?_ ?_
     rotate_left
     ·intro w'
      go_simp
      with_reducible rfl
     rotate_left
     ·simp only [Act.put, List.setIfInBounds_toArray, List.set_cons_zero, List.set_cons_succ, i64_w, i32_w]
      rfl
     refine last_ (i := 7) (N := none) #[true, true, true, true, true, true, true, true] rfl rfl (one_of HT_.out (by kernel_rfl)) (by decide) (fun K hK => ?_)
     have hs34 : w33.cell? ⟨gb391, 0, none⟩ = some (.int .i64 x392000_4) := (blk_cell BK391.out 0).trans rfl
     have hfs34 := blk_frozen BK391.out 0
     have hns34_0 := NB375_391.out
     have hms34_0 := NB391_375.out
     refine skip_ (w1 := ?_) (by rfl) rfl ?_ ?_
     rotate_left
     ·go_simp
      rfl
     refine hK.out _ _ ?_
     clear hK K
     refine done_ (done_of HT_.out (by kernel_rfl)) ?_
     try go_wp2
     have n0_ : Aside0 (Kd.R (Kd.int .i64) 3 (w33.setCell ⟨gb391, 0, none⟩ (.int .i64 (wrap64 (x392000_4 + (wrap64 (t404 - 4)))))) w.heap.size (fun k_ => some k_ ≠ (.slice Ao10 t381.length co10 : Value).ownBlock ∧ some k_ ≠ (u392001 : Value).ownBlock) (.slice Ao8 t376.length co8) t376) := ⟨by (with_reducible repeat (first | apply xRA | apply xRN | apply xRD)); exact xO (xF (p := ⟨gb391, 0, none⟩) (Kd.R_types HO_5.out BK391.out (by decide)) (fun _ hk => hk.2) (.int .i64 (wrap64 (x392000_4 + (wrap64 (t404 - 4)))))) (fun _ hk => ⟨hk.1.1, hk.1.2⟩)⟩
     have n1_ : Aside0 (Kd.R (Kd.int .i64) 3 (w33.setCell ⟨gb391, 0, none⟩ (.int .i64 (wrap64 (x392000_4 + (wrap64 (t404 - 4)))))) w.heap.size (fun k_ => some k_ ≠ (.slice Ao8 t376.length co8 : Value).ownBlock ∧ some k_ ≠ (u392001 : Value).ownBlock) (.slice Ao10 t381.length co10) t381) := ⟨by (with_reducible repeat (first | apply xRA | apply xRN | apply xRD)); exact xO (xF (p := ⟨gb391, 0, none⟩) (Kd.R_types HO_6.out BK391.out (by decide)) (fun _ hk => hk.2) (.int .i64 (wrap64 (x392000_4 + (wrap64 (t404 - 4)))))) (fun _ hk => ⟨hk.1.1, hk.1.2⟩)⟩
     have n2_ : Aside0 (Kd.R (Kd.int .i64) 3 (w33.setCell ⟨gb391, 0, none⟩ (.int .i64 (wrap64 (x392000_4 + (wrap64 (t404 - 4)))))) w.heap.size (fun k_ => some k_ ≠ (.slice Ao8 t376.length co8 : Value).ownBlock ∧ some k_ ≠ (.slice Ao10 t381.length co10 : Value).ownBlock) u392001 x392001_4) := ⟨by (with_reducible repeat (first | apply xRA | apply xRN | apply xRD)); exact xO (xF (p := ⟨gb391, 0, none⟩) (Kd.R_types HO_392001.out BK391.out (by decide)) (fun _ hk => hk.2) (.int .i64 (wrap64 (x392000_4 + (wrap64 (t404 - 4)))))) (fun _ hk => ⟨hk.1.1, hk.1.2⟩)⟩
     have n3_ : Aside0 ((w33.setCell ⟨gb391, 0, none⟩ (.int .i64 (wrap64 (x392000_4 + (wrap64 (t404 - 4)))))).heap[gb375]? = some (.cells #[.int .i64 0, .slice none 0 0] 33 (0, 0))) := ⟨by (with_reducible repeat (first | apply xbN | apply xbD | apply xbA)); refine blk_far ?_ NB375_391.out _; (with_reducible repeat (first | apply xbN | apply xbD | apply xbA)); exact BK375.out⟩
     have n4_ : Aside0 ((w33.setCell ⟨gb391, 0, none⟩ (.int .i64 (wrap64 (x392000_4 + (wrap64 (t404 - 4)))))).heap[gb391]? = some (.cells #[.int .i64 (wrap64 (x392000_4 + (wrap64 (t404 - 4)))), u392001] 33 (0, 0))) := ⟨by (with_reducible repeat (first | apply xbN | apply xbD | apply xbA)); refine blk_put (cs := #[.int .i64 x392000_4, u392001]) ?_ 0 _ rfl; (with_reducible repeat (first | apply xbN | apply xbD | apply xbA)); exact BK391.out⟩
     have n5_ : Aside0 (IsS116 w0 (w33.setCell ⟨gb391, 0, none⟩ (.int .i64 (wrap64 (x392000_4 + (wrap64 (t404 - 4)))))) g s0_0 t405 t406) := ⟨by (try simp only [Int.add_zero]); repeat (first | (with_reducible first | exact HI0.out | apply IsS116.alloc | apply IsS116.drewN | apply IsS116.drew | apply IsS116.set_1 | apply IsS116.set_2 | refine IsS116.far ?_ NB0_375.out _ | refine IsS116.far ?_ NB0_391.out _) | exact HI0.out)⟩
     have n6_ : Aside0 (KeepBut w (w33.setCell ⟨gb391, 0, none⟩ (.int .i64 (wrap64 (x392000_4 + (wrap64 (t404 - 4)))))) g none) := ⟨by repeat (first | (with_reducible first | exact HK.out | apply KeepBut.set_ | apply keep_drewN | apply keep_drew | apply keep_alloc | refine keep_far ?_ GW375.out _ | refine keep_far ?_ GW391.out _) | exact HK.out)⟩
     have n7_ : Aside0 (Below w0.heap.size w0 (w33.setCell ⟨gb391, 0, none⟩ (.int .i64 (wrap64 (x392000_4 + (wrap64 (t404 - 4))))))) := ⟨by repeat (first | (with_reducible first | exact HB.out | apply xa | apply xn | apply xd | refine xs ?_ (IsS116.ge HI0.out) | refine xs ?_ GE375.out | refine xs ?_ GE391.out) | exact HB.out)⟩
     (try clear HO_5)
     (try clear HO_6)
     (try clear HO_392001)
     (try clear BK375)
     (try clear BK391)
     (try clear HI0)
     (try clear HK)
     (try clear HB)
     generalize (w33.setCell ⟨gb391, 0, none⟩ (.int .i64 (wrap64 (x392000_4 + (wrap64 (t404 - 4)))))) = w35 at n0_ n1_ n2_ n3_ n4_ n5_ n6_ n7_ ⊢
     have HO_5 := n0_
     have HO_6 := n1_
     have HO_392001 := n2_
     have BK375 := n3_
     have BK391 := n4_
     have HI0 := n5_
     have HK := n6_
     have HB := n7_
     clear n0_ n1_ n2_ n3_ n4_ n5_ n6_ n7_
     replace HO_5 := xM (Kd.R_drew HO_5.out)
     replace HO_6 := xM (Kd.R_drew HO_6.out)
     replace HO_392001 := xM (Kd.R_drew HO_392001.out)
     replace BK375 := xM (blk_drew BK375.out)
     replace BK391 := xM (blk_drew BK391.out)
     replace HI0 := xM (IsS116.drew HI0.out)
     replace HK := xM (keep_drew HK.out)
     replace HB := xM (below_drew1 HB.out)
     obtain ⟨Ao38, co38, eo38⟩ := Kd.R_slice HO_392001.out
     (first | subst eo38 | (injection eo38 with f1_ f2_ f3_; have f4_ := f1_.symm; have f5_ := f3_.symm; clear f1_ f2_ f3_; subst f4_; subst f5_))
     refine start_ (n := 7) (S := fun w' => w'.cell? ⟨gb391, 0, none⟩ = some (.int .i64 (wrap64 (x392000_4 + (wrap64 (t404 - 4))))) ∧ w'.cell? ⟨gb391, 1, none⟩ = some (.slice Ao38 x392001_4.length co38)) (ds := []) #[false, false, false, false, false, false, false] (by kernel_rfl) rfl rfl ⟨(blk_cell BK391.out 0).trans rfl, (blk_cell BK391.out 1).trans rfl⟩ (fun hHeld => ?_)
     generalize w35.drew = w36 at HO_5 HO_6 HO_392001 BK375 BK391 HI0 HK HB hHeld ⊢
     refine pure_ (i := 0) (N := some 39) (v := ?_) (a' := ?_) #[true, false, false, false, false, false, false] rfl rfl (by kernel_rfl) (fun _ _ _ h => h) (Or.inl ⟨by rfl, ?_⟩) ?_ ?_
     rotate_left
     ·intro w'
      go_simp
      with_reducible rfl
     rotate_left
     ·simp only [Act.put, List.setIfInBounds_toArray, List.set_cons_zero, List.set_cons_succ, i64_w, i32_w]
      rfl
     refine pure_ (i := 2) (N := some 41) (v := ?_) (a' := ?_) #[true, false, true, false, false, false, false] rfl rfl (by kernel_rfl) (fun _ _ _ h => h) (Or.inl ⟨by rfl, ?_⟩) ?_ ?_
     rotate_left
     ·intro w'
      go_simp
      with_reducible rfl
     rotate_left
     ·simp only [Act.put, List.setIfInBounds_toArray, List.set_cons_zero, List.set_cons_succ, i64_w, i32_w]
      rfl
     refine pure_ (i := 3) (N := some 42) (v := ?_) (a' := ?_) #[true, false, true, true, false, false, false] rfl rfl (by kernel_rfl) (fun _ _ _ h => h) (Or.inl ⟨by rfl, ?_⟩) ?_ ?_
     rotate_left
     ·intro w'
      go_simp
      with_reducible rfl
     rotate_left
     ·simp only [Act.put, List.setIfInBounds_toArray, List.set_cons_zero, List.set_cons_succ, i64_w, i32_w]
      rfl
     refine pure_ (i := 4) (N := some 2) (v := ?_) (a' := ?_) #[true, false, true, true, true, false, false] rfl rfl (by kernel_rfl) (fun _ _ _ h => h) (Or.inl ⟨by rfl, ?_⟩) ?_ ?_
     rotate_left
     ·intro w'
      go_simp
      with_reducible rfl
     rotate_left
     ·simp only [Act.put, List.setIfInBounds_toArray, List.set_cons_zero, List.set_cons_succ, i64_w, i32_w]
      rfl
     refine take_ (i := 1) (N := some 40) (v := ?_) (a' := ?_) #[true, true, true, true, true, false, false] rfl rfl (by kernel_rfl) (fun _ _ _ h => h) (Or.inl ⟨by rfl, ?_⟩) hHeld ?_ ?_
     rotate_left
     ·rintro w' ⟨s0, s1⟩
      go_simp
      with_reducible rfl
     rotate_left
     ·simp only [Act.put, List.setIfInBounds_toArray, List.set_cons_zero, List.set_cons_succ, i64_w, i32_w]
      rfl
     refine one_ (i := 5) (N := none) #[true, true, true, true, true, true, false] rfl rfl (by kernel_rfl) (by decide) (fun K hK => ?_)
     have hs37 : w36.cell? ⟨gb375, 0, none⟩ = some (.int .i64 0) := (blk_cell BK375.out 0).trans rfl
     have hfs37 := blk_frozen BK375.out 0
     have hns37_1 := NB391_375.out
     have hms37_1 := NB375_391.out
     have hs39 : w36.cell? ⟨gb375, 1, none⟩ = some (.slice none 0 0) := (blk_cell BK375.out 1).trans rfl
     have hfs39 := blk_frozen BK375.out 1
     have hns39_1 := NB391_375.out
     have hms39_1 := NB375_391.out
     refine skip_ (w1 := ?_) (by rfl) rfl ?_ ?_
     rotate_left
     ·go_simp
      rfl
     refine hK.out _ _ ⟨((cell_far (p := ⟨gb375, _, none⟩) NB391_375.out _).trans (((cell_far (p := ⟨gb375, _, none⟩) NB391_375.out _).trans (hHeld.1)))), ((cell_far (p := ⟨gb375, _, none⟩) NB391_375.out _).trans (((cell_far (p := ⟨gb375, _, none⟩) NB391_375.out _).trans (hHeld.2))))⟩ (fun hHeld => ?_)
     clear hK K
     refine pure_ (i := 6) (N := some 4) (v := ?_) (a' := ?_) #[true, true, true, true, true, true, true] rfl rfl (by kernel_rfl) (fun _ _ _ h => h) (Or.inl ⟨by rfl, ?_⟩) ?_ ?_
     rotate_left
     ·intro w'
      go_simp
      with_reducible rfl
     rotate_left
     ·simp only [Act.put, List.setIfInBounds_toArray, List.set_cons_zero, List.set_cons_succ, i64_w, i32_w]
      rfl
     refine done_ (by kernel_rfl) ?_
     try go_wp2
     refine bodyPost_ret (results_list (rs := [.tmp 2, .cell 3 33, .tmp 4]) rfl (by simp) (.tmp (.cell gb375 33 #[.int .i64 (wrap64 (x392000_4 + (wrap64 (t404 - 4)))), .slice Ao38 x392001_4.length co38] (0, 0) _ rfl (by (with_reducible repeat (first | apply xbN | apply xbD | apply xbA)); refine blk_put (cs := #[.int .i64 (wrap64 (x392000_4 + (wrap64 (t404 - 4)))), .slice none 0 0]) ?_ 1 _ rfl; (with_reducible repeat (first | apply xbN | apply xbD | apply xbA)); refine blk_put (cs := #[.int .i64 0, .slice none 0 0]) ?_ 0 _ rfl; (with_reducible repeat (first | apply xbN | apply xbD | apply xbA)); exact BK375.out) Try.underlying33 rfl (by kernel_rfl) (.tmp .nil)))) rfl ?_
     exact ⟨_, _, by first | rfl | (simp [errW_none, errW_some] <;> rfl) | (simp [*, errW_none, errW_some] <;> rfl), by (with_reducible repeat (first | apply xRA | apply xRN | apply xRD)); exact xO (xF (p := ⟨gb375, 1, none⟩) (xF (p := ⟨gb375, 0, none⟩) (Kd.R_types HO_5.out BK375.out (by decide)) (fun _ hk => hk.2) (.int .i64 (wrap64 (x392000_4 + (wrap64 (t404 - 4)))))) (fun _ hk => hk.2) (.slice Ao38 x392001_4.length co38)) (fun _ hk => hk.1.2), by (with_reducible repeat (first | apply xRA | apply xRN | apply xRD)); exact xO (xF (p := ⟨gb375, 1, none⟩) (xF (p := ⟨gb375, 0, none⟩) (Kd.R_types HO_392001.out BK375.out (by decide)) (fun _ hk => hk.2) (.int .i64 (wrap64 (x392000_4 + (wrap64 (t404 - 4)))))) (fun _ hk => hk.2) (.slice Ao38 x392001_4.length co38)) (fun _ hk => hk.1.1), by (try simp only [Int.add_zero]); repeat (first | (with_reducible first | exact HI0.out | apply IsS116.alloc | apply IsS116.drewN | apply IsS116.drew | apply IsS116.set_1 | apply IsS116.set_2 | refine IsS116.far ?_ NB0_375.out _ | refine IsS116.far ?_ NB0_391.out _) | exact HI0.out), by repeat (first | (with_reducible first | exact HB.out | apply xa | apply xn | apply xd | refine xs ?_ (IsS116.ge HI0.out) | refine xs ?_ GE375.out | refine xs ?_ GE391.out) | exact HB.out), by repeat (first | (with_reducible first | exact HK.out | apply KeepBut.set_ | apply keep_drewN | apply keep_drew | apply keep_alloc | refine keep_far ?_ GW375.out _ | refine keep_far ?_ GW391.out _) | exact HK.out)⟩
    ·replace c29 := Bool.eq_false_iff.mpr c29
     subst c29
     have H1 : (some (t376, x392000_4, x392001_4, (t381.length : Int), t402, t403)) = some (r1, r2, r3, r4, r5, r6) := by rw [if_neg (show ¬ (false = true) by decide)] at H; exact H
     clear H
     have H := H1
     clear H1
     simp only [Option.some.injEq, Prod.mk.injEq] at H
     obtain ⟨rfl, rfl, rfl, rfl, rfl, rfl⟩ := H
     try go_wp2_with (first | ((with_reducible refine gate_callee (f := 97) rfl ?_); refine goesL_ (some 31) rfl rfl Try.func97 (by kernel_rfl) rfl #[.pointer (some ⟨g, 0, none⟩), .int .i64 8] rfl (by (try simp only [List.map_toArray, List.map_cons, List.map_nil]); first | done | rfl | (simp only [List.length_drop, List.length_take]; rfl)) ?_; (with_reducible refine (spec_l1Cur_one.calls g s0_0 x1001_4 x1002_4 8 false t402 t403 w0 _ ?side1 ?side2 A28.out).mono ?_); (case side1 => repeat (first | (with_reducible first | exact HI0.out | apply IsS116.alloc | apply IsS116.drewN | apply IsS116.drew | apply IsS116.set_1 | apply IsS116.set_2 | refine IsS116.far ?_ NB0_375.out _ | refine IsS116.far ?_ NB0_391.out _) | exact HI0.out)); (case side2 => repeat (first | (with_reducible first | exact HB.out | apply xa | apply xn | apply xd | refine xs ?_ (IsS116.ge HI0.out) | refine xs ?_ GE375.out | refine xs ?_ GE391.out) | exact HB.out)); rintro e w40 ⟨rfl, hi, hb, hk⟩; refine ⟨_, rfl, ?_⟩; replace HO_5 := xM (xO (Kd.R_keep (IsS116.apart (show IsS116 w0 _ g s0_0 x1001_4 x1002_4 from by (try simp only [Int.add_zero]); repeat (first | (with_reducible first | exact HI0.out | apply IsS116.alloc | apply IsS116.drewN | apply IsS116.drew | apply IsS116.set_1 | apply IsS116.set_2 | refine IsS116.far ?_ NB0_375.out _ | refine IsS116.far ?_ NB0_391.out _) | exact HI0.out)) (yR HO_5) (by decide)) hk (fun _ h => h.2)) (fun _ h => h.1)); replace HO_6 := xM (xO (Kd.R_keep (IsS116.apart (show IsS116 w0 _ g s0_0 x1001_4 x1002_4 from by (try simp only [Int.add_zero]); repeat (first | (with_reducible first | exact HI0.out | apply IsS116.alloc | apply IsS116.drewN | apply IsS116.drew | apply IsS116.set_1 | apply IsS116.set_2 | refine IsS116.far ?_ NB0_375.out _ | refine IsS116.far ?_ NB0_391.out _) | exact HI0.out)) (yR HO_6) (by decide)) hk (fun _ h => h.2)) (fun _ h => h.1)); replace HO_392001 := xM (xO (Kd.R_keep (IsS116.apart (show IsS116 w0 _ g s0_0 x1001_4 x1002_4 from by (try simp only [Int.add_zero]); repeat (first | (with_reducible first | exact HI0.out | apply IsS116.alloc | apply IsS116.drewN | apply IsS116.drew | apply IsS116.set_1 | apply IsS116.set_2 | refine IsS116.far ?_ NB0_375.out _ | refine IsS116.far ?_ NB0_391.out _) | exact HI0.out)) (yR HO_392001) (by decide)) hk (fun _ h => h.2)) (fun _ h => h.1)); replace BK375 := xM (KeepBut.blk hk (g' := gb375) (o := .cells #[.int .i64 0, .slice none 0 0] 33 (0, 0)) (yb BK375) NB375_0.out (by simp)); replace BK391 := xM (KeepBut.blk hk (g' := gb391) (o := .cells #[.int .i64 x392000_4, u392001] 33 (0, 0)) (yb BK391) NB391_0.out (by simp)); replace HK := xM (KeepBut.trans (by repeat (first | (with_reducible first | exact HK.out | apply KeepBut.set_ | apply keep_drewN | apply keep_drew | apply keep_alloc | refine keep_far ?_ GW375.out _ | refine keep_far ?_ GW391.out _) | exact HK.out)) hk (.inl rfl)); replace HB := xM (hb); replace HI0 := xM (hi); (try clear hb)))
     replace HO_5 := xM (Kd.R_drew HO_5.out)
     replace HO_6 := xM (Kd.R_drew HO_6.out)
     replace HO_392001 := xM (Kd.R_drew HO_392001.out)
     replace BK375 := xM (blk_drew BK375.out)
     replace BK391 := xM (blk_drew BK391.out)
     replace HI0 := xM (IsS116.drew HI0.out)
     replace HK := xM (keep_drew HK.out)
     replace HB := xM (below_drew1 HB.out)
     obtain ⟨Ao43, co43, eo43⟩ := Kd.R_slice HO_392001.out
     (first | subst eo43 | (injection eo43 with f1_ f2_ f3_; have f4_ := f1_.symm; have f5_ := f3_.symm; clear f1_ f2_ f3_; subst f4_; subst f5_))
     refine start_ (n := 7) (S := fun w' => w'.cell? ⟨gb391, 0, none⟩ = some (.int .i64 x392000_4) ∧ w'.cell? ⟨gb391, 1, none⟩ = some (.slice Ao43 x392001_4.length co43)) (ds := []) #[false, false, false, false, false, false, false] (by kernel_rfl) rfl rfl ⟨(blk_cell BK391.out 0).trans rfl, (blk_cell BK391.out 1).trans rfl⟩ (fun hHeld => ?_)
     generalize w40.drew = w41 at HO_5 HO_6 HO_392001 BK375 BK391 HI0 HK HB hHeld ⊢
     refine pure_ (i := 0) (N := some 39) (v := ?_) (a' := ?_) #[true, false, false, false, false, false, false] rfl rfl (by kernel_rfl) (fun _ _ _ h => h) (Or.inl ⟨by rfl, ?_⟩) ?_ ?_
     rotate_left
     ·intro w'
      go_simp
      with_reducible rfl
     rotate_left
     ·simp only [Act.put, List.setIfInBounds_toArray, List.set_cons_zero, List.set_cons_succ, i64_w, i32_w]
      rfl
     refine pure_ (i := 2) (N := some 41) (v := ?_) (a' := ?_) #[true, false, true, false, false, false, false] rfl rfl (by kernel_rfl) (fun _ _ _ h => h) (Or.inl ⟨by rfl, ?_⟩) ?_ ?_
     rotate_left
     ·intro w'
      go_simp
      with_reducible rfl
     rotate_left
     ·simp only [Act.put, List.setIfInBounds_toArray, List.set_cons_zero, List.set_cons_succ, i64_w, i32_w]
      rfl
     refine pure_ (i := 3) (N := some 42) (v := ?_) (a' := ?_) #[true, false, true, true, false, false, false] rfl rfl (by kernel_rfl) (fun _ _ _ h => h) (Or.inl ⟨by rfl, ?_⟩) ?_ ?_
     rotate_left
     ·intro w'
      go_simp
      with_reducible rfl
     rotate_left
     ·simp only [Act.put, List.setIfInBounds_toArray, List.set_cons_zero, List.set_cons_succ, i64_w, i32_w]
      rfl
     refine pure_ (i := 4) (N := some 2) (v := ?_) (a' := ?_) #[true, false, true, true, true, false, false] rfl rfl (by kernel_rfl) (fun _ _ _ h => h) (Or.inl ⟨by rfl, ?_⟩) ?_ ?_
     rotate_left
     ·intro w'
      go_simp
      with_reducible rfl
     rotate_left
     ·simp only [Act.put, List.setIfInBounds_toArray, List.set_cons_zero, List.set_cons_succ, i64_w, i32_w]
      rfl
     refine take_ (i := 1) (N := some 40) (v := ?_) (a' := ?_) #[true, true, true, true, true, false, false] rfl rfl (by kernel_rfl) (fun _ _ _ h => h) (Or.inl ⟨by rfl, ?_⟩) hHeld ?_ ?_
     rotate_left
     ·rintro w' ⟨s0, s1⟩
      go_simp
      with_reducible rfl
     rotate_left
     ·simp only [Act.put, List.setIfInBounds_toArray, List.set_cons_zero, List.set_cons_succ, i64_w, i32_w]
      rfl
     refine one_ (i := 5) (N := none) #[true, true, true, true, true, true, false] rfl rfl (by kernel_rfl) (by decide) (fun K hK => ?_)
     have hs42 : w41.cell? ⟨gb375, 0, none⟩ = some (.int .i64 0) := (blk_cell BK375.out 0).trans rfl
     have hfs42 := blk_frozen BK375.out 0
     have hns42_1 := NB391_375.out
     have hms42_1 := NB375_391.out
     have hs44 : w41.cell? ⟨gb375, 1, none⟩ = some (.slice none 0 0) := (blk_cell BK375.out 1).trans rfl
     have hfs44 := blk_frozen BK375.out 1
     have hns44_1 := NB391_375.out
     have hms44_1 := NB375_391.out
     refine skip_ (w1 := ?_) (by rfl) rfl ?_ ?_
     rotate_left
     ·go_simp
      rfl
     refine hK.out _ _ ⟨((cell_far (p := ⟨gb375, _, none⟩) NB391_375.out _).trans (((cell_far (p := ⟨gb375, _, none⟩) NB391_375.out _).trans (hHeld.1)))), ((cell_far (p := ⟨gb375, _, none⟩) NB391_375.out _).trans (((cell_far (p := ⟨gb375, _, none⟩) NB391_375.out _).trans (hHeld.2))))⟩ (fun hHeld => ?_)
     clear hK K
     refine pure_ (i := 6) (N := some 4) (v := ?_) (a' := ?_) #[true, true, true, true, true, true, true] rfl rfl (by kernel_rfl) (fun _ _ _ h => h) (Or.inl ⟨by rfl, ?_⟩) ?_ ?_
     rotate_left
     ·intro w'
      go_simp
      with_reducible rfl
     rotate_left
     ·simp only [Act.put, List.setIfInBounds_toArray, List.set_cons_zero, List.set_cons_succ, i64_w, i32_w]
      rfl
     refine done_ (by kernel_rfl) ?_
     try go_wp2
     refine bodyPost_ret (results_list (rs := [.tmp 2, .cell 3 33, .tmp 4]) rfl (by simp) (.tmp (.cell gb375 33 #[.int .i64 x392000_4, .slice Ao43 x392001_4.length co43] (0, 0) _ rfl (by (with_reducible repeat (first | apply xbN | apply xbD | apply xbA)); refine blk_put (cs := #[.int .i64 x392000_4, .slice none 0 0]) ?_ 1 _ rfl; (with_reducible repeat (first | apply xbN | apply xbD | apply xbA)); refine blk_put (cs := #[.int .i64 0, .slice none 0 0]) ?_ 0 _ rfl; (with_reducible repeat (first | apply xbN | apply xbD | apply xbA)); exact BK375.out) Try.underlying33 rfl (by kernel_rfl) (.tmp .nil)))) rfl ?_
     exact ⟨_, _, by first | rfl | (simp [errW_none, errW_some] <;> rfl) | (simp [*, errW_none, errW_some] <;> rfl), by (with_reducible repeat (first | apply xRA | apply xRN | apply xRD)); exact xO (xF (p := ⟨gb375, 1, none⟩) (xF (p := ⟨gb375, 0, none⟩) (Kd.R_types HO_5.out BK375.out (by decide)) (fun _ hk => hk.2) (.int .i64 x392000_4)) (fun _ hk => hk.2) (.slice Ao43 x392001_4.length co43)) (fun _ hk => hk.1.2), by (with_reducible repeat (first | apply xRA | apply xRN | apply xRD)); exact xO (xF (p := ⟨gb375, 1, none⟩) (xF (p := ⟨gb375, 0, none⟩) (Kd.R_types HO_392001.out BK375.out (by decide)) (fun _ hk => hk.2) (.int .i64 x392000_4)) (fun _ hk => hk.2) (.slice Ao43 x392001_4.length co43)) (fun _ hk => hk.1.1), by (try simp only [Int.add_zero]); repeat (first | (with_reducible first | exact HI0.out | apply IsS116.alloc | apply IsS116.drewN | apply IsS116.drew | apply IsS116.set_1 | apply IsS116.set_2 | refine IsS116.far ?_ NB0_375.out _ | refine IsS116.far ?_ NB0_391.out _) | exact HI0.out), by repeat (first | (with_reducible first | exact HB.out | apply xa | apply xn | apply xd | refine xs ?_ (IsS116.ge HI0.out) | refine xs ?_ GE375.out | refine xs ?_ GE391.out) | exact HB.out), by repeat (first | (with_reducible first | exact HK.out | apply KeepBut.set_ | apply keep_drewN | apply keep_drew | apply keep_alloc | refine keep_far ?_ GW375.out _ | refine keep_far ?_ GW391.out _) | exact HK.out)⟩

/-! ### spec_DrawTakeSymbol: function 53 -/
def spec_DrawTakeSymbol.f (k : Nat) (l0 : List Int) : Option (List Int × Int × List Int) := (mk_state_116.f l0).bind fun bt408 => ((spec_l1Cur_coded.f k bt408.1 bt408.2.1 bt408.2.2).bind fun bt412 => (some (bt412.1, bt412.2.1, bt412.2.2.1)))
theorem spec_DrawTakeSymbol.mono : ∀ a0 k, LeO (spec_DrawTakeSymbol.f k a0) (spec_DrawTakeSymbol.f (k + 1) a0) := by
  intro a0 k
  unfold spec_DrawTakeSymbol.f
  repeat' first
      | (with_reducible exact spec_l1Cur_coded.mono _ _ _ _)
      | (with_reducible exact LeO.refl _)
      | (with_reducible exact LeO.none _)
      | (with_reducible refine LeO.ite ?_ ?_)
      | (with_reducible refine LeO.bind ?_ (fun _ => ?_))
      | exact spec_l1Cur_coded.mono _ _ _ _
      | exact LeO.none _
      | refine LeO.ite ?_ ?_
      | refine LeO.bind ?_ (fun _ => ?_)
set_option maxHeartbeats 8000000 in
set_option maxRecDepth 100000 in
theorem spec_DrawTakeSymbol.calls (k : Nat) (A0 : Option Addr) (c0 : Nat) (l0 : List Int) (r1 : List Int) (r2 : Int) (r3 : List Int) (w : World) (hr0 : Kd.C (Kd.int .u8) w A0 l0.length l0) (hc0 : l0.length ≤ c0) (h : spec_DrawTakeSymbol.f k l0 = some (r1, r2, r3)) :
    Calls Try.prog 53 #[.slice A0 l0.length c0] w fun e w' => ∃ v0_ v2_ : Value, e = .returned (.tuple #[v0_, .agg #[.int .i64 r2, v2_]]) ∧ Kd.R (Kd.int .i64) 3 w' w.heap.size (fun k_ => some k_ ≠ (v2_ : Value).ownBlock) v0_ r1 ∧ Kd.R (Kd.int .i64) 3 w' w.heap.size (fun k_ => some k_ ≠ (v0_ : Value).ownBlock) v2_ r3 ∧ Below w.heap.size w w' := by
  have hu33 := Try.underlying33
  have HR0 := Aside0.mk hr0
  have HC0 := Aside0.mk hc0
  clear hr0 hc0
  have HB := Aside0.mk (Below.refl w.heap.size w)
  have H : ((mk_state_116.f l0).bind fun bt408 => ((spec_l1Cur_coded.f k bt408.1 bt408.2.1 bt408.2.2).bind fun bt412 => (some (bt412.1, bt412.2.1, bt412.2.2.1)))) = some (r1, r2, r3) := h
  clear h
  replace H := Option.bind_eq_some_iff.mp H
  obtain ⟨⟨t408, t409, t410⟩, A20, H⟩ := H
  replace H : ((spec_l1Cur_coded.f k t408 t409 t410).bind fun bt412 => (some (bt412.1, bt412.2.1, bt412.2.2.1))) = some (r1, r2, r3) := H
  have A2 := Aside0.mk A20
  clear A20
  replace H := Option.bind_eq_some_iff.mp H
  obtain ⟨⟨t412, t415, t416, t419, t420, t421⟩, A30, H⟩ := H
  replace H : (some (t412, t415, t416)) = some (r1, r2, r3) := H
  have A3 := Aside0.mk A30
  clear A30
  simp only [Option.some.injEq, Prod.mk.injEq] at H
  obtain ⟨rfl, rfl, rfl⟩ := H
  go_enter Try.func53, Try.ntmps53
  try go_wp2_with (first | ((with_reducible refine gate_dst (N := 3) rfl ?_); refine box_event ?hg (N := 3) ?hd (cs := #[.int .i64 0, .slice none 0 0]) (t := 33) ?hr ?_; (case hd => rfl); (case hg => rfl); (case hr => first | (go_simp; done) | (go_simp; rfl)); intro gb407 hg w4 hbox hb; have n0_ := Aside0.mk (below_step (by repeat (first | (with_reducible first | exact HB.out | apply below_alloc | apply pw_below_drewN | apply below_drew1) | exact HB.out)) hb); have n1_ := Aside0.mk (hbox); have n2_ := Aside0.mk ((by rw [hg]; exact (below_size (by repeat (first | (with_reducible first | exact HB.out | apply below_alloc | apply pw_below_drewN | apply below_drew1) | exact HB.out))) : w.heap.size ≤ gb407)); have n3_ := Aside0.mk ((by rw [hg]; exact (below_size (by repeat (first | (with_reducible first | exact HB.out | apply below_alloc | apply pw_below_drewN | apply below_drew1) | exact HB.out))) : w.heap.size ≤ gb407)); clear HB; have HB := n0_; have BK407 := n1_; have GW407 := n2_; have GE407 := n3_; clear n0_ n1_ n2_ n3_; clear hb hbox hg) | ((with_reducible refine gate_dst (N := 10) rfl ?_); refine box_event ?hg (N := 10) ?hd (cs := #[.slice A0 l0.length c0, .int .i64 0, .int .u64 0]) (t := 116) ?hr ?_; (case hd => rfl); (case hg => rfl); (case hr => first | (go_simp; done) | (go_simp; rfl)); intro g411 hg_ w5 hbox hb2; have hi : IsS116 w w5 g411 t408 t409 t410 := (by have e_ := A2.out; unfold mk_state_116.f at e_; injection e_ with e_; injection e_ with e0_ e_; injection e_ with e1_ e_; rw [← e0_, ← e1_, ← e_]; exact ⟨_, _, hbox, (by rw [hg_]; exact below_size (by repeat (first | (with_reducible first | exact HB.out | apply below_alloc | apply pw_below_drewN | apply below_drew1 | refine below_set ?_ GE407.out) | exact HB.out))), (by exact HR0.out)⟩); have hb := below_step (by repeat (first | (with_reducible first | exact HB.out | apply below_alloc | apply pw_below_drewN | apply below_drew1 | refine below_set ?_ GE407.out) | exact HB.out)) hb2; clear hg_ hbox; have n0_ := Aside0.mk (blk_below (g := gb407) (o := .cells #[.int .i64 0, .slice none 0 0] 33 (0, 0)) (by (with_reducible repeat (first | refine blk_drewN ?_ _ | refine blk_drew ?_ | refine blk_alloc ?_ _)); exact BK407.out) hb2); have n1_ := Aside0.mk (hb); have n2_ := Aside0.mk (hi); have n3_ := Aside0.mk (IsS116.ne_blk hi (blk_below (g := gb407) (o := .cells #[.int .i64 0, .slice none 0 0] 33 (0, 0)) (by (with_reducible repeat (first | refine blk_drewN ?_ _ | refine blk_drew ?_ | refine blk_alloc ?_ _)); exact BK407.out) hb2) (by decide)); have n4_ := Aside0.mk (Ne.symm (IsS116.ne_blk hi (blk_below (g := gb407) (o := .cells #[.int .i64 0, .slice none 0 0] 33 (0, 0)) (by (with_reducible repeat (first | refine blk_drewN ?_ _ | refine blk_drew ?_ | refine blk_alloc ?_ _)); exact BK407.out) hb2) (by decide))); clear BK407; clear HB; have BK407 := n0_; have HB := n1_; have HI411 := n2_; have NB411_407 := n3_; have NB407_411 := n4_; clear n0_ n1_ n2_ n3_ n4_; (try clear hb); (try clear hb2); (try clear hk); (try clear hi)) | ((with_reducible refine gate_callee (f := 101) rfl ?_); refine goesL_ (some 13) rfl rfl Try.func101 (by kernel_rfl) rfl #[.pointer (some ⟨g411, 0, none⟩)] rfl (by (try simp only [List.map_toArray, List.map_cons, List.map_nil]); first | done | rfl | (simp only [List.length_drop, List.length_take]; rfl)) ?_; (with_reducible refine (spec_l1Cur_coded.calls k g411 t408 t409 t410 t412 t415 t416 t419 t420 t421 w _ ?side1 ?side2 A3.out).mono ?_); (case side1 => repeat (first | (with_reducible first | exact HI411.out | apply IsS116.alloc | apply IsS116.drewN | apply IsS116.drew | apply IsS116.set_1 | apply IsS116.set_2 | refine IsS116.far ?_ NB411_407.out _) | exact HI411.out)); (case side2 => repeat (first | (with_reducible first | exact HB.out | apply below_alloc | apply pw_below_drewN | apply below_drew1 | refine below_set ?_ (IsS116.ge HI411.out) | refine below_set ?_ GE407.out) | exact HB.out)); rintro e w6 ⟨v413, v417, rfl, ho0, ho1, hi, hb, hk⟩; refine ⟨_, rfl, ?_⟩; have n0_ := Aside0.mk (KeepBut.blk hk (g' := gb407) (o := .cells #[.int .i64 0, .slice none 0 0] 33 (0, 0)) (by (with_reducible repeat (first | refine blk_drewN ?_ _ | refine blk_drew ?_ | refine blk_alloc ?_ _)); exact BK407.out) NB407_411.out (by simp)); have n1_ := Aside0.mk (Kd.R_lower ho0 (below_size (by repeat (first | (with_reducible first | exact HB.out | apply below_alloc | apply pw_below_drewN | apply below_drew1 | refine below_set ?_ (IsS116.ge HI411.out) | refine below_set ?_ GE407.out) | exact HB.out)))); have n2_ := Aside0.mk (Kd.R_lower ho1 (below_size (by repeat (first | (with_reducible first | exact HB.out | apply below_alloc | apply pw_below_drewN | apply below_drew1 | refine below_set ?_ (IsS116.ge HI411.out) | refine below_set ?_ GE407.out) | exact HB.out)))); have n3_ := Aside0.mk (hb); have n4_ := Aside0.mk (hi); clear BK407; clear HB; clear HI411; have BK407 := n0_; have HO414 := n1_; have HO418 := n2_; have HB := n3_; have HI411 := n4_; clear n0_ n1_ n2_ n3_ n4_; (try clear hb); (try clear hb2); (try clear hk); (try clear hi); (try clear ho0); (try clear ho1)) | ((with_reducible refine gate_dst (N := 6) rfl ?_); refine box_event ?hg (N := 6) ?hd (cs := #[.int .i64 0, .slice none 0 0]) (t := 33) ?hr ?_; (case hd => rfl); (case hg => rfl); (case hr => first | (go_simp; done) | (go_simp; rfl)); intro gb422 hg w7 hbox hb; have n0_ := Aside0.mk (Kd.R_below (by (with_reducible repeat (first | apply Kd.R_alloc | apply Kd.R_drewN | apply Kd.R_drew)); exact HO414.out) hb); have n1_ := Aside0.mk (Kd.R_below (by (with_reducible repeat (first | apply Kd.R_alloc | apply Kd.R_drewN | apply Kd.R_drew)); exact HO418.out) hb); have n2_ := Aside0.mk (blk_below (g := gb407) (o := .cells #[.int .i64 0, .slice none 0 0] 33 (0, 0)) (by (with_reducible repeat (first | refine blk_drewN ?_ _ | refine blk_drew ?_ | refine blk_alloc ?_ _)); exact BK407.out) hb); have n3_ := Aside0.mk (IsS116.below (by repeat (first | (with_reducible first | exact HI411.out | apply IsS116.alloc | apply IsS116.drewN | apply IsS116.drew | apply IsS116.set_1 | apply IsS116.set_2 | refine IsS116.far ?_ NB411_407.out _) | exact HI411.out)) hb); have n4_ := Aside0.mk (below_step (by repeat (first | (with_reducible first | exact HB.out | apply below_alloc | apply pw_below_drewN | apply below_drew1 | refine below_set ?_ (IsS116.ge HI411.out) | refine below_set ?_ GE407.out) | exact HB.out)) hb); have n5_ := Aside0.mk (hbox); have n6_ := Aside0.mk ((by rw [hg]; exact (below_size (by repeat (first | (with_reducible first | exact HB.out | apply below_alloc | apply pw_below_drewN | apply below_drew1 | refine below_set ?_ (IsS116.ge HI411.out) | refine below_set ?_ GE407.out) | exact HB.out))) : w.heap.size ≤ gb422)); have n7_ := Aside0.mk ((by rw [hg]; exact (below_size (by repeat (first | (with_reducible first | exact HB.out | apply below_alloc | apply pw_below_drewN | apply below_drew1 | refine below_set ?_ (IsS116.ge HI411.out) | refine below_set ?_ GE407.out) | exact HB.out))) : w.heap.size ≤ gb422)); have n8_ := Aside0.mk ((by rw [hg]; exact Nat.ne_of_lt (blk_lt (g := gb407) (o := .cells #[.int .i64 0, .slice none 0 0] 33 (0, 0)) (by (with_reducible repeat (first | refine blk_drewN ?_ _ | refine blk_drew ?_ | refine blk_alloc ?_ _)); exact BK407.out)) : gb407 ≠ gb422)); have n9_ := Aside0.mk ((by rw [hg]; exact Nat.ne_of_gt (blk_lt (g := gb407) (o := .cells #[.int .i64 0, .slice none 0 0] 33 (0, 0)) (by (with_reducible repeat (first | refine blk_drewN ?_ _ | refine blk_drew ?_ | refine blk_alloc ?_ _)); exact BK407.out)) : gb422 ≠ gb407)); have n10_ := Aside0.mk ((by rw [hg]; exact Nat.ne_of_lt (IsS116.lt (show IsS116 w _ g411 t408 t420 t421 from by repeat (first | (with_reducible first | exact HI411.out | apply IsS116.alloc | apply IsS116.drewN | apply IsS116.drew | apply IsS116.set_1 | apply IsS116.set_2 | refine IsS116.far ?_ NB411_407.out _) | exact HI411.out))) : g411 ≠ gb422)); have n11_ := Aside0.mk ((by rw [hg]; exact Nat.ne_of_gt (IsS116.lt (show IsS116 w _ g411 t408 t420 t421 from by repeat (first | (with_reducible first | exact HI411.out | apply IsS116.alloc | apply IsS116.drewN | apply IsS116.drew | apply IsS116.set_1 | apply IsS116.set_2 | refine IsS116.far ?_ NB411_407.out _) | exact HI411.out))) : gb422 ≠ g411)); clear HO414; clear HO418; clear BK407; clear HI411; clear HB; have HO414 := n0_; have HO418 := n1_; have BK407 := n2_; have HI411 := n3_; have HB := n4_; have BK422 := n5_; have GW422 := n6_; have GE422 := n7_; have NB407_422 := n8_; have NB422_407 := n9_; have NB411_422 := n10_; have NB422_411 := n11_; clear n0_ n1_ n2_ n3_ n4_ n5_ n6_ n7_ n8_ n9_ n10_ n11_; clear hb hbox hg; have hnb8 := NB422_407.out; have hnc8 := NB407_422.out; have hnb9 := NB422_411.out; have hnc9 := NB411_422.out; have hcz10_0 : w7.cell? ⟨gb422, 0, none⟩ = some (.int .i64 0) := (blk_cell BK422.out 0).trans rfl; have hcz10_1 : w7.cell? ⟨gb422, 1, none⟩ = some (.slice none 0 0) := (blk_cell BK422.out 1).trans rfl; have hfz10_0 := blk_frozen BK422.out 0; have hfz10_1 := blk_frozen BK422.out 1; obtain ⟨Ao11, co11, eo11⟩ := Kd.R_slice HO418.out; subst eo11))
  have n0_ : Aside0 (Kd.R (Kd.int .i64) 3 ((w7.setCell ⟨gb422, 0, none⟩ (.int .i64 t415)).setCell ⟨gb422, 1, none⟩ (.slice Ao11 t416.length co11)) w.heap.size (fun k_ => some k_ ≠ (.slice Ao11 t416.length co11 : Value).ownBlock) v413 t412) := ⟨by (with_reducible repeat (first | apply Kd.R_alloc | apply Kd.R_drewN | apply Kd.R_drew)); exact Kd.R_mono (Kd.R_far (p := ⟨gb422, 1, none⟩) (Kd.R_far (p := ⟨gb422, 0, none⟩) (Kd.R_types HO414.out BK422.out (by decide)) (fun _ hk => hk.2) (.int .i64 t415)) (fun _ hk => hk.2) (.slice Ao11 t416.length co11)) (fun _ hk => hk.1)⟩
  have n1_ : Aside0 (Kd.R (Kd.int .i64) 3 ((w7.setCell ⟨gb422, 0, none⟩ (.int .i64 t415)).setCell ⟨gb422, 1, none⟩ (.slice Ao11 t416.length co11)) w.heap.size (fun k_ => some k_ ≠ (v413 : Value).ownBlock) (.slice Ao11 t416.length co11) t416) := ⟨by (with_reducible repeat (first | apply Kd.R_alloc | apply Kd.R_drewN | apply Kd.R_drew)); exact Kd.R_mono (Kd.R_far (p := ⟨gb422, 1, none⟩) (Kd.R_far (p := ⟨gb422, 0, none⟩) (Kd.R_types HO418.out BK422.out (by decide)) (fun _ hk => hk.2) (.int .i64 t415)) (fun _ hk => hk.2) (.slice Ao11 t416.length co11)) (fun _ hk => hk.1)⟩
  have n2_ : Aside0 (((w7.setCell ⟨gb422, 0, none⟩ (.int .i64 t415)).setCell ⟨gb422, 1, none⟩ (.slice Ao11 t416.length co11)).heap[gb407]? = some (.cells #[.int .i64 0, .slice none 0 0] 33 (0, 0))) := ⟨by (with_reducible repeat (first | refine blk_drewN ?_ _ | refine blk_drew ?_ | refine blk_alloc ?_ _)); refine blk_far ?_ NB407_422.out _; (with_reducible repeat (first | refine blk_drewN ?_ _ | refine blk_drew ?_ | refine blk_alloc ?_ _)); refine blk_far ?_ NB407_422.out _; (with_reducible repeat (first | refine blk_drewN ?_ _ | refine blk_drew ?_ | refine blk_alloc ?_ _)); exact BK407.out⟩
  have n3_ : Aside0 (((w7.setCell ⟨gb422, 0, none⟩ (.int .i64 t415)).setCell ⟨gb422, 1, none⟩ (.slice Ao11 t416.length co11)).heap[gb422]? = some (.cells #[.int .i64 t415, .slice Ao11 t416.length co11] 33 (0, 0))) := ⟨by (with_reducible repeat (first | refine blk_drewN ?_ _ | refine blk_drew ?_ | refine blk_alloc ?_ _)); refine blk_put (cs := #[.int .i64 t415, .slice none 0 0]) ?_ 1 _ rfl; (with_reducible repeat (first | refine blk_drewN ?_ _ | refine blk_drew ?_ | refine blk_alloc ?_ _)); refine blk_put (cs := #[.int .i64 0, .slice none 0 0]) ?_ 0 _ rfl; (with_reducible repeat (first | refine blk_drewN ?_ _ | refine blk_drew ?_ | refine blk_alloc ?_ _)); exact BK422.out⟩
  have n4_ : Aside0 (IsS116 w ((w7.setCell ⟨gb422, 0, none⟩ (.int .i64 t415)).setCell ⟨gb422, 1, none⟩ (.slice Ao11 t416.length co11)) g411 t408 t420 t421) := ⟨by repeat (first | (with_reducible first | exact HI411.out | apply IsS116.alloc | apply IsS116.drewN | apply IsS116.drew | apply IsS116.set_1 | apply IsS116.set_2 | refine IsS116.far ?_ NB411_407.out _ | refine IsS116.far ?_ NB411_422.out _) | exact HI411.out)⟩
  have n5_ : Aside0 (Below w.heap.size w ((w7.setCell ⟨gb422, 0, none⟩ (.int .i64 t415)).setCell ⟨gb422, 1, none⟩ (.slice Ao11 t416.length co11))) := ⟨by repeat (first | (with_reducible first | exact HB.out | apply below_alloc | apply pw_below_drewN | apply below_drew1 | refine below_set ?_ (IsS116.ge HI411.out) | refine below_set ?_ GE407.out | refine below_set ?_ GE422.out) | exact HB.out)⟩
  (try clear HO414)
  (try clear HO418)
  (try clear BK407)
  (try clear BK422)
  (try clear HI411)
  (try clear HB)
  generalize ((w7.setCell ⟨gb422, 0, none⟩ (.int .i64 t415)).setCell ⟨gb422, 1, none⟩ (.slice Ao11 t416.length co11)) = w12 at n0_ n1_ n2_ n3_ n4_ n5_ ⊢
  have HO414 := n0_
  have HO418 := n1_
  have BK407 := n2_
  have BK422 := n3_
  have HI411 := n4_
  have HB := n5_
  clear n0_ n1_ n2_ n3_ n4_ n5_
  have n0_ := Aside0.mk (Kd.R_drew HO414.out)
  have n1_ := Aside0.mk (Kd.R_drew HO418.out)
  have n2_ := Aside0.mk (blk_drew BK407.out)
  have n3_ := Aside0.mk (blk_drew BK422.out)
  have n4_ := Aside0.mk (IsS116.drew HI411.out)
  have n5_ := Aside0.mk (below_drew1 HB.out)
  clear HO414
  clear HO418
  clear BK407
  clear BK422
  clear HI411
  clear HB
  have HO414 := n0_
  have HO418 := n1_
  have BK407 := n2_
  have BK422 := n3_
  have HI411 := n4_
  have HB := n5_
  clear n0_ n1_ n2_ n3_ n4_ n5_
  refine start_ (n := 4) (S := fun w' => w'.cell? ⟨gb422, 0, none⟩ = some (.int .i64 t415) ∧ w'.cell? ⟨gb422, 1, none⟩ = some (.slice Ao11 t416.length co11)) (ds := []) #[false, false, false, false] (by kernel_rfl) rfl rfl ⟨(blk_cell BK422.out 0).trans rfl, (blk_cell BK422.out 1).trans rfl⟩ (fun hHeld => ?_)
  generalize w12.drew = w13 at HO414 HO418 BK407 BK422 HI411 HB hHeld ⊢
  refine pure_ (i := 0) (N := some 17) (v := ?_) (a' := ?_) #[true, false, false, false] rfl rfl (by kernel_rfl) (fun _ _ _ h => h) (Or.inl ⟨by rfl, ?_⟩) ?_ ?_
  rotate_left
  · intro w'
    go_simp
    with_reducible rfl
  rotate_left
  · simp only [Act.put, List.setIfInBounds_toArray, List.set_cons_zero, List.set_cons_succ, i64_w, i32_w]
    rfl
  refine pure_ (i := 2) (N := some 2) (v := ?_) (a' := ?_) #[true, false, true, false] rfl rfl (by kernel_rfl) (fun _ _ _ h => h) (Or.inl ⟨by rfl, ?_⟩) ?_ ?_
  rotate_left
  · intro w'
    go_simp
    with_reducible rfl
  rotate_left
  · simp only [Act.put, List.setIfInBounds_toArray, List.set_cons_zero, List.set_cons_succ, i64_w, i32_w]
    rfl
  refine take_ (i := 1) (N := some 18) (v := ?_) (a' := ?_) #[true, true, true, false] rfl rfl (by kernel_rfl) (fun _ _ _ h => h) (Or.inl ⟨by rfl, ?_⟩) hHeld ?_ ?_
  rotate_left
  · rintro w' ⟨s0, s1⟩
    go_simp
    with_reducible rfl
  rotate_left
  · simp only [Act.put, List.setIfInBounds_toArray, List.set_cons_zero, List.set_cons_succ, i64_w, i32_w]
    rfl
  refine one_ (i := 3) (N := none) #[true, true, true, true] rfl rfl (by kernel_rfl) (by decide) (fun K hK => ?_)
  have hs14 : w13.cell? ⟨gb407, 0, none⟩ = some (.int .i64 0) := (blk_cell BK407.out 0).trans rfl
  have hfs14 := blk_frozen BK407.out 0
  have hns14_1 := NB422_407.out
  have hms14_1 := NB407_422.out
  have hs15 : w13.cell? ⟨gb407, 1, none⟩ = some (.slice none 0 0) := (blk_cell BK407.out 1).trans rfl
  have hfs15 := blk_frozen BK407.out 1
  have hns15_1 := NB422_407.out
  have hms15_1 := NB407_422.out
  refine skip_ (w1 := ?_) (by rfl) rfl ?_ ?_
  rotate_left
  · go_simp
    rfl
  refine hK.out _ _ ⟨((cell_far (p := ⟨gb407, _, none⟩) NB422_407.out _).trans (((cell_far (p := ⟨gb407, _, none⟩) NB422_407.out _).trans (hHeld.1)))), ((cell_far (p := ⟨gb407, _, none⟩) NB422_407.out _).trans (((cell_far (p := ⟨gb407, _, none⟩) NB422_407.out _).trans (hHeld.2))))⟩ (fun hHeld => ?_)
  clear hK K
  refine done_ (by kernel_rfl) ?_
  try go_wp2
  refine bodyPost_ret (results_tc rfl _ _ gb407 33 #[.int .i64 t415, .slice Ao11 t416.length co11] (0, 0) _ rfl (by (with_reducible repeat (first | refine blk_drewN ?_ _ | refine blk_drew ?_ | refine blk_alloc ?_ _)); refine blk_put (cs := #[.int .i64 t415, .slice none 0 0]) ?_ 1 _ rfl; (with_reducible repeat (first | refine blk_drewN ?_ _ | refine blk_drew ?_ | refine blk_alloc ?_ _)); refine blk_put (cs := #[.int .i64 0, .slice none 0 0]) ?_ 0 _ rfl; (with_reducible repeat (first | refine blk_drewN ?_ _ | refine blk_drew ?_ | refine blk_alloc ?_ _)); exact BK407.out) Try.underlying33 rfl (by kernel_rfl)) rfl ?_
  exact ⟨_, _, by first | rfl | (simp [errW_none, errW_some] <;> rfl) | (simp [*, errW_none, errW_some] <;> rfl), by (with_reducible repeat (first | apply Kd.R_alloc | apply Kd.R_drewN | apply Kd.R_drew)); exact Kd.R_mono (Kd.R_far (p := ⟨gb407, 1, none⟩) (Kd.R_far (p := ⟨gb407, 0, none⟩) (Kd.R_types HO414.out BK407.out (by decide)) (fun _ hk => hk.2) (.int .i64 t415)) (fun _ hk => hk.2) (.slice Ao11 t416.length co11)) (fun _ hk => hk.1), by (with_reducible repeat (first | apply Kd.R_alloc | apply Kd.R_drewN | apply Kd.R_drew)); exact Kd.R_mono (Kd.R_far (p := ⟨gb407, 1, none⟩) (Kd.R_far (p := ⟨gb407, 0, none⟩) (Kd.R_types HO418.out BK407.out (by decide)) (fun _ hk => hk.2) (.int .i64 t415)) (fun _ hk => hk.2) (.slice Ao11 t416.length co11)) (fun _ hk => hk.1), by repeat (first | (with_reducible first | exact HB.out | apply below_alloc | apply pw_below_drewN | apply below_drew1 | refine below_set ?_ (IsS116.ge HI411.out) | refine below_set ?_ GE407.out | refine below_set ?_ GE422.out) | exact HB.out)⟩

end Go.Proofs.Ytppgkkejddjacaa.PFnAns

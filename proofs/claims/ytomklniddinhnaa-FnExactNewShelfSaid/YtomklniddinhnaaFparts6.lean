/- Part of the evaluator's contracts: parts6. -/
import Derived.Test.YtomklniddinhnaaFparts5
import Derived.Test.YtomklniddinhnaaFelString
import Derived.Test.YtomklniddinhnaaFshelfT
import Derived.Test.YtomklniddinhnaaFparts3
import Derived.Test.YtomklniddinhnaaFparts4
namespace Go.Proofs.YtomklniddinhnaaB
open Go Go.Proofs.YtomklniddinhnaaE
set_option linter.unusedVariables false
set_option linter.unusedSectionVars false
set_option linter.unusedSimpArgs false
set_option maxHeartbeats 4000000
set_option maxRecDepth 20000
theorem partsL1_len (t : ByteArray) : (partsL1 t).length = 3 := rfl
theorem partsL2_len (t : ByteArray) : (partsL2 t).length = 5 := by rw [partsL2, rowsS_len, codM_len]
theorem c15_no {k : Nat} {md : Md} {S : Store} {vs : List A} {D : List Nat} {t : ByteArray} {x : Int} (hd : dpArgs S [] vs = some ([(.v (.string (t))), (.v (.int .i64 (x)))], D)) (hb : (decide (t.size ≤ 60) && inB x 1 3) = false := by first | assumption | omega | with_reducible rfl) (ht : t.size ≤ 1048576 := by first | assumption | omega | with_reducible rfl) (hk : 7 ≤ k := by omega) :
  Cal (run k) md 15 vs S (fun r S' => r = .tu [.sl S.length 0 0 0, (.v (.bool (false)))] ∧ S' = S ++ [⟨1, [], 0, false⟩]) := by
 obtain ⟨k, rfl⟩ : ∃ j, k = j + 1 := ⟨k - 1, by omega⟩
 refine Cal.fn (n := 17) (rs := [.tmp 4, .tmp 5]) (ids := []) (D := D) (Xof_none rfl) g15 (by delta Try.f15; exact rfl) (by delta Try.f15; exact rfl) (by delta Try.f15; exact rfl) hd rfl (by first | rfl | simp [idsV, idsC]) (by simp) (by simp) ?_
 intro md' ow; have w := ow.w; have w0 := ow.w0; have fz : md'.fz = false := ow.fz
 by_cases h : (60 : Int) < (t.size : Int)
 ·(have F := an6 @yD @yE @yG @yF @yC @h; (repeat' (first | refine' dA83 | ((with_reducible apply EvO.call (vs := ?_)); exact rfl; exact rfl; exact dE7; (with_reducible apply Cal.hd (ms := []) (p := ?_)); exact dE7) | exact dC7 | fail)); all_goals clear F)
  all_goals exact ⟨rfl, rfl⟩
 ·have h2 : inB x 1 3 = false := by
   rw [decide_eq_true (by omega), Bool.true_and] at hb; exact hb
  (have F := an7 @yD @yE @yG @yF @yC @h @h2; (repeat' (first | refine' dA83 | ((with_reducible apply EvO.call (vs := ?_)); exact rfl; exact rfl; exact dE7; (with_reducible apply Cal.hd (ms := []) (p := ?_)); exact dE7) | exact dC7 | fail)); all_goals clear F)
  all_goals exact ⟨rfl, rfl⟩
theorem c15_one {k : Nat} {md : Md} {S : Store} {vs : List A} {D : List Nat} {t : ByteArray} (hd : dpArgs S [] vs = some ([(.v (.string (t))), (.v (.int .i64 (1)))], D)) (ht : t.size ≤ 60 := by first | assumption | omega | with_reducible rfl) (hk : 30 ≤ k := by omega) :
  Cal (run k) md 15 vs S (fun r S' => r = .tu [.sl S.length 0 (partsL1 t).length (partsL1 t).length, (.v (.bool (true)))] ∧ S' = S ++ [⟨1, (partsL1 t).map strC, 0, false⟩]) := by
 obtain ⟨k, rfl⟩ : ∃ j, k = j + 1 := ⟨k - 1, by omega⟩
 refine Cal.fn (n := 17) (rs := [.tmp 4, .tmp 5]) (ids := []) (D := D) (Xof_none rfl) g15 (by delta Try.f15; exact rfl) (by delta Try.f15; exact rfl) (by delta Try.f15; exact rfl) hd rfl (by first | rfl | simp [idsV, idsC]) (by simp) (by simp) ?_
 intro md' ow; have w := ow.w; have w0 := ow.w0; have fz : md'.fz = false := ow.fz
 have h : ¬ (60 : Int) < (t.size : Int) := by omega
 have h2 : inB 1 1 3 = true := rfl
 have hpl := partsL1_len t
 have htk : List.take 3 ((partsL1 t).map strC) = (partsL1 t).map strC := List.take_of_length_le (by rw [List.length_map, hpl]; decide)
 (have F := an8 @yD @yE @yG @yF @yC @h @h2 @hpl; (repeat' (first | refine' dA84 | ((with_reducible apply EvO.call (vs := ?_)); exact rfl; exact rfl; exact dE10; (with_reducible apply Cal.hd (ms := []) (p := ?_)); exact dE10) | exact dC7 | fail)); all_goals clear F)
 exact ⟨by rw [hpl]; rfl, rfl⟩
theorem c15_two {k : Nat} {md : Md} {S : Store} {vs : List A} {D : List Nat} {t : ByteArray} (hd : dpArgs S [] vs = some ([(.v (.string (t))), (.v (.int .i64 (2)))], D)) (ht : t.size ≤ 60 := by first | assumption | omega | with_reducible rfl) (hk : 30 ≤ k := by omega) :
  Cal (run k) md 15 vs S (fun r S' => r = .tu [.sl S.length 0 (partsL2 t).length (partsL2 t).length, (.v (.bool (true)))] ∧ S' = S ++ [⟨1, (partsL2 t).map strC, 0, false⟩]) := by
 obtain ⟨k, rfl⟩ : ∃ j, k = j + 1 := ⟨k - 1, by omega⟩
 refine Cal.fn (n := 17) (rs := [.tmp 4, .tmp 5]) (ids := []) (D := D) (Xof_none rfl) g15 (by delta Try.f15; exact rfl) (by delta Try.f15; exact rfl) (by delta Try.f15; exact rfl) hd rfl (by first | rfl | simp [idsV, idsC]) (by simp) (by simp) ?_
 intro md' ow; have w := ow.w; have w0 := ow.w0; have fz : md'.fz = false := ow.fz
 have h : ¬ (60 : Int) < (t.size : Int) := by omega
 have h2 : inB 2 1 3 = true := rfl
 have hpl := partsL2_len t
 have htk : List.take 5 ((partsL2 t).map strC) = (partsL2 t).map strC := List.take_of_length_le (by rw [List.length_map, hpl]; decide)
 (have F := an8 @yD @yE @yG @yF @yC @h @h2 @hpl; (repeat' (first | refine' dA84 | ((with_reducible apply EvO.call (vs := ?_)); exact rfl; exact rfl; exact dE10; (with_reducible apply Cal.hd (ms := []) (p := ?_)); exact dE10) | exact dC7 | fail)); all_goals clear F)
 exact ⟨by rw [hpl]; rfl, rfl⟩
theorem c15_three {k : Nat} {md : Md} {S : Store} {vs : List A} {D : List Nat} {t : ByteArray} (hd : dpArgs S [] vs = some ([(.v (.string (t))), (.v (.int .i64 (3)))], D)) (ht : t.size ≤ 60 := by first | assumption | omega | with_reducible rfl) (hk : 30 ≤ k := by omega) :
  Cal (run k) md 15 vs S (fun r S' => r = .tu [.sl S.length 0 (partsL3 t).length (partsL3 t).length, (.v (.bool (true)))] ∧ S' = S ++ [⟨1, (partsL3 t).map strC, 0, false⟩]) := by
 obtain ⟨k, rfl⟩ : ∃ j, k = j + 1 := ⟨k - 1, by omega⟩
 refine Cal.fn (n := 17) (rs := [.tmp 4, .tmp 5]) (ids := []) (D := D) (Xof_none rfl) g15 (by delta Try.f15; exact rfl) (by delta Try.f15; exact rfl) (by delta Try.f15; exact rfl) hd rfl (by first | rfl | simp [idsV, idsC]) (by simp) (by simp) ?_
 intro md' ow; have w := ow.w; have w0 := ow.w0; have fz : md'.fz = false := ow.fz
 have h : ¬ (60 : Int) < (t.size : Int) := by omega
 have h2 : inB 3 1 3 = true := rfl
 have hpl := partsL3_len t
 have htk : List.take 4 ((partsL3 t).map strC) = (partsL3 t).map strC := List.take_of_length_le (by rw [List.length_map, hpl]; decide)
 (have F := an8 @yD @yE @yG @yF @yC @h @h2 @hpl; (repeat' (first | refine' dA84 | ((with_reducible apply EvO.call (vs := ?_)); exact rfl; exact rfl; exact dE10; (with_reducible apply Cal.hd (ms := []) (p := ?_)); exact dE10) | exact dC7 | fail)); all_goals clear F)
 exact ⟨by rw [hpl]; rfl, rfl⟩
theorem c16_no {k : Nat} {md : Md} {S : Store} {vs : List A} {D : List Nat} {t : ByteArray} {x : Int} (hd : dpArgs S [] vs = some ([(.v (.string (t))), (.v (.int .i64 (x)))], D)) (hb : (decide (t.size ≤ 60) && inB x 1 3) = false := by first | assumption | omega | with_reducible rfl) (ht : t.size ≤ 1048576 := by first | assumption | omega | with_reducible rfl) (hk : 10 ≤ k := by omega) :
  Cal (run k) md 16 vs S (fun r S' => r = .tu [.sl S.length 0 0 0, (.v (.bool (false)))] ∧ S' = S ++ [⟨1, [], 0, false⟩]) := by
 obtain ⟨k, rfl⟩ : ∃ j, k = j + 1 := ⟨k - 1, by omega⟩
 refine Cal.fn (n := 17) (rs := [.tmp 4, .tmp 5]) (ids := []) (D := D) (Xof_none rfl) g16 (by delta Try.f16; exact rfl) (by delta Try.f16; exact rfl) (by delta Try.f16; exact rfl) hd rfl (by first | rfl | simp [idsV, idsC]) (by simp) (by simp) ?_
 intro md' ow; have w := ow.w; have w0 := ow.w0; have fz : md'.fz = false := ow.fz
 by_cases h : (60 : Int) < (t.size : Int)
 ·(have F := an6 @yD @yE @yG @yF @yC @h; (repeat' (first | refine' dA83 | ((with_reducible apply EvO.call (vs := ?_)); exact rfl; exact rfl; exact dE7; (with_reducible apply Cal.hd (ms := []) (p := ?_)); exact dE7) | exact dC6 | fail)); all_goals clear F)
  all_goals exact ⟨rfl, rfl⟩
 ·have h2 : inB x 1 3 = false := by
   rw [decide_eq_true (by omega), Bool.true_and] at hb; exact hb
  (have F := an7 @yD @yE @yG @yF @yC @h @h2; (repeat' (first | refine' dA83 | ((with_reducible apply EvO.call (vs := ?_)); exact rfl; exact rfl; exact dE7; (with_reducible apply Cal.hd (ms := []) (p := ?_)); exact dE7) | exact dC6 | fail)); all_goals clear F)
  all_goals exact ⟨rfl, rfl⟩
theorem c16_one {k : Nat} {md : Md} {S : Store} {vs : List A} {D : List Nat} {t : ByteArray} (hd : dpArgs S [] vs = some ([(.v (.string (t))), (.v (.int .i64 (1)))], D)) (ht : t.size ≤ 60 := by first | assumption | omega | with_reducible rfl) (hk : 30 ≤ k := by omega) :
  Cal (run k) md 16 vs S (fun r S' => r = .tu [.sl S.length 0 (partsL1 t).length (partsL1 t).length, (.v (.bool (true)))] ∧ S' = S ++ [⟨1, (partsL1 t).map strC, 0, false⟩]) := by
 obtain ⟨k, rfl⟩ : ∃ j, k = j + 1 := ⟨k - 1, by omega⟩
 refine Cal.fn (n := 17) (rs := [.tmp 4, .tmp 5]) (ids := []) (D := D) (Xof_none rfl) g16 (by delta Try.f16; exact rfl) (by delta Try.f16; exact rfl) (by delta Try.f16; exact rfl) hd rfl (by first | rfl | simp [idsV, idsC]) (by simp) (by simp) ?_
 intro md' ow; have w := ow.w; have w0 := ow.w0; have fz : md'.fz = false := ow.fz
 have h : ¬ (60 : Int) < (t.size : Int) := by omega
 have h2 : inB 1 1 3 = true := rfl
 have hpl := partsL1_len t
 have htk : List.take 3 ((partsL1 t).map strC) = (partsL1 t).map strC := List.take_of_length_le (by rw [List.length_map, hpl]; decide)
 (have F := an8 @yD @yE @yG @yF @yC @h @h2 @hpl; (repeat' (first | refine' dA84 | ((with_reducible apply EvO.call (vs := ?_)); exact rfl; exact rfl; exact dE10; (with_reducible apply Cal.hd (ms := []) (p := ?_)); exact dE10) | exact dC6 | fail)); all_goals clear F)
 exact ⟨by rw [hpl]; rfl, rfl⟩
theorem c16_two {k : Nat} {md : Md} {S : Store} {vs : List A} {D : List Nat} {t : ByteArray} (hd : dpArgs S [] vs = some ([(.v (.string (t))), (.v (.int .i64 (2)))], D)) (ht : t.size ≤ 60 := by first | assumption | omega | with_reducible rfl) (hk : 30 ≤ k := by omega) :
  Cal (run k) md 16 vs S (fun r S' => r = .tu [.sl S.length 0 (partsL2 t).length (partsL2 t).length, (.v (.bool (true)))] ∧ S' = S ++ [⟨1, (partsL2 t).map strC, 0, false⟩]) := by
 obtain ⟨k, rfl⟩ : ∃ j, k = j + 1 := ⟨k - 1, by omega⟩
 refine Cal.fn (n := 17) (rs := [.tmp 4, .tmp 5]) (ids := []) (D := D) (Xof_none rfl) g16 (by delta Try.f16; exact rfl) (by delta Try.f16; exact rfl) (by delta Try.f16; exact rfl) hd rfl (by first | rfl | simp [idsV, idsC]) (by simp) (by simp) ?_
 intro md' ow; have w := ow.w; have w0 := ow.w0; have fz : md'.fz = false := ow.fz
 have h : ¬ (60 : Int) < (t.size : Int) := by omega
 have h2 : inB 2 1 3 = true := rfl
 have hpl := partsL2_len t
 have htk : List.take 5 ((partsL2 t).map strC) = (partsL2 t).map strC := List.take_of_length_le (by rw [List.length_map, hpl]; decide)
 (have F := an8 @yD @yE @yG @yF @yC @h @h2 @hpl; (repeat' (first | refine' dA84 | ((with_reducible apply EvO.call (vs := ?_)); exact rfl; exact rfl; exact dE10; (with_reducible apply Cal.hd (ms := []) (p := ?_)); exact dE10) | exact dC6 | fail)); all_goals clear F)
 exact ⟨by rw [hpl]; rfl, rfl⟩
theorem c16_three {k : Nat} {md : Md} {S : Store} {vs : List A} {D : List Nat} {t : ByteArray} (hd : dpArgs S [] vs = some ([(.v (.string (t))), (.v (.int .i64 (3)))], D)) (ht : t.size ≤ 60 := by first | assumption | omega | with_reducible rfl) (hk : 30 ≤ k := by omega) :
  Cal (run k) md 16 vs S (fun r S' => r = .tu [.sl S.length 0 (partsL3 t).length (partsL3 t).length, (.v (.bool (true)))] ∧ S' = S ++ [⟨1, (partsL3 t).map strC, 0, false⟩]) := by
 obtain ⟨k, rfl⟩ : ∃ j, k = j + 1 := ⟨k - 1, by omega⟩
 refine Cal.fn (n := 17) (rs := [.tmp 4, .tmp 5]) (ids := []) (D := D) (Xof_none rfl) g16 (by delta Try.f16; exact rfl) (by delta Try.f16; exact rfl) (by delta Try.f16; exact rfl) hd rfl (by first | rfl | simp [idsV, idsC]) (by simp) (by simp) ?_
 intro md' ow; have w := ow.w; have w0 := ow.w0; have fz : md'.fz = false := ow.fz
 have h : ¬ (60 : Int) < (t.size : Int) := by omega
 have h2 : inB 3 1 3 = true := rfl
 have hpl := partsL3_len t
 have htk : List.take 4 ((partsL3 t).map strC) = (partsL3 t).map strC := List.take_of_length_le (by rw [List.length_map, hpl]; decide)
 (have F := an8 @yD @yE @yG @yF @yC @h @h2 @hpl; (repeat' (first | refine' dA84 | ((with_reducible apply EvO.call (vs := ?_)); exact rfl; exact rfl; exact dE10; (with_reducible apply Cal.hd (ms := []) (p := ?_)); exact dE10) | exact dC6 | fail)); all_goals clear F)
 exact ⟨by rw [hpl]; rfl, rfl⟩
end Go.Proofs.YtomklniddinhnaaB

/- Part of the evaluator's contracts: split. -/
import Derived.Test.YtomklniddinhnaaFparts2
import Derived.Test.YtomklniddinhnaaFbase
namespace Go.Proofs.YtomklniddinhnaaB
open Go Go.Proofs.YtomklniddinhnaaE
set_option linter.unusedVariables false
set_option linter.unusedSectionVars false
set_option linter.unusedSimpArgs false
set_option maxHeartbeats 4000000
set_option maxRecDepth 20000
def szP (s : ByteArray) (m : Nat) : Nat := (s.size + m - 1) / m
theorem szP_ge (s : ByteArray) {m : Nat} (h : 0 < m) : s.size ≤ m * szP s m := by
 unfold szP
 have h1 := Nat.div_add_mod (s.size + m - 1) m
 have h2 := Nat.mod_lt (s.size + m - 1) h
 generalize m * ((s.size + m - 1) / m) = x at *
 omega
theorem szP_le (s : ByteArray) {m : Nat} (h : 0 < m) : szP s m ≤ s.size := by
 unfold szP
 rcases Nat.eq_zero_or_pos s.size with h0 | h0
 ·rw [h0, Nat.zero_add, Nat.div_eq_of_lt (by omega)]; exact Nat.zero_le _
 ·rw [Nat.div_le_iff_le_mul_add_pred h]
  have : s.size ≤ m * s.size := Nat.le_mul_of_pos_left _ h
  omega
def pdS (s : ByteArray) (m : Nat) : ByteArray := s ++ strN (List.replicate (m * szP s m - s.size) 0)
theorem pdS_size (s : ByteArray) {m : Nat} (h : 0 < m) : (pdS s m).size = m * szP s m := by
 have h1 := szP_ge s h
 rw [pdS, ByteArray.size_append, strN_size, List.length_replicate]; omega
def splS (s : ByteArray) (m : Nat) : List ByteArray := (List.range m).map fun i => (pdS s m).extract (i * szP s m) ((i + 1) * szP s m)
def spT (s : ByteArray) (m i : Nat) : List ByteArray := (List.range i).map fun i => (pdS s m).extract (i * szP s m) ((i + 1) * szP s m)
theorem spT_len (s : ByteArray) (m i : Nat) : (spT s m i).length = i := by simp [spT]
theorem splS_len (s : ByteArray) (m : Nat) : (splS s m).length = m := by simp [splS]
theorem spT_s (s : ByteArray) (m i : Nat) : (spT s m (i + 1)).map strC = (spT s m i).map strC ++ [[(.v (.string ((pdS s m).extract (i * szP s m) ((i + 1) * szP s m))))]] := by simp [spT, List.range_succ, strC]
theorem splS_size (s : ByteArray) {m : Nat} (h : 0 < m) : ∀ d ∈ splS s m, d.size = szP s m := fun d hd => by
 obtain ⟨i, hi, rfl⟩ := List.mem_map.1 hd
 have hi := List.mem_range.1 hi
 have h1 : (i + 1) * szP s m ≤ m * szP s m := Nat.mul_le_mul_right _ hi
 rw [ByteArray.size_extract, pdS_size s h, Nat.min_eq_left h1, Nat.add_mul]; omega
theorem quoP (s : ByteArray) {m : Nat} (h : 0 < m) : ((s.size : Int) + (m : Int) - 1) / (m : Int) = (szP s m : Int) := by
 rw [show (s.size : Int) + (m : Int) - 1 = ((s.size + m - 1 : Nat) : Int) by omega, ← Int.natCast_ediv]; rfl
theorem zstr (n : Nat) : strOfNums (List.replicate n 0) = strN (List.replicate n 0) := by rw [strN, List.map_replicate]; rfl
theorem okz (k n : Nat) : rowsAll (okC k) (List.replicate n [(.v (.int .u8 (0)))]) = true := by unfold rowsAll; rw [List.all_eq_true]; intro r hr; rw [List.eq_of_mem_replicate hr]; rfl
theorem k70_5 (e : Env) : lpE (FI.K ⟨[], false, [(5, [0, 1, 5, 6, 7]), (1000, [0, 1]), (1001, [0, 1, 5]), (1002, [0, 1, 5]), (1003, [0, 1, 5, 6]), (1004, [0, 1, 5, 6, 7]), (1005, [0, 1, 5, 6, 7, 27]), (1006, [0, 1, 5, 6, 7]), (1007, [0, 1, 5, 6, 7]), (1008, [4])]⟩ 5) e = mkE [(0, e 0), (1, e 1), (5, e 5), (6, e 6), (7, e 7)] := rfl
theorem c70 {k : Nat} {md : Md} {S : Store} {vs : List A} {D : List Nat} {s : ByteArray} {m : Nat} (hd : dpArgs S [] vs = some ([(.v (.string (s))), (.v (.int .i64 ((m : Int))))], D)) (hm : 1 ≤ m ∧ m ≤ 8 := by first | assumption | omega | with_reducible rfl) (hs : s.size ≤ 1048576 := by first | assumption | omega | with_reducible rfl) (hk : 1 ≤ k := by omega) :
  Cal (run k) md 70 vs S (fun r S' => r = .sl S.length 0 m m ∧ S' = S ++ [⟨1, (splS s m).map strC, 0, false⟩]) := by
 obtain ⟨k, rfl⟩ : ∃ j, k = j + 1 := ⟨k - 1, by omega⟩
 refine Cal.fn (n := 43) (rs := [.tmp 4]) (ids := []) (D := D) (Xof_none rfl) g70 (by delta Try.f70; exact rfl) (by delta Try.f70; exact rfl) (by delta Try.f70; exact rfl) hd rfl (by first | rfl | simp [idsV, idsC]) (by simp) (by simp) ?_
 intro md' ow; have w := ow.w; have w0 := ow.w0; have fz : md'.fz = false := ow.fz
 have hm0 : 0 < m := hm.1
 have hmz : ¬ (m : Int) = 0 := by omega
 have g1 := szP_ge s hm0
 have g2 := szP_le s hm0
 have g3 := pdS_size s hm0
 have g4 : m * szP s m ≤ 8 * szP s m := Nat.mul_le_mul_right _ hm.2
 have e1 := quoP s hm0
 have e2 : (m : Int) * (szP s m : Int) = ((m * szP s m : Nat) : Int) := (Int.natCast_mul _ _).symm
 have e3 : ((m * szP s m : Nat) : Int) - (s.size : Int) = ((m * szP s m - s.size : Nat) : Int) := by omega
 have hzm := mapM_zero (m * szP s m - s.size)
 have hzs := zstr (m * szP s m - s.size)
 have hzz := strN_size (List.replicate (m * szP s m - s.size) 0)
 rw [List.length_replicate] at hzz
 have hpd : s ++ strN (List.replicate (m * szP s m - s.size) 0) = pdS s m := rfl
 (have F := an12 @yD @yE @yG @yF @hmz @e1 @e2 @e3 @hpd @List.length_replicate.{0} @List.take_replicate.{0} @Nat.min_self; (repeat' (first | refine' dA48 | fail)); all_goals clear F)
 apply Ev.loop (fun j e S' => ∃ i : Nat, e = mkE [(0, (.v (.string (pdS s m)))), (1, (.v (.int .i64 ((m : Int))))), (5, (.v (.int .i64 ((szP s m : Int))))), (6, .sl (S.length + 2) 0 i i), (7, (.v (.int .i64 ((i : Int)))))] ∧ S' = S ++ [⟨1, [], 0, false⟩, ⟨1, List.replicate (m * szP s m - s.size) [(.v (.int .u8 (0)))], 0, false⟩, ⟨1, (spT s m i).map strC, 0, false⟩] ∧ j = m - i ∧ (i ≤ m))
 ·exact ⟨0, (k70_5 _).trans dN13, (by first | rfl | (simp only [app_app, List.cons_append, List.nil_append]; done)), rfl, (by omega)⟩
 rintro j e S' ⟨i, rfl, rfl, hj, hi⟩
 have hti := spT_len s m i
 by_cases hli : (i : Int) < (m : Int)
 ·have hlt : i < m := by omega
  have h1 : (i + 1) * szP s m ≤ m * szP s m := Nat.mul_le_mul_right _ hlt
  have h2 : (i + 1) * szP s m = i * szP s m + szP s m := Nat.succ_mul _ _
  have f1 : (i : Int) * (szP s m : Int) = ((i * szP s m : Nat) : Int) := (Int.natCast_mul _ _).symm
  have f2 : ((i : Int) + 1) * (szP s m : Int) = (((i + 1) * szP s m : Nat) : Int) := by rw [Int.natCast_mul]; rfl
  have f3 : i * szP s m ≤ (i + 1) * szP s m := by omega
  have hss := spT_s s m i
  (have F := an11 @yD @yE @yG @yF @hli @g3 @f1 @f2 @h1 @f3 (Eq.symm hss); (repeat' (first | refine' dA37 | fail)); all_goals clear F)
  apply roundQ_m; refine ⟨_, ⟨i + 1, (k70_5 _).trans dN13, ?_, rfl, ?_⟩, ?_⟩
  ·(refine (congrArg (fun K => lpG K _ _ _) (show _ = some _ from rfl)).trans (lpG_mod rfl rfl ?_ ?_) <;> (simp [lowV, okC, mkE_at, rowsAll_cons, rowsAll_nil, okz, ok_str]; try omega))
  ·omega
  ·omega
 ·obtain rfl : i = m := by omega
  have hte : spT s i i = splS s i := rfl
  rw [hte]
  rw [hte] at hti
  have htk : List.take i ((splS s i).map strC) = (splS s i).map strC := List.take_of_length_le (by simp [splS])
  (have F := an5 @yD @yE @yG @yF @hli; (repeat' (first | refine' dA49 | fail)); all_goals clear F)
  exact ⟨rfl, rfl⟩
theorem rep_0 (q : Nat) : (⟨(Go.Lib.repeatL [0] q).toArray⟩ : ByteArray) = strN (List.replicate q 0) := by -- 94
 rw [repeat_one, strN, strOfNums, List.map_replicate, List.map_replicate]; rfl
theorem rep_0c (q : Nat) : (⟨(Go.Lib.repeatL (#[0] : Array UInt8).toList q).toArray⟩ : ByteArray) = strN (List.replicate q 0) := rep_0 q -- 94
theorem k72_7 (e : Env) : lpE (FI.K ⟨[], false, [(7, [0, 6, 7, 36, 37]), (1000, [0, 1]), (1001, [0, 1, 18]), (1002, [4, 5]), (1003, [0, 1, 6]), (1004, [0, 1, 6]), (1005, [0, 1, 6, 7]), (1006, [0, 6, 7, 36, 37]), (1007, [0, 6, 7, 36, 37, 38]), (1008, [0, 6, 7, 8, 36, 37]), (1009, [0, 6, 7, 36, 37]), (1010, [0, 6, 7, 36, 37]), (1011, [4, 5])]⟩ 7) e = mkE [(0, e 0), (6, e 6), (7, e 7), (36, e 36), (37, e 37)] := rfl
theorem c72 {k : Nat} {md : Md} {S : Store} {vs : List A} {D : List Nat} {s : ByteArray} {m : Nat} (hd : dpArgs S [] vs = some ([(.v (.string (s))), (.v (.int .i64 ((m : Int))))], D)) (hm : 1 ≤ m ∧ m ≤ 8 := by first | assumption | omega | with_reducible rfl) (hs : s.size ≤ m * 40 := by first | assumption | omega | with_reducible rfl) (hk : 5 ≤ k := by omega) :
  Cal (run k) md 72 vs S (fun r S' => r = .tu [.sl S.length 0 m m, (.v (.bool (true)))] ∧ S' = S ++ [⟨1, (splS s m).map strC, 0, false⟩]) := by
 obtain ⟨k, rfl⟩ : ∃ j, k = j + 1 := ⟨k - 1, by omega⟩
 refine Cal.fn (n := 54) (rs := [.tmp 4, .tmp 5]) (ids := []) (D := D) (Xof_none rfl) g72 (by delta Try.f72; exact rfl) (by delta Try.f72; exact rfl) (by delta Try.f72; exact rfl) hd rfl (by first | rfl | simp [idsV, idsC]) (by simp) (by simp) ?_
 intro md' ow; have w := ow.w; have w0 := ow.w0; have fz : md'.fz = false := ow.fz
 have hm0 : 0 < m := hm.1
 have hin : inB (m : Int) 1 8 = true := by simp [inB]; omega
 have hmz : ¬ (m : Int) = 0 := by omega
 have hs2 : ¬ (m : Int) * 40 < (s.size : Int) := by omega
 have g1 := szP_ge s hm0
 have g2 := szP_le s hm0
 have g3 := pdS_size s hm0
 have g4 : m * szP s m ≤ 8 * szP s m := Nat.mul_le_mul_right _ hm.2
 have e1 := quoP s hm0
 have e2 : (szP s m : Int) * (m : Int) = ((m * szP s m : Nat) : Int) := by rw [Int.natCast_mul, Int.mul_comm]
 have e3 : ((m * szP s m : Nat) : Int) - (s.size : Int) = ((m * szP s m - s.size : Nat) : Int) := by omega
 have hr1 := rep_0 (m * szP s m - s.size)
 have hr2 := rep_0c (m * szP s m - s.size)
 have hzz := strN_size (List.replicate (m * szP s m - s.size) 0)
 rw [List.length_replicate] at hzz
 have hpd : s ++ strN (List.replicate (m * szP s m - s.size) 0) = pdS s m := rfl
 (have F := an13 @yD @yE @yG @yF @hin @hmz @hs2 @e1 @e2 @e3 @hr1 @hr2 @hpd; (repeat' (first | refine' dA50 | exact c94 (hs := by omega) (hc := by first | assumption | (show 1 * _ ≤ _; simp only [Int.toNat_natCast]; omega) | (simp; omega)) | ((with_reducible apply EvO.call (vs := ?_)); exact rfl; exact rfl; exact dE19; first | exact c94 (hs := by omega) (hc := by first | assumption | (show 1 * _ ≤ _; simp only [Int.toNat_natCast]; omega) | (simp; omega)) | ((with_reducible apply Cal.hd (ms := []) (p := ?_)); exact dE19)) | ((with_reducible apply CalH.mk); intro hd; first | exact c34 hd) | fail)); all_goals clear F)
 apply Ev.loop (fun j e S' => ∃ i : Nat, e = mkE [(0, (.v (.string (pdS s m)))), (6, (.v (.int .i64 ((szP s m : Int))))), (7, .sl (S.length + 1) 0 i i), (36, (.v (.int .i64 ((m : Int))))), (37, (.v (.int .i64 ((i : Int)))))] ∧ S' = S ++ [⟨1, [], 0, false⟩, ⟨1, (spT s m i).map strC, 0, false⟩] ∧ j = m - i ∧ (i ≤ m))
 ·exact ⟨0, (k72_7 _).trans dN13, (by first | rfl | (simp only [app_app, List.cons_append, List.nil_append]; done)), rfl, (by omega)⟩
 rintro j e S' ⟨i, rfl, rfl, hj, hi⟩
 have hti := spT_len s m i
 by_cases hli : (i : Int) < (m : Int)
 ·have hlt : i < m := by omega
  have h1 : (i + 1) * szP s m ≤ m * szP s m := Nat.mul_le_mul_right _ hlt
  have h2 : (i + 1) * szP s m = i * szP s m + szP s m := Nat.succ_mul _ _
  have f1 : (i : Int) * (szP s m : Int) = ((i * szP s m : Nat) : Int) := (Int.natCast_mul _ _).symm
  have f2 : ((i : Int) + 1) * (szP s m : Int) = (((i + 1) * szP s m : Nat) : Int) := by rw [Int.natCast_mul]; rfl
  have f3 : i * szP s m ≤ (i + 1) * szP s m := by omega
  have hss := spT_s s m i
  (have F := an11 @yD @yE @yG @yF @hli @g3 @f1 @f2 @h1 @f3 (Eq.symm hss); (repeat' (first | refine' dA51 | exact c94 (hs := by omega) (hc := by first | assumption | (show 1 * _ ≤ _; simp only [Int.toNat_natCast]; omega) | (simp; omega)) | ((with_reducible apply EvO.call (vs := ?_)); exact rfl; exact rfl; exact dE11; first | exact c94 (hs := by omega) (hc := by first | assumption | (show 1 * _ ≤ _; simp only [Int.toNat_natCast]; omega) | (simp; omega)) | ((with_reducible apply Cal.hd (ms := []) (p := ?_)); exact dE11)) | ((with_reducible apply CalH.mk); intro hd; first | exact c34 hd) | fail)); all_goals clear F)
  apply roundQ_m; refine ⟨_, ⟨i + 1, (k72_7 _).trans dN13, ?_, rfl, ?_⟩, ?_⟩
  ·exact dS6
  ·first | omega | rfl | assumption | (simp; done)
  ·omega
 ·obtain rfl : i = m := by omega
  have hte : spT s i i = splS s i := rfl
  rw [hte]
  rw [hte] at hti
  have htk : List.take i ((splS s i).map strC) = (splS s i).map strC := List.take_of_length_le (by simp [splS])
  (have F := an5 @yD @yE @yG @yF @hli; (repeat' (first | refine' dA52 | exact c94 (hs := by omega) (hc := by first | assumption | (show 1 * _ ≤ _; simp only [Int.toNat_natCast]; omega) | (simp; omega)) | ((with_reducible apply EvO.call (vs := ?_)); exact rfl; exact rfl; exact dE15; first | exact c94 (hs := by omega) (hc := by first | assumption | (show 1 * _ ≤ _; simp only [Int.toNat_natCast]; omega) | (simp; omega)) | ((with_reducible apply Cal.hd (ms := []) (p := ?_)); exact dE15)) | ((with_reducible apply CalH.mk); intro hd; first | exact c34 hd) | fail)); all_goals clear F)
  exact ⟨rfl, rfl⟩
end Go.Proofs.YtomklniddinhnaaB

/- Part of the evaluator's contracts: parts1. -/
import Derived.Test.YtomklniddinhnaaFpoly
import Derived.Test.YtomklniddinhnaaFstr
import Derived.Test.YtomklniddinhnaaFgf
namespace Go.Proofs.YtomklniddinhnaaB
open Go Go.Proofs.YtomklniddinhnaaE
set_option linter.unusedVariables false
set_option linter.unusedSectionVars false
set_option linter.unusedSimpArgs false
set_option maxHeartbeats 4000000
set_option maxRecDepth 20000
def bytesN (s : ByteArray) : List Nat := s.data.toList.map UInt8.toNat
def strN (l : List Nat) : ByteArray := strOfNums (l.map fun x : Nat => (x : Int))
theorem bytesN_len (s : ByteArray) : (bytesN s).length = s.size := by unfold bytesN; rw [List.length_map, Array.length_toList]; rfl
theorem bytesN_lt {s : ByteArray} : ∀ x ∈ bytesN s, x < 256 := fun x hx => by
 obtain ⟨b, _, rfl⟩ := List.mem_map.1 hx
 exact b.toNat_lt
theorem strRows_N (s : ByteArray) : strRows s = (bytesN s).map bC := by simp [strRows, bytesN, bC, byteRow, Function.comp_def]
theorem mapM_bC : ∀ l : List Nat, (l.map bC).mapM byteOfRow = some (l.map fun x : Nat => (x : Int))
 | [] => rfl
 | x :: l => by rw [List.map_cons, List.mapM_cons, mapM_bC l]; rfl
theorem strN_of (l : List Nat) : strOfNums (l.map fun x : Nat => (x : Int)) = strN l := rfl
theorem strN_size (l : List Nat) : (strN l).size = l.length := by simp [strN, strOfNums, ByteArray.size]
theorem bytesN_strN {l : List Nat} (h : ∀ x ∈ l, x < 256) : bytesN (strN l) = l := by
 unfold bytesN strN strOfNums
 simp only [List.map_map]
 conv => rhs; rw [← List.map_id l]
 apply List.map_congr_left
 intro x hx
 have := h x hx
 simp [UInt8.ofInt, Function.comp]
 omega
def tmL (a : Nat) (l : List Nat) : List Nat := l.map (tm a)
theorem tmL_len (a : Nat) (l : List Nat) : (tmL a l).length = l.length := by simp [tmL]
theorem tmL_s (a : Nat) (l : List Nat) {i : Nat} (h : i < l.length) : (tmL a (l.take (i + 1))).map bC = (tmL a (l.take i)).map bC ++ [[(.v (.int .u8 ((tm a l[i] : Int))))]] := by
 unfold tmL; rw [List.take_add_one, List.getElem?_eq_getElem h, List.map_append, List.map_append]; rfl
theorem bC_tk (l : List Nat) : List.take l.length (l.map bC) = l.map bC := List.take_of_length_le (by simp)
theorem k120_3 (e : Env) : lpE (FI.K ⟨[], false, [(3, [0, 5, 9, 10, 11]), (1000, [0, 1]), (1001, [0, 1, 5]), (1002, [0, 5, 9, 10, 11]), (1003, [0, 5, 9, 10, 11, 12]), (1004, [0, 5, 7, 9, 10, 11]), (1005, [0, 5, 9, 10, 11]), (1006, [0, 5, 9, 10, 11]), (1007, [4])]⟩ 3) e = mkE [(0, e 0), (5, e 5), (9, e 9), (10, e 10), (11, e 11)] := rfl
theorem c120 {k : Nat} {md : Md} {S : Store} {vs : List A} {D : List Nat} {a : Nat} {l : List Nat} (hd : dpArgs S [] vs = some ([(.v (.int .u8 ((a : Int)))), .ro 1 (l.map bC)], D)) (ha : a < 256 := by first | assumption | omega | with_reducible rfl) (hl : ∀ x ∈ l, x < 256 := by first | assumption | omega | with_reducible rfl) (hn : l.length ≤ 1048576 := by first | assumption | omega | with_reducible rfl) (hk : 2 ≤ k := by omega) :
  Cal (run k) md 120 vs S (fun r S' => r = .sl S.length 0 l.length l.length ∧ S' = S ++ [⟨1, (tmL a l).map bC, 0, false⟩]) := by
 obtain ⟨k, rfl⟩ : ∃ j, k = j + 1 := ⟨k - 1, by omega⟩
 refine Cal.fn (n := 23) (rs := [.tmp 4]) (ids := []) (D := D) (Xof_none rfl) g120 (by delta Try.f120; exact rfl) (by delta Try.f120; exact rfl) (by delta Try.f120; exact rfl) hd rfl (by first | rfl | simp [idsV, idsC]) (by simp) (by simp) ?_
 intro md' ow; have w := ow.w; have w0 := ow.w0; have fz : md'.fz = false := ow.fz
 (have F := an4 @yD @yE @yG @yF; (repeat' (first | refine' dA34 | ((with_reducible apply EvO.call (vs := ?_)); exact rfl; exact rfl; exact dE7; (with_reducible apply Cal.hd (ms := []) (p := ?_)); exact dE7) | ((with_reducible apply CalH.mk); intro hd; first | exact c112 hd) | fail)); all_goals clear F)
 apply Ev.loop (fun j e S' => ∃ i : Nat, e = mkE [(0, (.v (.int .u8 ((a : Int))))), (5, .sl (S.length + 1) 0 i i), (9, .ro 1 (l.map bC)), (10, (.v (.int .i64 ((l.length : Int))))), (11, (.v (.int .i64 ((i : Int)))))] ∧ S' = S ++ [⟨1, [], 0, false⟩, ⟨1, (tmL a (l.take i)).map bC, 0, false⟩] ∧ j = l.length - i ∧ (i ≤ l.length))
 ·exact ⟨0, (k120_3 _).trans dN13, (by first | rfl | (simp only [app_app, List.cons_append, List.nil_append]; done)), rfl, (by omega)⟩
 rintro j e S' ⟨i, rfl, rfl, hj, hi⟩
 have hti : (tmL a (l.take i)).length = i := by rw [tmL_len]; simp; omega
 by_cases hli : (i : Int) < (l.length : Int)
 ·have hlt : i < l.length := by omega
  have hg := bC_at hlt
  have hx := hl l[i] (by simp)
  have hs := tmL_s a l hlt
  have ht := tm_lt l[i] ha
  (have F := an7 @yD @yE @yG @yF @hli @hg (Eq.symm hs); (repeat' (first | refine' dA35 | ((with_reducible apply EvO.call (vs := ?_)); exact rfl; exact rfl; exact dE11; (with_reducible apply Cal.hd (ms := []) (p := ?_)); exact dE11) | ((with_reducible apply CalH.mk); intro hd; first | exact c112 (k := k) hd (a := a) (b := l[i])) | fail)); all_goals clear F)
  apply roundQ_m; refine ⟨_, ⟨i + 1, (k120_3 _).trans dN13, ?_, rfl, ?_⟩, ?_⟩
  ·exact dS6
  ·first | omega | rfl | assumption | (simp; done)
  ·omega
 ·obtain rfl : i = l.length := by omega
  rw [List.take_length]
  have hlt := tmL_len a l
  have htk : List.take l.length ((tmL a l).map bC) = (tmL a l).map bC := List.take_of_length_le (by simp [tmL])
  (have F := an6 @yD @yE @yG @yF @hli @hlt; (repeat' (first | refine' dA36 | ((with_reducible apply EvO.call (vs := ?_)); exact rfl; exact rfl; exact dE10; (with_reducible apply Cal.hd (ms := []) (p := ?_)); exact dE10) | ((with_reducible apply CalH.mk); intro hd; first | exact c112 hd) | fail)); all_goals clear F)
  exact ⟨rfl, rfl⟩
theorem xr_s {v w : List Nat} (he : v.length = w.length) {i : Nat} (h : i < v.length) : ((List.zipWith (fun x y => x ^^^ y) v w).take (i + 1)).map bC = ((List.zipWith (fun x y => x ^^^ y) v w).take i).map bC ++ [[(.v (.int .u8 (((v[i] ^^^ w[i]'(by omega) : Nat) : Int))))]] := by
 rw [List.take_add_one, List.getElem?_eq_getElem (by simp; omega), List.map_append]; simp [bC]
def xrL (v w : List Nat) : List Nat := List.zipWith (fun x y => x ^^^ y) v w
theorem xrL_len {v w : List Nat} (he : v.length = w.length) : (xrL v w).length = v.length := by simp [xrL]; omega
def xrT (v u : List Nat) (i : Nat) : List Nat := (xrL v u).take i
theorem k119_3 (e : Env) : lpE (FI.K ⟨[], false, [(3, [1, 5, 9, 10, 11]), (1000, [0, 1]), (1001, [0, 1, 5]), (1002, [1, 5, 9, 10, 11]), (1003, [1, 5, 9, 10, 11, 12]), (1004, [1, 5, 6, 7, 9, 10, 11]), (1005, [1, 5, 9, 10, 11]), (1006, [1, 5, 9, 10, 11]), (1007, [4])]⟩ 3) e = mkE [(1, e 1), (5, e 5), (9, e 9), (10, e 10), (11, e 11)] := rfl
theorem c119 {k : Nat} {md : Md} {S : Store} {vs : List A} {D : List Nat} {v u : List Nat} (hd : dpArgs S [] vs = some ([.ro 1 (v.map bC), .ro 1 (u.map bC)], D)) (he : v.length = u.length := by first | assumption | omega | with_reducible rfl) (hv : ∀ x ∈ v, x < 256 := by first | assumption | omega | with_reducible rfl) (hw2 : ∀ x ∈ u, x < 256 := by first | assumption | omega | with_reducible rfl) (hn : v.length ≤ 1048576 := by first | assumption | omega | with_reducible rfl) (hk : 1 ≤ k := by omega) :
  Cal (run k) md 119 vs S (fun r S' => r = .sl S.length 0 v.length v.length ∧ S' = S ++ [⟨1, (xrL v u).map bC, 0, false⟩]) := by
 obtain ⟨k, rfl⟩ : ∃ j, k = j + 1 := ⟨k - 1, by omega⟩
 refine Cal.fn (n := 27) (rs := [.tmp 4]) (ids := []) (D := D) (Xof_none rfl) g119 (by delta Try.f119; exact rfl) (by delta Try.f119; exact rfl) (by delta Try.f119; exact rfl) hd rfl (by first | rfl | simp [idsV, idsC]) (by simp) (by simp) ?_
 intro md' ow; have w := ow.w; have w0 := ow.w0; have fz : md'.fz = false := ow.fz
 (have F := an4 @yD @yE @yG @yF; (repeat' (first | refine' dA21 | fail)); all_goals clear F)
 apply Ev.loop (fun j e S' => ∃ i : Nat, e = mkE [(1, .ro 1 (u.map bC)), (5, .sl (S.length + 1) 0 i i), (9, .ro 1 (v.map bC)), (10, (.v (.int .i64 ((v.length : Int))))), (11, (.v (.int .i64 ((i : Int)))))] ∧ S' = S ++ [⟨1, [], 0, false⟩, ⟨1, (xrT v u i).map bC, 0, false⟩] ∧ j = v.length - i ∧ (i ≤ v.length))
 ·exact ⟨0, (k119_3 _).trans dN13, (by first | rfl | (simp only [app_app, List.cons_append, List.nil_append]; done)), rfl, (by omega)⟩
 rintro j e S' ⟨i, rfl, rfl, hj, hi⟩
 have hxl := xrL_len he
 have hti : (xrT v u i).length = i := by simp [xrT]; omega
 by_cases hli : (i : Int) < (v.length : Int)
 ·have hlt : i < v.length := by omega
  have hlt2 : i < u.length := by omega
  have hg := bC_at hlt
  have hg2 := bC_at hlt2
  have e1 := xor8 v[i] u[i] (hv _ (by simp)) (hw2 _ (by simp))
  have hs := xr_s he hlt
  rw [show (List.zipWith (fun x y => x ^^^ y) v u).take i = xrT v u i from rfl, show (List.zipWith (fun x y => x ^^^ y) v u).take (i + 1) = xrT v u (i + 1) from rfl] at hs
  (have F := an9 @yD @yE @yG @yF @hli @hg @hg2 @e1 (Eq.symm hs); (repeat' (first | refine' dA37 | fail)); all_goals clear F)
  apply roundQ_m; refine ⟨_, ⟨i + 1, (k119_3 _).trans dN13, ?_, rfl, ?_⟩, ?_⟩
  ·exact dS6
  ·first | omega | rfl | assumption | (simp; done)
  ·omega
 ·obtain rfl : i = v.length := by omega
  have htk : xrT v u v.length = xrL v u := List.take_of_length_le (by omega)
  have htk2 : List.take v.length ((xrL v u).map bC) = (xrL v u).map bC := List.take_of_length_le (by simp; omega)
  rw [htk]
  (have F := an5 @yD @yE @yG @yF @hli; (repeat' (first | refine' dA38 | fail)); all_goals clear F)
  exact ⟨rfl, rfl⟩
theorem c96 {k : Nat} {md : Md} {S : Store} {vs : List A} {D : List Nat} {a : Nat} {s : ByteArray} (hd : dpArgs S [] vs = some ([(.v (.int .u8 ((a : Int)))), (.v (.string (s)))], D)) (ha : a < 256 := by first | assumption | omega | with_reducible rfl) (hn : s.size ≤ 1048576 := by first | assumption | omega | with_reducible rfl) (hk : 3 ≤ k := by omega) :
  Cal (run k) md 96 vs S (fun r S' => r = (.v (.string (strN (tmL a (bytesN s))))) ∧ S' = S) := by
 obtain ⟨k, rfl⟩ : ∃ j, k = j + 1 := ⟨k - 1, by omega⟩
 refine Cal.fn (n := 10) (rs := [.tmp 4]) (ids := []) (D := D) (Xof_none rfl) g96 (by delta Try.f96; exact rfl) (by delta Try.f96; exact rfl) (by delta Try.f96; exact rfl) hd rfl (by first | rfl | simp [idsV, idsC]) (by simp) (by simp) ?_
 intro md' ow; have w := ow.w; have w0 := ow.w0; have fz : md'.fz = false := ow.fz
 have hbl := bytesN_len s
 have hb := bytesN_lt (s := s)
 have hr := strRows_N s
 have hm := mapM_bC (tmL a (bytesN s))
 have hst := strN_of (tmL a (bytesN s))
 have htk : List.take s.size ((bytesN s).map bC) = (bytesN s).map bC := by rw [← hbl]; exact bC_tk _
 have htk2 : List.take s.size ((tmL a (bytesN s)).map bC) = (tmL a (bytesN s)).map bC := List.take_of_length_le (by simp [hbl, tmL])
 have hlt := tmL_len a (bytesN s)
 (have F := an9 @yD @yE @yG @yF @hr @hbl @hm @hst @hlt; (repeat' (first | refine' dA39 | ((with_reducible apply EvO.call (vs := ?_)); exact rfl; exact rfl; exact dE12; (with_reducible apply Cal.hd (ms := []) (p := ?_)); exact dE12) | ((with_reducible apply CalH.mk); intro hd; first | exact c120 (k := k) hd (l := bytesN s)) | fail)); all_goals clear F)
 exact ⟨rfl, rfl⟩
theorem c95 {k : Nat} {md : Md} {S : Store} {vs : List A} {D : List Nat} {s t : ByteArray} (hd : dpArgs S [] vs = some ([(.v (.string (s))), (.v (.string (t)))], D)) (he : s.size = t.size := by first | assumption | omega | with_reducible rfl) (hn : s.size ≤ 1048576 := by first | assumption | omega | with_reducible rfl) (hk : 2 ≤ k := by omega) :
  Cal (run k) md 95 vs S (fun r S' => r = (.v (.string (strN (xrL (bytesN s) (bytesN t))))) ∧ S' = S) := by
 obtain ⟨k, rfl⟩ : ∃ j, k = j + 1 := ⟨k - 1, by omega⟩
 refine Cal.fn (n := 11) (rs := [.tmp 4]) (ids := []) (D := D) (Xof_none rfl) g95 (by delta Try.f95; exact rfl) (by delta Try.f95; exact rfl) (by delta Try.f95; exact rfl) hd rfl (by first | rfl | simp [idsV, idsC]) (by simp) (by simp) ?_
 intro md' ow; have w := ow.w; have w0 := ow.w0; have fz : md'.fz = false := ow.fz
 have hbl := bytesN_len s
 have hbl2 := bytesN_len t
 have hb := bytesN_lt (s := s)
 have hb2 := bytesN_lt (s := t)
 have hee : (bytesN s).length = (bytesN t).length := by omega
 have hr := strRows_N s
 have hr2 := strRows_N t
 have hm := mapM_bC (xrL (bytesN s) (bytesN t))
 have hst := strN_of (xrL (bytesN s) (bytesN t))
 have htk : List.take s.size ((bytesN s).map bC) = (bytesN s).map bC := by rw [← hbl]; exact bC_tk _
 have htk2 : List.take t.size ((bytesN t).map bC) = (bytesN t).map bC := by rw [← hbl2]; exact bC_tk _
 have htk3 : List.take s.size ((xrL (bytesN s) (bytesN t)).map bC) = (xrL (bytesN s) (bytesN t)).map bC := List.take_of_length_le (by rw [List.length_map, xrL_len hee]; omega)
 have hlt := xrL_len hee
 (have F := an11 @yD @yE @yG @yF @hr @hr2 @hbl @hbl2 @hm @hst @hlt; (repeat' (first | refine' dA40 | ((with_reducible apply EvO.call (vs := ?_)); exact rfl; exact rfl; exact dE13; (with_reducible apply Cal.hd (ms := []) (p := ?_)); exact dE13) | ((with_reducible apply CalH.mk); intro hd; first | exact c119 (k := k) hd (v := bytesN s) (u := bytesN t)) | fail)); all_goals clear F)
 exact ⟨rfl, rfl⟩
end Go.Proofs.YtomklniddinhnaaB

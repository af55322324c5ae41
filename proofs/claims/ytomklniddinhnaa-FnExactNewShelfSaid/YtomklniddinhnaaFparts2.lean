/- Part of the evaluator's contracts: parts2. -/
import Derived.Test.YtomklniddinhnaaFparts1
import Derived.Test.YtomklniddinhnaaFgf
namespace Go.Proofs.YtomklniddinhnaaB
open Go Go.Proofs.YtomklniddinhnaaE
set_option linter.unusedVariables false
set_option linter.unusedSectionVars false
set_option linter.unusedSimpArgs false
set_option maxHeartbeats 4000000
set_option maxRecDepth 20000
def acc (f : List Nat) (D : List ByteArray) : Nat → Nat → Nat
 | 0, _ => 0
 | i + 1, x => acc f D i x ^^^ tm (f.getD i 0) ((bytesN (D.getD i ⟨#[]⟩)).getD x 0)
def bR (f : List Nat) (D : List ByteArray) (n i : Nat) : List Nat := (List.range n).map (acc f D i)
theorem bR_len (f : List Nat) (D : List ByteArray) (n i : Nat) : (bR f D n i).length = n := by simp [bR]
theorem bR_0 (f : List Nat) (D : List ByteArray) (n : Nat) : bR f D n 0 = List.replicate n 0 := by
 apply List.ext_getElem
 ·simp [bR]
 ·intro i h1 h2; simp [bR, acc]
theorem acc_lt {f : List Nat} (D : List ByteArray) (hf : ∀ x ∈ f, x < 256) : ∀ i x, acc f D i x < 256
 | 0, _ => by simp [acc]
 | i + 1, x => by
  refine xor_lt8 (acc_lt D hf i x) (tm_lt _ ?_)
  rcases Nat.lt_or_ge i f.length with h | h
  ·simp only [List.getD, List.getElem?_eq_getElem h, Option.getD_some]; exact hf _ (by simp)
  ·simp only [List.getD, List.getElem?_eq_none h, Option.getD_none]; decide
theorem bR_lt {f : List Nat} (D : List ByteArray) (n : Nat) (hf : ∀ x ∈ f, x < 256) (i : Nat) : ∀ x ∈ bR f D n i, x < 256 := fun x hx => by
 obtain ⟨y, _, rfl⟩ := List.mem_map.1 hx
 exact acc_lt D hf i y
theorem bR_s {f : List Nat} {D : List ByteArray} {n i : Nat} (h1 : i < f.length) (h2 : i < D.length) (hz : D[i].size = n) : xrL (bR f D n i) (tmL f[i] (bytesN D[i])) = bR f D n (i + 1) := by
 have hl : (bytesN D[i]).length = n := by rw [bytesN_len, hz]
 apply List.ext_getElem
 ·rw [xrL_len (by rw [bR_len, tmL_len, hl]), bR_len, bR_len]
 ·intro x k1 k2
  rw [bR_len] at k2
  simp [xrL, tmL, bR, acc, h1, h2, hl, k2]
theorem tmL_lt {a : Nat} (h : a < 256) (l : List Nat) : ∀ x ∈ tmL a l, x < 256 := fun x hx => by
 obtain ⟨y, _, rfl⟩ := List.mem_map.1 hx
 exact tm_lt y h
theorem mapM_zero : ∀ n : Nat, (List.replicate n [(.v (.int .u8 (0)))]).mapM byteOfRow = some (List.replicate n 0)
 | 0 => rfl
 | n + 1 => by rw [List.replicate_succ, List.mapM_cons, mapM_zero n]; rfl
theorem strN_zero (f : List Nat) (D : List ByteArray) (n : Nat) : strOfNums (List.replicate n 0) = strN (bR f D n 0) := by rw [bR_0, strN, List.map_replicate]; rfl
def rowsS (M : List (List Nat)) (D : List ByteArray) (n : Nat) : List ByteArray := M.map fun f => strN (bR f D n D.length)
def rsT (M : List (List Nat)) (D : List ByteArray) (n i : Nat) : List ByteArray := (rowsS M D n).take i
theorem rowsS_len (M : List (List Nat)) (D : List ByteArray) (n : Nat) : (rowsS M D n).length = M.length := by simp [rowsS]
theorem rsT_len (M : List (List Nat)) (D : List ByteArray) (n : Nat) {i : Nat} (h : i ≤ M.length) : (rsT M D n i).length = i := by simp [rsT, rowsS]; omega
theorem rsT_s (M : List (List Nat)) (D : List ByteArray) (n : Nat) {i : Nat} (h : i < M.length) : (rsT M D n (i + 1)).map strC = (rsT M D n i).map strC ++ [[(.v (.string (strN (bR M[i] D n D.length))))]] := by
 unfold rsT
 rw [List.take_add_one, List.getElem?_eq_getElem (by rw [rowsS_len]; exact h), List.map_append]
 simp [rowsS, strC]
theorem rsT_all (M : List (List Nat)) (D : List ByteArray) (n : Nat) : rsT M D n M.length = rowsS M D n := List.take_of_length_le (by rw [rowsS_len]; exact Nat.le_refl _)
theorem mat_at {M : List (List Nat)} {i : Nat} (h : i < M.length) : (M.map matC)[i]? = some [.ro 1 (M[i].map bC)] := by rw [List.getElem?_map, List.getElem?_eq_getElem h]; rfl
theorem str_at {D : List ByteArray} {i : Nat} (h : i < D.length) : (D.map strC)[i]? = some [(.v (.string (D[i])))] := by rw [List.getElem?_map, List.getElem?_eq_getElem h]; rfl
theorem k73_3 (e : Env) : lpE (FI.K ⟨[], false, [(3, [1, 5, 12, 13, 14]), (7, [1, 5, 7, 8, 12, 13, 14, 24, 25, 26]), (1000, [0, 1]), (1001, [0, 1, 5]), (1002, [1, 5, 12, 13, 14]), (1003, [1, 5, 12, 13, 14, 15]), (1004, [1, 5, 7, 12, 13, 14]), (1005, [1, 5, 7, 8, 12, 13, 14]), (1006, [1, 5, 7, 8, 12, 13, 14, 24, 25, 26]), (1007, [1, 5, 7, 8, 12, 13, 14, 24, 25, 26, 27]), (1008, [1, 5, 7, 8, 9, 10, 12, 13, 14, 24, 25, 26]), (1009, [1, 5, 7, 8, 12, 13, 14, 24, 25, 26]), (1010, [1, 5, 7, 8, 12, 13, 14, 24, 25, 26]), (1011, [1, 5, 12, 13, 14]), (1012, [1, 5, 12, 13, 14]), (1013, [4])]⟩ 3) e = mkE [(1, e 1), (5, e 5), (12, e 12), (13, e 13), (14, e 14)] := rfl
theorem k73_7 (e : Env) : lpE (FI.K ⟨[], false, [(3, [1, 5, 12, 13, 14]), (7, [1, 5, 7, 8, 12, 13, 14, 24, 25, 26]), (1000, [0, 1]), (1001, [0, 1, 5]), (1002, [1, 5, 12, 13, 14]), (1003, [1, 5, 12, 13, 14, 15]), (1004, [1, 5, 7, 12, 13, 14]), (1005, [1, 5, 7, 8, 12, 13, 14]), (1006, [1, 5, 7, 8, 12, 13, 14, 24, 25, 26]), (1007, [1, 5, 7, 8, 12, 13, 14, 24, 25, 26, 27]), (1008, [1, 5, 7, 8, 9, 10, 12, 13, 14, 24, 25, 26]), (1009, [1, 5, 7, 8, 12, 13, 14, 24, 25, 26]), (1010, [1, 5, 7, 8, 12, 13, 14, 24, 25, 26]), (1011, [1, 5, 12, 13, 14]), (1012, [1, 5, 12, 13, 14]), (1013, [4])]⟩ 7) e = mkE [(1, e 1), (5, e 5), (7, e 7), (8, e 8), (12, e 12), (13, e 13), (14, e 14), (24, e 24), (25, e 25), (26, e 26)] := rfl
theorem c73 {k : Nat} {md : Md} {S : Store} {vs : List A} {D : List Nat} {M : List (List Nat)} {L : List ByteArray} {n : Nat} (hd : dpArgs S [] vs = some ([.ro 1 (M.map matC), .ro 1 (L.map strC)], D)) (h0 : 0 < L.length := by first | assumption | omega | with_reducible rfl) (hsz : ∀ d ∈ L, d.size = n := by first | assumption | omega | with_reducible rfl) (hM : ∀ f ∈ M, f.length = L.length ∧ ∀ x ∈ f, x < 256 := by first | assumption | omega | with_reducible rfl) (hmn : M.length ≤ 1048576 := by first | assumption | omega | with_reducible rfl) (hln : L.length ≤ 1048576 := by first | assumption | omega | with_reducible rfl) (hn : n ≤ 1048576 := by first | assumption | omega | with_reducible rfl) (hk : 4 ≤ k := by omega) :
  Cal (run k) md 73 vs S (fun r S' => r = .sl S.length 0 M.length M.length ∧ S' = S ++ [⟨1, (rowsS M L n).map strC, 0, false⟩]) := by
 obtain ⟨k, rfl⟩ : ∃ j, k = j + 1 := ⟨k - 1, by omega⟩
 refine Cal.fn (n := 46) (rs := [.tmp 4]) (ids := []) (D := D) (Xof_none rfl) g73 (by delta Try.f73; exact rfl) (by delta Try.f73; exact rfl) (by delta Try.f73; exact rfl) hd rfl (by first | rfl | simp [idsV, idsC]) (by simp) (by simp) ?_
 intro md' ow; have w := ow.w; have w0 := ow.w0; have fz : md'.fz = false := ow.fz
 (have F := an4 @yD @yE @yG @yF; (repeat' (first | refine' dA34 | ((with_reducible apply EvO.call (vs := ?_)); exact rfl; exact rfl; exact dE7; (with_reducible apply Cal.hd (ms := []) (p := ?_)); exact dE7) | ((with_reducible apply CalH.mk); intro hd; first | exact c96 hd | exact c95 hd) | fail)); all_goals clear F)
 apply Ev.loop (fun j e S' => ∃ i : Nat, e = mkE [(1, .ro 1 (L.map strC)), (5, .sl (S.length + 1) 0 i i), (12, .ro 1 (M.map matC)), (13, (.v (.int .i64 ((M.length : Int))))), (14, (.v (.int .i64 ((i : Int)))))] ∧ S' = S ++ [⟨1, [], 0, false⟩, ⟨1, (rsT M L n i).map strC, 0, false⟩] ∧ j = M.length - i ∧ (i ≤ M.length))
 ·exact ⟨0, (k73_3 _).trans dN13, (by first | rfl | (simp only [app_app, List.cons_append, List.nil_append]; done)), rfl, (by omega)⟩
 rintro j e S' ⟨i, rfl, rfl, hj, hi⟩
 have hti := rsT_len M L n hi
 by_cases hli : (i : Int) < (M.length : Int)
 ·have hlt : i < M.length := by omega
  have hg := mat_at hlt
  have hf := hM M[i] (by simp)
  have hg0 := str_at h0
  have hz0 := hsz L[0] (by simp)
  have hzm := mapM_zero n
  have hzs := strN_zero M[i] L n
  have hss := rsT_s M L n hlt
  generalize M[i] = f at *
  (have F := an11 @yD @yE @yG @yF @hli @hg @hg0 @Int.toNat_zero @List.length_replicate.{0} @List.take_replicate.{0} @Nat.min_self; (repeat' (first | refine' dA41 | ((with_reducible apply EvO.call (vs := ?_)); exact rfl; exact rfl; exact dE14; (with_reducible apply Cal.hd (ms := []) (p := ?_)); exact dE14) | ((with_reducible apply CalH.mk); intro hd; first | exact c96 hd | exact c95 hd) | fail)); all_goals clear F)
  apply Ev.loop (fun j e S' => ∃ jj : Nat, e = mkE [(1, .ro 1 (L.map strC)), (5, .sl (S.length + 1) 0 i i), (7, .ro 1 (f.map bC)), (8, (.v (.string (strN (bR f L n jj))))), (12, .ro 1 (M.map matC)), (13, (.v (.int .i64 ((M.length : Int))))), (14, (.v (.int .i64 ((i : Int))))), (24, .ro 1 (L.map strC)), (25, (.v (.int .i64 ((L.length : Int))))), (26, (.v (.int .i64 ((jj : Int)))))] ∧ S' = S ++ [⟨1, [], 0, false⟩, ⟨1, (rsT M L n i).map strC, 0, false⟩, ⟨1, List.replicate n [(.v (.int .u8 (0)))], 0, false⟩] ∧ j = L.length - jj ∧ (jj ≤ L.length))
  ·exact ⟨0, (k73_7 _).trans dN13, (by first | rfl | (simp only [app_app, List.cons_append, List.nil_append]; done)), rfl, (by omega)⟩
  rintro j e S' ⟨jj, rfl, rfl, hj, hj2⟩
  by_cases hlj : (jj : Int) < (L.length : Int)
  ·have hltj : jj < L.length := by omega
   have hltf : jj < f.length := by omega
   have hgl := str_at hltj
   have hgf := bC_at hltf
   have hzl := hsz L[jj] (by simp)
   have hfl := hf.2 f[jj] (by simp)
   have hb := bR_s hltf hltj hzl
   have hs1 := strN_size (bR f L n jj)
   have hs2 := strN_size (tmL f[jj] (bytesN L[jj]))
   have hbl := bR_len f L n jj
   have htl := tmL_len f[jj] (bytesN L[jj])
   have hbn := bytesN_len L[jj]
   have hn1 := bytesN_strN (bR_lt L n hf.2 jj)
   have hn2 := bytesN_strN (tmL_lt hfl (bytesN L[jj]))
   (have F := an10 @yD @yE @yG @yF @hlj @hgl @hgf @hn1 @hn2 @hb; (repeat' (first | refine' dA34 | ((with_reducible apply EvO.call (vs := ?_)); exact rfl; exact rfl; exact dE7; (with_reducible apply Cal.hd (ms := []) (p := ?_)); exact dE7) | ((with_reducible apply CalH.mk); intro hd; first | exact c95 (k := k) hd (he := by omega) (hn := by omega) | exact c96 (k := k) hd (a := f[jj])) | fail)); all_goals clear F)
   apply roundQ_m; refine ⟨_, ⟨jj + 1, (k73_7 _).trans dN13, ?_, rfl, ?_⟩, ?_⟩
   ·exact dS6
   ·first | omega | rfl | assumption | (simp; done)
   ·omega
  ·obtain rfl : jj = L.length := by omega
   (have F := an6 @yD @yE @yG @yF @hlj (Eq.symm hss); (repeat' (first | refine' dA35 | ((with_reducible apply EvO.call (vs := ?_)); exact rfl; exact rfl; exact dE11; (with_reducible apply Cal.hd (ms := []) (p := ?_)); exact dE11) | ((with_reducible apply CalH.mk); intro hd; first | exact c96 hd | exact c95 hd) | fail)); all_goals clear F)
   apply roundQ_m; refine ⟨_, ⟨i + 1, (k73_3 _).trans dN13, ?_, rfl, ?_⟩, ?_⟩
   ·exact dS6
   ·first | omega | rfl | assumption | (simp; done)
   ·omega
 ·obtain rfl : i = M.length := by omega
  rw [rsT_all]
  rw [rsT_all] at hti
  have htk : List.take M.length ((rowsS M L n).map strC) = (rowsS M L n).map strC := List.take_of_length_le (by simp [rowsS])
  (have F := an5 @yD @yE @yG @yF @hli; (repeat' (first | refine' dA42 | ((with_reducible apply EvO.call (vs := ?_)); exact rfl; exact rfl; exact dE15; (with_reducible apply Cal.hd (ms := []) (p := ?_)); exact dE15) | ((with_reducible apply CalH.mk); intro hd; first | exact c96 hd | exact c95 hd) | fail)); all_goals clear F)
  exact ⟨rfl, rfl⟩
def bM (f : List Nat) (D : List ByteArray) (n i k : Nat) : List Nat := (List.range n).map fun x => if x < k then acc f D (i + 1) x else acc f D i x
theorem bM_len (f : List Nat) (D : List ByteArray) (n i k : Nat) : (bM f D n i k).length = n := by simp [bM]
theorem bM_0 (f : List Nat) (D : List ByteArray) (n i : Nat) : bM f D n i 0 = bR f D n i := by simp [bM, bR]
theorem bM_n (f : List Nat) (D : List ByteArray) (n i : Nat) : bM f D n i n = bR f D n (i + 1) := by
 unfold bM bR
 apply List.map_congr_left
 intro x hx
 rw [if_pos (List.mem_range.1 hx)]
theorem bM_at (f : List Nat) (D : List ByteArray) (n i : Nat) {k : Nat} (h : k < n) : ((bM f D n i k).map bC)[k]? = some [(.v (.int .u8 ((acc f D i k : Int))))] := by
 rw [List.getElem?_map, List.getElem?_eq_getElem (by rw [bM_len]; exact h)]
 simp [bM, bC]
theorem bM_s (f : List Nat) (D : List ByteArray) (n i k : Nat) : ((bM f D n i k).map bC).set k [(.v (.int .u8 ((acc f D (i + 1) k : Int))))] = (bM f D n i (k + 1)).map bC := by
 apply List.ext_getElem
 ·simp [bM]
 ·intro x h1 h2
  simp only [List.length_map, bM_len] at h2
  rw [List.getElem_set]
  by_cases e : k = x
  ·subst e; simp [bM, bC]
  ·rw [if_neg e]
   simp only [bM, bC, List.getElem_map, List.getElem_range]
   by_cases h : x < k
   ·rw [if_pos h, if_pos (by omega)]
   ·rw [if_neg h, if_neg (by omega)]
theorem at_N {s : ByteArray} {x : Nat} (h : x < s.size) : (at_ s x).toNat = (bytesN s).getD x 0 := by
 have h1 : x < s.data.toList.length := by rw [Array.length_toList]; exact h
 rw [at_, bytesN, ← Array.getElem?_toList]
 simp only [List.getD, List.getElem?_map]
 rw [List.getElem?_eq_getElem h1]; rfl
theorem k68_3 (e : Env) : lpE (FI.K ⟨[], false, [(3, [1, 5, 13, 14, 15]), (7, [1, 5, 8, 13, 14, 15, 24, 25, 26]), (10, [1, 5, 8, 9, 10, 13, 14, 15, 24, 25, 26, 32, 33]), (1000, [1, 2]), (1001, [1, 2, 5]), (1002, [1, 5, 13, 14, 15]), (1003, [1, 5, 13, 14, 15, 16]), (1004, [1, 5, 7, 13, 14, 15]), (1005, [1, 5, 7, 8, 13, 14, 15]), (1006, [1, 5, 8, 13, 14, 15, 24, 25, 26]), (1007, [1, 5, 8, 13, 14, 15, 24, 25, 26, 27]), (1008, [1, 5, 8, 9, 10, 13, 14, 15, 24, 25, 26]), (1009, [1, 5, 8, 9, 10, 13, 14, 15, 24, 25, 26, 32, 33]), (1010, [1, 5, 8, 9, 10, 13, 14, 15, 24, 25, 26, 32, 33, 34]), (1011, [1, 5, 8, 9, 10, 11, 13, 14, 15, 24, 25, 26, 32, 33]), (1012, [1, 5, 8, 9, 10, 13, 14, 15, 24, 25, 26, 32, 33]), (1013, [1, 5, 8, 9, 10, 13, 14, 15, 24, 25, 26, 32, 33]), (1014, [1, 5, 8, 13, 14, 15, 24, 25, 26]), (1015, [1, 5, 13, 14, 15]), (1016, [1, 5, 13, 14, 15]), (1017, [4])]⟩ 3) e = mkE [(1, e 1), (5, e 5), (13, e 13), (14, e 14), (15, e 15)] := rfl
theorem k68_7 (e : Env) : lpE (FI.K ⟨[], false, [(3, [1, 5, 13, 14, 15]), (7, [1, 5, 8, 13, 14, 15, 24, 25, 26]), (10, [1, 5, 8, 9, 10, 13, 14, 15, 24, 25, 26, 32, 33]), (1000, [1, 2]), (1001, [1, 2, 5]), (1002, [1, 5, 13, 14, 15]), (1003, [1, 5, 13, 14, 15, 16]), (1004, [1, 5, 7, 13, 14, 15]), (1005, [1, 5, 7, 8, 13, 14, 15]), (1006, [1, 5, 8, 13, 14, 15, 24, 25, 26]), (1007, [1, 5, 8, 13, 14, 15, 24, 25, 26, 27]), (1008, [1, 5, 8, 9, 10, 13, 14, 15, 24, 25, 26]), (1009, [1, 5, 8, 9, 10, 13, 14, 15, 24, 25, 26, 32, 33]), (1010, [1, 5, 8, 9, 10, 13, 14, 15, 24, 25, 26, 32, 33, 34]), (1011, [1, 5, 8, 9, 10, 11, 13, 14, 15, 24, 25, 26, 32, 33]), (1012, [1, 5, 8, 9, 10, 13, 14, 15, 24, 25, 26, 32, 33]), (1013, [1, 5, 8, 9, 10, 13, 14, 15, 24, 25, 26, 32, 33]), (1014, [1, 5, 8, 13, 14, 15, 24, 25, 26]), (1015, [1, 5, 13, 14, 15]), (1016, [1, 5, 13, 14, 15]), (1017, [4])]⟩ 7) e = mkE [(1, e 1), (5, e 5), (8, e 8), (13, e 13), (14, e 14), (15, e 15), (24, e 24), (25, e 25), (26, e 26)] := rfl
theorem k68_10 (e : Env) : lpE (FI.K ⟨[], false, [(3, [1, 5, 13, 14, 15]), (7, [1, 5, 8, 13, 14, 15, 24, 25, 26]), (10, [1, 5, 8, 9, 10, 13, 14, 15, 24, 25, 26, 32, 33]), (1000, [1, 2]), (1001, [1, 2, 5]), (1002, [1, 5, 13, 14, 15]), (1003, [1, 5, 13, 14, 15, 16]), (1004, [1, 5, 7, 13, 14, 15]), (1005, [1, 5, 7, 8, 13, 14, 15]), (1006, [1, 5, 8, 13, 14, 15, 24, 25, 26]), (1007, [1, 5, 8, 13, 14, 15, 24, 25, 26, 27]), (1008, [1, 5, 8, 9, 10, 13, 14, 15, 24, 25, 26]), (1009, [1, 5, 8, 9, 10, 13, 14, 15, 24, 25, 26, 32, 33]), (1010, [1, 5, 8, 9, 10, 13, 14, 15, 24, 25, 26, 32, 33, 34]), (1011, [1, 5, 8, 9, 10, 11, 13, 14, 15, 24, 25, 26, 32, 33]), (1012, [1, 5, 8, 9, 10, 13, 14, 15, 24, 25, 26, 32, 33]), (1013, [1, 5, 8, 9, 10, 13, 14, 15, 24, 25, 26, 32, 33]), (1014, [1, 5, 8, 13, 14, 15, 24, 25, 26]), (1015, [1, 5, 13, 14, 15]), (1016, [1, 5, 13, 14, 15]), (1017, [4])]⟩ 10) e = mkE [(1, e 1), (5, e 5), (8, e 8), (9, e 9), (10, e 10), (13, e 13), (14, e 14), (15, e 15), (24, e 24), (25, e 25), (26, e 26), (32, e 32), (33, e 33)] := rfl
theorem c68 {k : Nat} {md : Md} {S : Store} {vs : List A} {D : List Nat} {M : List (List Nat)} {L : List ByteArray} {n : Nat} (hd : dpArgs S [] vs = some ([.ag [.ro 1 (M.map matC)], .ro 1 (L.map strC)], D)) (h0 : 0 < L.length := by first | assumption | omega | with_reducible rfl) (hsz : ∀ d ∈ L, d.size = n := by first | assumption | omega | with_reducible rfl) (hM : ∀ f ∈ M, f.length = L.length ∧ ∀ x ∈ f, x < 256 := by first | assumption | omega | with_reducible rfl) (hmn : M.length ≤ 1048576 := by first | assumption | omega | with_reducible rfl) (hln : L.length ≤ 1048576 := by first | assumption | omega | with_reducible rfl) (hn : n ≤ 1048576 := by first | assumption | omega | with_reducible rfl) (hk : 2 ≤ k := by omega) :
  Cal (run k) md 68 vs S (fun r S' => r = .sl S.length 0 M.length M.length ∧ S' = S ++ [⟨1, (rowsS M L n).map strC, 0, false⟩]) := by
 obtain ⟨k, rfl⟩ : ∃ j, k = j + 1 := ⟨k - 1, by omega⟩
 refine Cal.fn (n := 59) (rs := [.tmp 4]) (ids := []) (D := D) (Xof_none rfl) g68 (by delta Try.f68; exact rfl) (by delta Try.f68; exact rfl) (by delta Try.f68; exact rfl) hd rfl (by first | rfl | simp [idsV, idsC]) (by simp) (by simp) ?_
 intro md' ow; have w := ow.w; have w0 := ow.w0; have fz : md'.fz = false := ow.fz
 (have F := an4 @yD @yE @yG @yF; (repeat' (first | refine' dA43 | ((with_reducible first | apply EvO.call (vs := ?_) | apply EvT.call (vs := ?_)); exact rfl; exact rfl; exact dE7; (with_reducible apply Cal.hd (ms := []) (p := ?_)); exact dE7) | ((with_reducible apply CalH.mk); intro hd; first | exact c90 hd) | fail)); all_goals clear F)
 apply Ev.loop (fun j e S' => ∃ i : Nat, e = mkE [(1, .ro 1 (L.map strC)), (5, .sl (S.length + 2) 0 i i), (13, .ro 1 (M.map matC)), (14, (.v (.int .i64 ((M.length : Int))))), (15, (.v (.int .i64 ((i : Int)))))] ∧ S' = S ++ [⟨1, [[.ro 1 (M.map matC)]], 0, true⟩, ⟨1, [], 0, false⟩, ⟨1, (rsT M L n i).map strC, 0, false⟩] ∧ j = M.length - i ∧ (i ≤ M.length))
 ·exact ⟨0, (k68_3 _).trans dN13, (by first | rfl | (simp only [app_app, List.cons_append, List.nil_append]; done)), rfl, (by omega)⟩
 rintro j e S' ⟨i, rfl, rfl, hj, hi⟩
 have hti := rsT_len M L n hi
 by_cases hli : (i : Int) < (M.length : Int)
 ·have hlt : i < M.length := by omega
  have hg := mat_at hlt
  have hf := hM M[i] (by simp)
  have hg0 := str_at h0
  have hz0 := hsz L[0] (by simp)
  have hss := rsT_s M L n hlt
  generalize M[i] = f at *
  have hr0 : List.replicate n [(.v (.int .u8 (0)))] = (bR f L n 0).map bC := by rw [bR_0, List.map_replicate]; rfl
  (have F := an9 @yD @yE @yG @yF @hli @hg @hg0 @Int.toNat_zero @hr0; (repeat' (first | refine' dA44 | ((with_reducible first | apply EvO.call (vs := ?_) | apply EvT.call (vs := ?_)); exact rfl; exact rfl; exact dE16; (with_reducible apply Cal.hd (ms := []) (p := ?_)); exact dE16) | ((with_reducible apply CalH.mk); intro hd; first | exact c90 hd) | fail)); all_goals clear F)
  apply Ev.loop (fun j e S' => ∃ ii : Nat, e = mkE [(1, .ro 1 (L.map strC)), (5, .sl (S.length + 2) 0 i i), (8, .sl (S.length + 3) 0 n n), (13, .ro 1 (M.map matC)), (14, (.v (.int .i64 ((M.length : Int))))), (15, (.v (.int .i64 ((i : Int))))), (24, .ro 1 (f.map bC)), (25, (.v (.int .i64 ((f.length : Int))))), (26, (.v (.int .i64 ((ii : Int)))))] ∧ S' = S ++ [⟨1, [[.ro 1 (M.map matC)]], 0, true⟩, ⟨1, [], 0, false⟩, ⟨1, (rsT M L n i).map strC, 0, false⟩, ⟨1, (bR f L n ii).map bC, 0, false⟩] ∧ j = f.length - ii ∧ (ii ≤ f.length))
  ·exact ⟨0, (k68_7 _).trans dN13, (by first | rfl | (simp only [app_app, List.cons_append, List.nil_append]; done)), rfl, (by omega)⟩
  rintro j e S' ⟨ii, rfl, rfl, hj, hj2⟩
  have hbl := bR_len f L n ii
  by_cases hlj : (ii : Int) < (f.length : Int)
  ·have hltf : ii < f.length := by omega
   have hltj : ii < L.length := by omega
   have hgf := bC_at hltf
   have hgl := str_at hltj
   have hzl := hsz L[ii] (by simp)
   have hfl := hf.2 f[ii] (by simp)
   have hm0 := bM_0 f L n ii
   (have F := an8 @yD @yE @yG @yF @hlj @hgf @hbl (Eq.symm hm0); (repeat' (first | refine' dA43 | ((with_reducible first | apply EvO.call (vs := ?_) | apply EvT.call (vs := ?_)); exact rfl; exact rfl; exact dE7; (with_reducible apply Cal.hd (ms := []) (p := ?_)); exact dE7) | ((with_reducible apply CalH.mk); intro hd; first | exact c90 hd) | fail)); all_goals clear F)
   apply Ev.loop (fun j e S' => ∃ kk : Nat, e = mkE [(1, .ro 1 (L.map strC)), (5, .sl (S.length + 2) 0 i i), (8, .sl (S.length + 3) 0 n n), (9, (.v (.int .i64 ((ii : Int))))), (10, (.v (.int .u8 ((f[ii] : Int))))), (13, .ro 1 (M.map matC)), (14, (.v (.int .i64 ((M.length : Int))))), (15, (.v (.int .i64 ((i : Int))))), (24, .ro 1 (f.map bC)), (25, (.v (.int .i64 ((f.length : Int))))), (26, (.v (.int .i64 ((ii : Int))))), (32, (.v (.int .i64 ((n : Int))))), (33, (.v (.int .i64 ((kk : Int)))))] ∧ S' = S ++ [⟨1, [[.ro 1 (M.map matC)]], 0, true⟩, ⟨1, [], 0, false⟩, ⟨1, (rsT M L n i).map strC, 0, false⟩, ⟨1, (bM f L n ii kk).map bC, 0, false⟩] ∧ j = n - kk ∧ (kk ≤ n))
   ·exact ⟨0, (k68_10 _).trans dN13, (by first | rfl | (simp only [app_app, List.cons_append, List.nil_append]; done)), rfl, (by omega)⟩
   rintro j e S' ⟨kk, rfl, rfl, hj, hkk⟩
   have hml := bM_len f L n ii kk
   by_cases hlk : (kk : Int) < (n : Int)
   ·have hltk : kk < n := by omega
    have hgm := bM_at f L n ii hltk
    have hks : kk < L[ii].size := by omega
    have hat := at_N hks
    have hst := bM_s f L n ii kk
    have hbb : (bytesN L[ii]).getD kk 0 < 256 := by
     have h1 : kk < (bytesN L[ii]).length := by rw [bytesN_len]; exact hks
     rw [List.getD, List.getElem?_eq_getElem h1]; exact bytesN_lt (s := L[ii]) _ (List.getElem_mem h1)
    have hac : acc f L (ii + 1) kk = acc f L ii kk ^^^ tm f[ii] ((bytesN L[ii]).getD kk 0) := by simp [acc, hltf, hltj]
    have e1 := xor8 (acc f L ii kk) (tm f[ii] ((bytesN L[ii]).getD kk 0)) (acc_lt L hf.2 ii kk) (tm_lt _ hfl)
    rw [← hac] at e1
    (have F := an11 @yD @yE @yG @yF @hlk @hgl @hgm @hml @hat @e1 @hst; (repeat' (first | refine' dA45 | ((with_reducible first | apply EvO.call (vs := ?_) | apply EvT.call (vs := ?_)); exact rfl; exact rfl; exact dE17; (with_reducible apply Cal.hd (ms := []) (p := ?_)); exact dE17) | ((with_reducible apply CalH.mk); intro hd; first | exact c90 (k := k) hd (a := f[ii]) (b := (bytesN L[ii]).getD kk 0)) | fail)); all_goals clear F)
    apply roundQ_m; refine ⟨_, ⟨kk + 1, (k68_10 _).trans dN13, ?_, rfl, ?_⟩, ?_⟩
    ·exact dS6
    ·first | omega | rfl | assumption | (simp; done)
    ·omega
   ·obtain rfl : kk = n := by omega
    have hmn2 := bM_n f L kk ii
    rw [hmn2]
    (have F := an5 @yD @yE @yG @yF @hlk; (repeat' (first | refine' dA43 | ((with_reducible first | apply EvO.call (vs := ?_) | apply EvT.call (vs := ?_)); exact rfl; exact rfl; exact dE7; (with_reducible apply Cal.hd (ms := []) (p := ?_)); exact dE7) | ((with_reducible apply CalH.mk); intro hd; first | exact c90 hd) | fail)); all_goals clear F)
    apply roundQ_m; refine ⟨_, ⟨ii + 1, (k68_7 _).trans dN13, ?_, rfl, ?_⟩, ?_⟩
    ·exact dS6
    ·first | omega | rfl | assumption | (simp; done)
    ·omega
  ·obtain rfl : ii = f.length := by omega
   have hmb := mapM_bC (bR f L n f.length)
   have hsN := strN_of (bR f L n f.length)
   have htb : List.take n ((bR f L n f.length).map bC) = (bR f L n f.length).map bC := List.take_of_length_le (by simp [bR_len])
   rw [← hf.1] at hss
   (have F := an9 @yD @yE @yG @yF @hlj @hbl @hmb @hsN (Eq.symm hss); (repeat' (first | refine' dA46 | ((with_reducible first | apply EvO.call (vs := ?_) | apply EvT.call (vs := ?_)); exact rfl; exact rfl; exact dE18; (with_reducible apply Cal.hd (ms := []) (p := ?_)); exact dE18) | ((with_reducible apply CalH.mk); intro hd; first | exact c90 hd) | fail)); all_goals clear F)
   apply roundQ_m; refine ⟨_, ⟨i + 1, (k68_3 _).trans dN13, ?_, rfl, ?_⟩, ?_⟩
   ·exact dS6
   ·first | omega | rfl | assumption | (simp; done)
   ·omega
 ·obtain rfl : i = M.length := by omega
  rw [rsT_all]
  rw [rsT_all] at hti
  have htk : List.take M.length ((rowsS M L n).map strC) = (rowsS M L n).map strC := List.take_of_length_le (by simp [rowsS])
  (have F := an5 @yD @yE @yG @yF @hli; (repeat' (first | refine' dA47 | ((with_reducible first | apply EvO.call (vs := ?_) | apply EvT.call (vs := ?_)); exact rfl; exact rfl; exact dE15; (with_reducible apply Cal.hd (ms := []) (p := ?_)); exact dE15) | ((with_reducible apply CalH.mk); intro hd; first | exact c90 hd) | fail)); all_goals clear F)
  exact ⟨rfl, rfl⟩
end Go.Proofs.YtomklniddinhnaaB

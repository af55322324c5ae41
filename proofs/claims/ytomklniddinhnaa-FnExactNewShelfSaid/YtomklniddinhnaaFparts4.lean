/- Part of the evaluator's contracts: parts4. -/
import Derived.Test.YtomklniddinhnaaFparts3
import Derived.Test.YtomklniddinhnaaFmat3
import Derived.Test.YtomklniddinhnaaFsplit
import Derived.Test.YtomklniddinhnaaFparts2
import Derived.Test.YtomklniddinhnaaFpoly
namespace Go.Proofs.YtomklniddinhnaaB
open Go Go.Proofs.YtomklniddinhnaaE
set_option linter.unusedVariables false
set_option linter.unusedSectionVars false
set_option linter.unusedSimpArgs false
set_option maxHeartbeats 4000000
set_option maxRecDepth 20000
def byN (t : ByteArray) (i : Nat) : Nat := (bytesN t).getD i 0
def shp (t : ByteArray) (i : Nat) : List Nat := [byN t i, i % 251 + 1]
def col (t : ByteArray) (m i : Nat) : List Nat := (List.range i).map fun x => hor (m + 1) (shp t x)
def shP (t : ByteArray) (i j : Nat) : List ByteArray := (List.range 4).map fun m => strN (col t m (if m < j then i + 1 else i))
def partsL3 (t : ByteArray) : List ByteArray := shP t t.size 0
theorem byN_lt (t : ByteArray) (i : Nat) : byN t i < 256 := by
 unfold byN
 rcases Nat.lt_or_ge i (bytesN t).length with h | h
 ·rw [List.getD, List.getElem?_eq_getElem h]; exact bytesN_lt (s := t) _ (List.getElem_mem h)
 ·rw [List.getD, List.getElem?_eq_none h]; decide
theorem shp_lt (t : ByteArray) (i : Nat) : ∀ x ∈ shp t i, x < 256 := fun x hx => by
 simp only [shp, List.mem_cons, List.not_mem_nil, or_false] at hx
 rcases hx with h | h
 ·rw [h]; exact byN_lt t i
 ·omega
theorem col_s (t : ByteArray) (m i : Nat) : col t m (i + 1) = col t m i ++ [hor (m + 1) (shp t i)] := by simp [col, List.range_succ]
theorem col_len (t : ByteArray) (m i : Nat) : (col t m i).length = i := by simp [col]
theorem strN_app (l l' : List Nat) : strN l ++ strN l' = strN (l ++ l') := by
 apply ByteArray.ext
 simp [strN, strOfNums]
theorem shP_len (t : ByteArray) (i j : Nat) : (shP t i j).length = 4 := by simp [shP]
theorem shP_at (t : ByteArray) (i : Nat) {j : Nat} (h : j < 4) : ((shP t i j).map strC)[j]? = some [(.v (.string (strN (col t j i))))] := by
 rw [List.getElem?_map, List.getElem?_eq_getElem (by rw [shP_len]; exact h)]
 simp [shP, strC]
theorem shP_s (t : ByteArray) (i j : Nat) : ((shP t i j).map strC).set j [(.v (.string (strN (col t j (i + 1)))))] = (shP t i (j + 1)).map strC := by
 apply List.ext_getElem
 ·simp [shP]
 ·intro x h1 h2
  rw [List.getElem_set]
  by_cases e : j = x
  ·subst e; simp [shP, strC]
  ·rw [if_neg e]
   simp only [shP, strC, List.getElem_map, List.getElem_range]
   by_cases h : x < j
   ·rw [if_pos h, if_pos (by omega)]
   ·rw [if_neg h, if_neg (by omega)]
theorem shP_4 (t : ByteArray) (i : Nat) : shP t i 4 = shP t (i + 1) 0 := by
 unfold shP
 apply List.map_congr_left
 intro m hm
 rw [if_pos (List.mem_range.1 hm), if_neg (by omega)]
theorem sh_at {p : List Nat} {n j : Nat} (h : j < n) : ((shL p n).map shC)[j]? = some [(.v (.int .u8 (((j + 1 : Nat) : Int)))), (.v (.int .u8 ((hor (j + 1) p : Int))))] := by
 rw [List.getElem?_map, List.getElem?_eq_getElem (by rw [shL_len]; exact h)]
 simp [shL, shC]
theorem c45_three {k : Nat} {md : Md} {S : Store} {vs : List A} {D : List Nat} {t : ByteArray} (hd : dpArgs S [] vs = some ([(.v (.string (t))), (.v (.int .i64 (3)))], D)) (ht : t.size ≤ 60 := by first | assumption | omega | with_reducible rfl) (hk : 6 ≤ k := by omega) :
  Cal (run k) md 45 vs S (fun r S' => r = .sl S.length 0 4 4 ∧ S' = S ++ [⟨1, (partsL3 t).map strC, 0, false⟩]) := by
 obtain ⟨k, rfl⟩ : ∃ j, k = j + 1 := ⟨k - 1, by omega⟩
 refine Cal.fn (n := 62) (rs := [.tmp 4]) (ids := []) (D := D) (Xof_none rfl) g45 (by delta Try.f45; exact rfl) (by delta Try.f45; exact rfl) (by delta Try.f45; exact rfl) hd rfl (by first | rfl | simp [idsV, idsC]) (by simp) (by simp) ?_
 intro md' ow; have w := ow.w; have w0 := ow.w0; have fz : md'.fz = false := ow.fz
 have hp0 : List.replicate 4 [(.v (.string (⟨#[]⟩)))] = (shP t 0 0).map strC := rfl
 have h4 : Int.toNat 4 = 4 := rfl
 (have F := an6 @yD @yE @yG @yF @hp0 @h4; (repeat' (first | refine' dA73 | ((with_reducible first | apply EvO.call (vs := ?_) | apply EvT.call (vs := ?_)); exact rfl; exact rfl; exact dE7; (with_reducible apply Cal.hd (ms := []) (p := ?_)); exact dE7) | exact dC4 | fail)); all_goals clear F)
 apply Ev.loop (fun j e S' => ∃ i : Nat, e = mkE [(0, (.v (.string (t)))), (5, .sl (S.length + 1) 0 4 4), (6, (.v (.int .i64 ((i : Int)))))] ∧ S' = S ++ [⟨1, [], 0, false⟩, ⟨1, (shP t i 0).map strC, 0, false⟩] ∧ j = t.size - i ∧ (i ≤ t.size))
 ·exact ⟨0, (k45_8 _).trans dN13, (by first | rfl | (simp only [app_app, List.cons_append, List.nil_append]; done)), rfl, (by omega)⟩
 rintro j e S' ⟨i, rfl, rfl, hj, hi⟩
 by_cases hli : (i : Int) < (t.size : Int)
 ·have hlt : i < t.size := by omega
  have hat : (at_ t i).toNat = byN t i := at_N hlt
  have hbn := byN_lt t i
  have hr1 : (i : Int) % 251 + 1 = ((i % 251 + 1 : Nat) : Int) := by omega
  have hs1 : ∀ c ∈ [i % 251 + 1], c < 256 := fun c hc => by simp at hc; omega
  (have F := an7 @yD @yE @yG @yF @hli @hat @hr1; (repeat' (first | refine' dA73 | ((with_reducible first | apply EvO.call (vs := ?_) | apply EvT.call (vs := ?_)); exact rfl; exact rfl; exact dE7; (with_reducible apply Cal.hd (ms := []) (p := ?_)); exact dE7) | ((with_reducible apply CalH.mk); intro hd; first | exact c71 (k := k) hd (s := byN t i) (rn := [i % 251 + 1]) (n := 4) (hr := hs1) (hrl := by simp) | exact c69 hd | exact c70 hd | exact c68 hd) | fail)); all_goals clear F)
  have hsp : [byN t i, i % 251 + 1] = shp t i := rfl
  rw [hsp]
  apply Ev.loop (fun j e S' => ∃ jj : Nat, e = mkE [(0, (.v (.string (t)))), (5, .sl (S.length + 1) 0 4 4), (6, (.v (.int .i64 ((i : Int))))), (43, .sl (S.length + 3) 0 4 4), (44, (.v (.int .i64 (((4 : Nat) : Int))))), (45, (.v (.int .i64 ((jj : Int)))))] ∧ S' = S ++ [⟨1, [], 0, false⟩, ⟨1, (shP t i jj).map strC, 0, false⟩, ⟨1, [[(.v (.int .u8 (((i % 251 + 1 : Nat) : Int))))]], 0, false⟩, ⟨2, (shL (shp t i) 4).map shC, 0, false⟩] ∧ j = 4 - jj ∧ (jj ≤ 4))
  ·exact ⟨0, (k45_12 _).trans dN13, (by first | rfl | (simp only [app_app, List.cons_append, List.nil_append]; done)), rfl, (by omega)⟩
  rintro j e S' ⟨jj, rfl, rfl, hj, hjj⟩
  have hpl := shP_len t i jj
  have hsl := shL_len (shp t i) 4
  by_cases hlj : (jj : Int) < ((4 : Nat) : Int)
  ·have hltj : jj < 4 := by omega
   have hga := shP_at t i hltj
   have hgs := sh_at (p := shp t i) hltj
   have hhl := hor_lt (jj + 1) (shp t i) (shp_lt t i)
   have hset := shP_s t i jj
   have hap : strN (col t jj i) ++ strOfNums [(hor (jj + 1) (shp t i) : Int)] = strN (col t jj (i + 1)) := by rw [show strOfNums [(hor (jj + 1) (shp t i) : Int)] = strN [hor (jj + 1) (shp t i)] from rfl, strN_app, ← col_s]
   have hz1 := strN_size (col t jj i)
   have hz2 := col_len t jj i
   have hz3 : (strOfNums [(hor (jj + 1) (shp t i) : Int)]).size = 1 := rfl
   (have F := an11 @yD @yE @yG @yF @hlj @hpl @hsl @hga @hgs @hset @hap; (repeat' (first | refine' dA74 | ((with_reducible first | apply EvO.call (vs := ?_) | apply EvT.call (vs := ?_)); exact rfl; exact rfl; exact dE25; (with_reducible apply Cal.hd (ms := []) (p := ?_)); exact dE25) | exact dC4 | fail)); all_goals clear F)
   apply roundQ_m; refine ⟨_, ⟨jj + 1, (k45_12 _).trans dN13, ?_, rfl, ?_⟩, ?_⟩
   ·exact dS6
   ·first | omega | rfl | assumption | (simp; done)
   ·omega
  ·obtain rfl : jj = 4 := by omega
   rw [shP_4]
   (have F := an5 @yD @yE @yG @yF @hlj; (repeat' (first | refine' dA73 | ((with_reducible first | apply EvO.call (vs := ?_) | apply EvT.call (vs := ?_)); exact rfl; exact rfl; exact dE7; (with_reducible apply Cal.hd (ms := []) (p := ?_)); exact dE7) | exact dC4 | fail)); all_goals clear F)
   apply roundQ_m; refine ⟨_, ⟨i + 1, (k45_8 _).trans dN13, ?_, rfl, ?_⟩, ?_⟩
   ·exact dS6
   ·first | omega | rfl | assumption | (simp; done)
   ·omega
 ·obtain rfl : i = t.size := by omega
  have hpe : shP t t.size 0 = partsL3 t := rfl
  rw [hpe]
  have hpl : (partsL3 t).length = 4 := shP_len _ _ _
  have htk : List.take 4 ((partsL3 t).map strC) = (partsL3 t).map strC := List.take_of_length_le (by rw [List.length_map, hpl]; decide)
  (have F := an6 @yD @yE @yG @yF @hli @hpl; (repeat' (first | refine' dA75 | ((with_reducible first | apply EvO.call (vs := ?_) | apply EvT.call (vs := ?_)); exact rfl; exact rfl; exact dE10; (with_reducible apply Cal.hd (ms := []) (p := ?_)); exact dE10) | exact dC4 | fail)); all_goals clear F)
  exact ⟨rfl, rfl⟩
end Go.Proofs.YtomklniddinhnaaB

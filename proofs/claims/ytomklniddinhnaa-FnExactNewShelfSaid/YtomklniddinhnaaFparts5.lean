/- Part of the evaluator's contracts: parts5. -/
import Derived.Test.YtomklniddinhnaaFparts4
import Derived.Test.YtomklniddinhnaaFsplit
import Derived.Test.YtomklniddinhnaaFmat4
import Derived.Test.YtomklniddinhnaaFparts2
import Derived.Test.YtomklniddinhnaaFpoly
namespace Go.Proofs.YtomklniddinhnaaB
open Go Go.Proofs.YtomklniddinhnaaE
set_option linter.unusedVariables false
set_option linter.unusedSectionVars false
set_option linter.unusedSimpArgs false
set_option maxHeartbeats 4000000
set_option maxRecDepth 20000
theorem Mst.grow {S S' : Store} {id : Nat} {ids : Nat → Option Nat} {l : List (List Nat)} (h : Mst S id ids l) {i : Nat} (hi : i < l.length) {k : Nat} (hk : ids i = some k) {c : List Nat}
  (h1 : S'[id]? = some ⟨1, (mrows ids l).set i [.sl k 0 c.length c.length], 0, false⟩) (h2 : S'[k]? = some (mobC c)) (h3 : ∀ j o, j ≠ id → j ≠ k → S[j]? = some o → S'[j]? = some o) : Mst S' id ids (l.set i c) := by
 have hs := mrows_set ids l i hi (some k) c
 have he : (fun j => if j = i then some k else ids j) = ids := by
  funext j
  split
  ·rename_i e; rw [e, hk]
  ·rfl
 rw [he] at hs
 refine ⟨h1.trans ?_, fun j hj k' hk' => ?_, fun j hj hn => ?_, fun j hj e => h.ne j (by simpa using hj) e, fun j j' k' hj hj' e e' => h.ap j j' k' (by simpa using hj) (by simpa using hj') e e'⟩
 ·unfold mobK; rw [← hs]; rfl
 ·simp only [List.length_set] at hj
  by_cases e : j = i
  ·subst e; rw [hk] at hk'; injection hk' with hk'; subst hk'; simpa using h2
  ·rw [List.getElem_set_ne (Ne.symm e)]
   exact h3 k' _ (fun q => h.ne j hj (q ▸ hk')) (fun q => e (h.ap j i k hj hi (q ▸ hk') hk)) (h.inn j hj k' hk')
 ·simp only [List.length_set] at hj
  by_cases e : j = i
  ·subst e; rw [hk] at hn; cases hn
  ·rw [List.getElem_set_ne (Ne.symm e)]; exact h.nil j hj hn
def cntM (i j m : Nat) : Nat := if m < j then i + 1 else i
def colM (t : ByteArray) (i j : Nat) : List (List Nat) := (List.range 4).map fun m => col t m (cntM i j m)
theorem colM_len (t : ByteArray) (i j : Nat) : (colM t i j).length = 4 := by simp [colM]
theorem colM_at (t : ByteArray) (i : Nat) {j : Nat} (h : j < 4) : (colM t i j)[j]'(by rw [colM_len]; exact h) = col t j i := by simp [colM, cntM]
theorem colM_s (t : ByteArray) (i : Nat) {j : Nat} (h : j < 4) : (colM t i j).set j (col t j (i + 1)) = colM t i (j + 1) := by
 apply List.ext_getElem
 ·simp [colM]
 ·intro x h1 h2
  rw [List.getElem_set]
  by_cases e : j = x
  ·subst e; simp [colM, cntM]
  ·rw [if_neg e]
   simp only [colM, cntM, List.getElem_map, List.getElem_range]
   by_cases h : x < j
   ·rw [if_pos h, if_pos (by omega)]
   ·rw [if_neg h, if_neg (by omega)]
theorem colM_4 (t : ByteArray) (i : Nat) : colM t i 4 = colM t (i + 1) 0 := by
 unfold colM cntM
 apply List.map_congr_left
 intro m hm
 rw [if_pos (List.mem_range.1 hm), if_neg (by omega)]
def p3T (t : ByteArray) (j : Nat) : List ByteArray := (partsL3 t).take j
theorem partsL3_len (t : ByteArray) : (partsL3 t).length = 4 := shP_len _ _ _
theorem p3T_len (t : ByteArray) {j : Nat} (h : j ≤ 4) : (p3T t j).length = j := by rw [p3T, List.length_take, partsL3_len]; omega
theorem p3T_s (t : ByteArray) {j : Nat} (h : j < 4) : (p3T t (j + 1)).map strC = (p3T t j).map strC ++ [[(.v (.string (strN (col t j t.size))))]] := by
 unfold p3T
 rw [List.take_add_one, List.getElem?_eq_getElem (by rw [partsL3_len]; exact h), List.map_append]
 simp [partsL3, shP, strC]
theorem lpG_drop {K : Option (List Nat)} {ks : List Nat} {V V1 : Store} {X : List Ob} {e : Env} (hK : K = some ks) (hl : V1.length = V.length) (h1 : (ks.all fun t => lowV V.length (e t)) = true) (h2 : ∀ (i : Nat) (x : Ob), V1[i]? = some x → V[i]? = some x ∨ rowsAll (okC V.length) x.rows = true) : lpG K V e (V1 ++ X) = V1 := by
 subst hK
 rw [lpG_of h1 (fun i x hi hx => h2 i x (by rwa [List.getElem?_append_left (by omega)] at hx))]
 exact List.take_left' hl
theorem lpG_take {K : Option (List Nat)} {ks : List Nat} {V V1 : Store} {e : Env} (hK : K = some ks) (h1 : (ks.all fun t => lowV V.length (e t)) = true) (h2 : ∀ (i : Nat) (x : Ob), i < V.length → V1[i]? = some x → V[i]? = some x ∨ rowsAll (okC V.length) x.rows = true) : lpG K V e V1 = V1.take V.length := by
 subst hK
 exact lpG_of h1 (fun i x hi hx => h2 i x hi hx)
theorem c47_three {k : Nat} {md : Md} {S : Store} {vs : List A} {D : List Nat} {t : ByteArray} (hd : dpArgs S [] vs = some ([(.v (.string (t))), (.v (.int .i64 (3)))], D)) (ht : t.size ≤ 60 := by first | assumption | omega | with_reducible rfl) (hk : 20 ≤ k := by omega) :
  Cal (run k) md 47 vs S (fun r S' => r = .sl S.length 0 4 4 ∧ S' = S ++ [⟨1, (partsL3 t).map strC, 0, false⟩]) := by
 obtain ⟨k, rfl⟩ : ∃ j, k = j + 1 := ⟨k - 1, by omega⟩
 refine Cal.fn (n := 85) (rs := [.tmp 4]) (ids := []) (D := D) (Xof_none rfl) g47 (by delta Try.f47; exact rfl) (by delta Try.f47; exact rfl) (by delta Try.f47; exact rfl) hd rfl (by first | rfl | simp [idsV, idsC]) (by simp) (by simp) ?_
 intro md' ow; have w := ow.w; have w0 := ow.w0; have fz : md'.fz = false := ow.fz
 have h4 : Int.toNat 4 = 4 := rfl
 (have F := an5 @yD @yE @yG @yF @h4; (repeat' (first | refine' dA76 | ((with_reducible first | apply EvO.call (vs := ?_) | apply EvT.call (vs := ?_)); exact rfl; exact rfl; exact dE7; (with_reducible apply Cal.hd (ms := []) (p := ?_)); exact dE7) | exact dC5 | fail)); all_goals clear F)
 have hN0 : Mst (S ++ [⟨1, [], 0, false⟩, ⟨1, [[.v (.slice none 0 0)], [.v (.slice none 0 0)], [.v (.slice none 0 0)], [.v (.slice none 0 0)]], 0, false⟩]) (S.length + 1) (fun _ => none) (colM t 0 0) := by
  have := mst0 (S := S ++ [⟨1, [], 0, false⟩, ⟨1, [[.v (.slice none 0 0)], [.v (.slice none 0 0)], [.v (.slice none 0 0)], [.v (.slice none 0 0)]], 0, false⟩]) (id := S.length + 1) (List.replicate 4 []) ((get_len S _ 1).trans rfl)
  exact this
 apply Ev.loop (fun j e S' => ∃ i : Nat, ∃ ids : Nat → Option Nat, ∃ u : Store, e = mkE [(0, (.v (.string (t)))), (7, .sl (S.length + 1) 0 4 4), (35, (.v (.int .i64 ((t.size : Int))))), (36, (.v (.int .i64 ((i : Int)))))] ∧ S' = u ∧ j = t.size - i ∧ (i ≤ t.size) ∧ (Mst u (S.length + 1) ids (colM t i 0)) ∧ (i = 0 → ∀ m, ids m = none) ∧ (0 < i → ∀ m, m < 4 → ids m ≠ none) ∧ (∀ j k, ids j = some k → S.length + 2 ≤ k ∧ k < u.length) ∧ (Kept S u))
 ·exact ⟨0, (fun _ => none), _, (k47_9 _).trans dN13, (by first | rfl | (simp only [app_app, List.cons_append, List.nil_append]; done)), rfl, (by omega), (by (exact hN0)), (by (intro _ m; rfl)), (by (intro h; omega)), (by (intro j k hk; cases hk)), (by (exact Kept.app _ _))⟩
 rintro j e S' ⟨i, ids, u, rfl, rfl, hj, hi, hN, hz, hn, hge, hK⟩
 generalize hUU : S' = U at *
 have hult := hN.id_lt
 have w1 : md'.wr U.length = true := wr_of w (by omega)
 have w2 : ∀ k, md'.wr (U.length + k) = true := fun k => wr_of w (by omega)
 have hwi : md'.wr (S.length + 1) = true := w 1
 by_cases hli : (i : Int) < (t.size : Int)
 ·have hlt : i < t.size := by omega
  have hat : (at_ t i).toNat = byN t i := at_N hlt
  have hbn := byN_lt t i
  have hr1 : 1 + (i : Int) % 251 = ((i % 251 + 1 : Nat) : Int) := by omega
  have hs1 : ∀ c ∈ [i % 251 + 1], c < 256 := fun c hc => by simp at hc; omega
  (have F := an7 @yD @yE @yG @yF @hli @hat @hr1; (repeat' (first | refine' dA77 | ((with_reducible first | apply EvO.call (vs := ?_) | apply EvT.call (vs := ?_)); exact rfl; exact rfl; exact dE20; (with_reducible apply Cal.hd (ms := []) (p := ?_)); exact dE20) | ((with_reducible apply CalH.mk); intro hd; first | exact c75 (k := k) hd (s := byN t i) (rn := [i % 251 + 1]) (n := 4) (hr := hs1) (hrl := by simp) | exact c72 hd | exact c74 hd | exact c73 hd) | fail)); all_goals clear F)
  have hsp : [byN t i, i % 251 + 1] = shp t i := rfl
  rw [hsp]
  apply Ev.loop (fun j e S' => ∃ jj : Nat, ∃ idv : Nat → Option Nat, ∃ v : Store, e = mkE [(0, (.v (.string (t)))), (7, .sl (S.length + 1) 0 4 4), (35, (.v (.int .i64 ((t.size : Int))))), (36, (.v (.int .i64 ((i : Int))))), (51, .sl (U.length + 1) 0 4 4), (52, (.v (.int .i64 (((4 : Nat) : Int))))), (53, (.v (.int .i64 ((jj : Int)))))] ∧ S' = v ∧ j = 4 - jj ∧ (jj ≤ 4) ∧ (Mst v (S.length + 1) idv (colM t i jj)) ∧ (i = 0 → ∀ m, jj ≤ m → idv m = none) ∧ (∀ m, m < 4 → 0 < i ∨ m < jj → idv m ≠ none) ∧ (∀ j k, idv j = some k → S.length + 2 ≤ k ∧ k < v.length ∧ k ≠ U.length + 1) ∧ (v[U.length + 1]? = some ⟨2, (shL (shp t i) 4).map shC, 0, false⟩) ∧ (U.length + 2 ≤ v.length) ∧ (Kept S v) ∧ (0 < i → idv = ids) ∧ (i = 0 → ∀ m k, idv m = some k → U.length ≤ k) ∧ (∀ j, j < U.length → j ≠ S.length + 1 → (∀ m, m < 4 → ids m ≠ some j) → v[j]? = U[j]?))
  ·exact ⟨0, ids, _, (k47_13 _).trans dN13, (by first | rfl | (simp only [app_app, List.cons_append, List.nil_append]; done)), rfl, (by omega), (by (exact hN.app _)), (by (intro h m _; exact hz h m)), (by (intro m hm h; exact hn (by omega) m hm)), (by (intro j k hk; have := hge j k hk; simp; omega)), (by (exact (get_len U _ 1).trans rfl)), (by simp), (by (exact hK.trans (Kept.app _ _))), (by (intro _; rfl)), (by (intro h m k hk; rw [hz h m] at hk; cases hk)), (by (intro j hj _ _; exact List.getElem?_append_left hj))⟩
  rintro j e S' ⟨jj, idv, v, rfl, rfl, hj, hjj, hNv, hzv, hnv, hgv, hsv, hUv, hKv, he, hbg, hVU⟩
  generalize hVV : S' = V at *
  have hvl := hNv.id_lt
  have v1 : md'.wr V.length = true := wr_of w (by omega)
  have v2 : ∀ k, md'.wr (V.length + k) = true := fun k => wr_of w (by omega)
  have hob := hNv.ob
  unfold mobK at hob
  have hrl := mrows_len idv (colM t i jj)
  rw [colM_len] at hrl
  have hsl := shL_len (shp t i) 4
  by_cases hlj : (jj : Int) < ((4 : Nat) : Int)
  ·have hltj : jj < 4 := by omega
   have hgs := sh_at (p := shp t i) hltj
   have hg := mrows_at idv (colM t i jj) (i := jj) (by rw [colM_len]; exact hltj)
   rw [colM_at t i hltj] at hg
   have hhl := hor_lt (jj + 1) (shp t i) (shp_lt t i)
   rcases Nat.eq_zero_or_pos i with hi0 | hi0
   ·rw [hzv hi0 jj (Nat.le_refl _)] at hg
    simp only [mrow] at hg
    (have F := an13 @yD @yE @yG @yF @hlj @hob @hrl @hsl @hgs @hg @hltj @List.getElem?_append_left.{0} @List.set_append_left.{0}; (repeat' (first | refine' dA78 | ((with_reducible first | apply EvO.call (vs := ?_) | apply EvT.call (vs := ?_)); exact rfl; exact rfl; exact dE26; (with_reducible apply Cal.hd (ms := []) (p := ?_)); exact dE26) | exact dC5 | fail)); all_goals clear F)
    have hc1 : (col t jj (i + 1)).map bC = [[(.v (.int .u8 ((hor (jj + 1) (shp t i) : Int))))]] := by rw [col_s, hi0]; rfl
    have hq : ∀ j, j < V.length → j ≠ S.length + 1 → ∀ o x, (V.set (S.length + 1) o ++ x)[j]? = V[j]? := fun j h1 h2 o x => by rw [List.getElem?_append_left (by simpa using h1), List.getElem?_set_ne (Ne.symm h2)]
    have hM1 : ∀ x y, Mst (V.set (S.length + 1) ⟨1, (mrows idv (colM t i jj)).set jj [.sl (V.length + 2) 0 1 1], 0, false⟩ ++ [x, y, ⟨1, [[(.v (.int .u8 ((hor (jj + 1) (shp t i) : Int))))]], 0, false⟩]) (S.length + 1) (fun m => if m = jj then some (V.length + 2) else idv m) (colM t i (jj + 1)) := fun x y => by
     rw [← colM_s t i hltj]
     refine hNv.put (by rw [colM_len]; exact hltj) (col t jj (i + 1)) (by omega) ?_ ?_ fun j o hj ho => (hq j (List.getElem?_eq_some_iff.1 ho).1 hj _ _).trans ho
     ·rw [List.getElem?_append_left (by simpa using hvl), List.getElem?_set_self hvl, col_len, hi0]
     ·rw [List.getElem?_append_right (by simp)]; simp [mobC, hc1]
    apply roundQ_m; refine ⟨_, ⟨jj + 1, (fun m => if m = jj then some (V.length + 2) else idv m), (V.set (S.length + 1) ⟨1, (mrows idv (colM t i jj)).set jj [.sl (V.length + 2) 0 1 1], 0, false⟩ ++ [⟨2, [[(.v (.int .u8 (((jj + 1 : Nat) : Int)))), (.v (.int .u8 ((hor (jj + 1) (shp t i) : Int))))]], 0, true⟩, ⟨1, [[(.v (.int .u8 ((hor (jj + 1) (shp t i) : Int))))]], 0, false⟩, ⟨1, [[(.v (.int .u8 ((hor (jj + 1) (shp t i) : Int))))]], 0, false⟩]), (k47_13 _).trans dN13, ?_, rfl, ?_, ?_, ?_, ?_, ?_, ?_, ?_, ?_, ?_, ?_, ?_⟩, ?_⟩
    ·(refine lpG_keep hob (by rw [List.getElem?_append_left (by simpa using hvl), List.getElem?_set_self hvl]) (mrows_ok fun j k hj hk => hNv.in_lt hj hk) (mrows_no (List.getElem?_set_self (by rw [hrl]; omega)) (by simp [okC])))
    ·omega
    ·(exact hM1 _ _)
    ·(intro h m hm; dsimp only; rw [if_neg (by omega)]; exact hzv h m (by omega))
    ·(intro m hm h; dsimp only; by_cases e : m = jj; (rw [if_pos e]; simp); (rw [if_neg e]; exact hnv m hm (by omega)))
    ·(intro j k hk; dsimp only at hk; by_cases e : j = jj; (rw [if_pos e] at hk; injection hk with hk; simp; omega); (rw [if_neg e] at hk; have := hgv j k hk; simp; omega))
    ·(rw [hq _ (by omega) (by omega)]; exact hsv)
    ·(simp; omega)
    ·(exact ⟨by simp; have := hKv.1; omega, fun j hj => (hq j (by have := hKv.1; omega) (by omega) _ _).trans (hKv.2 j hj)⟩)
    ·(intro h; omega)
    ·(intro h m k hk; dsimp only at hk; by_cases e : m = jj; (rw [if_pos e] at hk; injection hk with hk; omega); (rw [if_neg e] at hk; exact hbg h m k hk))
    ·(intro j hj h1 h2; rw [hq _ (by omega) h1]; exact hVU j hj h1 h2)
    ·omega
   ·obtain ⟨k', hk'⟩ : ∃ k', idv jj = some k' := by
     cases e : idv jj with
     | none => exact absurd e (hnv jj hltj (.inl hi0))
     | some k' => exact ⟨k', rfl⟩
    rw [hk'] at hg
    simp only [mrow, col_len] at hg
    have hin := hNv.inn jj (by rw [colM_len]; exact hltj) k' hk'
    rw [colM_at t i hltj] at hin
    unfold mobC at hin
    have hgk := hgv jj k' hk'
    have hwk : md'.wr k' = true := wr_of w (by omega)
    have hrr : ((col t jj i).map bC).length = i := by rw [List.length_map, col_len]
    (have F := an19 @yD @yE @yG @yF @hlj @hob @hrl @hsl @hgs @hg @hin @hrr @hltj @List.getElem?_set_ne.{0} @List.getElem?_set_self.{0} @List.length_set.{0} @List.set_set.{0} @List.getElem?_append_left.{0} @List.set_append_left.{0}; (repeat' (first | refine' dA79 | ((with_reducible first | apply EvO.call (vs := ?_) | apply EvT.call (vs := ?_)); exact rfl; exact rfl; exact dE27; (with_reducible apply Cal.hd (ms := []) (p := ?_)); exact dE27) | exact dC5 | fail)); all_goals clear F)
    have hkid : k' ≠ S.length + 1 := by omega
    have hc2 : (col t jj i).map bC ++ [[(.v (.int .u8 ((hor (jj + 1) (shp t i) : Int))))]] = (col t jj (i + 1)).map bC := by rw [col_s, List.map_append]; rfl
    rw [hc2]
    have hq : ∀ j, j ≠ S.length + 1 → j ≠ k' → ∀ o o', ((V.set k' o).set (S.length + 1) o')[j]? = V[j]? := fun j h1 h2 o o' => by rw [List.getElem?_set_ne (Ne.symm h1), List.getElem?_set_ne (Ne.symm h2)]
    have hM1 : Mst ((V.set k' ⟨1, (col t jj (i + 1)).map bC, 0, false⟩).set (S.length + 1) ⟨1, (mrows idv (colM t i jj)).set jj [.sl k' 0 (i + 1) (i + 1)], 0, false⟩) (S.length + 1) idv (colM t i (jj + 1)) := by
     rw [← colM_s t i hltj]
     refine hNv.grow (by rw [colM_len]; exact hltj) hk' (c := col t jj (i + 1)) ?_ ?_ fun j o h1 h2 ho => (hq j h1 h2 _ _).trans ho
     ·rw [List.getElem?_set_self (by simpa using hvl), col_len]
     ·rw [List.getElem?_set_ne (Ne.symm hkid), List.getElem?_set_self hgk.2.1]; rfl
    have hkids : ids jj = some k' := by rw [← he hi0]; exact hk'
    apply roundQ_m; refine ⟨_, ⟨jj + 1, idv, ((V.set k' ⟨1, (col t jj (i + 1)).map bC, 0, false⟩).set (S.length + 1) ⟨1, (mrows idv (colM t i jj)).set jj [.sl k' 0 (i + 1) (i + 1)], 0, false⟩), (k47_13 _).trans dN13, ?_, rfl, ?_, ?_, ?_, ?_, ?_, ?_, ?_, ?_, ?_, ?_, ?_⟩, ?_⟩
    ·(refine lpG_drop (show _ = some _ from rfl) (by simp) (by simp [lowV, okC, mkE_at]; try omega) (fun j x hx => ?_); by_cases h1 : j = S.length + 1; (rw [h1, hM1.ob] at hx; injection hx with hx; rw [← hx]; exact .inr (mrows_ok fun m k hm hk => (hgv m k hk).2.1)); (by_cases h2 : j = k'; (rw [h2, List.getElem?_set_ne (Ne.symm hkid), List.getElem?_set_self hgk.2.1] at hx; injection hx with hx; rw [← hx]; exact .inr (ok_b _ _)); (rw [hq _ h1 h2] at hx; exact .inl hx)))
    ·omega
    ·(exact hM1)
    ·(intro h; omega)
    ·(intro m hm h; exact hnv m hm (.inl hi0))
    ·(intro j k hk; have := hgv j k hk; simp; omega)
    ·(rw [hq _ (by omega) (by omega)]; exact hsv)
    ·(simp; omega)
    ·(exact ⟨by simp; have := hKv.1; omega, fun j hj => (hq j (by omega) (by omega) _ _).trans (hKv.2 j hj)⟩)
    ·(exact he)
    ·(intro h; omega)
    ·(intro j hj h1 h2; rw [hq _ h1 (fun e => h2 jj hltj (by rw [hkids, e]))]; exact hVU j hj h1 h2)
    ·omega
  ·obtain rfl : jj = 4 := by omega
   rw [colM_4] at hNv
   have hobU := hN.ob
   unfold mobK at hobU
   rcases Nat.eq_zero_or_pos i with hi0 | hi0
   ·obtain ⟨k0, hk0⟩ : ∃ k0, idv 0 = some k0 := by
     cases e : idv 0 with
     | none => exact absurd e (hnv 0 (by omega) (.inr (by omega)))
     | some k0 => exact ⟨k0, rfl⟩
    have hb0 := hbg hi0 0 k0 hk0
    have hg0 := mrows_at idv (colM t (i + 1) 0) (i := 0) (by rw [colM_len]; omega)
    rw [hk0] at hg0
    simp only [mrow] at hg0
    (have F := an5 @yD @yE @yG @yF @hlj; (repeat' (first | refine' dA76 | ((with_reducible first | apply EvO.call (vs := ?_) | apply EvT.call (vs := ?_)); exact rfl; exact rfl; exact dE7; (with_reducible apply Cal.hd (ms := []) (p := ?_)); exact dE7) | exact dC5 | fail)); all_goals clear F)
    apply roundQ_m; refine ⟨_, ⟨i + 1, idv, V, (k47_9 _).trans dN13, ?_, rfl, ?_, ?_, ?_, ?_, ?_, ?_⟩, ?_⟩
    ·(exact lpG_keep hobU hNv.ob (mrows_ok fun j k hj hk => hN.in_lt hj hk) (mrows_no hg0 (by simp [okC]; omega)))
    ·omega
    ·(exact hNv)
    ·(intro h; omega)
    ·(intro _ m hm; exact hnv m hm (.inr (by omega)))
    ·(intro j k hk; have := hgv j k hk; exact ⟨this.1, this.2.1⟩)
    ·(exact hKv)
    ·omega
   ·have hev := he hi0
    have hTl : (V.take U.length).length = U.length := by rw [List.length_take]; omega
    have hTg : ∀ j, j < U.length → (V.take U.length)[j]? = V[j]? := fun j h => by rw [List.getElem?_take, if_pos h]
    (have F := an5 @yD @yE @yG @yF @hlj; (repeat' (first | refine' dA76 | ((with_reducible first | apply EvO.call (vs := ?_) | apply EvT.call (vs := ?_)); exact rfl; exact rfl; exact dE7; (with_reducible apply Cal.hd (ms := []) (p := ?_)); exact dE7) | exact dC5 | fail)); all_goals clear F)
    apply roundQ_m; refine ⟨_, ⟨i + 1, ids, (V.take U.length), (k47_9 _).trans dN13, ?_, rfl, ?_, ?_, ?_, ?_, ?_, ?_⟩, ?_⟩
    ·(refine lpG_take (show _ = some _ from rfl) (by simp [lowV, okC, mkE_at]; try omega) (fun j x hj hx => ?_); by_cases h1 : j = S.length + 1; (rw [h1, hNv.ob] at hx; injection hx with hx; rw [← hx, hev]; exact .inr (mrows_ok fun m k hm hk => (hge m k hk).2)); (by_cases h2 : ∃ m, m < 4 ∧ ids m = some j; (obtain ⟨m, hm4, hm⟩ := h2; rw [hNv.inn m (by rw [colM_len]; exact hm4) j (by rw [hev]; exact hm)] at hx; injection hx with hx; rw [← hx]; exact .inr (ok_b _ _)); (rw [hVU j hj h1 (fun m hm4 hm => h2 ⟨m, hm4, hm⟩)] at hx; exact .inl hx)))
    ·omega
    ·(rw [hev] at hNv; exact hNv.mono (hTg _ hult) (fun j k hj hk => hTg _ (hge j k hk).2))
    ·(intro h; omega)
    ·(exact fun _ => hn hi0)
    ·(intro j k hk; rw [hTl]; exact hge j k hk)
    ·(exact ⟨by rw [hTl]; exact hK.1, fun j hj => (hTg j (by have := hK.1; omega)).trans (hKv.2 j hj)⟩)
    ·omega
 ·obtain rfl : i = t.size := by omega
  have hob := hN.ob
  unfold mobK at hob
  have hrl := mrows_len ids (colM t t.size 0)
  rw [colM_len] at hrl
  (have F := an8 @yD @yE @yG @yF @hli @hob @hrl @List.getElem?_append_left.{0}; (repeat' (first | refine' dA77 | ((with_reducible first | apply EvO.call (vs := ?_) | apply EvT.call (vs := ?_)); exact rfl; exact rfl; exact dE20; (with_reducible apply Cal.hd (ms := []) (p := ?_)); exact dE20) | exact dC5 | fail)); all_goals clear F)
  apply Ev.loop (fun j e S' => ∃ jj : Nat, e = mkE [(13, .sl U.length 0 jj jj), (72, .sl (S.length + 1) 0 4 4), (73, (.v (.int .i64 (((4 : Nat) : Int))))), (74, (.v (.int .i64 ((jj : Int)))))] ∧ S' = U ++ [⟨1, (p3T t jj).map strC, 0, false⟩] ∧ j = 4 - jj ∧ (jj ≤ 4))
  ·exact ⟨0, (k47_20 _).trans dN13, (by first | rfl | (simp only [app_app, List.cons_append, List.nil_append]; done)), rfl, (by omega)⟩
  rintro j e S' ⟨jj, rfl, rfl, hj, hjj⟩
  have htl := p3T_len t hjj
  by_cases hlj : (jj : Int) < ((4 : Nat) : Int)
  ·have hltj : jj < 4 := by omega
   have hg := mrows_at ids (colM t t.size 0) (i := jj) (by rw [colM_len]; exact hltj)
   have hce : (colM t t.size 0)[jj]'(by rw [colM_len]; exact hltj) = col t jj t.size := by simp [colM, cntM]
   rw [hce] at hg
   have hss := p3T_s t hltj
   rcases Nat.eq_zero_or_pos t.size with hi0 | hi0
   ·rw [hz hi0 jj] at hg
    simp only [mrow] at hg
    have hse : strOfNums [] = strN (col t jj t.size) := by rw [hi0]; rfl
    (have F := an11 @yD @yE @yG @yF @hlj @hob @hrl @hg @hse (Eq.symm hss) @List.getElem?_append_left.{0}; (repeat' (first | refine' dA80 | ((with_reducible first | apply EvO.call (vs := ?_) | apply EvT.call (vs := ?_)); exact rfl; exact rfl; exact dE28; (with_reducible apply Cal.hd (ms := []) (p := ?_)); exact dE28) | exact dC5 | fail)); all_goals clear F)
    apply roundQ_m; refine ⟨_, ⟨jj + 1, (k47_20 _).trans dN13, ?_, rfl, ?_⟩, ?_⟩
    ·(refine (congrArg (fun K => lpG K _ _ _) (show _ = some _ from rfl)).trans (lpG_mod rfl rfl ?_ ?_) <;> (simp [lowV, okC, mkE_at, rowsAll_cons, rowsAll_nil, ok_str]; try omega))
    ·omega
    ·omega
   ·obtain ⟨k', hk'⟩ : ∃ k', ids jj = some k' := by
     cases e : ids jj with
     | none => exact absurd e (hn hi0 jj hltj)
     | some k' => exact ⟨k', rfl⟩
    rw [hk'] at hg
    simp only [mrow, col_len] at hg
    have hin := hN.inn jj (by rw [colM_len]; exact hltj) k' hk'
    rw [hce] at hin
    unfold mobC at hin
    have hgk := (hge jj k' hk').2
    have hmb := mapM_bC (col t jj t.size)
    have hsN := strN_of (col t jj t.size)
    have htk : List.take t.size ((col t jj t.size).map bC) = (col t jj t.size).map bC := List.take_of_length_le (by rw [List.length_map, col_len]; exact Nat.le_refl _)
    have hcl := col_len t jj t.size
    (have F := an15 @yD @yE @yG @yF @hlj @hob @hrl @hg @hin @hgk @hmb @hsN @hcl (Eq.symm hss) @List.getElem?_append_left.{0}; (repeat' (first | refine' dA81 | ((with_reducible first | apply EvO.call (vs := ?_) | apply EvT.call (vs := ?_)); exact rfl; exact rfl; exact dE29; (with_reducible apply Cal.hd (ms := []) (p := ?_)); exact dE29) | exact dC5 | fail)); all_goals clear F)
    apply roundQ_m; refine ⟨_, ⟨jj + 1, (k47_20 _).trans dN13, ?_, rfl, ?_⟩, ?_⟩
    ·(refine (congrArg (fun K => lpG K _ _ _) (show _ = some _ from rfl)).trans (lpG_mod rfl rfl ?_ ?_) <;> (simp [lowV, okC, mkE_at, rowsAll_cons, rowsAll_nil, ok_str]; try omega))
    ·omega
    ·omega
  ·obtain rfl : jj = 4 := by omega
   have hpe : p3T t 4 = partsL3 t := List.take_of_length_le (by rw [partsL3_len]; decide)
   rw [hpe]
   have hpl := partsL3_len t
   have htk : List.take 4 ((partsL3 t).map strC) = (partsL3 t).map strC := List.take_of_length_le (by rw [List.length_map, hpl]; decide)
   have htS := fun X => hK.take X
   have hlt1 : ¬ U.length < S.length := by have := hK.1; omega
   (have F := an7 @yD @yE @yG @yF @hlj @hpl @hlt1; (repeat' (first | refine' dA82 | ((with_reducible first | apply EvO.call (vs := ?_) | apply EvT.call (vs := ?_)); exact rfl; exact rfl; exact dE30; (with_reducible apply Cal.hd (ms := []) (p := ?_)); exact dE30) | exact dC5 | fail)); all_goals clear F)
   exact ⟨rfl, rfl⟩
end Go.Proofs.YtomklniddinhnaaB

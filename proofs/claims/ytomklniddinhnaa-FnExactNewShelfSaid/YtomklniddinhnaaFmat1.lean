/- Part of the evaluator's contracts: mat1. -/
import Derived.Test.YtomklniddinhnaaFgf2
import Derived.Test.YtomklniddinhnaaFmatN
namespace Go.Proofs.YtomklniddinhnaaB
open Go Go.Proofs.YtomklniddinhnaaE
set_option linter.unusedVariables false
set_option linter.unusedSectionVars false
set_option linter.unusedSimpArgs false
set_option maxHeartbeats 4000000
set_option maxRecDepth 20000
def zM (rn cn : Nat) : List (List Nat) := List.replicate rn (List.replicate cn 0)
theorem zM_len (rn cn : Nat) : (zM rn cn).length = rn := by simp [zM]
theorem zM_s (i cn : Nat) : zM (i + 1) cn = zM i cn ++ [List.replicate cn 0] := by simp [zM, List.replicate_succ']
theorem zRow (cn : Nat) : List.replicate cn [(.v (.int .u8 (0)))] = (List.replicate cn 0).map bC := by rw [List.map_replicate]; rfl
theorem k115_3 (e : Env) : lpE (FI.K ⟨[], false, [(3, [0, 1, 4, 5, 6]), (1000, [0, 1, 4]), (1001, [0, 1, 4, 5]), (1002, [0, 1, 4, 5, 6]), (1003, [0, 1, 4, 5, 6, 10]), (1004, [0, 1, 4, 5, 6]), (1005, [0, 1, 4, 5, 6]), (1006, [4]), (999999, [])]⟩ 3) e = mkE [(0, e 0), (1, e 1), (4, e 4), (5, e 5), (6, e 6)] := rfl
theorem c115 {k : Nat} {md : Md} {S : Store} {vs : List A} {D : List Nat} {rn cn : Nat} (hd : dpArgs S [] vs = some ([(.v (.int .i64 ((rn : Int)))), (.v (.int .i64 ((cn : Int))))], D)) (hD0 : D = [] := by first | assumption | omega | with_reducible rfl) (h0 : 0 < rn := by first | assumption | omega | with_reducible rfl) (hr : rn ≤ 1048576 := by first | assumption | omega | with_reducible rfl) (hcn : cn ≤ 1048576 := by first | assumption | omega | with_reducible rfl) (hk : 1 ≤ k := by omega) :
  Cal (run k) md 115 vs S (fun r S' => ∃ id ids, r = .ag [.sl id 0 rn rn] ∧ Mst S' id ids (zM rn cn) ∧ (∀ i, i < rn → ids i ≠ none) ∧ S.length ≤ id ∧ (∀ i k, i < rn → ids i = some k → S.length ≤ k) ∧ Kept S S') := by
 obtain ⟨k, rfl⟩ : ∃ j, k = j + 1 := ⟨k - 1, by omega⟩
 refine Cal.fnN (n := 21) (rs := [.cell 4 92]) (D := D) (Xof_none rfl) g115 (by delta Try.f115; exact rfl) (by delta Try.f115; exact rfl) (by delta Try.f115; exact rfl) hd rfl (by first | exact .inr (by assumption) | exact .inl rfl | exact .inl (by simp [idsV, idsC])) (by simp) ?_
 intro md' ow; have w := ow.w; have w0 := ow.w0; have fz : md'.fz = false := ow.fz
 subst hD0
 (have F := an2 @yD @yE; (repeat' (first | refine' dA53 | fail)); all_goals clear F)
 apply Ev.loop (fun j e S' => ∃ i : Nat, ∃ a : A, ∃ id : Nat, ∃ ids : Nat → Option Nat, ∃ u : Store, e = mkE [(0, (.v (.int .i64 ((rn : Int))))), (1, (.v (.int .i64 ((cn : Int))))), (4, .pt S.length 0 0 1), (5, .pt (S.length + 1) 0 0 1), (6, (.v (.int .i64 ((i : Int)))))] ∧ S' = u ∧ j = rn - i ∧ (i ≤ rn) ∧ (i = 0 ∧ a = .v (.slice none 0 0) ∨ 0 < i ∧ a = .sl id 0 i i ∧ Mst u id ids (zM i cn) ∧ S.length + 2 ≤ id ∧ (∀ j k, ids j = some k → S.length + 2 ≤ k) ∧ (∀ j, j < i → ids j ≠ none)) ∧ (u[S.length]? = some ⟨1, [[.v (.slice none 0 0)]], 0, true⟩) ∧ (u[S.length + 1]? = some ⟨1, [[a]], 0, true⟩) ∧ (Kept S u))
 ·exact ⟨0, (.v (.slice none 0 0)), 0, (fun _ => none), _, (k115_3 _).trans dN14, (by first | rfl | (simp only [app_app, List.cons_append, List.nil_append]; done)), rfl, (by omega), (by (exact .inl ⟨rfl, rfl⟩)), (by (exact get_len0 _ _)), (by (exact get_len _ _ _)), (by (exact Kept.app _ _))⟩
 rintro j e S' ⟨i, a, id, ids, u, rfl, rfl, hj, hi, hN, f0, f1, hK⟩
 have hul : S.length + 1 < S'.length := (List.getElem?_eq_some_iff.1 f1).1
 have w1 : md'.wr S'.length = true := wr_of w (by omega)
 have w2 : ∀ k, md'.wr (S'.length + k) = true := fun k => wr_of w (by omega)
 have hzr := zRow cn
 have hzl : (List.replicate cn 0).length = cn := by simp
 by_cases hli : (i : Int) < (rn : Int)
 ·have hlt : i < rn := by omega
  rcases hN with ⟨rfl, rfl⟩ | ⟨hi0, rfl, hN, hid, hge, hall⟩
  ·have hli0 : (0 : Int) < (rn : Int) := by omega
   (have F := an10 @yD @yE @hli0 @f0 @f1 @List.getElem?_append_left.{0} @List.set_append_left.{0} @List.getElem?_set_self.{0} @List.getElem?_set_ne.{0} @List.set_set.{0}; (repeat' (first | refine' dA54 | fail)); all_goals clear F)
   have hq : ∀ j, j < S'.length → j ≠ S.length + 1 → ∀ o x, (S'.set (S.length + 1) o ++ x)[j]? = S'[j]? := fun j h1 h2 o x => by rw [List.getElem?_append_left (by simpa using h1), List.getElem?_set_ne (Ne.symm h2)]
   have hN1 : ∀ o y, Mst (S'.set (S.length + 1) o ++ [mobC (List.replicate cn 0), y, ⟨1, [[.sl S'.length 0 cn cn]], 0, false⟩]) (S'.length + 2) (fun j => if j = 0 then some S'.length else none) (zM 1 cn) := fun o y => by
    refine Mst.one (c := List.replicate cn 0) ?_ ?_ (by omega)
    ·rw [List.getElem?_append_right (by simp), hzl]; simp
    ·rw [List.getElem?_append_right (by simp)]; simp
   apply roundQ_m; refine ⟨_, ⟨1, (.sl (S'.length + 2) 0 1 1), (S'.length + 2), (fun j => if j = 0 then some S'.length else none), (S'.set (S.length + 1) ⟨1, [[.sl (S'.length + 2) 0 1 1]], 0, true⟩ ++ [mobC (List.replicate cn 0), ⟨1, [[.sl S'.length 0 cn cn]], 0, false⟩, ⟨1, [[.sl S'.length 0 cn cn]], 0, false⟩]), (k115_3 _).trans dN14, ?_, rfl, ?_, ?_, ?_, ?_, ?_⟩, ?_⟩
   ·(refine lpG_keep f1 (by rw [List.getElem?_append_left (by simp; omega), List.getElem?_set_self (by omega)]) (by simp [rowsAll, okC]) (by simp [rowsAll, okC]; try omega))
   ·omega
   ·(exact .inr ⟨by omega, rfl, hN1 _ _, by omega, fun j k hk => by (dsimp only at hk; split at hk; (injection hk with hk; omega); (cases hk)), fun j hj => by (dsimp only; rw [if_pos (by omega)]; simp)⟩)
   ·(exact (hq _ (by omega) (by omega) _ _).trans f0)
   ·(rw [List.getElem?_append_left (by simp; omega), List.getElem?_set_self (by omega)])
   ·(exact ⟨by simp; have := hK.1; omega, fun j hj => (hq j (by omega) (by omega) _ _).trans (hK.2 j hj)⟩)
   ·omega
  ·have hob := hN.ob
   have hult := hN.id_lt
   have hwi : md'.wr id = true := wr_of w (by omega)
   unfold mobK at hob
   have hrl := mrows_len ids (zM i cn)
   rw [zM_len] at hrl
   (have F := an12 @yD @yE @hli @f0 @f1 @hob @hrl @List.getElem?_append_left.{0} @List.set_append_left.{0} @List.getElem?_set_self.{0} @List.getElem?_set_ne.{0} @List.set_set.{0}; (repeat' (first | refine' dA55 | fail)); all_goals clear F)
   have hq : ∀ j, j < S'.length → j ≠ S.length + 1 → j ≠ id → ∀ o o' x, ((S'.set id o').set (S.length + 1) o ++ x)[j]? = S'[j]? := fun j h1 h2 h3 o o' x => by rw [List.getElem?_append_left (by simpa using h1), List.getElem?_set_ne (Ne.symm h2), List.getElem?_set_ne (Ne.symm h3)]
   have hN1 : ∀ o y, Mst ((S'.set id ⟨1, mrows ids (zM i cn) ++ [[.sl S'.length 0 cn cn]], 0, false⟩).set (S.length + 1) o ++ [mobC (List.replicate cn 0), y]) id (fun j => if j = i then some S'.length else ids j) (zM (i + 1) cn) := fun o y => by
    have := hN.push (S' := (S'.set id ⟨1, mrows ids (zM i cn) ++ [[.sl S'.length 0 cn cn]], 0, false⟩).set (S.length + 1) o ++ [mobC (List.replicate cn 0), y]) (List.replicate cn 0) (k := S'.length) (by omega) (by rw [List.getElem?_append_left (by simpa using hult), List.getElem?_set_ne (by omega), List.getElem?_set_self hult, hzl]) (by rw [List.getElem?_append_right (by simp)]; simp) (fun j k' hj hk' => hq k' (hN.in_lt hj hk') (by have := hge j k' hk'; omega) (fun e => hN.ne j hj (e ▸ hk')) _ _ _)
    rwa [zM_len, ← zM_s] at this
   apply roundQ_m; refine ⟨_, ⟨i + 1, (.sl id 0 (i + 1) (i + 1)), id, (fun j => if j = i then some S'.length else ids j), ((S'.set id ⟨1, mrows ids (zM i cn) ++ [[.sl S'.length 0 cn cn]], 0, false⟩).set (S.length + 1) ⟨1, [[.sl id 0 (i + 1) (i + 1)]], 0, true⟩ ++ [mobC (List.replicate cn 0), ⟨1, [[.sl S'.length 0 cn cn]], 0, false⟩]), (k115_3 _).trans dN14, ?_, rfl, ?_, ?_, ?_, ?_, ?_⟩, ?_⟩
   ·(refine lpG_keep hob (by rw [List.getElem?_append_left (by simpa using hult), List.getElem?_set_ne (by omega), List.getElem?_set_self hult]) (mrows_ok fun j k hj hk => hN.in_lt hj hk) (by rw [rowsAll_app]; simp [rowsAll, okC]))
   ·omega
   ·(exact .inr ⟨by omega, rfl, hN1 _ _, hid, fun j k hk => by (dsimp only at hk; split at hk; (injection hk with hk; omega); (exact hge j k hk)), fun j hj => by (dsimp only; by_cases e : j = i; (rw [if_pos e]; simp); (rw [if_neg e]; exact hall j (by omega)))⟩)
   ·(exact (hq _ (by omega) (by omega) (by omega) _ _ _).trans f0)
   ·(rw [List.getElem?_append_left (by simp; omega), List.getElem?_set_self (by simp; omega)])
   ·(exact ⟨by simp; have := hK.1; omega, fun j hj => (hq j (by omega) (by omega) (by omega) _ _ _).trans (hK.2 j hj)⟩)
   ·omega
 ·obtain rfl : i = rn := by omega
  rcases hN with ⟨h, rfl⟩ | ⟨hi0, rfl, hN, hid, hge, hall⟩
  ·omega
  ·(have F := an6 @yD @yE @hli @f0 @f1 @List.getElem?_set_ne.{0}; (repeat' (first | refine' dA53 | fail)); all_goals clear F)
   refine ⟨.inl rfl, fun S₂ hk => ?_⟩
   rw [hk.nil]
   have hq : ∀ j, j ≠ S.length → ∀ o, (S'.set S.length o)[j]? = S'[j]? := fun j h o => by rw [List.getElem?_set_ne (Ne.symm h)]
   exact ⟨id, ids, rfl, hN.mono (hq _ (by omega) _) (fun i k hi hk => hq _ (by have := hge i k hk; omega) _), hall, by omega, fun i k hi hk => by have := hge i k hk; omega, ⟨by simp; omega, fun j hj => (hq j (by omega) _).trans (hK.2 j hj)⟩⟩
def idRow (n i : Nat) : List Nat := (List.range n).map fun c => if c = i then 1 else 0
def idI (n i : Nat) : List (List Nat) := (List.range n).map fun r => if r < i then idRow n r else List.replicate n 0
def idM (n : Nat) : List (List Nat) := (List.range n).map (idRow n)
theorem idI_len (n i : Nat) : (idI n i).length = n := by simp [idI]
theorem idM_len (n : Nat) : (idM n).length = n := by simp [idM]
theorem idI_0 (n : Nat) : idI n 0 = zM n n := by
 apply List.ext_getElem
 ·simp [idI, zM]
 ·intro x h1 h2; simp [idI, zM]
theorem idI_n (n : Nat) : idI n n = idM n := by
 unfold idI idM
 apply List.map_congr_left
 intro x hx
 rw [if_pos (List.mem_range.1 hx)]
theorem idI_at (n : Nat) {i : Nat} (h : i < n) : (idI n i)[i]'(by rw [idI_len]; exact h) = List.replicate n 0 := by simp [idI]
theorem idI_s (n : Nat) {i : Nat} (h : i < n) : (idI n i).set i (idRow n i) = idI n (i + 1) := by
 apply List.ext_getElem
 ·simp [idI]
 ·intro x h1 h2
  rw [List.getElem_set]
  by_cases e : i = x
  ·subst e; simp [idI]
  ·rw [if_neg e]
   simp only [idI, List.getElem_map, List.getElem_range]
   by_cases h : x < i
   ·rw [if_pos h, if_pos (by omega)]
   ·rw [if_neg h, if_neg (by omega)]
theorem idRow_set (n : Nat) {i : Nat} (h : i < n) : ((List.replicate n 0).map bC).set i [(.v (.int .u8 (1)))] = (idRow n i).map bC := by
 apply List.ext_getElem
 ·simp [idRow]
 ·intro x h1 h2
  rw [List.getElem_set]
  by_cases e : i = x
  ·subst e; simp [idRow, bC]
  ·rw [if_neg e]; simp [idRow, bC, Ne.symm e]
theorem k91_3 (e : Env) : lpE (FI.K ⟨[], false, [(3, [2, 3, 10, 11]), (1000, [0, 2]), (1001, [2, 3]), (1002, [2, 3, 10, 11]), (1003, [2, 3, 10, 11, 12]), (1004, [2, 3, 4, 10, 11]), (1005, [2, 3, 10, 11]), (1006, [2, 3, 10, 11]), (1007, [2]), (999999, [])]⟩ 3) e = mkE [(2, e 2), (3, e 3), (10, e 10), (11, e 11)] := rfl
theorem c91 {k : Nat} {md : Md} {S : Store} {vs : List A} {D : List Nat} {n : Nat} (hd : dpArgs S [] vs = some ([(.v (.int .i64 ((n : Int))))], D)) (hD0 : D = [] := by first | assumption | omega | with_reducible rfl) (h0 : 0 < n := by first | assumption | omega | with_reducible rfl) (hn : n ≤ 1048576 := by first | assumption | omega | with_reducible rfl) (hk : 2 ≤ k := by omega) :
  Cal (run k) md 91 vs S (fun r S' => ∃ id ids, r = .ag [.sl id 0 n n] ∧ Mst S' id ids (idM n) ∧ (∀ i, i < n → ids i ≠ none) ∧ S.length ≤ id ∧ (∀ i k, i < n → ids i = some k → S.length ≤ k) ∧ Kept S S') := by
 obtain ⟨k, rfl⟩ : ∃ j, k = j + 1 := ⟨k - 1, by omega⟩
 refine Cal.fnN (n := 23) (rs := [.cell 2 92]) (D := D) (Xof_none rfl) g91 (by delta Try.f91; exact rfl) (by delta Try.f91; exact rfl) (by delta Try.f91; exact rfl) hd rfl (by first | exact .inr (by assumption) | exact .inl rfl | exact .inl (by simp [idsV, idsC])) (by simp) ?_
 intro md' ow; have w := ow.w; have w0 := ow.w0; have fz : md'.fz = false := ow.fz
 subst hD0
 (have F := an2 @yD @yE; (repeat' (first | refine' dA56 | ((with_reducible apply EvO.call (vs := ?_)); exact rfl; exact rfl; exact dE7; (with_reducible apply Cal.hd (ms := []) (p := ?_)); exact dE7) | ((with_reducible apply CalH.mk); intro hd; first | exact c115 hd) | fail)); all_goals clear F)
 generalize hTT : S' = T at *
 have hTl := hN.id_lt
 simp only [List.length_append, List.length_cons, List.length_nil] at hid hge
 have b0 := hold.get (get_len0 S _)
 have w1 : md'.wr T.length = true := wr_of w (by omega)
 have w2 : ∀ k, md'.wr (T.length + k) = true := fun k => wr_of w (by omega)
 (have F := an5 @yD @yE @b0 @List.getElem?_append_left.{0} @List.set_append_left.{0}; (repeat' (first | refine' dA57 | ((with_reducible apply EvO.call (vs := ?_)); exact rfl; exact rfl; exact dE20; (with_reducible apply Cal.hd (ms := []) (p := ?_)); exact dE20) | ((with_reducible apply CalH.mk); intro hd; first | exact c115 hd) | fail)); all_goals clear F)
 have hKS : Kept S T := (Kept.app S _).trans hold
 apply Ev.loop (fun j e S' => ∃ i : Nat, ∃ u : Store, e = mkE [(2, .pt S.length 0 0 1), (3, .pt T.length 0 0 1), (10, (.v (.int .i64 ((n : Int))))), (11, (.v (.int .i64 ((i : Int)))))] ∧ S' = u ∧ j = n - i ∧ (i ≤ n) ∧ (Mst u id ids (idI n i)) ∧ (u[S.length]? = some ⟨1, [[.v (.slice none 0 0)]], 0, true⟩) ∧ (u[T.length]? = some ⟨1, [[.sl id 0 n n]], 0, true⟩) ∧ (u.length = T.length + 1) ∧ (Kept S u))
 ·exact ⟨0, _, (k91_3 _).trans dN14, (by first | rfl | (simp only [app_app, List.cons_append, List.nil_append]; done)), rfl, (by omega), (by (rw [idI_0]; exact hN.app _)), (by (exact (List.getElem?_append_left (by omega)).trans b0)), (by (exact get_len0 _ _)), (by simp), (by (exact hKS.trans (Kept.app _ _)))⟩
 rintro j e S' ⟨i, u, rfl, rfl, hj, hi, hNu, f0, f3, hlu, hK⟩
 have hob := hNu.ob
 unfold mobK at hob
 have hrl := mrows_len ids (idI n i)
 rw [idI_len] at hrl
 have hwi : md'.wr id = true := wr_of w (by omega)
 by_cases hli : (i : Int) < (n : Int)
 ·have hlt : i < n := by omega
  obtain ⟨k', hk'⟩ : ∃ k', ids i = some k' := by
   cases e : ids i with
   | none => exact absurd e (hall i hlt)
   | some k' => exact ⟨k', rfl⟩
  have hat := idI_at n hlt
  have hg := mrows_at ids (idI n i) (i := i) (by rw [idI_len]; exact hlt)
  rw [hat, hk'] at hg
  simp only [mrow, List.length_replicate] at hg
  have hin := hNu.inn i (by rw [idI_len]; exact hlt) k' hk'
  rw [hat] at hin
  unfold mobC at hin
  have hkl := hNu.in_lt (by rw [idI_len]; exact hlt) hk'
  have hki : k' ≠ id := fun e => hNu.ne i (by rw [idI_len]; exact hlt) (e ▸ hk')
  have hkm := hge i k' hlt hk'
  have hkT := hN.in_lt (i := i) (by rw [zM_len]; exact hlt) hk'
  have hwk : md'.wr k' = true := wr_of w (by omega)
  have hset := idRow_set n hlt
  have hrr : ((List.replicate n 0).map bC).length = n := by simp
  (have F := an11 @yD @yE @hli @hob @hrl @hg @hin @hset @hrr @f3 @hlt; (repeat' (first | refine' dA58 | ((with_reducible apply EvO.call (vs := ?_)); exact rfl; exact rfl; exact dE21; (with_reducible apply Cal.hd (ms := []) (p := ?_)); exact dE21) | ((with_reducible apply CalH.mk); intro hd; first | exact c115 hd) | fail)); all_goals clear F)
  apply roundQ_m; refine ⟨_, ⟨i + 1, (S'.set k' ⟨1, (idRow n i).map bC, 0, false⟩), (k91_3 _).trans dN14, ?_, rfl, ?_, ?_, ?_, ?_, ?_, ?_⟩, ?_⟩
  ·exact dS7
  ·omega
  ·(rw [← idI_s n hlt]; exact hNu.upd (by rw [idI_len]; exact hlt) hk' (by rw [hat]; simp [idRow]) (by rw [List.getElem?_set_self hkl]; rfl) (fun j o hj ho => by rw [List.getElem?_set_ne (Ne.symm hj)]; exact ho))
  ·(rw [List.getElem?_set_ne (by omega)]; exact f0)
  ·(rw [List.getElem?_set_ne (by omega)]; exact f3)
  ·(simp [hlu])
  ·(exact ⟨by simp; have := hK.1; omega, fun j hj => by rw [List.getElem?_set_ne (by omega)]; exact hK.2 j hj⟩)
  ·omega
 ·obtain rfl : i = n := by omega
  rw [idI_n] at hNu
  (have F := an5 @yD @yE @hli @f0 @f3; (repeat' (first | refine' dA56 | ((with_reducible apply EvO.call (vs := ?_)); exact rfl; exact rfl; exact dE7; (with_reducible apply Cal.hd (ms := []) (p := ?_)); exact dE7) | ((with_reducible apply CalH.mk); intro hd; first | exact c115 hd) | fail)); all_goals clear F)
  refine ⟨.inl rfl, fun S₂ hk => ?_⟩
  rw [hk.nil]
  have hq : ∀ j, j ≠ S.length → ∀ o, (S'.set S.length o)[j]? = S'[j]? := fun j h o => by rw [List.getElem?_set_ne (Ne.symm h)]
  exact ⟨id, ids, rfl, hNu.mono (hq _ (by omega) _) (fun j k hj hk => hq _ (by have := hge j k (by simpa [idM_len] using hj) hk; omega) _), hall, by omega, fun j k hj hk => by have := hge j k hj hk; omega, ⟨by simp; have := hK.1; omega, fun j hj => (hq j (by omega) _).trans (hK.2 j hj)⟩⟩
def cauRow (cn i : Nat) : List Nat := (List.range cn).map fun y => invN ((cn + i) ^^^ y)
def cauM (rn cn : Nat) : List (List Nat) := (List.range rn).map (cauRow cn)
def crow (cn i x : Nat) : List Nat := (List.range cn).map fun y => if y < x then invN ((cn + i) ^^^ y) else 0
def cauI (rn cn i x : Nat) : List (List Nat) := (List.range rn).map fun y => if y < i then cauRow cn y else if y = i then crow cn i x else List.replicate cn 0
theorem crow_len (cn i x : Nat) : (crow cn i x).length = cn := by simp [crow]
theorem crow_0 (cn i : Nat) : crow cn i 0 = List.replicate cn 0 := by
 apply List.ext_getElem
 ·simp [crow]
 ·intro y h1 h2; simp [crow]
theorem crow_n (cn i : Nat) : crow cn i cn = cauRow cn i := by
 unfold crow cauRow
 apply List.map_congr_left
 intro y hy
 rw [if_pos (List.mem_range.1 hy)]
theorem cauI_len (rn cn i x : Nat) : (cauI rn cn i x).length = rn := by simp [cauI]
theorem cauM_len (rn cn : Nat) : (cauM rn cn).length = rn := by simp [cauM]
theorem cauI_0 (rn cn : Nat) : cauI rn cn 0 0 = zM rn cn := by
 apply List.ext_getElem
 ·simp [cauI, zM]
 ·intro y h1 h2; simp [cauI, zM, crow_0]
theorem cauI_at (rn cn x : Nat) {i : Nat} (h : i < rn) : (cauI rn cn i x)[i]'(by rw [cauI_len]; exact h) = crow cn i x := by simp [cauI]
theorem cauI_s (rn cn x : Nat) {i : Nat} (h : i < rn) : (cauI rn cn i x).set i (crow cn i (x + 1)) = cauI rn cn i (x + 1) := by
 apply List.ext_getElem
 ·simp [cauI]
 ·intro y h1 h2
  rw [List.getElem_set]
  by_cases e : i = y
  ·subst e; simp [cauI]
  ·rw [if_neg e]; simp [cauI, Ne.symm e]
theorem cauI_n (rn cn i : Nat) : cauI rn cn i cn = cauI rn cn (i + 1) 0 := by
 unfold cauI
 apply List.map_congr_left
 intro y hy
 rcases Nat.lt_trichotomy y i with h | h | h
 ·rw [if_pos h, if_pos (by omega)]
 ·rw [if_neg (by omega), if_pos h, if_pos (by omega), crow_n, h]
 ·rw [if_neg (by omega), if_neg (by omega), if_neg (by omega)]
  split
  ·rw [crow_0]
  ·rfl
theorem cauI_e (rn cn : Nat) : cauI rn cn rn 0 = cauM rn cn := by
 unfold cauI cauM
 apply List.map_congr_left
 intro y hy
 rw [if_pos (List.mem_range.1 hy)]
theorem crow_set (cn i : Nat) {x : Nat} (h : x < cn) : ((crow cn i x).map bC).set x [(.v (.int .u8 ((invN ((cn + i) ^^^ x) : Int))))] = (crow cn i (x + 1)).map bC := by
 apply List.ext_getElem
 ·simp [crow]
 ·intro y h1 h2
  rw [List.getElem_set]
  by_cases e : x = y
  ·subst e; simp [crow, bC]
  ·rw [if_neg e]
   simp only [crow, bC, List.getElem_map, List.getElem_range]
   by_cases h : y < x
   ·rw [if_pos h, if_pos (by omega)]
   ·rw [if_neg h, if_neg (by omega)]
theorem k92_3 (e : Env) : lpE (FI.K ⟨[], false, [(3, [1, 4, 5, 13, 14]), (6, [1, 4, 5, 6, 13, 14, 22, 23]), (1000, [0, 1, 4]), (1001, [1, 4, 5]), (1002, [1, 4, 5, 13, 14]), (1003, [1, 4, 5, 13, 14, 15]), (1004, [1, 4, 5, 6, 13, 14]), (1005, [1, 4, 5, 6, 13, 14, 22, 23]), (1006, [1, 4, 5, 6, 13, 14, 22, 23, 24]), (1007, [1, 4, 5, 6, 7, 13, 14, 22, 23]), (1008, [1, 4, 5, 6, 13, 14, 22, 23]), (1009, [1, 4, 5, 6, 13, 14, 22, 23]), (1010, [1, 4, 5, 13, 14]), (1011, [4]), (999999, [])]⟩ 3) e = mkE [(1, e 1), (4, e 4), (5, e 5), (13, e 13), (14, e 14)] := rfl
theorem k92_6 (e : Env) : lpE (FI.K ⟨[], false, [(3, [1, 4, 5, 13, 14]), (6, [1, 4, 5, 6, 13, 14, 22, 23]), (1000, [0, 1, 4]), (1001, [1, 4, 5]), (1002, [1, 4, 5, 13, 14]), (1003, [1, 4, 5, 13, 14, 15]), (1004, [1, 4, 5, 6, 13, 14]), (1005, [1, 4, 5, 6, 13, 14, 22, 23]), (1006, [1, 4, 5, 6, 13, 14, 22, 23, 24]), (1007, [1, 4, 5, 6, 7, 13, 14, 22, 23]), (1008, [1, 4, 5, 6, 13, 14, 22, 23]), (1009, [1, 4, 5, 6, 13, 14, 22, 23]), (1010, [1, 4, 5, 13, 14]), (1011, [4]), (999999, [])]⟩ 6) e = mkE [(1, e 1), (4, e 4), (5, e 5), (6, e 6), (13, e 13), (14, e 14), (22, e 22), (23, e 23)] := rfl
theorem c92 {k : Nat} {md : Md} {S : Store} {vs : List A} {D : List Nat} {rn cn : Nat} (hd : dpArgs S [] vs = some ([(.v (.int .i64 ((rn : Int)))), (.v (.int .i64 ((cn : Int))))], D)) (hD0 : D = [] := by first | assumption | omega | with_reducible rfl) (h0 : 0 < rn := by first | assumption | omega | with_reducible rfl) (hrc : cn + rn ≤ 256 := by first | assumption | omega | with_reducible rfl) (hk : 4 ≤ k := by omega) :
  Cal (run k) md 92 vs S (fun r S' => ∃ id ids, r = .ag [.sl id 0 rn rn] ∧ Mst S' id ids (cauM rn cn) ∧ (∀ i, i < rn → ids i ≠ none) ∧ S.length ≤ id ∧ (∀ i k, i < rn → ids i = some k → S.length ≤ k) ∧ Kept S S') := by
 obtain ⟨k, rfl⟩ : ∃ j, k = j + 1 := ⟨k - 1, by omega⟩
 refine Cal.fnN (n := 43) (rs := [.cell 4 92]) (D := D) (Xof_none rfl) g92 (by delta Try.f92; exact rfl) (by delta Try.f92; exact rfl) (by delta Try.f92; exact rfl) hd rfl (by first | exact .inr (by assumption) | exact .inl rfl | exact .inl (by simp [idsV, idsC])) (by simp) ?_
 intro md' ow; have w := ow.w; have w0 := ow.w0; have fz : md'.fz = false := ow.fz
 subst hD0
 (have F := an2 @yD @yE; (repeat' (first | refine' dA59 | ((with_reducible first | apply EvO.call (vs := ?_) | apply EvT.call (vs := ?_)); exact rfl; exact rfl; exact dE7; (with_reducible apply Cal.hd (ms := []) (p := ?_)); exact dE7) | ((with_reducible apply CalH.mk); intro hd; first | exact c115 hd | exact c105 hd) | fail)); all_goals clear F)
 generalize hTT : S' = T at *
 have hTl := hN.id_lt
 simp only [List.length_append, List.length_cons, List.length_nil] at hid hge
 have b0 := hold.get (get_len0 S _)
 have w1 : md'.wr T.length = true := wr_of w (by omega)
 have w2 : ∀ k, md'.wr (T.length + k) = true := fun k => wr_of w (by omega)
 (have F := an5 @yD @yE @b0 @List.getElem?_append_left.{0} @List.set_append_left.{0}; (repeat' (first | refine' dA60 | ((with_reducible first | apply EvO.call (vs := ?_) | apply EvT.call (vs := ?_)); exact rfl; exact rfl; exact dE20; (with_reducible apply Cal.hd (ms := []) (p := ?_)); exact dE20) | ((with_reducible apply CalH.mk); intro hd; first | exact c115 hd | exact c105 hd) | fail)); all_goals clear F)
 have hKS : Kept S T := (Kept.app S _).trans hold
 apply Ev.loop (fun j e S' => ∃ i : Nat, ∃ u : Store, e = mkE [(1, (.v (.int .i64 ((cn : Int))))), (4, .pt S.length 0 0 1), (5, .pt T.length 0 0 1), (13, (.v (.int .i64 ((rn : Int))))), (14, (.v (.int .i64 ((i : Int)))))] ∧ S' = u ∧ j = rn - i ∧ (i ≤ rn) ∧ (Mst u id ids (cauI rn cn i 0)) ∧ (u[S.length]? = some ⟨1, [[.v (.slice none 0 0)]], 0, true⟩) ∧ (u[T.length]? = some ⟨1, [[.sl id 0 rn rn]], 0, true⟩) ∧ (u.length = T.length + 1) ∧ (Kept S u))
 ·exact ⟨0, _, (k92_3 _).trans dN14, (by first | rfl | (simp only [app_app, List.cons_append, List.nil_append]; done)), rfl, (by omega), (by (rw [cauI_0]; exact hN.app _)), (by (exact (List.getElem?_append_left (by omega)).trans b0)), (by (exact get_len0 _ _)), (by simp), (by (exact hKS.trans (Kept.app _ _)))⟩
 rintro j e S' ⟨i, u, rfl, rfl, hj, hi, hNu, f0, f3, hlu, hK⟩
 have hob := hNu.ob
 unfold mobK at hob
 have hrl := mrows_len ids (cauI rn cn i 0)
 rw [cauI_len] at hrl
 have hwi : md'.wr id = true := wr_of w (by omega)
 by_cases hli : (i : Int) < (rn : Int)
 ·have hlt : i < rn := by omega
  obtain ⟨k', hk'⟩ : ∃ k', ids i = some k' := by
   cases e : ids i with
   | none => exact absurd e (hall i hlt)
   | some k' => exact ⟨k', rfl⟩
  have hkm := hge i k' hlt hk'
  have hkT := hN.in_lt (i := i) (by rw [zM_len]; exact hlt) hk'
  have hwk : md'.wr k' = true := wr_of w (by omega)
  have hgA : ∀ x, (mrows ids (cauI rn cn i x))[i]? = some [.sl k' 0 cn cn] := fun x => by
   have hg := mrows_at ids (cauI rn cn i x) (i := i) (by rw [cauI_len]; exact hlt)
   rw [cauI_at rn cn x hlt, hk'] at hg
   simpa only [mrow, crow_len] using hg
  have hg0 := hgA 0
  (have F := an7 @yD @yE @hli @hob @hrl @hg0 @f3; (repeat' (first | refine' dA59 | ((with_reducible first | apply EvO.call (vs := ?_) | apply EvT.call (vs := ?_)); exact rfl; exact rfl; exact dE7; (with_reducible apply Cal.hd (ms := []) (p := ?_)); exact dE7) | ((with_reducible apply CalH.mk); intro hd; first | exact c115 hd | exact c105 hd) | fail)); all_goals clear F)
  generalize hVV : S' = V at *
  apply Ev.loop (fun j e S' => ∃ jj : Nat, ∃ v : Store, e = mkE [(1, (.v (.int .i64 ((cn : Int))))), (4, .pt S.length 0 0 1), (5, .pt T.length 0 0 1), (6, (.v (.int .i64 ((i : Int))))), (13, (.v (.int .i64 ((rn : Int))))), (14, (.v (.int .i64 ((i : Int))))), (22, (.v (.int .i64 ((cn : Int))))), (23, (.v (.int .i64 ((jj : Int)))))] ∧ S' = v ∧ j = cn - jj ∧ (jj ≤ cn) ∧ (Mst v id ids (cauI rn cn i jj)) ∧ (v[S.length]? = some ⟨1, [[.v (.slice none 0 0)]], 0, true⟩) ∧ (v[T.length]? = some ⟨1, [[.sl id 0 rn rn]], 0, true⟩) ∧ (v.length = T.length + 1) ∧ (Kept S v))
  ·exact ⟨0, _, (k92_6 _).trans dN14, (by first | rfl | (simp only [app_app, List.cons_append, List.nil_append]; done)), rfl, (by omega), (by (exact hNu)), (by (exact f0)), (by (exact f3)), (by (exact hlu)), (by (exact hK))⟩
  rintro j e S' ⟨jj, v, rfl, rfl, hj, hjj, hNv, g0, g3, hlv, hKv⟩
  have hobv := hNv.ob
  unfold mobK at hobv
  have hrlv := mrows_len ids (cauI rn cn i jj)
  rw [cauI_len] at hrlv
  by_cases hlj : (jj : Int) < (cn : Int)
  ·have hltj : jj < cn := by omega
   have hg := hgA jj
   have hin := hNv.inn i (by rw [cauI_len]; exact hlt) k' hk'
   rw [cauI_at rn cn jj hlt] at hin
   unfold mobC at hin
   have hkl := hNv.in_lt (by rw [cauI_len]; exact hlt) hk'
   have hki : k' ≠ id := fun e => hNv.ne i (by rw [cauI_len]; exact hlt) (e ▸ hk')
   have hset := crow_set cn i hltj
   have hrr : ((crow cn i jj).map bC).length = cn := by simp [crow]
   have hgr := bC_at (l := crow cn i jj) (i := jj) (by rw [crow_len]; exact hltj)
   have hxl : (cn + i) ^^^ jj < 256 := xor_lt8 (by omega) (by omega)
   have e1 := xor64 (cn + i) jj (by omega) (by omega)
   rw [Int.natCast_add] at e1
   (have F := an13 @yD @yE @hlj @hobv @hrlv @hg @hin @hrr @hgr @g3 @hltj @e1 @hset; (repeat' (first | refine' dA61 | ((with_reducible first | apply EvO.call (vs := ?_) | apply EvT.call (vs := ?_)); exact rfl; exact rfl; exact dE21; (with_reducible apply Cal.hd (ms := []) (p := ?_)); exact dE21) | ((with_reducible apply CalH.mk); intro hd; first | exact c105 (k := k) hd (a := (cn + i) ^^^ jj) | exact c115 hd) | fail)); all_goals clear F)
   apply roundQ_m; refine ⟨_, ⟨jj + 1, (S'.set k' ⟨1, (crow cn i (jj + 1)).map bC, 0, false⟩), (k92_6 _).trans dN14, ?_, rfl, ?_, ?_, ?_, ?_, ?_, ?_⟩, ?_⟩
   ·exact dS7
   ·omega
   ·(rw [← cauI_s rn cn jj hlt]; exact hNv.upd (by rw [cauI_len]; exact hlt) hk' (by rw [cauI_at rn cn jj hlt]; simp [crow]) (by rw [List.getElem?_set_self hkl]; rfl) (fun j o hj ho => by rw [List.getElem?_set_ne (Ne.symm hj)]; exact ho))
   ·(rw [List.getElem?_set_ne (by omega)]; exact g0)
   ·(rw [List.getElem?_set_ne (by omega)]; exact g3)
   ·(simp [hlv])
   ·(exact ⟨by simp; have := hKv.1; omega, fun j hj => by rw [List.getElem?_set_ne (by omega)]; exact hKv.2 j hj⟩)
   ·omega
  ·obtain rfl : jj = cn := by omega
   rw [cauI_n] at hNv
   (have F := an3 @yD @yE @hlj; (repeat' (first | refine' dA59 | ((with_reducible first | apply EvO.call (vs := ?_) | apply EvT.call (vs := ?_)); exact rfl; exact rfl; exact dE7; (with_reducible apply Cal.hd (ms := []) (p := ?_)); exact dE7) | ((with_reducible apply CalH.mk); intro hd; first | exact c115 hd | exact c105 hd) | fail)); all_goals clear F)
   apply roundQ_m; refine ⟨_, ⟨i + 1, S', (k92_3 _).trans dN14, ?_, rfl, ?_, ?_, ?_, ?_, ?_, ?_⟩, ?_⟩
   ·(exact lpG_len (by omega))
   ·omega
   ·(exact hNv)
   ·(exact g0)
   ·(exact g3)
   ·(exact hlv)
   ·(exact hKv)
   ·omega
 ·obtain rfl : i = rn := by omega
  rw [cauI_e] at hNu
  (have F := an5 @yD @yE @hli @f0 @f3; (repeat' (first | refine' dA59 | ((with_reducible first | apply EvO.call (vs := ?_) | apply EvT.call (vs := ?_)); exact rfl; exact rfl; exact dE7; (with_reducible apply Cal.hd (ms := []) (p := ?_)); exact dE7) | ((with_reducible apply CalH.mk); intro hd; first | exact c115 hd | exact c105 hd) | fail)); all_goals clear F)
  refine ⟨.inl rfl, fun S₂ hk => ?_⟩
  rw [hk.nil]
  have hq : ∀ j, j ≠ S.length → ∀ o, (S'.set S.length o)[j]? = S'[j]? := fun j h o => by rw [List.getElem?_set_ne (Ne.symm h)]
  exact ⟨id, ids, rfl, hNu.mono (hq _ (by omega) _) (fun j k hj hk => hq _ (by have := hge j k (by simpa [cauM_len] using hj) hk; omega) _), hall, by omega, fun j k hj hk => by have := hge j k hj hk; omega, ⟨by simp; have := hK.1; omega, fun j hj => (hq j (by omega) _).trans (hK.2 j hj)⟩⟩
end Go.Proofs.YtomklniddinhnaaB

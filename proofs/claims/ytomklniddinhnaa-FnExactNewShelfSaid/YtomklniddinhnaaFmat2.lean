/- Part of the evaluator's contracts: mat2. -/
import Derived.Test.YtomklniddinhnaaFmat1
import Derived.Test.YtomklniddinhnaaFgf2
namespace Go.Proofs.YtomklniddinhnaaB
open Go Go.Proofs.YtomklniddinhnaaE
set_option linter.unusedVariables false
set_option linter.unusedSectionVars false
set_option linter.unusedSimpArgs false
set_option maxHeartbeats 4000000
set_option maxRecDepth 20000
def idT (n i : Nat) : List (List Nat) := (List.range i).map (idRow n)
theorem idT_len (n i : Nat) : (idT n i).length = i := by simp [idT]
theorem idT_s (n i : Nat) : idT n (i + 1) = idT n i ++ [idRow n i] := by simp [idT, List.range_succ]
theorem idRow_len (n i : Nat) : (idRow n i).length = n := by simp [idRow]
theorem k97_3 (e : Env) : lpE (FI.K ⟨[], false, [(3, [0, 3, 7, 8]), (1000, [0]), (1001, [0, 3]), (1002, [0, 3, 7, 8]), (1003, [0, 3, 7, 8, 9]), (1004, [0, 3, 4, 7, 8]), (1005, [0, 3, 4, 5, 7, 8]), (1006, [0, 3, 5, 7, 8]), (1007, [0, 3, 7, 8]), (1008, [0, 3, 7, 8]), (1009, [2]), (999999, [])]⟩ 3) e = mkE [(0, e 0), (3, e 3), (7, e 7), (8, e 8)] := rfl
theorem c97 {k : Nat} {md : Md} {S : Store} {vs : List A} {D : List Nat} {n : Nat} (hd : dpArgs S [] vs = some ([(.v (.int .i64 ((n : Int))))], D)) (hD0 : D = [] := by first | assumption | omega | with_reducible rfl) (hn : n ≤ 1048576 := by first | assumption | omega | with_reducible rfl) (hk : 1 ≤ k := by omega) :
  Cal (run k) md 97 vs S (fun r S' => ∃ id ids, r = .sl id 0 n n ∧ Mst S' id ids (idM n) ∧ (∀ i, i < n → ids i ≠ none) ∧ S.length ≤ id ∧ (∀ i k, i < n → ids i = some k → S.length ≤ k) ∧ Kept S S') := by
 obtain ⟨k, rfl⟩ : ∃ j, k = j + 1 := ⟨k - 1, by omega⟩
 refine Cal.fnN (n := 22) (rs := [.tmp 2]) (D := D) (Xof_none rfl) g97 (by delta Try.f97; exact rfl) (by delta Try.f97; exact rfl) (by delta Try.f97; exact rfl) hd rfl (by first | exact .inr (by assumption) | exact .inl rfl | exact .inl (by simp [idsV, idsC])) (by simp) ?_
 intro md' ow; have w := ow.w; have w0 := ow.w0; have fz : md'.fz = false := ow.fz
 subst hD0
 (have F := an2 @yD @yE; (repeat' (first | refine' dA62 | fail)); all_goals clear F)
 apply Ev.loop (fun j e S' => ∃ i : Nat, ∃ ids : Nat → Option Nat, ∃ u : Store, e = mkE [(0, (.v (.int .i64 ((n : Int))))), (3, .sl (S.length + 1) 0 i i), (7, (.v (.int .i64 ((n : Int))))), (8, (.v (.int .i64 ((i : Int)))))] ∧ S' = u ∧ j = n - i ∧ (i ≤ n) ∧ (Mst u (S.length + 1) ids (idT n i)) ∧ (∀ j k, ids j = some k → S.length + 2 ≤ k) ∧ (∀ j, j < i → ids j ≠ none) ∧ (Kept S u))
 ·exact ⟨0, (fun _ => none), _, (k97_3 _).trans dN14, (by first | rfl | (simp only [app_app, List.cons_append, List.nil_append]; done)), rfl, (by omega), (by (exact mst_nil (get_len _ _ _))), (by (intro j k hk; cases hk)), (by (intro j hj; omega)), (by (exact Kept.app _ _))⟩
 rintro j e S' ⟨i, ids, u, rfl, rfl, hj, hi, hN, hge, hal, hK⟩
 have hult := hN.id_lt
 have w1 : md'.wr S'.length = true := wr_of w (by omega)
 have w2 : ∀ k, md'.wr (S'.length + k) = true := fun k => wr_of w (by omega)
 have hwi : md'.wr (S.length + 1) = true := w 1
 have hob := hN.ob
 unfold mobK at hob
 have hrl := mrows_len ids (idT n i)
 rw [idT_len] at hrl
 by_cases hli : (i : Int) < (n : Int)
 ·have hlt : i < n := by omega
  have hzr := zRow n
  have hset := idRow_set n hlt
  have hrr : ((List.replicate n 0).map bC).length = n := by simp
  (have F := an13 @yD @yE @hli @hob @hrl @hset @hrr @hlt @List.getElem?_append_left.{0} @List.set_append_left.{0} @List.getElem?_set_self.{0} @List.getElem?_set_ne.{0} @List.set_set.{0}; (repeat' (first | refine' dA63 | fail)); all_goals clear F)
  have hq : ∀ j, j < S'.length → j ≠ S.length + 1 → ∀ o x, (S'.set (S.length + 1) o ++ x)[j]? = S'[j]? := fun j h1 h2 o x => by rw [List.getElem?_append_left (by simpa using h1), List.getElem?_set_ne (Ne.symm h2)]
  have hN1 : Mst (S'.set (S.length + 1) ⟨1, mrows ids (idT n i) ++ [[.sl S'.length 0 n n]], 0, false⟩ ++ [mobC (idRow n i), ⟨1, [[.sl S'.length 0 n n]], 0, false⟩]) (S.length + 1) (fun j => if j = i then some S'.length else ids j) (idT n (i + 1)) := by
   have := hN.push (S' := S'.set (S.length + 1) ⟨1, mrows ids (idT n i) ++ [[.sl S'.length 0 n n]], 0, false⟩ ++ [mobC (idRow n i), ⟨1, [[.sl S'.length 0 n n]], 0, false⟩]) (idRow n i) (k := S'.length) (by omega) (by rw [List.getElem?_append_left (by simpa using hult), List.getElem?_set_self hult, idRow_len]) (by rw [List.getElem?_append_right (by simp)]; simp) (fun j k' hj hk' => hq k' (hN.in_lt hj hk') (by have := hge j k' hk'; omega) _ _)
   rwa [idT_len, ← idT_s] at this
  apply roundQ_m; refine ⟨_, ⟨i + 1, (fun j => if j = i then some S'.length else ids j), (S'.set (S.length + 1) ⟨1, mrows ids (idT n i) ++ [[.sl S'.length 0 n n]], 0, false⟩ ++ [mobC (idRow n i), ⟨1, [[.sl S'.length 0 n n]], 0, false⟩]), (k97_3 _).trans dN14, ?_, rfl, ?_, ?_, ?_, ?_, ?_⟩, ?_⟩
  ·(refine lpG_keep hob (by rw [List.getElem?_append_left (by simpa using hult), List.getElem?_set_self hult]) (mrows_ok fun j k hj hk => hN.in_lt hj hk) (by rw [rowsAll_app]; simp [rowsAll, okC]))
  ·omega
  ·(exact hN1)
  ·(intro j k hk; dsimp only at hk; split at hk; (injection hk with hk; omega); (exact hge j k hk))
  ·(intro j hj; dsimp only; by_cases e : j = i; (rw [if_pos e]; simp); (rw [if_neg e]; exact hal j (by omega)))
  ·(exact ⟨by simp; have := hK.1; omega, fun j hj => (hq j (by omega) (by omega) _ _).trans (hK.2 j hj)⟩)
  ·omega
 ·obtain rfl : i = n := by omega
  (have F := an5 @yD @yE @hli @hob @hrl; (repeat' (first | refine' dA62 | fail)); all_goals clear F)
  refine ⟨.inl rfl, fun S₂ hk => ?_⟩
  rw [hk.nil]
  exact ⟨_, ids, rfl, hN, hal, by omega, fun j k hj hk => by have := hge j k hk; omega, hK⟩
theorem c122 {k : Nat} {md : Md} {S : Store} {vs : List A} {D : List Nat} {i jj cn nb : Nat} (hd : dpArgs S [] vs = some ([(.v (.int .i64 ((i : Int)))), (.v (.int .i64 ((jj : Int)))), .pt nb 0 0 1], D)) (hD : (D.all fun i => !([nb] : List Nat).contains i) = true := by first | rfl | simp) (hi : cn + i < 256 := by first | assumption | omega | with_reducible rfl) (hj : jj < 256 := by first | assumption | omega | with_reducible rfl) (hnb : S[nb]? = some ⟨1, [[(.v (.int .i64 ((cn : Int))))]], 0, true⟩) (hk : 4 ≤ k := by omega) :
  Cal (run k) md 122 vs S (fun r S' => r = (.v (.int .u8 ((invN ((cn + i) ^^^ jj) : Int)))) ∧ S' = S) := by
 obtain ⟨k, rfl⟩ : ∃ j, k = j + 1 := ⟨k - 1, by omega⟩
 refine Cal.fn (n := 13) (rs := [.tmp 5]) (ids := [nb]) (D := D) (Xof_none rfl) g122 (by delta Try.f122; exact rfl) (by delta Try.f122; exact rfl) (by delta Try.f122; exact rfl) hd rfl (by first | rfl | simp [idsV, idsC]) hD (by simp) ?_
 intro md' ow; have w := ow.w; have w0 := ow.w0; have fz : md'.fz = false := ow.fz
 have hlt0 := (List.getElem?_eq_some_iff.1 hnb).1
 have hxl : (cn + i) ^^^ jj < 256 := xor_lt8 (by omega) (by omega)
 have e1 := xor64 (cn + i) jj (by omega) (by omega)
 rw [Int.natCast_add] at e1
 (have F := an6 @yD @yE @hnb @hlt0 @e1 @List.getElem?_append_left.{0}; (repeat' (first | refine' dA64 | ((with_reducible apply EvO.call (vs := ?_)); exact rfl; exact rfl; exact dE22; (with_reducible apply Cal.hd (ms := []) (p := ?_)); exact dE22) | ((with_reducible apply CalH.mk); intro hd; first | exact c113 (k := k) hd (a := (cn + i) ^^^ jj)) | fail)); all_goals clear F)
 exact ⟨rfl, rfl⟩
def cauT (cn i : Nat) : List (List Nat) := (List.range i).map (cauRow cn)
theorem cauT_len (cn i : Nat) : (cauT cn i).length = i := by simp [cauT]
theorem cauT_s (cn i : Nat) : cauT cn (i + 1) = cauT cn i ++ [cauRow cn i] := by simp [cauT, List.range_succ]
theorem cauRow_len (cn i : Nat) : (cauRow cn i).length = cn := by simp [cauRow]
def crowT (cn i x : Nat) : List Nat := (List.range x).map fun y => invN ((cn + i) ^^^ y)
theorem crowT_len (cn i x : Nat) : (crowT cn i x).length = x := by simp [crowT]
theorem crowT_s (cn i x : Nat) : (crowT cn i (x + 1)).map bC = (crowT cn i x).map bC ++ [[(.v (.int .u8 ((invN ((cn + i) ^^^ x) : Int))))]] := by simp [crowT, List.range_succ, bC]
theorem k121_3 (e : Env) : lpE (FI.K ⟨[], false, [(3, [1, 2, 7, 12, 13]), (7, [1, 2, 7, 8, 9, 12, 13, 17, 18]), (1000, [0, 1, 2]), (1001, [0, 1, 2, 7]), (1002, [1, 2, 7, 12, 13]), (1003, [1, 2, 7, 12, 13, 14]), (1004, [1, 2, 7, 8, 12, 13]), (1005, [1, 2, 7, 8, 9, 12, 13]), (1006, [1, 2, 7, 8, 9, 12, 13, 17, 18]), (1007, [1, 2, 7, 8, 9, 12, 13, 17, 18, 19]), (1008, [1, 2, 7, 8, 9, 10, 12, 13, 17, 18]), (1009, [1, 2, 7, 8, 9, 12, 13, 17, 18]), (1010, [1, 2, 7, 8, 9, 12, 13, 17, 18]), (1011, [1, 2, 7, 12, 13]), (1012, [1, 2, 7, 12, 13]), (1013, [6]), (999999, [])]⟩ 3) e = mkE [(1, e 1), (2, e 2), (7, e 7), (12, e 12), (13, e 13)] := rfl
theorem k121_7 (e : Env) : lpE (FI.K ⟨[], false, [(3, [1, 2, 7, 12, 13]), (7, [1, 2, 7, 8, 9, 12, 13, 17, 18]), (1000, [0, 1, 2]), (1001, [0, 1, 2, 7]), (1002, [1, 2, 7, 12, 13]), (1003, [1, 2, 7, 12, 13, 14]), (1004, [1, 2, 7, 8, 12, 13]), (1005, [1, 2, 7, 8, 9, 12, 13]), (1006, [1, 2, 7, 8, 9, 12, 13, 17, 18]), (1007, [1, 2, 7, 8, 9, 12, 13, 17, 18, 19]), (1008, [1, 2, 7, 8, 9, 10, 12, 13, 17, 18]), (1009, [1, 2, 7, 8, 9, 12, 13, 17, 18]), (1010, [1, 2, 7, 8, 9, 12, 13, 17, 18]), (1011, [1, 2, 7, 12, 13]), (1012, [1, 2, 7, 12, 13]), (1013, [6]), (999999, [])]⟩ 7) e = mkE [(1, e 1), (2, e 2), (7, e 7), (8, e 8), (9, e 9), (12, e 12), (13, e 13), (17, e 17), (18, e 18)] := rfl
theorem c121 {k : Nat} {md : Md} {S : Store} {vs : List A} {D : List Nat} {rn cn nb : Nat} (hd : dpArgs S [] vs = some ([(.v (.int .i64 ((rn : Int)))), (.v (.int .i64 ((cn : Int)))), .fn 122 [.pt nb 0 0 1]], D)) (hD0 : D = [] := by first | assumption | omega | with_reducible rfl) (h0 : 0 < rn := by first | assumption | omega | with_reducible rfl) (hrc : cn + rn ≤ 256 := by first | assumption | omega | with_reducible rfl) (hnb : S[nb]? = some ⟨1, [[(.v (.int .i64 ((cn : Int))))]], 0, true⟩) (hk : 12 ≤ k := by omega) :
  Cal (run k) md 121 vs S (fun r S' => ∃ id ids, r = .sl id 0 rn rn ∧ Mst S' id ids (cauM rn cn) ∧ (∀ i, i < rn → ids i ≠ none) ∧ S.length ≤ id ∧ (∀ i k, i < rn → ids i = some k → S.length ≤ k) ∧ Kept S S') := by
 obtain ⟨k, rfl⟩ : ∃ j, k = j + 1 := ⟨k - 1, by omega⟩
 refine Cal.fnN (n := 35) (rs := [.tmp 6]) (D := D) (Xof_none rfl) g121 (by delta Try.f121; exact rfl) (by delta Try.f121; exact rfl) (by delta Try.f121; exact rfl) hd rfl (by first | exact .inr (by assumption) | exact .inl rfl | exact .inl (by simp [idsV, idsC])) (by simp) ?_
 intro md' ow; have w := ow.w; have w0 := ow.w0; have fz : md'.fz = false := ow.fz
 subst hD0
 have hnl := (List.getElem?_eq_some_iff.1 hnb).1
 (have F := an4 @yD @yE @hnb @hnl; (repeat' (first | refine' dA62 | fail)); all_goals clear F)
 apply Ev.loop (fun j e S' => ∃ i : Nat, ∃ ids : Nat → Option Nat, ∃ u : Store, e = mkE [(1, (.v (.int .i64 ((cn : Int))))), (2, .fn 122 [.pt nb 0 0 1]), (7, .sl (S.length + 1) 0 i i), (12, (.v (.int .i64 ((rn : Int))))), (13, (.v (.int .i64 ((i : Int)))))] ∧ S' = u ∧ j = rn - i ∧ (i ≤ rn) ∧ (Mst u (S.length + 1) ids (cauT cn i)) ∧ (∀ j k, ids j = some k → S.length + 2 ≤ k) ∧ (∀ j, j < i → ids j ≠ none) ∧ (Kept S u))
 ·exact ⟨0, (fun _ => none), _, (k121_3 _).trans dN14, (by first | rfl | (simp only [app_app, List.cons_append, List.nil_append]; done)), rfl, (by omega), (by (exact mst_nil (get_len _ _ _))), (by (intro j k hk; cases hk)), (by (intro j hj; omega)), (by (exact Kept.app _ _))⟩
 rintro j e S' ⟨i, ids, u, rfl, rfl, hj, hi, hN, hge, hal, hK⟩
 have hult := hN.id_lt
 have w1 : md'.wr S'.length = true := wr_of w (by omega)
 have w2 : ∀ k, md'.wr (S'.length + k) = true := fun k => wr_of w (by omega)
 have hwi : md'.wr (S.length + 1) = true := w 1
 have hob := hN.ob
 unfold mobK at hob
 have hrl := mrows_len ids (cauT cn i)
 rw [cauT_len] at hrl
 by_cases hli : (i : Int) < (rn : Int)
 ·have hlt : i < rn := by omega
  have hnbu := hK.get hnb
  (have F := an3 @yD @yE @hli; (repeat' (first | refine' dA65 | fail)); all_goals clear F)
  generalize hVV : S' = V at *
  have hnbv : ∀ X, (V ++ X)[nb]? = some ⟨1, [[(.v (.int .i64 ((cn : Int))))]], 0, true⟩ := fun X => app_get hnbu X
  have hnV : nb < V.length := (List.getElem?_eq_some_iff.1 hnbu).1
  have hVl : S.length + 1 < V.length := hult
  have hnc : nb ≠ S.length + 1 := by omega
  apply Ev.loop (fun j e S' => ∃ jj : Nat, e = mkE [(1, (.v (.int .i64 ((cn : Int))))), (2, .fn 122 [.pt nb 0 0 1]), (7, .sl (S.length + 1) 0 i i), (8, (.v (.int .i64 ((i : Int))))), (9, .sl V.length 0 jj jj), (12, (.v (.int .i64 ((rn : Int))))), (13, (.v (.int .i64 ((i : Int))))), (17, (.v (.int .i64 ((cn : Int))))), (18, (.v (.int .i64 ((jj : Int)))))] ∧ S' = V ++ [⟨1, (crowT cn i jj).map bC, 0, false⟩] ∧ j = cn - jj ∧ (jj ≤ cn))
  ·exact ⟨0, (k121_7 _).trans dN14, (by first | rfl | (simp only [app_app, List.cons_append, List.nil_append]; done)), rfl, (by omega)⟩
  rintro j e S' ⟨jj, rfl, rfl, hj, hjj⟩
  have hcl := crowT_len cn i jj
  by_cases hlj : (jj : Int) < (cn : Int)
  ·have hltj : jj < cn := by omega
   have hcs := crowT_s cn i jj
   (have F := an6 @yD @yE @hlj @hnbv @hcl (Eq.symm hcs); (repeat' (first | refine' dA66 | ((with_reducible apply EvO.call (vs := ?_)); exact rfl; exact rfl; exact dE20; (with_reducible apply Cal.hd (ms := []) (p := ?_)); exact dE20) | ((with_reducible apply CalH.mk); intro hd; first | exact c122 (k := k) hd (hnb := dH1) (i := i) (jj := jj) (cn := cn) (nb := nb)) | fail)); all_goals clear F)
   apply roundQ_m; refine ⟨_, ⟨jj + 1, (k121_7 _).trans dN14, ?_, rfl, ?_⟩, ?_⟩
   ·(refine (congrArg (fun K => lpG K _ _ _) (show _ = some _ from rfl)).trans (lpG_mod rfl rfl ?_ ?_) <;> (simp [lowV, okC, mkE_at, rowsAll_cons, rowsAll_nil, ok_b]; try omega))
   ·omega
   ·omega
  ·obtain rfl : jj = cn := by omega
   have hce : crowT jj i jj = cauRow jj i := rfl
   rw [hce]
   rw [hce] at hcl
   have hq : ∀ j, j < V.length → j ≠ S.length + 1 → ∀ o x, (V.set (S.length + 1) o ++ x)[j]? = V[j]? := fun j h1 h2 o x => by rw [List.getElem?_append_left (by simpa using h1), List.getElem?_set_ne (Ne.symm h2)]
   have hN1 : Mst (V.set (S.length + 1) ⟨1, mrows ids (cauT jj i) ++ [[.sl V.length 0 jj jj]], 0, false⟩ ++ [mobC (cauRow jj i), ⟨1, [[.sl V.length 0 jj jj]], 0, false⟩]) (S.length + 1) (fun j => if j = i then some V.length else ids j) (cauT jj (i + 1)) := by
    have := hN.push (S' := V.set (S.length + 1) ⟨1, mrows ids (cauT jj i) ++ [[.sl V.length 0 jj jj]], 0, false⟩ ++ [mobC (cauRow jj i), ⟨1, [[.sl V.length 0 jj jj]], 0, false⟩]) (cauRow jj i) (k := V.length) (by omega) (by rw [List.getElem?_append_left (by simpa using hult), List.getElem?_set_self hult, cauRow_len]) (by rw [List.getElem?_append_right (by simp)]; simp) (fun j k' hj hk' => hq k' (hN.in_lt hj hk') (by have := hge j k' hk'; omega) _ _)
    rwa [cauT_len, ← cauT_s] at this
   (have F := an11 @yD @yE @hlj @hob @hrl @hcl @List.getElem?_append_left.{0} @List.set_append_left.{0} @List.getElem?_set_self.{0} @List.getElem?_set_ne.{0} @List.set_set.{0}; (repeat' (first | refine' dA67 | fail)); all_goals clear F)
   apply roundQ_m; refine ⟨_, ⟨i + 1, (fun j => if j = i then some V.length else ids j), (V.set (S.length + 1) ⟨1, mrows ids (cauT jj i) ++ [[.sl V.length 0 jj jj]], 0, false⟩ ++ [mobC (cauRow jj i), ⟨1, [[.sl V.length 0 jj jj]], 0, false⟩]), (k121_3 _).trans dN14, ?_, rfl, ?_, ?_, ?_, ?_, ?_⟩, ?_⟩
   ·(refine lpG_keep hob (by rw [List.getElem?_append_left (by simpa using hult), List.getElem?_set_self hult]) (mrows_ok fun j k hj hk => hN.in_lt hj hk) (by rw [rowsAll_app]; simp [rowsAll, okC]))
   ·omega
   ·(exact hN1)
   ·(intro j k hk; dsimp only at hk; split at hk; (injection hk with hk; omega); (exact hge j k hk))
   ·(intro j hj; dsimp only; by_cases e : j = i; (rw [if_pos e]; simp); (rw [if_neg e]; exact hal j (by omega)))
   ·(exact ⟨by simp; have := hK.1; omega, fun j hj => (hq j (by omega) (by omega) _ _).trans (hK.2 j hj)⟩)
   ·omega
 ·obtain rfl : i = rn := by omega
  (have F := an5 @yD @yE @hli @hob @hrl; (repeat' (first | refine' dA62 | fail)); all_goals clear F)
  refine ⟨.inl rfl, fun S₂ hk => ?_⟩
  rw [hk.nil]
  exact ⟨_, ids, rfl, hN, hal, by omega, fun j k hj hk => by have := hge j k hk; omega, hK⟩
theorem c98 {k : Nat} {md : Md} {S : Store} {vs : List A} {D : List Nat} {rn cn : Nat} (hd : dpArgs S [] vs = some ([(.v (.int .i64 ((rn : Int)))), (.v (.int .i64 ((cn : Int))))], D)) (hD0 : D = [] := by first | assumption | omega | with_reducible rfl) (h0 : 0 < rn := by first | assumption | omega | with_reducible rfl) (hrc : cn + rn ≤ 256 := by first | assumption | omega | with_reducible rfl) (hk : 14 ≤ k := by omega) :
  Cal (run k) md 98 vs S (fun r S' => ∃ id ids, r = .sl id 0 rn rn ∧ Mst S' id ids (cauM rn cn) ∧ (∀ i, i < rn → ids i ≠ none) ∧ S.length ≤ id ∧ (∀ i k, i < rn → ids i = some k → S.length ≤ k) ∧ Kept S S') := by
 obtain ⟨k, rfl⟩ : ∃ j, k = j + 1 := ⟨k - 1, by omega⟩
 refine Cal.fnN (n := 9) (rs := [.tmp 4]) (D := D) (Xof_none rfl) g98 (by delta Try.f98; exact rfl) (by delta Try.f98; exact rfl) (by delta Try.f98; exact rfl) hd rfl (by first | exact .inr (by assumption) | exact .inl rfl | exact .inl (by simp [idsV, idsC])) (by simp) ?_
 intro md' ow; have w := ow.w; have w0 := ow.w0; have fz : md'.fz = false := ow.fz
 subst hD0
 (have F := an2 @yD @yE; (repeat' (first | refine' dA68 | ((with_reducible apply EvO.call (vs := ?_)); exact rfl; exact rfl; exact dE7; (with_reducible apply Cal.hd (ms := []) (p := ?_)); exact dE7) | ((with_reducible apply CalH.mk); intro hd; first | exact c121 (k := k) hd (nb := S.length) (hnb := (get_len0 _ _).trans rfl)) | fail)); all_goals clear F)
 simp only [List.length_append, List.length_cons, List.length_nil] at hid hge
 refine ⟨.inl rfl, fun S₂ hk => ?_⟩
 rw [hk.nil]
 exact ⟨id, ids, rfl, hN, hall, by omega, fun i k hi hk => by have := hge i k hi hk; omega, (Kept.app S _).trans hold⟩
end Go.Proofs.YtomklniddinhnaaB

/- Part of the evaluator's contracts: fail3. -/
import Derived.Test.YtdpaijnbikclgaaDoorFfail2
namespace Go.Proofs.YtdpaijnbikclgaaDoorB
open Go Go.Proofs.YtdpaijnbikclgaaDoorE
set_option linter.unusedVariables false
set_option linter.unusedSectionVars false
set_option linter.unusedSimpArgs false
set_option maxHeartbeats 4000000
set_option maxRecDepth 20000
theorem nst_nil {S : Store} {id : Nat} (h : S[id]? = some ⟨1, [], 0, false⟩) : Nst S id (fun _ => none) [] :=
 ⟨h, fun i hi => absurd hi (by simp), fun i hi => absurd hi (by simp), fun i hi => absurd hi (by simp), fun i j k hi => absurd hi (by simp)⟩
theorem k41_3 (e : Env) : lpE (FI.K ⟨[], false, [(3, [1, 2, 3, 7, 8, 9]), (1000, [1, 2]), (1001, [1, 2, 3]), (1002, [1, 2, 3, 7, 8, 9]), (1003, [1, 2, 3, 7, 8, 9, 10]), (1004, [1, 2, 3, 5, 7, 8, 9]), (1005, [1, 2, 3, 7, 8, 9]), (1006, [1, 2, 3, 7, 8, 9]), (1007, [1, 2]), (1008, [1, 2]), (1009, [2]), (999999, [])]⟩ 3) e = mkE [(1, e 1), (2, e 2), (3, e 3), (7, e 7), (8, e 8), (9, e 9)] := rfl
theorem c41 {k : Nat} {md : Md} {S : Store} {vs : List A} {D : List Nat} {kk mm : Int} {l : List (List Cell)} {q : List Object} (hd : dpArgs S [] vs = some ([.ag [(.v (.int .i64 (kk))), (.v (.int .i64 (mm))), .ro 1 (l.map nodeC), .ro 2 (q.map Object.c)]], D)) (hD0 : D = [] := by first | assumption | omega | with_reducible rfl) (hn : l.length ≤ 1048576 := by first | assumption | omega | with_reducible rfl) (hcs : ∀ c ∈ l, c.length ≤ 1048576 := by first | assumption | omega | with_reducible rfl) (hq : q.length ≤ 1048576 := by first | assumption | omega | with_reducible rfl) (hk : 1 ≤ k := by omega) :
  Cal (run k) md 41 vs S (fun r S' => ∃ id ids id2, r = .ag [(.v (.int .i64 (kk))), (.v (.int .i64 (mm))), .sl id 0 l.length l.length, .sl id2 0 q.length q.length] ∧ Clu S' S.length id id2 ids l q ∧ (∀ i, i < l.length → ids i ≠ none) ∧ Kept S S') := by
 obtain ⟨k, rfl⟩ : ∃ j, k = j + 1 := ⟨k - 1, by omega⟩
 refine Cal.fnN (n := 30) (rs := [.cell 2 31]) (D := D) (Xof_none rfl) g41 (by delta Tryd.f41; exact rfl) (by delta Tryd.f41; exact rfl) (by delta Tryd.f41; exact rfl) hd rfl (by first | exact .inr (by assumption) | exact .inl rfl | exact .inl (by simp [idsV, idsC])) (by simp) ?_
 intro md' ow; have w := ow.w; have w0 := ow.w0; have fz : md'.fz = false := ow.fz
 subst hD0
 (have F := an6 @yD @yF @yA @yB @yE @yC; (repeat' (first | refine' dA41 | fail)); all_goals clear F)
 apply Ev.loop (fun j e S' => ∃ i : Nat, ∃ ids : Nat → Option Nat, ∃ u : Store, e = mkE [(1, .pt S.length 0 0 1), (2, .pt (S.length + 1) 0 0 1), (3, .sl (S.length + 2) 0 i i), (7, .ro 1 (l.map nodeC)), (8, (.v (.int .i64 ((l.length : Int))))), (9, (.v (.int .i64 ((i : Int)))))] ∧ S' = u ∧ j = l.length - i ∧ (i ≤ l.length) ∧ (Nst u (S.length + 2) ids (l.take i)) ∧ (∀ j k, ids j = some k → S.length + 3 ≤ k) ∧ (∀ j, j < i → ids j ≠ none) ∧ (u[S.length]? = some ⟨4, [[(.v (.int .i64 (kk))), (.v (.int .i64 (mm))), .ro 1 (l.map nodeC), .ro 2 (q.map Object.c)]], 0, true⟩) ∧ (u[S.length + 1]? = some ⟨4, [[(.v (.int .i64 (0))), (.v (.int .i64 (0))), .v (.slice none 0 0), .v (.slice none 0 0)]], 0, true⟩) ∧ (Kept S u))
 ·exact ⟨0, (fun _ => none), _, (k41_3 _).trans dN15, (by first | rfl | (simp only [app_app, List.cons_append, List.nil_append]; done)), rfl, (by omega), (by (exact nst_nil (get_len _ _ _))), (by (intro j k hk; cases hk)), (by (intro j hj; omega)), (by (exact get_len0 _ _)), (by (exact get_len _ _ _)), (by (exact Kept.app _ _))⟩
 rintro j e S' ⟨i, ids, u, rfl, rfl, hj, hi, hN, hge, hall, f0, f1, hK⟩
 have hult := hN.id_lt
 have w1 : md'.wr S'.length = true := wr_of w (by omega)
 have w2 : ∀ k, md'.wr (S'.length + k) = true := fun k => wr_of w (by omega)
 have hob := hN.ob
 unfold obK at hob
 have hrl := rowsK_len ids (l.take i)
 rw [List.length_take, Nat.min_eq_left hi] at hrl
 by_cases hli : (i : Int) < (l.length : Int)
 ·have hlt : i < l.length := by omega
  have hz1 := hcs l[i] (by simp)
  (have F := an18 @yD @yF @yA @yB @yE @yC @hli @w1 @w2 @f0 @f1 @hob @hrl @List.getElem?_append_left.{0} @List.set_append_left.{0} @List.getElem?_set_self.{0} @List.getElem?_set_ne.{0} @List.set_set.{0}; (repeat' (first | refine' dA41 | fail)); all_goals clear F)
  have hq : ∀ j, j < S'.length → j ≠ S.length + 2 → ∀ o x, (S'.set (S.length + 2) o ++ x)[j]? = S'[j]? := fun j h1 h2 o x => by rw [List.getElem?_append_left (by simpa using h1), List.getElem?_set_ne (Ne.symm h2)]
  have ht1 : l.take (i + 1) = l.take i ++ [l[i]] := List.take_add_one.trans (by simp [hlt])
  have hti : (l.take i).length = i := by simp; omega
  have hN1 : ∀ x y, Nst (S'.set (S.length + 2) ⟨1, rowsK ids (l.take i) ++ [[.sl (S'.length + 1) 0 l[i].length l[i].length]], 0, false⟩ ++ [x, obC l[i], y]) (S.length + 2) (fun j => if j = i then some (S'.length + 1) else ids j) (l.take (i + 1)) := fun x y => by
   rw [ht1]
   have := hN.push (S' := S'.set (S.length + 2) ⟨1, rowsK ids (l.take i) ++ [[.sl (S'.length + 1) 0 l[i].length l[i].length]], 0, false⟩ ++ [x, obC l[i], y]) l[i] (k := S'.length + 1) (by omega) (by rw [List.getElem?_append_left (by simpa using hult), List.getElem?_set_self hult]) (by rw [List.getElem?_append_right (by simp)]; simp) (fun j k' hj hk' => hq k' (hN.in_lt hj hk') (by have := hge j k' hk'; omega) _ _)
   rwa [hti] at this
  apply roundQ_m; refine ⟨_, ⟨i + 1, (fun j => if j = i then some (S'.length + 1) else ids j), (S'.set (S.length + 2) ⟨1, rowsK ids (l.take i) ++ [[.sl (S'.length + 1) 0 l[i].length l[i].length]], 0, false⟩ ++ [⟨1, [[.ro 4 (l[i].map Cell.c)]], 0, true⟩, obC l[i], ⟨1, [[.sl (S'.length + 1) 0 l[i].length l[i].length]], 0, false⟩]), (k41_3 _).trans dN15, ?_, rfl, ?_, ?_, ?_, ?_, ?_, ?_, ?_⟩, ?_⟩
  ·(refine lpG_keep hob (by rw [List.getElem?_append_left (by simpa using hult), List.getElem?_set_self hult]) (rowsK_ok fun j k hj hk => hN.in_lt hj hk) (by rw [rowsAll_app]; simp [rowsAll, okC]))
  ·omega
  ·(exact hN1 _ _)
  ·(intro j k hk; dsimp only at hk; split at hk; (injection hk with hk; omega); (exact hge j k hk))
  ·(intro j hj; dsimp only; by_cases e : j = i; (rw [if_pos e]; simp); (rw [if_neg e]; exact hall j (by omega)))
  ·(exact (hq _ (by omega) (by omega) _ _).trans f0)
  ·(exact (hq _ (by omega) (by omega) _ _).trans f1)
  ·(exact ⟨by simp; omega, fun j hj => (hq j (by omega) (by omega) _ _).trans (hK.2 j hj)⟩)
  ·omega
 ·obtain rfl : i = l.length := by omega
  rw [List.take_length] at hN hob hrl
  (have F := an18 @yD @yF @yA @yB @yE @yC @hli @f0 @f1 @hob @hrl @w1 @w2 @List.getElem?_append_left.{0} @List.set_append_left.{0} @List.getElem?_set_self.{0} @List.getElem?_set_ne.{0} @List.set_set.{0}; (repeat' (first | refine' dA41 | fail)); all_goals clear F)
  refine ⟨.inl rfl, fun S₂ hk => ?_⟩
  rw [hk.nil]
  have hq : ∀ j, j < S'.length → j ≠ S.length → j ≠ S.length + 1 → ∀ o o' x, ((S'.set S.length o).set (S.length + 1) o' ++ x)[j]? = S'[j]? := fun j h0 h1 h2 o o' x => by rw [List.getElem?_append_left (by simpa using h0), List.getElem?_set_ne (Ne.symm h2), List.getElem?_set_ne (Ne.symm h1)]
  refine ⟨S.length + 2, ids, S'.length, rfl, ⟨hN.mono (hq _ hult (by omega) (by omega) _ _ _) (fun i k hi hk => hq _ (hN.in_lt hi hk) (by have := hge i k hk; omega) (by have := hge i k hk; omega) _ _ _), ?_, by omega, fun i k hi hk => by have := hN.in_lt hi hk; omega, by omega, by omega, fun i k hi hk => by have := hge i k hk; omega⟩, hall, ⟨by simp; omega, fun j hj => (hq j (by omega) (by omega) (by omega) _ _ _).trans (hK.2 j hj)⟩⟩
  rw [List.getElem?_append_right (by simp)]; simp
end Go.Proofs.YtdpaijnbikclgaaDoorB

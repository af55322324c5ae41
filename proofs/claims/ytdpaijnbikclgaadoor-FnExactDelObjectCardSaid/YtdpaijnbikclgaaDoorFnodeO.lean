/- Part of the evaluator's contracts: nodeO. -/
import Derived.Test.YtdpaijnbikclgaaDoorFnodeM
import Derived.Test.YtdpaijnbikclgaaDoorFelObject
namespace Go.Proofs.YtdpaijnbikclgaaDoorB
open Go Go.Proofs.YtdpaijnbikclgaaDoorE
set_option linter.unusedVariables false
set_option linter.unusedSectionVars false
set_option linter.unusedSimpArgs false
set_option maxHeartbeats 4000000
set_option maxRecDepth 20000
def Kept (S S' : Store) : Prop := S.length ≤ S'.length ∧ ∀ j, j < S.length → S'[j]? = S[j]?
theorem Kept.refl (S : Store) : Kept S S := ⟨Nat.le_refl _, fun _ _ => rfl⟩
theorem Kept.trans {S S' S'' : Store} (h : Kept S S') (h' : Kept S' S'') : Kept S S'' := ⟨Nat.le_trans h.1 h'.1, fun j hj => (h'.2 j (Nat.lt_of_lt_of_le hj h.1)).trans (h.2 j hj)⟩
theorem Kept.app (S T : Store) : Kept S (S ++ T) := ⟨by simp, fun j hj => List.getElem?_append_left hj⟩
structure Clu (S : Store) (m id id2 : Nat) (ids : Nat → Option Nat) (l : List (List Cell)) (q : List Object) : Prop where
 n : Nst S id ids l
 o : S[id2]? = some ⟨2, q.map Object.c, 0, false⟩
 d : id2 ≠ id
 e : ∀ i k, i < l.length → ids i = some k → k ≠ id2
 m : m ≤ id ∧ m ≤ id2 ∧ ∀ i k, i < l.length → ids i = some k → m ≤ k
theorem Clu.id2_lt {S : Store} {m id id2 : Nat} {ids : Nat → Option Nat} {l : List (List Cell)} {q : List Object} (h : Clu S m id id2 ids l q) : id2 < S.length := (List.getElem?_eq_some_iff.1 h.o).1
theorem Clu.keep {S S' : Store} {m id id2 : Nat} {ids : Nat → Option Nat} {l : List (List Cell)} {q : List Object} (h : Clu S m id id2 ids l q) (k : Kept S S') : Clu S' m id id2 ids l q :=
 ⟨h.n.mono (k.2 _ h.n.id_lt) fun i j hi hj => k.2 _ (h.n.in_lt hi hj), (k.2 _ h.id2_lt).trans h.o, h.d, h.e, h.m⟩
theorem c10 {k : Nat} {md : Md} {S : Store} {vs : List A} {D : List Nat} {kk mm : Int} {l : List (List Cell)} {q : List Object} (hd : dpArgs S [] vs = some ([.ag [(.v (.int .i64 (kk))), (.v (.int .i64 (mm))), .ro 1 (l.map nodeC), .ro 2 (q.map Object.c)]], D)) (hD0 : D = [] := by first | assumption | omega | with_reducible rfl) (hn : l.length ≤ 1048576 := by first | assumption | omega | with_reducible rfl) (hcs : ∀ c ∈ l, c.length ≤ 1048576 := by first | assumption | omega | with_reducible rfl) (hq : q.length ≤ 1048576 := by first | assumption | omega | with_reducible rfl) (hk : 5 ≤ k := by omega) :
  Cal (run k) md 10 vs S (fun r S' => ∃ id ids id2, r = .ag [(.v (.int .i64 (kk))), (.v (.int .i64 (mm))), .sl id 0 l.length l.length, .sl id2 0 q.length q.length] ∧ Clu S' S.length id id2 ids l q ∧ (∀ i, i < l.length → ids i ≠ none) ∧ Kept S S') := by
 obtain ⟨k, rfl⟩ : ∃ j, k = j + 1 := ⟨k - 1, by omega⟩
 refine Cal.fnN (n := 19) (rs := [.cell 2 31]) (D := D) (Xof_none rfl) g10 (by delta Tryd.f10; exact rfl) (by delta Tryd.f10; exact rfl) (by delta Tryd.f10; exact rfl) hd rfl (by first | exact .inr (by assumption) | exact .inl rfl | exact .inl (by simp [idsV, idsC])) (by simp) ?_
 intro md' ow; have w := ow.w; have w0 := ow.w0; have fz : md'.fz = false := ow.fz
 subst hD0
 (have F := an4 @yD @yA @yB @yE; (repeat' (first | refine' dA26 | ((with_reducible apply EvO.call (vs := ?_)); exact rfl; exact rfl; exact dE8; (with_reducible apply Cal.hd (ms := []) (p := ?_)); exact dE8) | ((with_reducible apply CalH.mk); intro hd; first | exact c31 hd | exact c32 hd) | fail)); all_goals clear F)
 have f0 := (hold S.length (by simp)).trans (get_len0 S _)
 have f1 := (hold (S.length + 1) (by simp)).trans (get_len S _ 1)
 have f2 := (hold (S.length + 2) (by simp)).trans (get_len S _ 2)
 simp only [List.getElem?_cons_zero, List.getElem?_cons_succ] at f0 f1 f2
 have hK : Kept S S' := ⟨by have := hN.id_lt; simp at hid; omega, fun j hj => (hold j (by simp; omega)).trans (List.getElem?_append_left hj)⟩
 have hlt := hN.id_lt
 simp only [List.length_append, List.length_cons, List.length_nil] at hid hge
 clear hold
 (have F := an13 @yD @yA @yB @yE @f0 @f1 @f2 @List.getElem?_set_self.{0} @List.getElem?_set_ne.{0} @List.set_set.{0} @List.length_set.{0} @List.getElem?_append_left.{0} @List.set_append_left.{0}; (repeat' (first | refine' dA26 | ((with_reducible apply EvO.call (vs := ?_)); exact rfl; exact rfl; exact dE8; (with_reducible apply Cal.hd (ms := []) (p := ?_)); exact dE8) | ((with_reducible apply CalH.mk); intro hd; first | exact c31 hd | exact c32 hd) | fail)); all_goals clear F)
 refine ⟨.inl rfl, fun S₂ hk => ?_⟩
 rw [hk.nil]
 have hg : ∀ j, j < S'.length → j ≠ S.length + 1 → j ≠ S.length + 2 → ∀ o o' x, (((S'.set (S.length + 2) o).set (S.length + 1) o') ++ x)[j]? = S'[j]? := fun j h1 h2 h3 o o' x => by
  rw [List.getElem?_append_left (by simpa using h1), List.getElem?_set_ne (Ne.symm h2), List.getElem?_set_ne (Ne.symm h3)]
 refine ⟨id, ids, S'.length, rfl, ⟨hN.mono (hg _ hlt (by omega) (by omega) _ _ _) (fun i k hi hk => hg _ (hN.in_lt hi hk) (by have := hge i k hk; omega) (by have := hge i k hk; omega) _ _ _), ?_, by omega, fun i k hi hk => by have := hN.in_lt hi hk; omega, by omega, by omega, fun i k hi hk => by have := hge i k hk; omega⟩, hall, ⟨by simp; omega, fun j hj => (hg j (by omega) (by omega) (by omega) _ _ _).trans (hK.2 j hj)⟩⟩
 rw [List.getElem?_append_right (by simp)]; simp
theorem wr_of {S : Store} {md : Md} (w : ∀ k, md.wr (S.length + k) = true) {k : Nat} (h : S.length ≤ k) : md.wr k = true := by
 have := w (k - S.length); rwa [show S.length + (k - S.length) = k by omega] at this
theorem Nst.push {S S' : Store} {id : Nat} {ids : Nat → Option Nat} {l : List (List Cell)} (h : Nst S id ids l) (c : List Cell) {k : Nat} (hk : S.length ≤ k)
  (h1 : S'[id]? = some ⟨1, rowsK ids l ++ [[.sl k 0 c.length c.length]], 0, false⟩) (h2 : S'[k]? = some (obC c)) (h3 : ∀ i k, i < l.length → ids i = some k → S'[k]? = S[k]?) : Nst S' id (fun j => if j = l.length then some k else ids j) (l ++ [c]) := by
 have hid := h.id_lt
 have at_ : (l ++ [c]).length = l.length + 1 := by simp
 refine ⟨h1.trans ?_, fun j hj k' hk' => ?_, fun j hj hn => ?_, fun j hj e => ?_, fun j j' k' hj hj' e e' => ?_⟩
 ·unfold obK; congr 2
  apply List.ext_getElem?
  intro j
  rcases Nat.lt_trichotomy j l.length with hj | hj | hj
  ·rw [rowsK_at _ _ (by simp; omega), List.getElem?_append_left (by rw [rowsK_len]; exact hj), rowsK_at _ _ hj, if_neg (by omega), List.getElem_append_left hj]
  ·subst hj
   rw [rowsK_at _ _ (by simp), if_pos rfl, List.getElem?_append_right (by rw [rowsK_len]; exact Nat.le_refl _), rowsK_len, Nat.sub_self]
   simp [rowK]
  ·rw [List.getElem?_eq_none (by simp [rowsK_len]; omega), List.getElem?_eq_none (by simp [rowsK_len]; omega)]
 ·rw [at_] at hj
  by_cases e : j = l.length
  ·subst e; simp only [if_true] at hk'; injection hk' with hk'; subst hk'; simpa using h2
  ·rw [if_neg e] at hk'; rw [List.getElem_append_left (by omega)]
   exact (h3 j k' (by omega) hk').trans (h.inn j (by omega) k' hk')
 ·rw [at_] at hj
  by_cases e : j = l.length
  ·subst e; simp at hn
  ·rw [if_neg e] at hn; rw [List.getElem_append_left (by omega)]; exact h.nil j (by omega) hn
 ·rw [at_] at hj
  by_cases q : j = l.length
  ·simp only [q, if_true, Option.some.injEq] at e; omega
  ·rw [if_neg q] at e; exact h.ne j (by omega) e
 ·rw [at_] at hj hj'
  by_cases q : j = l.length <;> by_cases q' : j' = l.length
  ·omega
  ·simp only [q, if_true, Option.some.injEq] at e; rw [if_neg q'] at e'
   have := h.in_lt (by omega) e'; omega
  ·simp only [q', if_true, Option.some.injEq] at e'; rw [if_neg q] at e
   have := h.in_lt (by omega) e; omega
  ·rw [if_neg q] at e; rw [if_neg q'] at e'; exact h.ap j j' k' (by omega) (by omega) e e'
theorem Nst.one {S : Store} {id k : Nat} {c : List Cell} (h1 : S[id]? = some ⟨1, [[.sl k 0 c.length c.length]], 0, false⟩) (h2 : S[k]? = some (obC c)) (hk : k ≠ id) : Nst S id (fun j => if j = 0 then some k else none) [c] := by
 refine ⟨h1, fun j hj k' hk' => ?_, fun j hj hn => ?_, fun j hj e => ?_, fun j j' k' hj hj' e e' => ?_⟩
 all_goals simp only [List.length_singleton] at hj
 all_goals obtain rfl : j = 0 := by omega
 ·simp only [if_true] at hk'; injection hk' with hk'; subst hk'; exact h2
 ·simp at hn
 ·simp only [if_true, Option.some.injEq] at e; exact hk e
 ·simp only [List.length_singleton] at hj'; omega
theorem k42_3 (e : Env) : lpE (FI.K ⟨[], false, [(3, [2, 3, 15, 16, 17]), (1000, [1, 2]), (1001, [1, 2, 3]), (1002, [2, 3, 15, 16, 17]), (1003, [2, 3, 15, 16, 17, 18]), (1004, [2, 3, 5, 15, 16, 17]), (1005, [2, 3, 15, 16, 17]), (1006, [2, 3, 15, 16, 17]), (1007, [2]), (999999, [])]⟩ 3) e = mkE [(2, e 2), (3, e 3), (15, e 15), (16, e 16), (17, e 17)] := rfl
theorem c42 {k : Nat} {md : Md} {S : Store} {vs : List A} {D : List Nat} {kk mm : Int} {l : List (List Cell)} {q : List Object} (hd : dpArgs S [] vs = some ([.ag [(.v (.int .i64 (kk))), (.v (.int .i64 (mm))), .ro 1 (l.map nodeC), .ro 2 (q.map Object.c)]], D)) (hD0 : D = [] := by first | assumption | omega | with_reducible rfl) (h0 : 0 < l.length := by first | assumption | omega | with_reducible rfl) (hn : l.length ≤ 1048576 := by first | assumption | omega | with_reducible rfl) (hcs : ∀ c ∈ l, c.length ≤ 1048576 := by first | assumption | omega | with_reducible rfl) (hq : q.length ≤ 1048576 := by first | assumption | omega | with_reducible rfl) (hk : 2 ≤ k := by omega) :
  Cal (run k) md 42 vs S (fun r S' => ∃ id ids id2, r = .ag [(.v (.int .i64 (kk))), (.v (.int .i64 (mm))), .sl id 0 l.length l.length, .sl id2 0 q.length q.length] ∧ Clu S' S.length id id2 ids l q ∧ (∀ i, i < l.length → ids i ≠ none) ∧ Kept S S') := by
 obtain ⟨k, rfl⟩ : ∃ j, k = j + 1 := ⟨k - 1, by omega⟩
 refine Cal.fnN (n := 32) (rs := [.cell 2 31]) (D := D) (Xof_none rfl) g42 (by delta Tryd.f42; exact rfl) (by delta Tryd.f42; exact rfl) (by delta Tryd.f42; exact rfl) hd rfl (by first | exact .inr (by assumption) | exact .inl rfl | exact .inl (by simp [idsV, idsC])) (by simp) ?_
 intro md' ow; have w := ow.w; have w0 := ow.w0; have fz : md'.fz = false := ow.fz
 subst hD0
 (have F := an5 @yD @yA @yB @yE @ZL; (repeat' (first | refine' dA27 | fail)); all_goals clear F)
 apply Ev.loop (fun j e S' => ∃ i : Nat, ∃ a : A, ∃ id : Nat, ∃ ids : Nat → Option Nat, ∃ u : Store, e = mkE [(2, .pt (S.length + 1) 0 0 1), (3, .pt (S.length + 2) 0 0 1), (15, .ro 1 (l.map nodeC)), (16, (.v (.int .i64 ((l.length : Int))))), (17, (.v (.int .i64 ((i : Int)))))] ∧ S' = u ∧ j = l.length - i ∧ (i ≤ l.length) ∧ (i = 0 ∧ a = .v (.slice none 0 0) ∨ 0 < i ∧ a = .sl id 0 i i ∧ Nst u id ids (l.take i) ∧ S.length + 4 ≤ id ∧ (∀ j k, ids j = some k → S.length + 4 ≤ k) ∧ (∀ j, j < i → ids j ≠ none)) ∧ (u[S.length + 1]? = some ⟨4, [[(.v (.int .i64 (0))), (.v (.int .i64 (0))), .v (.slice none 0 0), .v (.slice none 0 0)]], 0, true⟩) ∧ (u[S.length + 2]? = some ⟨4, [[(.v (.int .i64 (kk))), (.v (.int .i64 (mm))), a, .sl (S.length + 3) 0 q.length q.length]], 0, true⟩) ∧ (u[S.length + 3]? = some ⟨2, q.map Object.c, 0, false⟩) ∧ (Kept S u))
 ·exact ⟨0, (.v (.slice none 0 0)), 0, (fun _ => none), _, (k42_3 _).trans dN9, (by first | rfl | (simp only [app_app, List.cons_append, List.nil_append]; done)), rfl, (by omega), (by (exact .inl ⟨rfl, rfl⟩)), (by (exact get_len _ _ _)), (by (exact get_len _ _ _)), (by (exact get_len _ _ _)), (by (exact Kept.app _ _))⟩
 rintro j e S' ⟨i, a, id, ids, u, rfl, rfl, hj, hi, hN, f1, f2, f3, hK⟩
 have hul : S.length + 3 < S'.length := (List.getElem?_eq_some_iff.1 f3).1
 have w1 : md'.wr S'.length = true := wr_of w (by omega)
 have w2 : ∀ k, md'.wr (S'.length + k) = true := fun k => wr_of w (by omega)
 by_cases hli : (i : Int) < (l.length : Int)
 ·have hlt : i < l.length := by omega
  have hz1 := hcs l[i] (by simp)
  rcases hN with ⟨rfl, rfl⟩ | ⟨hi0, rfl, hN, hid, hge, hall⟩
  ·have hli0 : (0 : Int) < (l.length : Int) := by omega
   have hz1 : l[0].length ≤ 1048576 := hz1
   (have F := an17 @yD @yA @yB @yE @hli0 @Int.toNat_zero @w1 @w2 @f1 @f2 @f3 @List.getElem?_append_left.{0} @List.set_append_left.{0} @List.getElem?_set_self.{0} @List.getElem?_set_ne.{0} @List.set_set.{0} @ZL; (repeat' (first | refine' dA27 | fail)); all_goals clear F)
   have hq : ∀ j, j < S'.length → j ≠ S.length + 2 → ∀ o x, (S'.set (S.length + 2) o ++ x)[j]? = S'[j]? := fun j h1 h2 o x => by rw [List.getElem?_append_left (by simpa using h1), List.getElem?_set_ne (Ne.symm h2)]
   have ht1 : l.take 1 = [l[0]] := (List.take_add_one (i := 0)).trans (by simp [hlt])
   have hN1 : ∀ o x y, Nst (S'.set (S.length + 2) o ++ [x, obC l[0], y, ⟨1, [[.sl (S'.length + 1) 0 l[0].length l[0].length]], 0, false⟩]) (S'.length + 3) (fun j => if j = 0 then some (S'.length + 1) else none) (l.take 1) := fun o x y => by
    rw [ht1]
    exact Nst.one (by rw [List.getElem?_append_right (by simp)]; simp) (by rw [List.getElem?_append_right (by simp)]; simp) (by omega)
   apply roundQ_m; refine ⟨_, ⟨1, (.sl (S'.length + 3) 0 1 1), (S'.length + 3), (fun j => if j = 0 then some (S'.length + 1) else none), (S'.set (S.length + 2) ⟨4, [[(.v (.int .i64 (kk))), (.v (.int .i64 (mm))), .sl (S'.length + 3) 0 1 1, .sl (S.length + 3) 0 q.length q.length]], 0, true⟩ ++ [⟨1, [[.ro 4 (l[0].map Cell.c)]], 0, true⟩, obC l[0], ⟨1, [[.sl (S'.length + 1) 0 l[0].length l[0].length]], 0, false⟩, ⟨1, [[.sl (S'.length + 1) 0 l[0].length l[0].length]], 0, false⟩]), (k42_3 _).trans dN9, ?_, rfl, ?_, ?_, ?_, ?_, ?_, ?_⟩, ?_⟩
   ·(refine lpG_keep f2 (by rw [List.getElem?_append_left (by simp; omega), List.getElem?_set_self (by omega)]) (by simp [rowsAll, okC, hul]) (by simp [rowsAll, okC]; try omega))
   ·omega
   ·(exact .inr ⟨by omega, rfl, hN1 _ _ _, by omega, fun j k hk => by (dsimp only at hk; split at hk; (injection hk with hk; omega); (cases hk)), fun j hj => by (dsimp only; rw [if_pos (by omega)]; simp)⟩)
   ·(exact (hq _ (by omega) (by omega) _ _).trans f1)
   ·(rw [List.getElem?_append_left (by simp; omega), List.getElem?_set_self (by omega)])
   ·(exact (hq _ (by omega) (by omega) _ _).trans f3)
   ·(exact ⟨by simp; omega, fun j hj => (hq j (by omega) (by omega) _ _).trans (hK.2 j hj)⟩)
   ·omega
  ·have hob := hN.ob
   have hult := hN.id_lt
   have hwi : md'.wr id = true := wr_of w (by omega)
   unfold obK at hob
   have hrl := rowsK_len ids (l.take i)
   rw [List.length_take, Nat.min_eq_left hi] at hrl
   (have F := an19 @yD @yA @yB @yE @hli @w1 @w2 @hwi @f1 @f2 @f3 @hob @hrl @List.getElem?_append_left.{0} @List.set_append_left.{0} @List.getElem?_set_self.{0} @List.getElem?_set_ne.{0} @List.set_set.{0} @ZL; (repeat' (first | refine' dA27 | fail)); all_goals clear F)
   have hq : ∀ j, j < S'.length → j ≠ S.length + 2 → j ≠ id → ∀ o o' x, ((S'.set id o').set (S.length + 2) o ++ x)[j]? = S'[j]? := fun j h1 h2 h3 o o' x => by rw [List.getElem?_append_left (by simpa using h1), List.getElem?_set_ne (Ne.symm h2), List.getElem?_set_ne (Ne.symm h3)]
   have ht1 : l.take (i + 1) = l.take i ++ [l[i]] := List.take_add_one.trans (by simp [hlt])
   have hti : (l.take i).length = i := by simp; omega
   have hN1 : ∀ o x y, Nst ((S'.set id ⟨1, rowsK ids (l.take i) ++ [[.sl (S'.length + 1) 0 l[i].length l[i].length]], 0, false⟩).set (S.length + 2) o ++ [x, obC l[i], y]) id (fun j => if j = i then some (S'.length + 1) else ids j) (l.take (i + 1)) := fun o x y => by
    rw [ht1]
    have := hN.push (S' := (S'.set id ⟨1, rowsK ids (l.take i) ++ [[.sl (S'.length + 1) 0 l[i].length l[i].length]], 0, false⟩).set (S.length + 2) o ++ [x, obC l[i], y]) l[i] (k := S'.length + 1) (by omega) (by rw [List.getElem?_append_left (by simpa using hult), List.getElem?_set_ne (by omega), List.getElem?_set_self hult]) (by rw [List.getElem?_append_right (by simp)]; simp) (fun j k' hj hk' => hq k' (hN.in_lt hj hk') (by have := hge j k' hk'; omega) (fun e => hN.ne j hj (e ▸ hk')) _ _ _)
    rwa [hti] at this
   apply roundQ_m; refine ⟨_, ⟨i + 1, (.sl id 0 (i + 1) (i + 1)), id, (fun j => if j = i then some (S'.length + 1) else ids j), ((S'.set id ⟨1, rowsK ids (l.take i) ++ [[.sl (S'.length + 1) 0 l[i].length l[i].length]], 0, false⟩).set (S.length + 2) ⟨4, [[(.v (.int .i64 (kk))), (.v (.int .i64 (mm))), .sl id 0 (i + 1) (i + 1), .sl (S.length + 3) 0 q.length q.length]], 0, true⟩ ++ [⟨1, [[.ro 4 (l[i].map Cell.c)]], 0, true⟩, obC l[i], ⟨1, [[.sl (S'.length + 1) 0 l[i].length l[i].length]], 0, false⟩]), (k42_3 _).trans dN9, ?_, rfl, ?_, ?_, ?_, ?_, ?_, ?_⟩, ?_⟩
   ·(refine lpG_keep hob (by rw [List.getElem?_append_left (by simpa using hult), List.getElem?_set_ne (by omega), List.getElem?_set_self hult]) (rowsK_ok fun j k hj hk => hN.in_lt hj hk) (by rw [rowsAll_app]; simp [rowsAll, okC]))
   ·omega
   ·(exact .inr ⟨by omega, rfl, hN1 _ _ _, hid, fun j k hk => by (dsimp only at hk; split at hk; (injection hk with hk; omega); (exact hge j k hk)), fun j hj => by (dsimp only; by_cases e : j = i; (rw [if_pos e]; simp); (rw [if_neg e]; exact hall j (by omega)))⟩)
   ·(exact (hq _ (by omega) (by omega) (by omega) _ _ _).trans f1)
   ·(rw [List.getElem?_append_left (by simp; omega), List.getElem?_set_self (by simp; omega)])
   ·(exact (hq _ (by omega) (by omega) (by omega) _ _ _).trans f3)
   ·(exact ⟨by simp; omega, fun j hj => (hq j (by omega) (by omega) (by omega) _ _ _).trans (hK.2 j hj)⟩)
   ·omega
 ·obtain rfl : i = l.length := by omega
  rcases hN with ⟨h, rfl⟩ | ⟨hi0, rfl, hN, hid, hge, hall⟩
  ·omega
  ·rw [List.take_length] at hN
   (have F := an10 @yD @yA @yB @yE @hli @f1 @f2 @f3 @List.getElem?_set_ne.{0} @ZL; (repeat' (first | refine' dA27 | fail)); all_goals clear F)
   refine ⟨.inl rfl, fun S₂ hk => ?_⟩
   rw [hk.nil]
   have hq : ∀ j, j ≠ S.length + 1 → ∀ o, (S'.set (S.length + 1) o)[j]? = S'[j]? := fun j h o => by rw [List.getElem?_set_ne (Ne.symm h)]
   refine ⟨id, ids, S.length + 3, rfl, ⟨hN.mono (hq _ (by omega) _) (fun i k hi hk => hq _ (by have := hge i k hk; omega) _), (hq _ (by omega) _).trans f3, by omega, fun i k hi hk => by have := hge i k hk; omega, by omega, by omega, fun i k hi hk => by have := hge i k hk; omega⟩, hall, ⟨by simp; omega, fun j hj => (hq j (by omega) _).trans (hK.2 j hj)⟩⟩
end Go.Proofs.YtdpaijnbikclgaaDoorB

/- Part of the evaluator's contracts: nodeM. -/
import Derived.Test.YtdpaijnbikclgaaDoorFnodeN
import Derived.Test.YtdpaijnbikclgaaDoorFelCell
namespace Go.Proofs.YtdpaijnbikclgaaDoorB
open Go Go.Proofs.YtdpaijnbikclgaaDoorE
set_option linter.unusedVariables false
set_option linter.unusedSectionVars false
set_option linter.unusedSimpArgs false
set_option maxHeartbeats 4000000
set_option maxRecDepth 20000
theorem c54 {k : Nat} {md : Md} {S : Store} {vs : List A} {D : List Nat} {c : List Cell} (hd : dpArgs S [] vs = some ([.ag [.ro 4 (c.map Cell.c)]], D)) (hn : c.length ≤ 1048576 := by first | assumption | omega | with_reducible rfl) (hk : 3 ≤ k := by omega) :
  Cal (run k) md 54 vs S (fun r S' => r = .ag [.sl S.length 0 c.length c.length] ∧ S' = S ++ [⟨4, c.map Cell.c, 0, false⟩]) := by
 obtain ⟨k, rfl⟩ : ∃ j, k = j + 1 := ⟨k - 1, by omega⟩
 refine Cal.fn (n := 9) (rs := [.cell 2 54]) (ids := []) (D := D) (Xof_none rfl) g54 (by delta Tryd.f54; exact rfl) (by delta Tryd.f54; exact rfl) (by delta Tryd.f54; exact rfl) hd rfl (by first | rfl | simp [idsV, idsC]) (by simp) (by simp) ?_
 intro md' ow; have w := ow.w; have w0 := ow.w0; have fz : md'.fz = false := ow.fz
 (have F := an4 @yD @yA @yB @yE; (repeat' (first | refine' dA23 | ((with_reducible apply EvO.call (vs := ?_)); exact rfl; exact rfl; exact dE8; (with_reducible apply Cal.hd (ms := []) (p := ?_)); exact dE8) | ((with_reducible apply CalH.mk); intro hd; first | exact c76 hd) | fail)); all_goals clear F)
 exact ⟨rfl, rfl⟩
theorem part_len (l : List (List Cell)) {i : Nat} (h : i ≤ l.length) : (l.take i ++ List.replicate (l.length - i) []).length = l.length := by simp; omega
theorem part_set (l : List (List Cell)) {i : Nat} (h : i < l.length) : (l.take i ++ List.replicate (l.length - i) []).set i l[i] = l.take (i + 1) ++ List.replicate (l.length - (i + 1)) [] := by
 rw [List.set_append, if_neg (by simp; omega), List.take_add_one, List.getElem?_eq_getElem h, show i - (l.take i).length = 0 by simp; omega, show l.length - i = (l.length - (i + 1)) + 1 by omega, List.replicate_succ, List.append_assoc]
 rfl
theorem rowsK_none (n : Nat) (ids : Nat → Option Nat) (h : ∀ j, ids j = none) : rowsK ids (List.replicate n []) = List.replicate n [.v (.slice none 0 0)] := by
 apply List.ext_getElem?
 intro j
 rcases Nat.lt_or_ge j n with hj | hj
 ·rw [rowsK_at _ _ (by simpa using hj)]; simp [rowK, h, hj]
 ·rw [List.getElem?_eq_none (by simp [rowsK_len]; exact hj), List.getElem?_eq_none (by simpa using hj)]
theorem rowsK_ok {m : Nat} {ids : Nat → Option Nat} {l : List (List Cell)} (h : ∀ j k, j < l.length → ids j = some k → k < m) : rowsAll (okC m) (rowsK ids l) = true := by
 unfold rowsAll rowsK
 rw [List.all_eq_true]
 intro r hr
 obtain ⟨i, hi, rfl⟩ := List.mem_map.1 hr
 cases e : ids i with
 | none => simp [rowK, okC]
 | some k => simp [rowK, okC, h i k (by simpa using hi) e]
theorem rowsK_no {m : Nat} {rows : List (List A)} {i : Nat} {r : List A} (h : rows[i]? = some r) (hr : r.all (okC m) = false) : rowsAll (okC m) rows = false := by
 cases e : rowsAll (okC m) rows with
 | false => rfl
 | true =>
  have := List.all_eq_true.1 e r (List.mem_of_getElem? h)
  rw [hr] at this; cases this
theorem nst0 {S : Store} {id : Nat} (l : List (List Cell)) (h : S[id]? = some ⟨1, List.replicate l.length [.v (.slice none 0 0)], 0, false⟩) : Nst S id (fun _ => none) (l.take 0 ++ List.replicate (l.length - 0) []) := by
 rw [List.take_zero, List.nil_append, Nat.sub_zero]
 refine ⟨by unfold obK; rw [rowsK_none _ _ (fun _ => rfl)]; exact h, (fun i hi k hk => by cases hk), (fun i hi _ => by simp), (fun i hi e => by cases e), (fun i j k hi hj e => by cases e)⟩
theorem k31_3 (e : Env) : lpE (FI.K ⟨[], false, [(3, [0, 3, 4]), (1000, [0]), (1001, [0, 3]), (1002, [0, 3, 4]), (1003, [0, 3, 4, 11]), (1004, [0, 3, 4]), (1005, [0, 3, 4]), (1006, [2]), (999999, [])]⟩ 3) e = mkE [(0, e 0), (3, e 3), (4, e 4)] := rfl
theorem c31 {k : Nat} {md : Md} {S : Store} {vs : List A} {D : List Nat} {l : List (List Cell)} (hd : dpArgs S [] vs = some ([.ro 1 (l.map nodeC)], D)) (hD0 : D = [] := by first | assumption | omega | with_reducible rfl) (hn : l.length ≤ 1048576 := by first | assumption | omega | with_reducible rfl) (hcs : ∀ c ∈ l, c.length ≤ 1048576 := by first | assumption | omega | with_reducible rfl) (hk : 4 ≤ k := by omega) :
  Cal (run k) md 31 vs S (fun r S' => ∃ id ids, r = .sl id 0 l.length l.length ∧ Nst S' id ids l ∧ (∀ i, i < l.length → ids i ≠ none) ∧ S.length ≤ id ∧ (∀ i k, ids i = some k → S.length ≤ k) ∧ ∀ j, j < S.length → S'[j]? = S[j]?) := by
 obtain ⟨k, rfl⟩ : ∃ j, k = j + 1 := ⟨k - 1, by omega⟩
 refine Cal.fnN (n := 23) (rs := [.tmp 2]) (D := D) (Xof_none rfl) g31 (by delta Tryd.f31; exact rfl) (by delta Tryd.f31; exact rfl) (by delta Tryd.f31; exact rfl) hd rfl (by first | exact .inr (by assumption) | exact .inl rfl | exact .inl (by simp [idsV, idsC])) (by simp) ?_
 intro md' ow; have w := ow.w; have w0 := ow.w0; have fz : md'.fz = false := ow.fz
 subst hD0
 (have F := an4 @yD @yA @yB @yE; (repeat' (first | refine' dA24 | ((with_reducible apply EvO.call (vs := ?_)); exact rfl; exact rfl; exact dE8; (with_reducible apply Cal.hd (ms := []) (p := ?_)); exact dE8) | ((with_reducible apply CalH.mk); intro hd; first | exact c54 hd) | fail)); all_goals clear F)
 apply Ev.loop (fun j e S' => ∃ i : Nat, ∃ ids : Nat → Option Nat, ∃ u : Store, e = mkE [(0, .ro 1 (l.map nodeC)), (3, .sl (S.length + 1) 0 l.length l.length), (4, (.v (.int .i64 ((i : Int)))))] ∧ S' = u ∧ j = l.length - i ∧ (i ≤ l.length) ∧ (Nst u (S.length + 1) ids (l.take i ++ List.replicate (l.length - i) [])) ∧ (∀ j, j < i → ids j ≠ none) ∧ (∀ j, i ≤ j → ids j = none) ∧ (∀ j k, ids j = some k → S.length ≤ k) ∧ (∀ j, j < S.length → u[j]? = S[j]?))
 ·exact ⟨0, fun _ => none, S ++ [⟨1, [], 0, false⟩, ⟨1, List.replicate l.length [.v (.slice none 0 0)], 0, false⟩], (k31_3 _).trans dN9, (by first | rfl | (simp only [app_app, List.cons_append, List.nil_append]; done)), rfl, (by omega), (by (exact nst0 l (by rw [List.getElem?_append_right (by omega)]; simp))), (by (intro j hj; omega)), (by (intro j hj; rfl)), (by (intro j k hk; cases hk)), (by (intro j hj; rw [List.getElem?_append_left hj]))⟩
 rintro j e S' ⟨i, ids, u, rfl, rfl, hj, hi, hN, ha, hz, hg, ho⟩
 have hpl := part_len l hi
 have hob := hN.ob
 have hult := hN.id_lt
 unfold obK at hob
 by_cases hli : (i : Int) < (l.length : Int)
 ·have hlt : i < l.length := by omega
  have hz1 := hcs l[i] (by simp)
  have hob2 : ∀ x, (S' ++ [x])[S.length + 1]? = some ⟨1, rowsK ids (l.take i ++ List.replicate (l.length - i) []), 0, false⟩ := fun x => by rw [List.getElem?_append_left hult]; exact hob
  have hrl := rowsK_len ids (l.take i ++ List.replicate (l.length - i) [])
  rw [hpl] at hrl
  have hg2 := rowsK_at ids (l.take i ++ List.replicate (l.length - i) []) (i := i) (by omega)
  rw [hz i (Nat.le_refl _)] at hg2
  have hg3 : rowK none (l.take i ++ List.replicate (l.length - i) [])[i] = [.v (.slice none 0 0)] := rfl
  rw [hg3] at hg2
  (have F := an9 @yD @yA @yB @yE @hli @hob2 @hrl @hg2 @if_true.{0}; (repeat' (first | refine' dA25 | ((with_reducible apply EvO.call (vs := ?_)); exact rfl; exact rfl; exact dE9; (with_reducible apply Cal.hd (ms := []) (p := ?_)); exact dE9) | ((with_reducible apply CalH.mk); intro hd; first | exact c54 hd) | fail)); all_goals clear F)
  have hput : Nst ((S' ++ [obC l[i]]).set (S.length + 1) ⟨1, (rowsK ids (l.take i ++ List.replicate (l.length - i) [])).set i [.sl S'.length 0 l[i].length l[i].length], 0, false⟩) (S.length + 1) (fun j => if j = i then some S'.length else ids j) (l.take (i + 1) ++ List.replicate (l.length - (i + 1)) []) := by
   rw [← part_set l hlt]
   refine hN.put (by omega) l[i] (Nat.le_refl _) ?_ ?_ fun j o hj ho => ?_
   ·rw [List.getElem?_set_self (by simp; omega)]
   ·rw [List.getElem?_set_ne (by omega), List.getElem?_append_right (Nat.le_refl _), Nat.sub_self]; rfl
   ·have := (List.getElem?_eq_some_iff.1 ho).1
    rw [List.getElem?_set_ne (Ne.symm hj), List.getElem?_append_left this]; exact ho
  apply roundQ_m; refine ⟨_, ⟨i + 1, (fun j => if j = i then some S'.length else ids j), ((S' ++ [obC l[i]]).set (S.length + 1) ⟨1, (rowsK ids (l.take i ++ List.replicate (l.length - i) [])).set i [.sl S'.length 0 l[i].length l[i].length], 0, false⟩), (k31_3 _).trans dN9, ?_, rfl, ?_, ?_, ?_, ?_, ?_, ?_⟩, ?_⟩
  ·(refine lpG_keep hob (List.getElem?_set_self (by simp; omega)) (rowsK_ok fun j k hj hk => hN.in_lt hj hk) (rowsK_no (List.getElem?_set_self (by rw [hrl]; omega)) (by simp [okC])))
  ·omega
  ·(exact hput)
  ·(intro j hj; dsimp only; by_cases e : j = i; (rw [if_pos e]; simp); (rw [if_neg e]; exact ha j (by omega)))
  ·(intro j hj; dsimp only; rw [if_neg (by omega)]; exact hz j (by omega))
  ·(intro j k hk; dsimp only at hk; by_cases e : j = i; (rw [if_pos e] at hk; injection hk with hk; omega); (rw [if_neg e] at hk; exact hg j k hk))
  ·(intro j hj; rw [List.getElem?_set_ne (by omega), List.getElem?_append_left (by omega)]; exact ho j hj)
  ·omega
 ·obtain rfl : i = l.length := by omega
  rw [List.take_length, Nat.sub_self, List.replicate_zero, List.append_nil] at hN
  (have F := an5 @yD @yA @yB @yE @hli; (repeat' (first | refine' dA24 | ((with_reducible apply EvO.call (vs := ?_)); exact rfl; exact rfl; exact dE8; (with_reducible apply Cal.hd (ms := []) (p := ?_)); exact dE8) | ((with_reducible apply CalH.mk); intro hd; first | exact c54 hd) | fail)); all_goals clear F)
  refine ⟨.inl rfl, fun S₂ hk => ?_⟩
  rw [hk.nil]
  exact ⟨_, ids, rfl, hN, fun i hi => ha i hi, by omega, hg, ho⟩
end Go.Proofs.YtdpaijnbikclgaaDoorB

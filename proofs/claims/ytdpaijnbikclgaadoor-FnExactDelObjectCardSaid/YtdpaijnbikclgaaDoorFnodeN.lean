/- Part of the evaluator's contracts: nodeN. -/
import Derived.Test.YtdpaijnbikclgaaDoorFnode0
namespace Go.Proofs.YtdpaijnbikclgaaDoorB
open Go Go.Proofs.YtdpaijnbikclgaaDoorE
set_option linter.unusedVariables false
set_option linter.unusedSectionVars false
set_option linter.unusedSimpArgs false
set_option maxHeartbeats 4000000
set_option maxRecDepth 20000
def rowK (oi : Option Nat) (c : List Cell) : List A := match oi with | some k => [.sl k 0 c.length c.length] | none => [.v (.slice none 0 0)]
def rowO (oi : Option Nat) (c : List Cell) : List A := match oi with | some _ => [.ro 4 (c.map Cell.c)] | none => [.v (.slice none 0 0)]
def rowsK (ids : Nat → Option Nat) (l : List (List Cell)) : List (List A) := (List.range l.length).map fun i => rowK (ids i) (l.getD i [])
def rowsO (ids : Nat → Option Nat) (l : List (List Cell)) : List (List A) := (List.range l.length).map fun i => rowO (ids i) (l.getD i [])
theorem rowsK_len (ids : Nat → Option Nat) (l : List (List Cell)) : (rowsK ids l).length = l.length := by simp [rowsK]
theorem rowsO_len (ids : Nat → Option Nat) (l : List (List Cell)) : (rowsO ids l).length = l.length := by simp [rowsO]
theorem rowsK_at (ids : Nat → Option Nat) (l : List (List Cell)) {i : Nat} (h : i < l.length) : (rowsK ids l)[i]? = some (rowK (ids i) l[i]) := by
 simp [rowsK, h]
theorem rowsO_at (ids : Nat → Option Nat) (l : List (List Cell)) {i : Nat} (h : i < l.length) : (rowsO ids l)[i]? = some (rowO (ids i) l[i]) := by
 simp [rowsO, h]
def obK (ids : Nat → Option Nat) (l : List (List Cell)) : Ob := ⟨1, rowsK ids l, 0, false⟩
def obC (c : List Cell) : Ob := ⟨4, c.map Cell.c, 0, false⟩
structure Nst (S : Store) (id : Nat) (ids : Nat → Option Nat) (l : List (List Cell)) : Prop where
 ob : S[id]? = some (obK ids l)
 inn : ∀ i (h : i < l.length) k, ids i = some k → S[k]? = some (obC l[i])
 nil : ∀ i (h : i < l.length), ids i = none → l[i] = []
 ne : ∀ i, i < l.length → ids i ≠ some id
 ap : ∀ i j k, i < l.length → j < l.length → ids i = some k → ids j = some k → i = j
theorem Nst.mono {S S' : Store} {id : Nat} {ids : Nat → Option Nat} {l : List (List Cell)} (h : Nst S id ids l) (h1 : S'[id]? = S[id]?) (h2 : ∀ i k, i < l.length → ids i = some k → S'[k]? = S[k]?) : Nst S' id ids l :=
 ⟨h1.trans h.ob, fun i hi k hk => (h2 i k hi hk).trans (h.inn i hi k hk), h.nil, h.ne, h.ap⟩
theorem Nst.app {S : Store} {id : Nat} {ids : Nat → Option Nat} {l : List (List Cell)} (h : Nst S id ids l) (T : Store) : Nst (S ++ T) id ids l := by
 have lt : ∀ {k : Nat} {o : Ob}, S[k]? = some o → k < S.length := fun h => (List.getElem?_eq_some_iff.1 h).1
 exact h.mono (List.getElem?_append_left (lt h.ob)) fun i k hi hk => List.getElem?_append_left (lt (h.inn i hi k hk))
theorem Nst.id_lt {S : Store} {id : Nat} {ids : Nat → Option Nat} {l : List (List Cell)} (h : Nst S id ids l) : id < S.length := (List.getElem?_eq_some_iff.1 h.ob).1
theorem Nst.in_lt {S : Store} {id : Nat} {ids : Nat → Option Nat} {l : List (List Cell)} (h : Nst S id ids l) {i k : Nat} (hi : i < l.length) (hk : ids i = some k) : k < S.length := (List.getElem?_eq_some_iff.1 (h.inn i hi k hk)).1
theorem rowsK_set (ids : Nat → Option Nat) (l : List (List Cell)) (i : Nat) (hi : i < l.length) (k : Option Nat) (c : List Cell) : (rowsK ids l).set i (rowK k c) = rowsK (fun j => if j = i then k else ids j) (l.set i c) := by
 apply List.ext_getElem?
 intro j
 rcases Nat.lt_or_ge j l.length with hj | hj
 ·rw [rowsK_at _ _ (by simpa using hj), getElem?_set' _ _ _ _ (by rw [rowsK_len]; exact hi)]
  by_cases e : j = i
  ·subst e; simp
  ·rw [if_neg e, rowsK_at _ _ hj, if_neg e, List.getElem_set_ne (Ne.symm e)]
 ·rw [List.getElem?_eq_none (by simp [rowsK_len]; exact hj), List.getElem?_eq_none (by simp [rowsK_len]; exact hj)]
theorem Nst.put {S S' : Store} {id : Nat} {ids : Nat → Option Nat} {l : List (List Cell)} (h : Nst S id ids l) {i : Nat} (hi : i < l.length) (c : List Cell) {k : Nat} (hk : S.length ≤ k)
  (h1 : S'[id]? = some ⟨1, (rowsK ids l).set i [.sl k 0 c.length c.length], 0, false⟩) (h2 : S'[k]? = some (obC c)) (h3 : ∀ j o, j ≠ id → S[j]? = some o → S'[j]? = some o) : Nst S' id (fun j => if j = i then some k else ids j) (l.set i c) := by
 have hid := h.id_lt
 refine ⟨h1.trans ?_, fun j hj k' hk' => ?_, fun j hj hn => ?_, fun j hj e => ?_, fun j j' k' hj hj' e e' => ?_⟩
 ·have e := rowsK_set ids l i hi (some k) c
  unfold obK; rw [← e]; rfl
 ·simp only [List.length_set] at hj
  by_cases e : j = i
  ·subst e; simp only [if_true] at hk'; injection hk' with hk'; subst hk'; simpa using h2
  ·rw [if_neg e] at hk'; rw [List.getElem_set_ne (Ne.symm e)]
   exact h3 k' _ (fun q => h.ne j hj (q ▸ hk')) (h.inn j hj k' hk')
 ·simp only [List.length_set] at hj
  by_cases e : j = i
  ·subst e; simp at hn
  ·rw [if_neg e] at hn; rw [List.getElem_set_ne (Ne.symm e)]; exact h.nil j hj hn
 ·simp only [List.length_set] at hj
  by_cases q : j = i
  ·simp only [q, if_true, Option.some.injEq] at e; omega
  ·rw [if_neg q] at e; exact h.ne j hj e
 ·simp only [List.length_set] at hj hj'
  by_cases q : j = i <;> by_cases q' : j' = i
  ·omega
  ·simp only [q, if_true, Option.some.injEq] at e; rw [if_neg q'] at e'
   have := h.in_lt hj' e'; omega
  ·simp only [q', if_true, Option.some.injEq] at e'; rw [if_neg q] at e
   have := h.in_lt hj e; omega
  ·rw [if_neg q] at e; rw [if_neg q'] at e'; exact h.ap j j' k' hj hj' e e'
theorem Nst.drop {S S' : Store} {id : Nat} {ids : Nat → Option Nat} {l : List (List Cell)} (h : Nst S id ids l) {i : Nat} (hi : i < l.length)
  (h1 : S'[id]? = some ⟨1, (rowsK ids l).set i [.v (.slice none 0 0)], 0, false⟩) (h3 : ∀ j o, j ≠ id → S[j]? = some o → S'[j]? = some o) : Nst S' id (fun j => if j = i then none else ids j) (l.set i []) := by
 refine ⟨h1.trans ?_, fun j hj k' hk' => ?_, fun j hj hn => ?_, fun j hj e => ?_, fun j j' k' hj hj' e e' => ?_⟩
 ·have e := rowsK_set ids l i hi none []
  unfold obK; rw [← e]; rfl
 ·simp only [List.length_set] at hj
  by_cases e : j = i
  ·simp [e] at hk'
  ·rw [if_neg e] at hk'; rw [List.getElem_set_ne (Ne.symm e)]
   exact h3 k' _ (fun q => h.ne j hj (q ▸ hk')) (h.inn j hj k' hk')
 ·simp only [List.length_set] at hj
  by_cases e : j = i
  ·subst e; simp
  ·rw [if_neg e] at hn; rw [List.getElem_set_ne (Ne.symm e)]; exact h.nil j hj hn
 ·simp only [List.length_set] at hj
  by_cases q : j = i
  ·simp [q] at e
  ·rw [if_neg q] at e; exact h.ne j hj e
 ·simp only [List.length_set] at hj hj'
  by_cases q : j = i
  ·simp [q] at e
  ·by_cases q' : j' = i
   ·simp [q'] at e'
   ·rw [if_neg q] at e; rw [if_neg q'] at e'; exact h.ap j j' k' hj hj' e e'
theorem Nst.upd {S S' : Store} {id : Nat} {ids : Nat → Option Nat} {l : List (List Cell)} (h : Nst S id ids l) {i : Nat} (hi : i < l.length) {k : Nat} (hk : ids i = some k) {c : List Cell} (hc : c.length = l[i].length)
  (h2 : S'[k]? = some (obC c)) (h3 : ∀ j o, j ≠ k → S[j]? = some o → S'[j]? = some o) : Nst S' id ids (l.set i c) := by
 refine ⟨?_, fun j hj k' hk' => ?_, fun j hj hn => ?_, fun j hj e => h.ne j (by simpa using hj) e, fun j j' k' hj hj' e e' => h.ap j j' k' (by simpa using hj) (by simpa using hj') e e'⟩
 ·rw [h3 id _ (fun e => h.ne i hi (e ▸ hk)) h.ob]
  congr 1
  unfold obK; congr 1
  apply List.ext_getElem?
  intro j
  rcases Nat.lt_or_ge j l.length with hj | hj
  ·rw [rowsK_at _ _ hj, rowsK_at _ _ (by simpa using hj)]
   by_cases e : j = i
   ·subst e; simp [rowK, hk, hc]
   ·rw [List.getElem_set_ne (Ne.symm e)]
  ·rw [List.getElem?_eq_none (by simp [rowsK_len]; exact hj), List.getElem?_eq_none (by simp [rowsK_len]; exact hj)]
 ·simp only [List.length_set] at hj
  by_cases e : j = i
  ·subst e; rw [hk] at hk'; injection hk' with hk'; subst hk'; simpa using h2
  ·rw [List.getElem_set_ne (Ne.symm e)]
   exact h3 k' _ (fun q => e (h.ap j i k hj hi (q ▸ hk') hk)) (h.inn j hj k' hk')
 ·simp only [List.length_set] at hj
  by_cases e : j = i
  ·subst e; rw [hk] at hn; cases hn
  ·rw [List.getElem_set_ne (Ne.symm e)]; exact h.nil j hj hn
theorem Nst.read {S : Store} {id : Nat} {ids : Nat → Option Nat} {l : List (List Cell)} (h : Nst S id ids l) : ∃ D, dpC S (.sl id 0 l.length l.length) = some (.ro 1 (rowsO ids l), D) := by
 have key : ∀ n, n ≤ l.length → ∃ D, dpR S ((rowsK ids l).drop n) = some ((rowsO ids l).drop n, D) := fun n hn => by
  obtain ⟨d, rfl⟩ : ∃ d, n = l.length - d := ⟨l.length - n, by omega⟩
  induction d with
  | zero => exact ⟨[], by rw [List.drop_eq_nil_of_le (by rw [rowsK_len]; omega), List.drop_eq_nil_of_le (by rw [rowsO_len]; omega)]; rfl⟩
  | succ d ih =>
   rcases Nat.lt_or_ge d l.length with hd | hd
   ·have hlt : l.length - (d + 1) < l.length := by omega
    obtain ⟨D, hD⟩ := ih (by omega)
    rw [show l.length - d = l.length - (d + 1) + 1 by omega] at hD
    have a1 := rowsK_at ids l hlt
    have a2 := rowsO_at ids l hlt
    obtain ⟨b1, c1⟩ := List.getElem?_eq_some_iff.1 a1
    obtain ⟨b2, c2⟩ := List.getElem?_eq_some_iff.1 a2
    rw [List.drop_eq_getElem_cons b1, List.drop_eq_getElem_cons b2, c1, c2]
    have : ∃ D1, dpL1 S (rowK (ids (l.length - (d + 1))) l[l.length - (d + 1)]) = some (rowO (ids (l.length - (d + 1))) l[l.length - (d + 1)], D1) := by
     cases e : ids (l.length - (d + 1)) with
     | none => exact ⟨[], rfl⟩
     | some k =>
      have hk := h.inn _ hlt k e
      refine ⟨[k] ++ [], ?_⟩
      simp only [rowK, dpL1, dpC1, hk, obC, rowO]
      rw [if_pos ⟨by simp, flat_map Cell.c (fun _ => rfl) _⟩]
      simp [List.take_of_length_le]
    obtain ⟨D1, hD1⟩ := this
    exact ⟨D1 ++ D, by simp only [dpR, hD1, hD]⟩
   ·rw [show l.length - (d + 1) = l.length - d by omega]; exact ih (by omega)
 obtain ⟨D, hD⟩ := key 0 (by omega)
 simp only [List.drop_zero] at hD
 have fl : flatRowsB (rowsO ids l) = true := by
  unfold flatRowsB rowsO
  rw [List.all_eq_true]
  intro r hr
  obtain ⟨i, hi, rfl⟩ := List.mem_map.1 hr
  cases e : ids i <;> simp [rowO, flatC]
 have hl : (rowsK ids l).length = l.length := rowsK_len ids l
 have hl2 : (rowsO ids l).length = l.length := rowsO_len ids l
 simp only [dpC, h.ob, obK]
 split
 ·rename_i hc
  refine ⟨[id], ?_⟩
  have e : rowsK ids l = rowsO ids l := by
   unfold rowsK rowsO
   refine List.map_congr_left fun i hi => ?_
   cases e : ids i with
   | none => rfl
   | some k =>
    have := List.all_eq_true.1 hc.2 (rowK (ids i) (l.getD i [])) (List.mem_map.2 ⟨i, hi, rfl⟩)
    rw [e] at this; simp [rowK, flatC] at this
  rw [e, List.take_of_length_le (by omega)]; rfl
 ·rw [hD]
  refine ⟨[id] ++ D, ?_⟩
  simp only [hl, fl, and_self, if_true, List.drop_zero]
  rw [List.take_of_length_le (by omega)]
end Go.Proofs.YtdpaijnbikclgaaDoorB

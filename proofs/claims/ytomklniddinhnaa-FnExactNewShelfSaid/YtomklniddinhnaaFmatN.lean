/- Part of the evaluator's contracts: matN. -/
import Derived.Test.YtomklniddinhnaaFkept
import Derived.Test.YtomklniddinhnaaFmark
namespace Go.Proofs.YtomklniddinhnaaB
open Go Go.Proofs.YtomklniddinhnaaE
set_option linter.unusedVariables false
set_option linter.unusedSectionVars false
set_option linter.unusedSimpArgs false
set_option maxHeartbeats 4000000
set_option maxRecDepth 20000
def bC (x : Nat) : List A := [(.v (.int .u8 ((x : Int))))]
theorem fl_b (l : List Nat) : flatRowsB (l.map bC) = true := flat_map bC (fun _ => rfl) l
theorem ok_b (m : Nat) (l : List Nat) : rowsAll (okC m) (l.map bC) = true := rowsAll_map (okC m) bC (fun _ => rfl) l
theorem nr_b (l : List Nat) : rowsAll noRoC (l.map bC) = true := rowsAll_map noRoC bC (fun _ => rfl) l
theorem lf_b (l : List Nat) : leafRows (l.map bC) = true := leaf_map bC (fun _ => rfl) l
theorem bC_at {l : List Nat} {i : Nat} (h : i < l.length) : (l.map bC)[i]? = some [(.v (.int .u8 ((l[i] : Int))))] := by rw [List.getElem?_map, List.getElem?_eq_getElem h]; rfl
def matC (c : List Nat) : List A := [.ro 1 (c.map bC)]
def mrow (oi : Option Nat) (c : List Nat) : List A := match oi with | some k => [.sl k 0 c.length c.length] | none => [.v (.slice none 0 0)]
def mroO (oi : Option Nat) (c : List Nat) : List A := match oi with | some _ => [.ro 1 (c.map bC)] | none => [.v (.slice none 0 0)]
def mrows (ids : Nat → Option Nat) (l : List (List Nat)) : List (List A) := (List.range l.length).map fun i => mrow (ids i) (l.getD i [])
def mroOs (ids : Nat → Option Nat) (l : List (List Nat)) : List (List A) := (List.range l.length).map fun i => mroO (ids i) (l.getD i [])
theorem mrows_len (ids : Nat → Option Nat) (l : List (List Nat)) : (mrows ids l).length = l.length := by simp [mrows]
theorem mroOs_len (ids : Nat → Option Nat) (l : List (List Nat)) : (mroOs ids l).length = l.length := by simp [mroOs]
theorem mrows_at (ids : Nat → Option Nat) (l : List (List Nat)) {i : Nat} (h : i < l.length) : (mrows ids l)[i]? = some (mrow (ids i) l[i]) := by
 simp [mrows, h]
theorem mroOs_at (ids : Nat → Option Nat) (l : List (List Nat)) {i : Nat} (h : i < l.length) : (mroOs ids l)[i]? = some (mroO (ids i) l[i]) := by
 simp [mroOs, h]
def mobK (ids : Nat → Option Nat) (l : List (List Nat)) : Ob := ⟨1, mrows ids l, 0, false⟩
def mobC (c : List Nat) : Ob := ⟨1, c.map bC, 0, false⟩
structure Mst (S : Store) (id : Nat) (ids : Nat → Option Nat) (l : List (List Nat)) : Prop where
 ob : S[id]? = some (mobK ids l)
 inn : ∀ i (h : i < l.length) k, ids i = some k → S[k]? = some (mobC l[i])
 nil : ∀ i (h : i < l.length), ids i = none → l[i] = []
 ne : ∀ i, i < l.length → ids i ≠ some id
 ap : ∀ i j k, i < l.length → j < l.length → ids i = some k → ids j = some k → i = j
theorem Mst.mono {S S' : Store} {id : Nat} {ids : Nat → Option Nat} {l : List (List Nat)} (h : Mst S id ids l) (h1 : S'[id]? = S[id]?) (h2 : ∀ i k, i < l.length → ids i = some k → S'[k]? = S[k]?) : Mst S' id ids l :=
 ⟨h1.trans h.ob, fun i hi k hk => (h2 i k hi hk).trans (h.inn i hi k hk), h.nil, h.ne, h.ap⟩
theorem Mst.app {S : Store} {id : Nat} {ids : Nat → Option Nat} {l : List (List Nat)} (h : Mst S id ids l) (T : Store) : Mst (S ++ T) id ids l := by
 have lt : ∀ {k : Nat} {o : Ob}, S[k]? = some o → k < S.length := fun h => (List.getElem?_eq_some_iff.1 h).1
 exact h.mono (List.getElem?_append_left (lt h.ob)) fun i k hi hk => List.getElem?_append_left (lt (h.inn i hi k hk))
theorem Mst.id_lt {S : Store} {id : Nat} {ids : Nat → Option Nat} {l : List (List Nat)} (h : Mst S id ids l) : id < S.length := (List.getElem?_eq_some_iff.1 h.ob).1
theorem Mst.in_lt {S : Store} {id : Nat} {ids : Nat → Option Nat} {l : List (List Nat)} (h : Mst S id ids l) {i k : Nat} (hi : i < l.length) (hk : ids i = some k) : k < S.length := (List.getElem?_eq_some_iff.1 (h.inn i hi k hk)).1
theorem mrows_set (ids : Nat → Option Nat) (l : List (List Nat)) (i : Nat) (hi : i < l.length) (k : Option Nat) (c : List Nat) : (mrows ids l).set i (mrow k c) = mrows (fun j => if j = i then k else ids j) (l.set i c) := by
 apply List.ext_getElem?
 intro j
 rcases Nat.lt_or_ge j l.length with hj | hj
 ·rw [mrows_at _ _ (by simpa using hj), getElem?_set' _ _ _ _ (by rw [mrows_len]; exact hi)]
  by_cases e : j = i
  ·subst e; simp
  ·rw [if_neg e, mrows_at _ _ hj, if_neg e, List.getElem_set_ne (Ne.symm e)]
 ·rw [List.getElem?_eq_none (by simp [mrows_len]; exact hj), List.getElem?_eq_none (by simp [mrows_len]; exact hj)]
theorem Mst.put {S S' : Store} {id : Nat} {ids : Nat → Option Nat} {l : List (List Nat)} (h : Mst S id ids l) {i : Nat} (hi : i < l.length) (c : List Nat) {k : Nat} (hk : S.length ≤ k)
  (h1 : S'[id]? = some ⟨1, (mrows ids l).set i [.sl k 0 c.length c.length], 0, false⟩) (h2 : S'[k]? = some (mobC c)) (h3 : ∀ j o, j ≠ id → S[j]? = some o → S'[j]? = some o) : Mst S' id (fun j => if j = i then some k else ids j) (l.set i c) := by
 have hid := h.id_lt
 refine ⟨h1.trans ?_, fun j hj k' hk' => ?_, fun j hj hn => ?_, fun j hj e => ?_, fun j j' k' hj hj' e e' => ?_⟩
 ·have e := mrows_set ids l i hi (some k) c
  unfold mobK; rw [← e]; rfl
 ·simp only [List.length_set] at hj
  by_cases e : j = i
  ·subst e; simp only [if_true] at hk'; injection hk' with hk'; subst hk'; simpa using h2
  ·rw [if_neg e] at hk'; rw [List.getElem_set_ne (Ne.symm e)]
   exact h3 k' _ (fun q => h.ne j hj (q ▸ hk')) (h.inn j hj k' hk')
 ·simp only [List.length_set] at hj
  by_cases e : j = i
  ·subst e; simp at hn
  ·rw [if_neg e] at hn; rw [List.getElem_set_ne (Ne.symm e)]; exact h.nil j hj hn
 ·simp only [List.length_set] at hj
  by_cases q : j = i
  ·simp only [q, if_true, Option.some.injEq] at e; omega
  ·rw [if_neg q] at e; exact h.ne j hj e
 ·simp only [List.length_set] at hj hj'
  by_cases q : j = i <;> by_cases q' : j' = i
  ·omega
  ·simp only [q, if_true, Option.some.injEq] at e; rw [if_neg q'] at e'
   have := h.in_lt hj' e'; omega
  ·simp only [q', if_true, Option.some.injEq] at e'; rw [if_neg q] at e
   have := h.in_lt hj e; omega
  ·rw [if_neg q] at e; rw [if_neg q'] at e'; exact h.ap j j' k' hj hj' e e'
theorem Mst.drop {S S' : Store} {id : Nat} {ids : Nat → Option Nat} {l : List (List Nat)} (h : Mst S id ids l) {i : Nat} (hi : i < l.length)
  (h1 : S'[id]? = some ⟨1, (mrows ids l).set i [.v (.slice none 0 0)], 0, false⟩) (h3 : ∀ j o, j ≠ id → S[j]? = some o → S'[j]? = some o) : Mst S' id (fun j => if j = i then none else ids j) (l.set i []) := by
 refine ⟨h1.trans ?_, fun j hj k' hk' => ?_, fun j hj hn => ?_, fun j hj e => ?_, fun j j' k' hj hj' e e' => ?_⟩
 ·have e := mrows_set ids l i hi none []
  unfold mobK; rw [← e]; rfl
 ·simp only [List.length_set] at hj
  by_cases e : j = i
  ·simp [e] at hk'
  ·rw [if_neg e] at hk'; rw [List.getElem_set_ne (Ne.symm e)]
   exact h3 k' _ (fun q => h.ne j hj (q ▸ hk')) (h.inn j hj k' hk')
 ·simp only [List.length_set] at hj
  by_cases e : j = i
  ·subst e; simp
  ·rw [if_neg e] at hn; rw [List.getElem_set_ne (Ne.symm e)]; exact h.nil j hj hn
 ·simp only [List.length_set] at hj
  by_cases q : j = i
  ·simp [q] at e
  ·rw [if_neg q] at e; exact h.ne j hj e
 ·simp only [List.length_set] at hj hj'
  by_cases q : j = i
  ·simp [q] at e
  ·by_cases q' : j' = i
   ·simp [q'] at e'
   ·rw [if_neg q] at e; rw [if_neg q'] at e'; exact h.ap j j' k' hj hj' e e'
theorem Mst.upd {S S' : Store} {id : Nat} {ids : Nat → Option Nat} {l : List (List Nat)} (h : Mst S id ids l) {i : Nat} (hi : i < l.length) {k : Nat} (hk : ids i = some k) {c : List Nat} (hc : c.length = l[i].length)
  (h2 : S'[k]? = some (mobC c)) (h3 : ∀ j o, j ≠ k → S[j]? = some o → S'[j]? = some o) : Mst S' id ids (l.set i c) := by
 refine ⟨?_, fun j hj k' hk' => ?_, fun j hj hn => ?_, fun j hj e => h.ne j (by simpa using hj) e, fun j j' k' hj hj' e e' => h.ap j j' k' (by simpa using hj) (by simpa using hj') e e'⟩
 ·rw [h3 id _ (fun e => h.ne i hi (e ▸ hk)) h.ob]
  congr 1
  unfold mobK; congr 1
  apply List.ext_getElem?
  intro j
  rcases Nat.lt_or_ge j l.length with hj | hj
  ·rw [mrows_at _ _ hj, mrows_at _ _ (by simpa using hj)]
   by_cases e : j = i
   ·subst e; simp [mrow, hk, hc]
   ·rw [List.getElem_set_ne (Ne.symm e)]
  ·rw [List.getElem?_eq_none (by simp [mrows_len]; exact hj), List.getElem?_eq_none (by simp [mrows_len]; exact hj)]
 ·simp only [List.length_set] at hj
  by_cases e : j = i
  ·subst e; rw [hk] at hk'; injection hk' with hk'; subst hk'; simpa using h2
  ·rw [List.getElem_set_ne (Ne.symm e)]
   exact h3 k' _ (fun q => e (h.ap j i k hj hi (q ▸ hk') hk)) (h.inn j hj k' hk')
 ·simp only [List.length_set] at hj
  by_cases e : j = i
  ·subst e; rw [hk] at hn; cases hn
  ·rw [List.getElem_set_ne (Ne.symm e)]; exact h.nil j hj hn
theorem Mst.read {S : Store} {id : Nat} {ids : Nat → Option Nat} {l : List (List Nat)} (h : Mst S id ids l) : ∃ D, dpC S (.sl id 0 l.length l.length) = some (.ro 1 (mroOs ids l), D) := by
 have key : ∀ n, n ≤ l.length → ∃ D, dpR S ((mrows ids l).drop n) = some ((mroOs ids l).drop n, D) := fun n hn => by
  obtain ⟨d, rfl⟩ : ∃ d, n = l.length - d := ⟨l.length - n, by omega⟩
  induction d with
  | zero => exact ⟨[], by rw [List.drop_eq_nil_of_le (by rw [mrows_len]; omega), List.drop_eq_nil_of_le (by rw [mroOs_len]; omega)]; rfl⟩
  | succ d ih =>
   rcases Nat.lt_or_ge d l.length with hd | hd
   ·have hlt : l.length - (d + 1) < l.length := by omega
    obtain ⟨D, hD⟩ := ih (by omega)
    rw [show l.length - d = l.length - (d + 1) + 1 by omega] at hD
    have a1 := mrows_at ids l hlt
    have a2 := mroOs_at ids l hlt
    obtain ⟨b1, c1⟩ := List.getElem?_eq_some_iff.1 a1
    obtain ⟨b2, c2⟩ := List.getElem?_eq_some_iff.1 a2
    rw [List.drop_eq_getElem_cons b1, List.drop_eq_getElem_cons b2, c1, c2]
    have : ∃ D1, dpL1 S (mrow (ids (l.length - (d + 1))) l[l.length - (d + 1)]) = some (mroO (ids (l.length - (d + 1))) l[l.length - (d + 1)], D1) := by
     cases e : ids (l.length - (d + 1)) with
     | none => exact ⟨[], rfl⟩
     | some k =>
      have hk := h.inn _ hlt k e
      refine ⟨[k] ++ [], ?_⟩
      simp only [mrow, dpL1, dpC1, hk, mobC, mroO]
      rw [if_pos ⟨by simp, flat_map bC (fun _ => rfl) _⟩]
      simp [List.take_of_length_le]
    obtain ⟨D1, hD1⟩ := this
    exact ⟨D1 ++ D, by simp only [dpR, hD1, hD]⟩
   ·rw [show l.length - (d + 1) = l.length - d by omega]; exact ih (by omega)
 obtain ⟨D, hD⟩ := key 0 (by omega)
 simp only [List.drop_zero] at hD
 have fl : flatRowsB (mroOs ids l) = true := by
  unfold flatRowsB mroOs
  rw [List.all_eq_true]
  intro r hr
  obtain ⟨i, hi, rfl⟩ := List.mem_map.1 hr
  cases e : ids i <;> simp [mroO, flatC]
 have hl : (mrows ids l).length = l.length := mrows_len ids l
 have hl2 : (mroOs ids l).length = l.length := mroOs_len ids l
 simp only [dpC, h.ob, mobK]
 split
 ·rename_i hc
  refine ⟨[id], ?_⟩
  have e : mrows ids l = mroOs ids l := by
   unfold mrows mroOs
   refine List.map_congr_left fun i hi => ?_
   cases e : ids i with
   | none => rfl
   | some k =>
    have := List.all_eq_true.1 hc.2 (mrow (ids i) (l.getD i [])) (List.mem_map.2 ⟨i, hi, rfl⟩)
    rw [e] at this; simp [mrow, flatC] at this
  rw [e, List.take_of_length_le (by omega)]; rfl
 ·rw [hD]
  refine ⟨[id] ++ D, ?_⟩
  simp only [hl, fl, and_self, if_true, List.drop_zero]
  rw [List.take_of_length_le (by omega)]
theorem mroOs_all {ids : Nat → Option Nat} {l : List (List Nat)} (h : ∀ i, i < l.length → ids i ≠ none) : mroOs ids l = l.map matC := by
 apply List.ext_getElem?
 intro j
 rcases Nat.lt_or_ge j l.length with hj | hj
 ·rw [mroOs_at _ _ hj, List.getElem?_map, List.getElem?_eq_getElem hj]
  cases e : ids j with
  | none => exact absurd e (h j hj)
  | some k => rfl
 ·rw [List.getElem?_eq_none (by rw [mroOs_len]; exact hj), List.getElem?_eq_none (by simpa using hj)]
theorem mrows_none (n : Nat) (ids : Nat → Option Nat) (h : ∀ j, ids j = none) : mrows ids (List.replicate n []) = List.replicate n [.v (.slice none 0 0)] := by
 apply List.ext_getElem?
 intro j
 rcases Nat.lt_or_ge j n with hj | hj
 ·rw [mrows_at _ _ (by simpa using hj)]; simp [mrow, h, hj]
 ·rw [List.getElem?_eq_none (by simp [mrows_len]; exact hj), List.getElem?_eq_none (by simpa using hj)]
theorem mrows_ok {m : Nat} {ids : Nat → Option Nat} {l : List (List Nat)} (h : ∀ j k, j < l.length → ids j = some k → k < m) : rowsAll (okC m) (mrows ids l) = true := by
 unfold rowsAll mrows
 rw [List.all_eq_true]
 intro r hr
 obtain ⟨i, hi, rfl⟩ := List.mem_map.1 hr
 cases e : ids i with
 | none => simp [mrow, okC]
 | some k => simp [mrow, okC, h i k (by simpa using hi) e]
theorem mrows_no {m : Nat} {rows : List (List A)} {i : Nat} {r : List A} (h : rows[i]? = some r) (hr : r.all (okC m) = false) : rowsAll (okC m) rows = false := by
 cases e : rowsAll (okC m) rows with
 | false => rfl
 | true =>
  have := List.all_eq_true.1 e r (List.mem_of_getElem? h)
  rw [hr] at this; cases this
theorem mst0 {S : Store} {id : Nat} (l : List (List Nat)) (h : S[id]? = some ⟨1, List.replicate l.length [.v (.slice none 0 0)], 0, false⟩) : Mst S id (fun _ => none) (l.take 0 ++ List.replicate (l.length - 0) []) := by
 rw [List.take_zero, List.nil_append, Nat.sub_zero]
 refine ⟨by unfold mobK; rw [mrows_none _ _ (fun _ => rfl)]; exact h, (fun i hi k hk => by cases hk), (fun i hi _ => by simp), (fun i hi e => by cases e), (fun i j k hi hj e => by cases e)⟩
theorem Mst.push {S S' : Store} {id : Nat} {ids : Nat → Option Nat} {l : List (List Nat)} (h : Mst S id ids l) (c : List Nat) {k : Nat} (hk : S.length ≤ k)
  (h1 : S'[id]? = some ⟨1, mrows ids l ++ [[.sl k 0 c.length c.length]], 0, false⟩) (h2 : S'[k]? = some (mobC c)) (h3 : ∀ i k, i < l.length → ids i = some k → S'[k]? = S[k]?) : Mst S' id (fun j => if j = l.length then some k else ids j) (l ++ [c]) := by
 have hid := h.id_lt
 have at_ : (l ++ [c]).length = l.length + 1 := by simp
 refine ⟨h1.trans ?_, fun j hj k' hk' => ?_, fun j hj hn => ?_, fun j hj e => ?_, fun j j' k' hj hj' e e' => ?_⟩
 ·unfold mobK; congr 2
  apply List.ext_getElem?
  intro j
  rcases Nat.lt_trichotomy j l.length with hj | hj | hj
  ·rw [mrows_at _ _ (by simp; omega), List.getElem?_append_left (by rw [mrows_len]; exact hj), mrows_at _ _ hj, if_neg (by omega), List.getElem_append_left hj]
  ·subst hj
   rw [mrows_at _ _ (by simp), if_pos rfl, List.getElem?_append_right (by rw [mrows_len]; exact Nat.le_refl _), mrows_len, Nat.sub_self]
   simp [mrow]
  ·rw [List.getElem?_eq_none (by simp [mrows_len]; omega), List.getElem?_eq_none (by simp [mrows_len]; omega)]
 ·rw [at_] at hj
  by_cases e : j = l.length
  ·subst e; simp only [if_true] at hk'; injection hk' with hk'; subst hk'; simpa using h2
  ·rw [if_neg e] at hk'; rw [List.getElem_append_left (by omega)]
   exact (h3 j k' (by omega) hk').trans (h.inn j (by omega) k' hk')
 ·rw [at_] at hj
  by_cases e : j = l.length
  ·subst e; simp at hn
  ·rw [if_neg e] at hn; rw [List.getElem_append_left (by omega)]; exact h.nil j (by omega) hn
 ·rw [at_] at hj
  by_cases q : j = l.length
  ·simp only [q, if_true, Option.some.injEq] at e; omega
  ·rw [if_neg q] at e; exact h.ne j (by omega) e
 ·rw [at_] at hj hj'
  by_cases q : j = l.length <;> by_cases q' : j' = l.length
  ·omega
  ·simp only [q, if_true, Option.some.injEq] at e; rw [if_neg q'] at e'
   have := h.in_lt (by omega) e'; omega
  ·simp only [q', if_true, Option.some.injEq] at e'; rw [if_neg q] at e
   have := h.in_lt (by omega) e; omega
  ·rw [if_neg q] at e; rw [if_neg q'] at e'; exact h.ap j j' k' (by omega) (by omega) e e'
theorem Mst.one {S : Store} {id k : Nat} {c : List Nat} (h1 : S[id]? = some ⟨1, [[.sl k 0 c.length c.length]], 0, false⟩) (h2 : S[k]? = some (mobC c)) (hk : k ≠ id) : Mst S id (fun j => if j = 0 then some k else none) [c] := by
 refine ⟨h1, fun j hj k' hk' => ?_, fun j hj hn => ?_, fun j hj e => ?_, fun j j' k' hj hj' e e' => ?_⟩
 all_goals simp only [List.length_singleton] at hj
 all_goals obtain rfl : j = 0 := by omega
 ·simp only [if_true] at hk'; injection hk' with hk'; subst hk'; exact h2
 ·simp at hn
 ·simp only [if_true, Option.some.injEq] at e; exact hk e
 ·simp only [List.length_singleton] at hj'; omega
theorem mst_nil {S : Store} {id : Nat} (h : S[id]? = some ⟨1, [], 0, false⟩) : Mst S id (fun _ => none) [] :=
 ⟨h, fun i hi => absurd hi (by simp), fun i hi => absurd hi (by simp), fun i hi => absurd hi (by simp), fun i j k hi => absurd hi (by simp)⟩
theorem mrows_leaf (ids : Nat → Option Nat) (l : List (List Nat)) : leafRows (mrows ids l) = true := by
 unfold leafRows mrows
 rw [List.all_eq_true]
 intro r hr
 obtain ⟨i, hi, rfl⟩ := List.mem_map.1 hr
 cases e : ids i <;> rfl
theorem Mst.join {S S' : Store} {id id' : Nat} {ids ids' : Nat → Option Nat} {l l' : List (List Nat)} (h : Mst S id ids l) (h' : Mst S id' ids' l') (hd : ∀ i k, i < l'.length → ids' i = some k → k ≠ id ∧ ∀ j, j < l.length → ids j ≠ some k)
  (h1 : S'[id]? = some ⟨1, mrows ids l ++ mrows ids' l', 0, false⟩) (h2 : ∀ k o, k ≠ id → S[k]? = some o → S'[k]? = some o) : Mst S' id (fun j => if j < l.length then ids j else ids' (j - l.length)) (l ++ l') := by
 have la : ∀ {j : Nat}, j < (l ++ l').length → ¬ j < l.length → j - l.length < l'.length := fun hj h => by simp at hj; omega
 refine ⟨h1.trans ?_, fun j hj k hk => ?_, fun j hj hn => ?_, fun j hj e => ?_, fun j j' k hj hj' e e' => ?_⟩
 ·unfold mobK; congr 2
  apply List.ext_getElem?
  intro j
  rcases Nat.lt_or_ge j (l ++ l').length with hj | hj
  ·rw [mrows_at _ _ hj]
   by_cases c : j < l.length
   ·rw [List.getElem?_append_left (by rw [mrows_len]; exact c), mrows_at _ _ c, if_pos c, List.getElem_append_left c]
   ·rw [List.getElem?_append_right (by rw [mrows_len]; omega), mrows_len, mrows_at _ _ (la hj c), if_neg c, List.getElem_append_right (by omega)]
  ·rw [List.getElem?_eq_none (by simp [mrows_len]; simp at hj; omega), List.getElem?_eq_none (by rw [mrows_len]; exact hj)]
 ·by_cases c : j < l.length
  ·rw [if_pos c] at hk; rw [List.getElem_append_left c]
   exact h2 k _ (fun e => h.ne j c (e ▸ hk)) (h.inn j c k hk)
  ·rw [if_neg c] at hk; rw [List.getElem_append_right (by omega)]
   exact h2 k _ (hd _ k (la hj c) hk).1 (h'.inn _ (la hj c) k hk)
 ·by_cases c : j < l.length
  ·rw [if_pos c] at hn; rw [List.getElem_append_left c]; exact h.nil j c hn
  ·rw [if_neg c] at hn; rw [List.getElem_append_right (by omega)]; exact h'.nil _ (la hj c) hn
 ·by_cases c : j < l.length
  ·rw [if_pos c] at e; exact h.ne j c e
  ·rw [if_neg c] at e; exact (hd _ _ (la hj c) e).1 rfl
 ·by_cases c : j < l.length <;> by_cases c' : j' < l.length
  ·rw [if_pos c] at e; rw [if_pos c'] at e'; exact h.ap j j' k c c' e e'
  ·rw [if_pos c] at e; rw [if_neg c'] at e'; exact absurd e ((hd _ k (la hj' c') e').2 j c)
  ·rw [if_neg c] at e; rw [if_pos c'] at e'; exact absurd e' ((hd _ k (la hj c) e).2 j' c')
  ·rw [if_neg c] at e; rw [if_neg c'] at e'; have := h'.ap _ _ k (la hj c) (la hj' c') e e'; omega
theorem Mst.keep {S S' : Store} {id : Nat} {ids : Nat → Option Nat} {l : List (List Nat)} (h : Mst S id ids l) (k : Kept S S') : Mst S' id ids l := h.mono (k.2 _ h.id_lt) fun i j hi hj => k.2 _ (h.in_lt hi hj)
theorem yE : (((type_of% @fl_b) ∧ (type_of% @ok_b)) ∧ ((type_of% @nr_b) ∧ ((type_of% @lf_b) ∧ (type_of% @bC.eq_1)))) := ⟨⟨@fl_b, @ok_b⟩, ⟨@nr_b, ⟨@lf_b, @bC.eq_1⟩⟩⟩
end Go.Proofs.YtomklniddinhnaaB

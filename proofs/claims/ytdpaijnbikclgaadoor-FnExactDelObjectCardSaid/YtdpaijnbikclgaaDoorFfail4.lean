/- Part of the evaluator's contracts: fail4. -/
import Derived.Test.YtdpaijnbikclgaaDoorFfail3
import Derived.Test.YtdpaijnbikclgaaDoorFclu4
import Derived.Test.YtdpaijnbikclgaaDoorFclu5
namespace Go.Proofs.YtdpaijnbikclgaaDoorB
open Go Go.Proofs.YtdpaijnbikclgaaDoorE
set_option linter.unusedVariables false
set_option linter.unusedSectionVars false
set_option linter.unusedSimpArgs false
set_option maxHeartbeats 4000000
set_option maxRecDepth 20000
theorem Kp.kept {D : List Nat} {S S₁ S₂ : Store} (h : Kp D S.length S₁ S₂) (k : Kept S S₁) : Kept S S₂ := ⟨by rw [h.len]; exact k.1, fun j hj => (h.old hj).trans (k.2 j hj)⟩
theorem nr_rowsK (ids : Nat → Option Nat) (l : List (List Cell)) : rowsAll noRoC (rowsK ids l) = true := by
 unfold rowsAll rowsK
 rw [List.all_eq_true]
 intro r hr
 obtain ⟨i, hi, rfl⟩ := List.mem_map.1 hr
 cases e : ids i <;> simp [rowK, noRoC]
theorem Clu.kp {D : List Nat} {S₁ S₂ : Store} {n m id id2 : Nat} {ids : Nat → Option Nat} {l : List (List Cell)} {q : List Object} (h : Clu S₁ m id id2 ids l q) (hk : Kp D n S₁ S₂) : Clu S₂ m id id2 ids l q :=
 ⟨⟨hk.get h.n.ob (nr_rowsK _ _), fun i hi k hk' => hk.get (h.n.inn i hi k hk') (nr_Cell _), h.n.nil, h.n.ne, h.n.ap⟩, hk.get h.o (nr_Object _), h.d, h.e, h.m⟩
theorem Clu.drop {S S' : Store} {m m' id id2 : Nat} {ids : Nat → Option Nat} {l : List (List Cell)} {q : List Object} (h : Clu S m id id2 ids l q) {n : Nat} (hn : n < l.length) (hm : m' ≤ m)
  (h1 : S'[id]? = some ⟨1, (rowsK ids l).set n [.v (.slice none 0 0)], 0, false⟩) (h3 : ∀ j, m ≤ j → j < S.length → j ≠ id → S'[j]? = S[j]?) : Clu S' m' id id2 (fun j => if j = n then none else ids j) (l.set n []) q := by
 have hid := h.n.id_lt
 have h0 := h.n.drop (S' := S.set id ⟨1, (rowsK ids l).set n [.v (.slice none 0 0)], 0, false⟩) hn (by rw [List.getElem?_set_self hid]) (fun j o hj ho => by rw [List.getElem?_set_ne (Ne.symm hj)]; exact ho)
 have hl : ∀ {i : Nat}, i < (l.set n []).length → i < l.length := fun hi => by simpa using hi
 have un : ∀ {i k : Nat}, (if i = n then none else ids i) = some k → ids i = some k := fun {i k} hk => by
  split at hk
  ·cases hk
  ·exact hk
 refine ⟨h0.mono (h1.trans (by rw [List.getElem?_set_self hid])) fun i k hi hk => ?_, (h3 id2 h.m.2.1 h.id2_lt h.d).trans h.o, h.d, fun i k hi hk => h.e i k (hl hi) (un hk), by have := h.m.1; omega, by have := h.m.2.1; omega, fun i k hi hk => by have := h.m.2.2 i k (hl hi) (un hk); omega⟩
 have hne : k ≠ id := fun e => h.n.ne i (hl hi) (e ▸ un hk)
 rw [List.getElem?_set_ne (Ne.symm hne)]
 exact h3 k (h.m.2.2 i k (hl hi) (un hk)) (h.n.in_lt (hl hi) (un hk)) hne
theorem nodes_lt {kk mm : Int} {l : List (List Cell)} {q : List Object} (h : goodC kk mm l q = true) : 0 < l.length := by
 by_cases hG : GoodP kk mm l q
 ·have h1 := hG.nodes.1
  have h2 := hG.shape
  simp [shp, inB] at h2
  omega
 ·rw [goodC_f hG] at h; cases h
end Go.Proofs.YtdpaijnbikclgaaDoorB

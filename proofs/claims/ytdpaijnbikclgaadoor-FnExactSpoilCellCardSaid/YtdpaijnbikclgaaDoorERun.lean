/- Part of the proof: an evaluator (YtdpaijnbikclgaaDoorERun). -/
import Derived.Test.YtdpaijnbikclgaaDoorEOp
set_option linter.unusedVariables false
set_option linter.unusedSimpArgs false
set_option linter.unusedSectionVars false
namespace Go.Proofs.YtdpaijnbikclgaaDoorE
open Go
def overw (cs : Array Value) (o : Nat) : List Value → Array Value
 | [] => cs
 | x :: r => overw (cs.setIfInBounds o x) (o + 1) r
theorem size_overw : ∀ (vs : List Value) (cs : Array Value) (o : Nat), (overw cs o vs).size = cs.size
 | [], _, _ => rfl
 | x :: r, cs, o => by simp [overw, size_overw r]
theorem getD_overw : ∀ (vs : List Value) (cs : Array Value) (o k : Nat), o + vs.length ≤ cs.size → (overw cs o vs).getD k undef = if o ≤ k ∧ k < o + vs.length then vs.getD (k - o) undef else cs.getD k undef
 | [], cs, o, k, _ => by
  have : ¬ (o ≤ k ∧ k < o + ([] : List Value).length) := by simp
  rw [if_neg this]; rfl
 | x :: r, cs, o, k, h => by
  simp only [List.length_cons] at h ⊢
  rw [overw, getD_overw r _ _ _ (by simp; omega)]
  by_cases e : k = o
  ·subst e
   rw [if_neg (by omega), if_pos (by omega)]
   have : k < cs.size := by omega
   simp [this]
  ·by_cases h1 : o + 1 ≤ k ∧ k < o + 1 + r.length
   ·rw [if_pos h1, if_pos (by omega)]
    have : k - o = (k - (o + 1)) + 1 := by omega
    rw [this]; rfl
   ·rw [if_neg h1, if_neg (by omega)]
    simp [Array.getElem?_setIfInBounds_ne (Ne.symm e)]
theorem heap_modify {h : Array Obj} {b : Nat} {x : Obj} (f : Obj → Obj) (hb : h[b]? = some x) : h.modify b f = h.setIfInBounds b (f x) := by
 apply Array.ext_getElem?
 intro i
 rw [Array.getElem?_modify, Array.getElem?_setIfInBounds]
 have hlt := (Array.getElem?_eq_some_iff.1 hb).1
 split
 ·rename_i e; subst e; rw [hb]; try simp
 ·rfl
theorem setIfInBounds_self {h : Array Obj} {b : Nat} {x : Obj} (hb : h[b]? = some x) : h.setIfInBounds b x = h := by
 apply Array.ext_getElem?
 intro i
 rw [Array.getElem?_setIfInBounds]
 have hlt := (Array.getElem?_eq_some_iff.1 hb).1
 split
 ·rename_i e; subst e; rw [hb]; try simp [hlt]
 ·rfl
theorem addr_add {a : Addr} (h : a.spot = none) (n : Nat) : a.add n = ⟨a.block, a.off + n, none⟩ := by
 obtain ⟨b, o, s⟩ := a
 simp only at h; subst h
 unfold Addr.add; split <;> simp_all
theorem cell_at {w : World} {b o : Nat} {cs : Array Value} {ty : TypeId} {fr : Nat × Nat} (hb : w.heap[b]? = some (.cells cs ty fr)) : w.cell? ⟨b, o, none⟩ = cs[o]? := by simp [World.cell?, hb]
theorem getElem?_getD {cs : Array Value} {o : Nat} (h : o < cs.size) : cs[o]? = some (cs.getD o undef) := by
 simp [h]
theorem run_storeCells_b (P : Program) {b : Nat} {ty : TypeId} {fr : Nat × Nat} (o : Nat) : ∀ (vs : List Value) (i : Nat) (cs : Array Value) (w : World), w.heap[b]? = some (.cells cs ty fr) → Free fr cs.size → o + i + vs.length ≤ cs.size → (∀ x ∈ vs, x.oneCell' = true) →
  (storeCells ⟨b, o, none⟩ vs i).run P w = .ok () { w with heap := w.heap.setIfInBounds b (.cells (overw cs (o + i) vs) ty fr) }
 | [], i, cs, w, hb, hf, hl, h1 => by simp [storeCells, overw, setIfInBounds_self hb]
 | x :: r, i, cs, w, hb, hf, hl, h1 => by
  simp only [List.length_cons] at hl
  have hc : w.cell? ⟨b, o + i, none⟩ = some (cs.getD (o + i) undef) := by rw [cell_at hb, getElem?_getD (by omega)]
  have hz : w.frozen? ⟨b, o + i, none⟩ = false := by
   have := hf (o + i) (by omega)
   obtain ⟨f1, f2⟩ := fr
   simp only [World.frozen?, hb]
   simp only [] at this
   simpa using this
  simp only [storeCells, Sem.run_bind, addr_add (a := ⟨b, o, none⟩) rfl, run_store P w _ x .plain (h1 x (by simp)), hc, hz]
  simp only [Bool.false_eq_true, if_false, Result.andThen_ok]
  have hm : (w.setCell ⟨b, o + i, none⟩ x).heap = w.heap.setIfInBounds b (.cells (cs.setIfInBounds (o + i) x) ty fr) := by
   simp only [World.setCell]
   rw [heap_modify _ hb]; simp
  have hlt := (Array.getElem?_eq_some_iff.1 hb).1
  have hw : w.setCell ⟨b, o + i, none⟩ x = { w with heap := w.heap.setIfInBounds b (.cells (cs.setIfInBounds (o + i) x) ty fr) } := by
   rw [← hm]; rfl
  rw [hw, run_storeCells_b P (ty := ty) (fr := fr) o r (i + 1) (cs.setIfInBounds (o + i) x) _ (by simp [hlt]) (by simpa using hf) (by simp; omega) (fun y hy => h1 y (by simp [hy]))]
  simp [overw, Nat.add_assoc, Array.setIfInBounds_setIfInBounds]
theorem run_loadCells_b (P : Program) {w : World} {b o : Nat} {cs : Array Value} {ty : TypeId} {fr : Nat × Nat} (hb : w.heap[b]? = some (.cells cs ty fr)) (n : Nat) (hl : o + n ≤ cs.size) :
  (loadCells ⟨b, o, none⟩ n).run P w = .ok ((List.range n).map fun j => cs.getD (o + j) undef).toArray w := by
 have := run_loadCells (P := P) w ⟨b, o, none⟩ n (fun j => cs.getD (o + j) undef) (fun j hj => by
  rw [addr_add (a := ⟨b, o, none⟩) rfl, cell_at hb, getElem?_getD (by simp only; omega)])
 rw [this]
end Go.Proofs.YtdpaijnbikclgaaDoorE

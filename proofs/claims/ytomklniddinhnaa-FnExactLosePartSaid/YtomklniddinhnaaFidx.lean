/- Part of the evaluator's contracts: idx. -/
import Derived.Test.YtomklniddinhnaaFbase
namespace Go.Proofs.YtomklniddinhnaaB
open Go Go.Proofs.YtomklniddinhnaaE
set_option linter.unusedVariables false
set_option linter.unusedSectionVars false
set_option linter.unusedSimpArgs false
set_option maxHeartbeats 4000000
set_option maxRecDepth 20000
def idxI {α : Type} (p : α → Bool) (l : List α) : Int := match l.findIdx? p with | some i => (i : Int) | none => -1
theorem idxI_found {α : Type} {p : α → Bool} {l : List α} {i : Nat} (h : i < l.length) (h1 : ∀ x ∈ l.take i, p x = false) (h2 : p l[i] = true) : idxI p l = i := by
  have : l.findIdx? p = some i := by
    rw [List.findIdx?_eq_some_iff_getElem]
    refine ⟨h, h2, fun j hj => ?_⟩
    have := h1 l[j] (by rw [List.mem_iff_getElem]; exact ⟨j, by simp; omega, by simp⟩)
    simp [this]
  simp [idxI, this]
theorem idxI_none {α : Type} {p : α → Bool} {l : List α} (h1 : ∀ x ∈ l, p x = false) : idxI p l = -1 := by
  have : l.findIdx? p = none := by
    rw [List.findIdx?_eq_none_iff]; exact fun x hx => by simpa using h1 x hx
  simp [idxI, this]
theorem idxI_any {α : Type} (p : α → Bool) (l : List α) : decide (0 ≤ idxI p l) = l.any p := by
  by_cases h : l.any p = true
  · rw [h]
    obtain ⟨x, hx, hp⟩ := List.any_eq_true.1 h
    cases hf : l.findIdx? p with
    | none => rw [List.findIdx?_eq_none_iff] at hf; have := hf x hx; rw [hp] at this; cases this
    | some i => simp [idxI, hf]
  · have h' : l.any p = false := by simpa using h
    rw [h', idxI_none (fun x hx => by simpa using (List.any_eq_false.1 h') x hx)]; rfl
theorem idxI_lt {α : Type} {p : α → Bool} {l : List α} : -1 ≤ idxI p l ∧ idxI p l < l.length := by
  cases hf : l.findIdx? p with
  | none => simp [idxI, hf]; omega
  | some i => have := (List.findIdx?_eq_some_iff_getElem.1 hf).1; simp [idxI, hf]; omega
end Go.Proofs.YtomklniddinhnaaB

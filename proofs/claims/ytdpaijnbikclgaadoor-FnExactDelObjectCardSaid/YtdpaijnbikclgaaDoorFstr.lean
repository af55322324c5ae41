/- Part of the evaluator's contracts: str. -/
import Derived.Test.YtdpaijnbikclgaaDoorFbase
namespace Go.Proofs.YtdpaijnbikclgaaDoorB
open Go Go.Proofs.YtdpaijnbikclgaaDoorE
set_option linter.unusedVariables false
set_option linter.unusedSectionVars false
set_option linter.unusedSimpArgs false
set_option maxHeartbeats 4000000
set_option maxRecDepth 20000
def at_ (s : ByteArray) (i : Nat) : UInt8 := (s.data[i]?).getD 0
theorem get_at {s : ByteArray} {i : Nat} (h : i < s.size) : s.data[i]? = some (at_ s i) := by
 have h' : i < s.data.size := h
 rw [at_, Array.getElem?_eq_getElem h']; rfl
theorem mem_at {s : ByteArray} {b : UInt8} : b ∈ s.data.toList ↔ ∃ i, i < s.size ∧ at_ s i = b := by
 constructor
 ·intro h
  obtain ⟨i, hi, e⟩ := List.mem_iff_getElem.1 h
  have hi' : i < s.data.size := by rwa [Array.length_toList] at hi
  refine ⟨i, hi', ?_⟩
  rw [at_, Array.getElem?_eq_getElem hi']
  rw [Array.getElem_toList] at e
  exact e
 ·rintro ⟨i, hi, e⟩
  have hi' : i < s.data.size := hi
  rw [at_, Array.getElem?_eq_getElem hi'] at e
  rw [List.mem_iff_getElem]
  exact ⟨i, by rw [Array.length_toList]; exact hi', by rw [Array.getElem_toList]; exact e⟩
theorem at_lt (s : ByteArray) (i : Nat) : (at_ s i).toNat < 256 := (at_ s i).toNat_lt
theorem allB {s : ByteArray} {p : UInt8 → Bool} : (s.data.toList.all p = true) ↔ ∀ i, i < s.size → p (at_ s i) = true := by
 rw [List.all_eq_true]
 exact ⟨fun h i hi => h _ (mem_at.2 ⟨i, hi, rfl⟩), fun h b hb => by obtain ⟨i, hi, e⟩ := mem_at.1 hb; exact e ▸ h i hi⟩
theorem allB_no {s : ByteArray} {p : UInt8 → Bool} {i : Nat} (hi : i < s.size) (h : p (at_ s i) = false) : s.data.toList.all p = false := by
 cases e : s.data.toList.all p with
 | false => rfl
 | true => have := allB.1 e i hi; rw [h] at this; cases this
theorem u8_all {p : UInt8 → Prop} (h : ∀ n : Fin 256, p (UInt8.ofNat n.1)) (b : UInt8) : p b := by
 have := h ⟨b.toNat, b.toNat_lt⟩
 simpa using this
theorem toL (s : ByteArray) : s.toList = s.data.toList :=
 ByteArray.toList_eq s
theorem yF : (type_of% @get_at) := @get_at
end Go.Proofs.YtdpaijnbikclgaaDoorB

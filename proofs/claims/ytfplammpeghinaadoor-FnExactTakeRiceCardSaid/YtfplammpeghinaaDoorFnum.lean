/- Part of the evaluator's contracts: num. -/
import Derived.Test.YtfplammpeghinaaDoorFpack
namespace Go.Proofs.YtfplammpeghinaaDoorB
open Go Go.Proofs.YtfplammpeghinaaDoorE
set_option linter.unusedVariables false
set_option linter.unusedSectionVars false
set_option linter.unusedSimpArgs false
set_option maxHeartbeats 4000000
set_option maxRecDepth 20000
/-- the number of bits -/
def valF (f : Nat → UInt8) : Nat → Nat
  | 0 => 0
  | i + 1 => 2 * valF f i + ((f i).toNat - 48)
theorem valF_lt (f : Nat → UInt8) : ∀ k, (∀ j, j < k → bitB (f j) = true) → valF f k < 2 ^ k
  | 0, _ => by simp [valF]
  | k + 1, h => by
    have h1 := valF_lt f k fun j hj => h j (by omega)
    have h2 := h k (by omega)
    have h3 : (f k).toNat = 48 ∨ (f k).toNat = 49 := by
      simp only [bitB, Bool.or_eq_true, decide_eq_true_eq] at h2
      rcases h2 with e | e <;> rw [e] <;> simp
    simp only [valF, Nat.pow_succ]; omega
theorem valF_congr {f g : Nat → UInt8} : ∀ {k}, (∀ j, j < k → f j = g j) → valF f k = valF g k
  | 0, _ => rfl
  | k + 1, h => by simp only [valF]; rw [valF_congr fun j hj => h j (by omega), h k (by omega)]
theorem bit_cases {b : UInt8} (h : bitB b = true) : b.toNat = 48 ∧ b = 48 ∨ b.toNat = 49 ∧ b = 49 := by
  simp only [bitB, Bool.or_eq_true, decide_eq_true_eq] at h
  rcases h with e | e <;> subst e <;> simp
/-- the bits of the number -/
theorem valF_bit (f : Nat → UInt8) : ∀ (k : Nat) (q : Nat) (j : Nat), (∀ j, j < k → bitB (f j) = true) → j < k → (q * 2 ^ k + valF f k) / 2 ^ (k - 1 - j) % 2 = (f j).toNat - 48
  | 0, q, j, h, hj => by omega
  | k + 1, q, j, h, hj => by
    have h3 := bit_cases (h k (by omega))
    have hl := valF_lt f k fun j hj => h j (by omega)
    by_cases e : j = k
    · subst e
      have : j + 1 - 1 - j = 0 := by omega
      rw [this]
      simp only [valF, Nat.pow_zero, Nat.div_one, Nat.pow_succ]
      have : q * (2 ^ j * 2) = 2 * (q * 2 ^ j) := by rw [← Nat.mul_assoc, Nat.mul_comm]
      omega
    · have ih := valF_bit f k q j (fun j hj => h j (by omega)) (by omega)
      rw [← ih]
      have e2 : k + 1 - 1 - j = (k - 1 - j) + 1 := by omega
      rw [e2, Nat.pow_succ 2 (k - 1 - j), Nat.mul_comm (2 ^ (k - 1 - j)) 2, ← Nat.div_div_eq_div_mul]
      congr 1
      congr 1
      simp only [valF, Nat.pow_succ]
      have : q * (2 ^ k * 2) = 2 * (q * 2 ^ k) := by rw [← Nat.mul_assoc, Nat.mul_comm]
      omega
def okF (f : Nat → UInt8) (k : Nat) : Bool := (List.range k).all fun j => bitB (f j)
theorem okF_t {f : Nat → UInt8} {k : Nat} : okF f k = true ↔ ∀ j, j < k → bitB (f j) = true := by simp [okF]
theorem okF_no {f : Nat → UInt8} {k j : Nat} (hj : j < k) (h : bitB (f j) = false) : okF f k = false := by
  cases e : okF f k with
  | false => rfl
  | true => have := okF_t.1 e j hj; rw [h] at this; cases this
theorem okF_congr {f g : Nat → UInt8} {k : Nat} (h : ∀ j, j < k → f j = g j) : okF f k = okF g k := by
  rw [Bool.eq_iff_iff, okF_t, okF_t]
  exact ⟨fun q j hj => h j hj ▸ q j hj, fun q j hj => (h j hj).symm ▸ q j hj⟩
def resF (f : Nat → UInt8) (k : Nat) : A := .tu [(.v (.int .i64 (if okF f k = true then (valF f k : Int) else 0))), (.v (.bool (okF f k)))]
theorem size_extract {s : ByteArray} {a b : Nat} (h : a ≤ b) (hb : b ≤ s.size) : (s.extract a b).size = b - a := by
  rw [ByteArray.size_extract]; omega
theorem at_list (s : ByteArray) (i : Nat) : at_ s i = (s.data.toList[i]?).getD 0 := by rw [at_, Array.getElem?_toList]
theorem extract_list (s : ByteArray) (a b : Nat) : (s.extract a b).data.toList = (s.data.toList.drop a).take (b - a) := by
  rw [← Go.Lib.extract_toList, ByteArray.toList_eq]
theorem at_extract {s : ByteArray} {a b j : Nat} (h : j < b - a) : at_ (s.extract a b) j = at_ s (a + j) := by
  rw [at_list, at_list, extract_list, List.getElem?_take, if_pos h, List.getElem?_drop]
end Go.Proofs.YtfplammpeghinaaDoorB

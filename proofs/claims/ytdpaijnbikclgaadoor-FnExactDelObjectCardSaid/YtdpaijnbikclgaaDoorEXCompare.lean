/- Part of the proof: an evaluator (YtdpaijnbikclgaaDoorEXCompare). -/
import Derived.Shelf.Small.Strs
import Derived.Test.YtdpaijnbikclgaaDoorEX
set_option linter.unusedVariables false
set_option linter.unusedSectionVars false
set_option linter.unusedSimpArgs false
namespace Go.Proofs.YtdpaijnbikclgaaDoorE
open Go
def fCompare : List Value → Option Value
 | [.string a, .string b] => some (.int .i64 (Go.Lib.compareBytes a.data.toList b.data.toList))
 | _ => none
theorem compare_xok {P : Program} {ρ : Go.Shelf.Ren} (L : Go.Proofs.Lays.n106 P ρ) {fn : Func} (hf : P.funcs[ρ.f 106]? = some fn) (hn : (fn.name == "runtime.NumGoroutine") = false) (hb : fn.body.isNone = false) :
  XOk P (ρ.f 106) (xVal fCompare) := xVal_ok hf hn hb fun l v h w => by
 unfold fCompare at h
 split at h
 ·injection h with h; subst h
  refine (Go.Proofs.Any.strings_Compare L _ _ w).mono fun e w' hh => ?_
  exact ⟨hh.1, hh.2 ▸ Go.RowKit.Below.refl _ _⟩
 ·cases h
theorem ult {a b : UInt8} : a < b ↔ a.toNat < b.toNat := UInt8.lt_iff_toNat_lt
theorem ueq {a b : UInt8} : a = b ↔ a.toNat = b.toNat := UInt8.toNat_inj.symm
theorem less_trans : ∀ {a b c : List UInt8}, Op.bytesLess a b = true → Op.bytesLess b c = true → Op.bytesLess a c = true
 | a, [], c, h1, h2 => by cases a <;> simp [Op.bytesLess] at h1
 | [], b :: ys, [], h1, h2 => by simp [Op.bytesLess] at h2
 | [], b :: ys, c :: zs, h1, h2 => by simp [Op.bytesLess]
 | a :: xs, b :: ys, [], h1, h2 => by simp [Op.bytesLess] at h2
 | a :: xs, b :: ys, c :: zs, h1, h2 => by
  simp only [Op.bytesLess, Bool.or_eq_true, Bool.and_eq_true, decide_eq_true_eq, beq_iff_eq] at h1 h2 ⊢
  rcases h1 with h1 | ⟨h1, h3⟩
  ·rcases h2 with h2 | ⟨h2, h4⟩
   ·left; rw [ult] at *; omega
   ·left; rw [← h2]; exact h1
  ·rcases h2 with h2 | ⟨h2, h4⟩
   ·left; rw [h1]; exact h2
   ·right; exact ⟨h1.trans h2, less_trans h3 h4⟩
theorem less_irr : ∀ a : List UInt8, Op.bytesLess a a = false
 | [] => rfl
 | a :: xs => by
  simp only [Op.bytesLess, less_irr xs, Bool.and_false, Bool.or_false, decide_eq_false_iff_not]
  rw [ult]; omega
theorem less_total : ∀ {a b : List UInt8}, Op.bytesLess a b = false → Op.bytesLess b a = false → a = b
 | [], [], _, _ => rfl
 | [], b :: ys, h, _ => by simp [Op.bytesLess] at h
 | a :: xs, [], _, h => by simp [Op.bytesLess] at h
 | a :: xs, b :: ys, h1, h2 => by
  simp only [Op.bytesLess, Bool.or_eq_false_iff, Bool.and_eq_false_iff, decide_eq_false_iff_not, beq_eq_false_iff_ne] at h1 h2
  have e : a = b := by rw [ueq]; rw [ult] at h1 h2; omega
  subst e
  rw [less_total (h1.2.resolve_left fun q => q rfl) (h2.2.resolve_left fun q => q rfl)]
theorem less_asym {a b : List UInt8} (h : Op.bytesLess a b = true) : Op.bytesLess b a = false := by
 cases e : Op.bytesLess b a with
 | false => rfl
 | true => have := less_trans h e; rw [less_irr] at this; cases this
theorem le_lt (a b : List UInt8) : (Op.bytesLess a b || a == b) = !Op.bytesLess b a := by
 cases h1 : Op.bytesLess a b with
 | true => rw [less_asym h1]; rfl
 | false =>
  cases h2 : Op.bytesLess b a with
  | true =>
   have : (a == b) = false := by
    rw [beq_eq_false_iff_ne]; intro e; subst e; rw [less_irr] at h2; cases h2
   rw [this]; rfl
  | false => rw [less_total h1 h2]; simp
theorem cmp_less : ∀ (a b : List UInt8), Go.Lib.compareBytes a b = if Op.bytesLess a b = true then -1 else if a = b then 0 else 1
 | [], [] => rfl
 | [], _ :: _ => rfl
 | _ :: _, [] => rfl
 | a :: xs, b :: ys => by
  rw [Go.Lib.compareBytes, cmp_less xs ys]
  simp only [Op.bytesLess, Bool.or_eq_true, Bool.and_eq_true, decide_eq_true_eq, beq_iff_eq, List.cons.injEq]
  by_cases h1 : a < b
  ·rw [if_pos h1, if_pos (.inl h1)]
  ·by_cases h2 : b < a
   ·have ne : a ≠ b := by intro e; subst e; exact h1 h2
    simp only [h1, h2, ne, if_false, if_true, false_or, false_and]
   ·have e : a = b := by rw [ueq]; rw [ult] at h1 h2; omega
    subst e
    simp only [h1, if_false, false_or, true_and]
end Go.Proofs.YtdpaijnbikclgaaDoorE

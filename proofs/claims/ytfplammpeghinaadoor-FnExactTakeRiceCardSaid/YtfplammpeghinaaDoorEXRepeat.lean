/- Part of the proof: an evaluator of the program's functions, and what it comes to (YtfplammpeghinaaDoorEXRepeat). -/
import Derived.Test.YtfplammpeghinaaDoorEX
import Derived.Shelf.Strings.Repeat
import Derived.Laws.BitsLemmas
import Derived.Laws.Bits64
set_option linter.unusedVariables false
set_option linter.unusedSectionVars false
set_option linter.unusedSimpArgs false
namespace Go.Proofs.YtfplammpeghinaaDoorE
open Go
/-! ### strings.Repeat, by the shelf's contract -/
def fRepeat : List Value → Option Value
  | [.string s, .int .i64 c] => if 0 ≤ c ∧ c ≤ 9223372036854775807 ∧ s.size * c.toNat ≤ 140737488355328 then some (.string ⟨(Go.Lib.repeatL s.data.toList c.toNat).toArray⟩) else none
  | _ => none
theorem repeat_xok {P : Program} {ρ : Go.Shelf.Ren} (L : Go.Proofs.Lays.n105 P ρ) (X : Go.Proofs.Builder.Extra P ρ) {fn : Func} (hf : P.funcs[ρ.f 105]? = some fn) (hn : (fn.name == "runtime.NumGoroutine") = false) (hb : fn.body.isNone = false) :
    XOk P (ρ.f 105) (xVal fRepeat) := xVal_ok hf hn hb fun l v h w => by
  unfold fRepeat at h
  split at h
  · split at h
    · rename_i s c hh
      injection h with h; subst h
      have := Go.Proofs.Any.strings_Repeat L X s c.toNat w (by omega) hh.2.2
      rw [show ((c.toNat : Nat) : Int) = c by omega] at this
      exact this
    · cases h
  · cases h
theorem repeat_one (b : UInt8) : ∀ n, Go.Lib.repeatL [b] n = List.replicate n b
  | 0 => rfl
  | n + 1 => by rw [Go.Lib.repeatL]; rw [repeat_one b n]; rfl
theorem wraps_i64_63 (n : Int) (h₀ : 0 ≤ n) (h₁ : n < 2 ^ 63) : IntKind.i64.wrap n = n := by rw [IntKind.wrap_i64]; omega
theorem and1_mod {x : Int} (h0 : 0 ≤ x) (h1 : x < 9223372036854775808) : bits .and .i64 x 1 = x % 2 := by
  have h := bits_mask .i64 63 (by decide) wraps_i64_63 1 (by decide) x h0 (by omega)
  have e : ((2 : Int) ^ 1 - 1) = 1 := by decide
  have e2 : ((2 : Int) ^ 1) = 2 := by decide
  rw [e, e2] at h
  exact h
end Go.Proofs.YtfplammpeghinaaDoorE

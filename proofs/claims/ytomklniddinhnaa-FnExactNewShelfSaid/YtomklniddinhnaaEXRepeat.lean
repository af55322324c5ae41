/- Part of the proof: an evaluator (YtomklniddinhnaaEXRepeat). -/
import Derived.Shelf.Strings.Repeat
import Derived.Laws.BitsLemmas
import Derived.Laws.Bits64
import Derived.Test.YtomklniddinhnaaEX
set_option linter.unusedVariables false
set_option linter.unusedSectionVars false
set_option linter.unusedSimpArgs false
namespace Go.Proofs.YtomklniddinhnaaE
open Go
def fRepeat : List Value → Option Value
 | [.string s, .int .i64 c] => if 0 ≤ c ∧ c ≤ 9223372036854775807 ∧ s.size * c.toNat ≤ 140737488355328 then some (.string ⟨(Go.Lib.repeatL s.data.toList c.toNat).toArray⟩) else none
 | _ => none
theorem repeat_xok {P : Program} {ρ : Go.Shelf.Ren} (L : Go.Proofs.Lays.n105 P ρ) (X : Go.Proofs.Builder.Extra P ρ) {fn : Func} (hf : P.funcs[ρ.f 105]? = some fn) (hn : (fn.name == "runtime.NumGoroutine") = false) (hb : fn.body.isNone = false) :
  XOk P (ρ.f 105) (xVal fRepeat) := xVal_ok hf hn hb fun l v h w => by
 unfold fRepeat at h
 split at h
 ·split at h
  ·rename_i s c hh
   injection h with h; subst h
   have := Go.Proofs.Any.strings_Repeat L X s c.toNat w (by omega) hh.2.2
   rw [show ((c.toNat : Nat) : Int) = c by omega] at this
   exact this
  ·cases h
 ·cases h
theorem repeat_one (b : UInt8) : ∀ n, Go.Lib.repeatL [b] n = List.replicate n b
 | 0 => rfl
 | n + 1 => by rw [Go.Lib.repeatL]; rw [repeat_one b n]; rfl
end Go.Proofs.YtomklniddinhnaaE

/- Part of the evaluator's contracts: str. -/
import Derived.Test.YtomklniddinhnaaFbase
namespace Go.Proofs.YtomklniddinhnaaB
open Go Go.Proofs.YtomklniddinhnaaE
set_option linter.unusedVariables false
set_option linter.unusedSectionVars false
set_option linter.unusedSimpArgs false
set_option maxHeartbeats 4000000
set_option maxRecDepth 20000
def at_ (s : ByteArray) (i : Nat) : UInt8 := (s.data[i]?).getD 0
theorem get_at {s : ByteArray} {i : Nat} (h : i < s.size) : s.data[i]? = some (at_ s i) := by
 have h' : i < s.data.size := h
 rw [at_, Array.getElem?_eq_getElem h']; rfl
theorem yG : (type_of% @get_at) := @get_at
end Go.Proofs.YtomklniddinhnaaB

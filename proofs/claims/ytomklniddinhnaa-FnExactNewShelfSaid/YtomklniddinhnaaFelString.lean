/- Part of the evaluator's contracts: el_String. -/
import Derived.Test.YtomklniddinhnaaFbase
import Derived.Test.YtomklniddinhnaaFmark
namespace Go.Proofs.YtomklniddinhnaaB
open Go Go.Proofs.YtomklniddinhnaaE
set_option linter.unusedVariables false
set_option linter.unusedSectionVars false
set_option linter.unusedSimpArgs false
set_option maxHeartbeats 4000000
set_option maxRecDepth 20000
def szString (l : List ByteArray) : Nat := (l.map fun x => x.size).sum
def mkString (x : Int) (m : Nat) : List ByteArray := (List.range m).map fun (i : Nat) => mt (x + (i : Int))
theorem mkString_len (x : Int) (m : Nat) : (mkString x m).length = m := by simp [mkString]
theorem tk_mkString (x : Int) (m : Nat) : List.take m (List.map strC (mkString x m)) = List.map strC (mkString x m) := List.take_of_length_le (by simp [mkString])
theorem yC : ((type_of% @tk_mkString) ∧ (type_of% @mkString_len)) := ⟨@tk_mkString, @mkString_len⟩
end Go.Proofs.YtomklniddinhnaaB

import Derived.Test.YtppgkkejddjacaaVFnAnsWInv
import Derived.Test.YtppgkkejddjacaaVFnAnsWFootNe
namespace Go.Proofs.YtppgkkejddjacaaW.PrintWords
open Go.RowKit
end Go.Proofs.YtppgkkejddjacaaW.PrintWords
namespace Go.Proofs.YtppgkkejddjacaaW.PrintLast
section
variable {ops : Array Oper} {a : Act} {o og : Oper} {g : Nat} {t : Tmp} {u : Bool}
end
end Go.Proofs.YtppgkkejddjacaaW.PrintLast

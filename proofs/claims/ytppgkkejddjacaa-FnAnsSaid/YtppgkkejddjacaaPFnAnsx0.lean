-- This text was written by the session's own program wip/tools/xprint.py, over the kit's print; Lean checks it.
import Derived.Test.YtppgkkejddjacaaProg
import Derived.Below
import Derived.Deep.Draws
import Derived.Deep.AppendLies
import Derived.Maps.AppendAt
import Derived.OwnWalk
import Derived.Laws.BytesArg
import Derived.Laws.MakeOwn
import Derived.Laws.OwnMore
import Derived.Deep.OwnRows
import Derived.Tactics
import Derived.Lib.ConvBytes
import Derived.Laws.Slices
import Derived.WalkKit
import Derived.KernelRfl
import Derived.RowKit3
import Derived.Deep.LoopGhost
import Derived.Deep.QuietTactic
import Derived.BigQuiet
import Derived.WideLaws
import Derived.Deep.DeepCutAuto
import Derived.Deep.CutBlock
import Derived.Deep.RegionHeld3
import Derived.Laws.Rows
import Derived.Lib.AppendStr
import Derived.ArgAppend
import Derived.Laws.IdiomCopy
import Derived.OrdersHeld
import Derived.Laws.BitsLemmas
import Derived.RowKit
import Derived.Test.YtppgkkejddjacaaVFnAnsXw
import Derived.Test.YtppgkkejddjacaaVFnAnsWWords
import Derived.Test.YtppgkkejddjacaaVFnAnsWLast
import Derived.Test.YtppgkkejddjacaaVFnAnsWTab
import Derived.Test.YtppgkkejddjacaaVFnAnsWFour
import Derived.Test.YtppgkkejddjacaaVFnAnsWQPut
import Derived.Test.YtppgkkejddjacaaVFnAnsWApart
import Derived.Test.YtppgkkejddjacaaVFnAnsWArr
import Derived.Test.YtppgkkejddjacaaVFnAnsWZeros
import Derived.Test.YtppgkkejddjacaaVFnAnsWFoot
import Derived.Test.YtppgkkejddjacaaVFnAnsWKept
import Derived.Test.YtppgkkejddjacaaVFnAnsWShare
import Derived.Test.YtppgkkejddjacaaVFnAnsWN
import Derived.Test.YtppgkkejddjacaaVFnAnsWFootNe
import Derived.Test.YtppgkkejddjacaaVFnAnsWAt
import Derived.Test.YtppgkkejddjacaaVFnAnsWEqStruct
import Derived.Test.YtppgkkejddjacaaVFnAnsWRepsOne
import Derived.Test.YtppgkkejddjacaaVFnAnsWInv
import Derived.Test.YtppgkkejddjacaaVFnAnsWInvWords
import Derived.Test.YtppgkkejddjacaaVFnAnsWGuard
import Derived.Test.YtppgkkejddjacaaVFnAnsWNEv
import Derived.Test.YtppgkkejddjacaaVFnAnsWMore
namespace Go.Proofs.Ytppgkkejddjacaa.PFnAns
open Go.RowKit Go.Proofs.YtppgkkejddjacaaW.PrintWords Go.Proofs.YtppgkkejddjacaaW.PrintLast Go.Proofs.YtppgkkejddjacaaW.PrintMore
attribute [local go_sem] max2_int min2_int max_two min_two max_three min_three max_four min_four   -- for this text's walks alone
set_option linter.unusedVariables false
set_option linter.unusedSimpArgs false



def errW : Option Int → Value
  | none => .nilIface
  | some c => .iface 0 (.int .i64 c)
theorem errW_none : errW none = .nilIface := rfl
theorem errW_some (c : Int) : errW (some c) = .iface 0 (.int .i64 c) := rfl

theorem info3 : (Try.prog.info? 3).map (fun i => (i.zero, i.size, i.bytes)) = some (some (.int .i64 0), 1, 8) := by kernel_rfl
-- the values' own types

end Go.Proofs.Ytppgkkejddjacaa.PFnAns

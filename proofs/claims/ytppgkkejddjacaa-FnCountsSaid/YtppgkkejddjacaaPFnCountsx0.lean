-- This text was written by the session's own program wip/tools/xprint.py, over the kit's print; Lean checks it.
import Derived.Test.YtppgkkejddjacaaProg
import Derived.Below
import Derived.Deep.Draws
import Derived.Deep.AppendLies
import Derived.Maps.AppendAt
import Derived.OwnWalk
import Derived.Laws.BytesArg
import Derived.Laws.MakeOwn
import Derived.Laws.OwnMore
import Derived.Deep.OwnRows
import Derived.Tactics
import Derived.Lib.ConvBytes
import Derived.Laws.Slices
import Derived.WalkKit
import Derived.KernelRfl
import Derived.RowKit3
import Derived.Deep.LoopGhost
import Derived.Deep.QuietTactic
import Derived.BigQuiet
import Derived.WideLaws
import Derived.Deep.DeepCutAuto
import Derived.Deep.CutBlock
import Derived.Deep.RegionHeld3
import Derived.Laws.Rows
import Derived.Lib.AppendStr
import Derived.ArgAppend
import Derived.Laws.IdiomCopy
import Derived.OrdersHeld
import Derived.Laws.BitsLemmas
import Derived.RowKit
import Derived.Test.YtppgkkejddjacaaXw
import Derived.Test.YtppgkkejddjacaaWWords
import Derived.Test.YtppgkkejddjacaaWLast
import Derived.Test.YtppgkkejddjacaaWTab
import Derived.Test.YtppgkkejddjacaaWFour
import Derived.Test.YtppgkkejddjacaaWQPut
import Derived.Test.YtppgkkejddjacaaWApart
import Derived.Test.YtppgkkejddjacaaWArr
import Derived.Test.YtppgkkejddjacaaWZeros
import Derived.Test.YtppgkkejddjacaaWFoot
import Derived.Test.YtppgkkejddjacaaWKept
import Derived.Test.YtppgkkejddjacaaWShare
import Derived.Test.YtppgkkejddjacaaWN
import Derived.Test.YtppgkkejddjacaaWFootNe
import Derived.Test.YtppgkkejddjacaaWAt
import Derived.Test.YtppgkkejddjacaaWEqStruct
import Derived.Test.YtppgkkejddjacaaWRepsOne
import Derived.Test.YtppgkkejddjacaaWInv
import Derived.Test.YtppgkkejddjacaaWInvWords
import Derived.Test.YtppgkkejddjacaaWGuard
import Derived.Test.YtppgkkejddjacaaWNEv
import Derived.Test.YtppgkkejddjacaaWMore
namespace Go.Proofs.Ytppgkkejddjacaa.PFnCounts
open Go.RowKit Go.Proofs.YtppgkkejddjacaaW.PrintWords Go.Proofs.YtppgkkejddjacaaW.PrintLast Go.Proofs.YtppgkkejddjacaaW.PrintMore
attribute [local go_sem] max2_int min2_int max_two min_two max_three min_three max_four min_four   -- for this text's walks alone
set_option linter.unusedVariables false
set_option linter.unusedSimpArgs false



def errW : Option Int → Value
  | none => .nilIface
  | some c => .iface 0 (.int .i64 c)
theorem errW_none : errW none = .nilIface := rfl
theorem errW_some (c : Int) : errW (some c) = .iface 0 (.int .i64 c) := rfl

theorem info3 : (Try.prog.info? 3).map (fun i => (i.zero, i.size, i.bytes)) = some (some (.int .i64 0), 1, 8) := by kernel_rfl
-- the values' own types

end Go.Proofs.Ytppgkkejddjacaa.PFnCounts

-- This text was written by the session's own program wip/tools/xprint.py, over the kit's print; Lean checks it.
import Derived.Test.YtlfhbmbckgajiaaProg
import Derived.Below
import Derived.Deep.Draws
import Derived.Deep.AppendLies
import Derived.Maps.AppendAt
import Derived.OwnWalk
import Derived.Laws.BytesArg
import Derived.Laws.MakeOwn
import Derived.Laws.OwnMore
import Derived.Deep.OwnRows
import Derived.Tactics
import Derived.Lib.ConvBytes
import Derived.Laws.Slices
import Derived.WalkKit
import Derived.KernelRfl
import Derived.RowKit3
import Derived.Deep.LoopGhost
import Derived.Deep.QuietTactic
import Derived.BigQuiet
import Derived.WideLaws
import Derived.Deep.DeepCutAuto
import Derived.Deep.CutBlock
import Derived.Deep.RegionHeld3
import Derived.Laws.Rows
import Derived.Lib.AppendStr
import Derived.ArgAppend
import Derived.Laws.IdiomCopy
import Derived.OrdersHeld
import Derived.Laws.BitsLemmas
import Derived.RowKit
import Derived.Test.YtlfhbmbckgajiaaXw
import Derived.Test.YtlfhbmbckgajiaaWWords
import Derived.Test.YtlfhbmbckgajiaaWLast
import Derived.Test.YtlfhbmbckgajiaaWTab
import Derived.Test.YtlfhbmbckgajiaaWFour
import Derived.Test.YtlfhbmbckgajiaaWQPut
import Derived.Test.YtlfhbmbckgajiaaWApart
import Derived.Test.YtlfhbmbckgajiaaWArr
import Derived.Test.YtlfhbmbckgajiaaWZeros
import Derived.Test.YtlfhbmbckgajiaaWFoot
import Derived.Test.YtlfhbmbckgajiaaWKept
import Derived.Test.YtlfhbmbckgajiaaWShare
import Derived.Test.YtlfhbmbckgajiaaWN
import Derived.Test.YtlfhbmbckgajiaaWFootNe
import Derived.Test.YtlfhbmbckgajiaaWAt
import Derived.Test.YtlfhbmbckgajiaaWEqStruct
import Derived.Test.YtlfhbmbckgajiaaWRepsOne
import Derived.Test.YtlfhbmbckgajiaaWInv
import Derived.Test.YtlfhbmbckgajiaaWInvWords
import Derived.Test.YtlfhbmbckgajiaaWGuard
import Derived.Test.YtlfhbmbckgajiaaWNEv
import Derived.Test.YtlfhbmbckgajiaaWMore
namespace Go.Proofs.Ytlfhbmbckgajiaa.PFnExactStartsOf
open Go.RowKit Go.Proofs.YtlfhbmbckgajiaaW.PrintWords Go.Proofs.YtlfhbmbckgajiaaW.PrintLast Go.Proofs.YtlfhbmbckgajiaaW.PrintMore
attribute [local go_sem] max2_int min2_int max_two min_two max_three min_three max_four min_four   -- for this text's walks alone
set_option linter.unusedVariables false
set_option linter.unusedSimpArgs false



def errW : Option Int → Value
  | none => .nilIface
  | some c => .iface 0 (.int .i64 c)
theorem errW_none : errW none = .nilIface := rfl
theorem errW_some (c : Int) : errW (some c) = .iface 0 (.int .i64 c) := rfl

theorem info3 : (Try.prog.info? 3).map (fun i => (i.zero, i.size, i.bytes)) = some (some (.int .i64 0), 1, 8) := by kernel_rfl
-- the values' own types

end Go.Proofs.Ytlfhbmbckgajiaa.PFnExactStartsOf

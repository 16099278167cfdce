-- The printed text GPredTx0, less one import.
-- Written by the session's program wip/myprint.py.
import Derived.Test.YtbigfkfnlbfkhaaProg
import Derived.Below
import Derived.Deep.Draws
import Derived.Deep.AppendLies
import Derived.Maps.AppendAt
import Derived.OwnWalk
import Derived.Laws.BytesArg
import Derived.Laws.MakeOwn
import Derived.Laws.OwnMore
import Derived.Deep.OwnRows
import Derived.Tactics
import Derived.Lib.ConvBytes
import Derived.Laws.Slices
import Derived.WalkKit
import Derived.KernelRfl
import Derived.RowKit3
import Derived.Deep.LoopGhost
import Derived.Deep.QuietTactic
import Derived.BigQuiet
import Derived.WideLaws
import Derived.Deep.DeepCutAuto
import Derived.Deep.CutBlock
import Derived.Deep.RegionHeld3
import Derived.Laws.Rows
import Derived.Lib.AppendStr
import Derived.ArgAppend
import Derived.Laws.IdiomCopy
import Derived.OrdersHeld
import Derived.Laws.BitsLemmas
import Derived.RowKit
import Derived.Test.YtbigfkfnlbfkhaaHBase
import Derived.Test.YtbigfkfnlbfkhaaHPred
import Derived.Test.YtbigfkfnlbfkhaaGPredFx
import Derived.Test.YtbigfkfnlbfkhaaGPredx2
import Derived.Test.YtbigfkfnlbfkhaaGPredx5
import Derived.Test.YtbigfkfnlbfkhaaGPredDx2
import Derived.Test.YtbigfkfnlbfkhaaGPredSx2
import Derived.Test.YtbigfkfnlbfkhaaWWords
import Derived.Test.YtbigfkfnlbfkhaaWLast
import Derived.Test.YtbigfkfnlbfkhaaWTab
import Derived.Test.YtbigfkfnlbfkhaaWFour
import Derived.Test.YtbigfkfnlbfkhaaWQPut
import Derived.Test.YtbigfkfnlbfkhaaWApart
import Derived.Test.YtbigfkfnlbfkhaaWArr
import Derived.Test.YtbigfkfnlbfkhaaWZeros
import Derived.Test.YtbigfkfnlbfkhaaWFoot
import Derived.Test.YtbigfkfnlbfkhaaWKept
import Derived.Test.YtbigfkfnlbfkhaaWShare
import Derived.Test.YtbigfkfnlbfkhaaWN
import Derived.Test.YtbigfkfnlbfkhaaWFootNe
import Derived.Test.YtbigfkfnlbfkhaaWAt
import Derived.Test.YtbigfkfnlbfkhaaWEqStruct
import Derived.Test.YtbigfkfnlbfkhaaWRepsOne
import Derived.Test.YtbigfkfnlbfkhaaWInv
import Derived.Test.YtbigfkfnlbfkhaaWInvWords
import Derived.Test.YtbigfkfnlbfkhaaWGuard
import Derived.Test.YtbigfkfnlbfkhaaWNEv
import Derived.Test.YtbigfkfnlbfkhaaWMore
namespace Go.Proofs.Ytbigfkfnlbfkhaa.GPredT
open Go.RowKit Go.Proofs.YtbigfkfnlbfkhaaW.PrintWords Go.Proofs.YtbigfkfnlbfkhaaW.PrintLast Go.Proofs.YtbigfkfnlbfkhaaW.PrintMore
attribute [local go_sem] max2_int min2_int max_two min_two max_three min_three max_four min_four   -- for this text's walks alone
set_option linter.unusedVariables false
set_option linter.unusedSimpArgs false
open Go.Proofs.Ytbigfkfnlbfkhaa.HBase Go.Proofs.Ytbigfkfnlbfkhaa.HPred Go.Proofs.Ytbigfkfnlbfkhaa.GPredF Go.Proofs.Ytbigfkfnlbfkhaa.GPred Go.Proofs.Ytbigfkfnlbfkhaa.GPredD Go.Proofs.Ytbigfkfnlbfkhaa.GPredS
attribute [local go_sem] u8_max u8_sgn



def errW : Option Int → Value
  | none => .nilIface
  | some c => .iface 0 (.int .i64 c)
theorem errW_none : errW none = .nilIface := rfl
theorem errW_some (c : Int) : errW (some c) = .iface 0 (.int .i64 c) := rfl

theorem info3 : (Try.prog.info? 3).map (fun i => (i.zero, i.size, i.bytes)) = some (some (.int .i64 0), 1, 8) := by kernel_rfl
-- the values' own types

end Go.Proofs.Ytbigfkfnlbfkhaa.GPredT

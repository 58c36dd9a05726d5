import Derived.Test.YtadooofomkdaoaaProg
import Derived.Below
import Derived.Deep.Draws
import Derived.Deep.AppendLies
import Derived.Maps.AppendAt
import Derived.OwnWalk
import Derived.Laws.BytesArg
import Derived.Laws.MakeOwn
import Derived.Laws.OwnMore
import Derived.Deep.OwnRows
import Derived.Tactics
import Derived.Lib.ConvBytes
import Derived.Laws.Slices
import Derived.WalkKit
import Derived.KernelRfl
import Derived.RowKit3
import Derived.Deep.LoopGhost
import Derived.Deep.QuietTactic
import Derived.BigQuiet
import Derived.WideLaws
import Derived.Deep.DeepCutAuto
import Derived.Deep.CutBlock
import Derived.Deep.RegionHeld3
import Derived.Laws.Rows
import Derived.Lib.AppendStr
import Derived.ArgAppend
import Derived.Laws.IdiomCopy
import Derived.OrdersHeld
import Derived.Laws.BitsLemmas
import Derived.RowKit
import Derived.Test.YtadooofomkdaoaaWWords
import Derived.Test.YtadooofomkdaoaaWLast
import Derived.Test.YtadooofomkdaoaaWTab
import Derived.Test.YtadooofomkdaoaaWFour
import Derived.Test.YtadooofomkdaoaaWQPut
import Derived.Test.YtadooofomkdaoaaWApart
import Derived.Test.YtadooofomkdaoaaWArr
import Derived.Test.YtadooofomkdaoaaWZeros
import Derived.Test.YtadooofomkdaoaaWFoot
import Derived.Test.YtadooofomkdaoaaWKept
import Derived.Test.YtadooofomkdaoaaWShare
import Derived.Test.YtadooofomkdaoaaWN
import Derived.Test.YtadooofomkdaoaaWFootNe
import Derived.Test.YtadooofomkdaoaaWAt
import Derived.Test.YtadooofomkdaoaaWEqStruct
import Derived.Test.YtadooofomkdaoaaWRepsOne
import Derived.Test.YtadooofomkdaoaaWInv
import Derived.Test.YtadooofomkdaoaaWInvWords
import Derived.Test.YtadooofomkdaoaaWGuard
import Derived.Test.YtadooofomkdaoaaWNEv
import Derived.Test.YtadooofomkdaoaaWMore
namespace Go.Proofs.Ytadooofomkdaoaa.QFnExactWeightsOf
open Go.RowKit Go.Proofs.YtadooofomkdaoaaW.PrintWords Go.Proofs.YtadooofomkdaoaaW.PrintLast Go.Proofs.YtadooofomkdaoaaW.PrintMore
attribute [local go_sem] max2_int min2_int max_two min_two max_three min_three max_four min_four   -- for this text's walks alone
set_option linter.unusedVariables false
set_option linter.unusedSimpArgs false



def errW : Option Int → Value
  | none => .nilIface
  | some c => .iface 0 (.int .i64 c)
theorem errW_none : errW none = .nilIface := rfl
theorem errW_some (c : Int) : errW (some c) = .iface 0 (.int .i64 c) := rfl

theorem info3 : (Try.prog.info? 3).map (fun i => (i.zero, i.size, i.bytes)) = some (some (.int .i64 0), 1, 8) := by kernel_rfl
-- the values' own types

end Go.Proofs.Ytadooofomkdaoaa.QFnExactWeightsOf

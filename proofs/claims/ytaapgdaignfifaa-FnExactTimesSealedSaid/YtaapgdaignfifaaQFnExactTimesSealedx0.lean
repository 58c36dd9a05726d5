import Derived.Test.YtaapgdaignfifaaProg
import Derived.Below
import Derived.Deep.Draws
import Derived.Deep.AppendLies
import Derived.Maps.AppendAt
import Derived.OwnWalk
import Derived.Laws.BytesArg
import Derived.Laws.MakeOwn
import Derived.Laws.OwnMore
import Derived.Deep.OwnRows
import Derived.Tactics
import Derived.Lib.ConvBytes
import Derived.Laws.Slices
import Derived.WalkKit
import Derived.KernelRfl
import Derived.RowKit3
import Derived.Deep.LoopGhost
import Derived.Deep.QuietTactic
import Derived.BigQuiet
import Derived.WideLaws
import Derived.Deep.DeepCutAuto
import Derived.Deep.CutBlock
import Derived.Deep.RegionHeld3
import Derived.Laws.Rows
import Derived.Lib.AppendStr
import Derived.ArgAppend
import Derived.Laws.IdiomCopy
import Derived.OrdersHeld
import Derived.Laws.BitsLemmas
import Derived.RowKit
import Derived.Test.YtaapgdaignfifaaWWords
import Derived.Test.YtaapgdaignfifaaWLast
import Derived.Test.YtaapgdaignfifaaWTab
import Derived.Test.YtaapgdaignfifaaWFour
import Derived.Test.YtaapgdaignfifaaWQPut
import Derived.Test.YtaapgdaignfifaaWApart
import Derived.Test.YtaapgdaignfifaaWArr
import Derived.Test.YtaapgdaignfifaaWZeros
import Derived.Test.YtaapgdaignfifaaWFoot
import Derived.Test.YtaapgdaignfifaaWKept
import Derived.Test.YtaapgdaignfifaaWShare
import Derived.Test.YtaapgdaignfifaaWN
import Derived.Test.YtaapgdaignfifaaWFootNe
import Derived.Test.YtaapgdaignfifaaWAt
import Derived.Test.YtaapgdaignfifaaWEqStruct
import Derived.Test.YtaapgdaignfifaaWRepsOne
import Derived.Test.YtaapgdaignfifaaWInv
import Derived.Test.YtaapgdaignfifaaWInvWords
import Derived.Test.YtaapgdaignfifaaWGuard
import Derived.Test.YtaapgdaignfifaaWNEv
import Derived.Test.YtaapgdaignfifaaWMore
namespace Go.Proofs.Ytaapgdaignfifaa.QFnExactTimesSealed
open Go.RowKit Go.Proofs.YtaapgdaignfifaaW.PrintWords Go.Proofs.YtaapgdaignfifaaW.PrintLast Go.Proofs.YtaapgdaignfifaaW.PrintMore
attribute [local go_sem] max2_int min2_int max_two min_two max_three min_three max_four min_four   -- for this text's walks alone
set_option linter.unusedVariables false
set_option linter.unusedSimpArgs false



def errW : Option Int → Value
  | none => .nilIface
  | some c => .iface 0 (.int .i64 c)
theorem errW_none : errW none = .nilIface := rfl
theorem errW_some (c : Int) : errW (some c) = .iface 0 (.int .i64 c) := rfl

-- the values' own types

end Go.Proofs.Ytaapgdaignfifaa.QFnExactTimesSealed

import Derived.Test.YtoigapileicelaaProg
import Derived.Below
import Derived.Deep.Draws
import Derived.Deep.AppendLies
import Derived.Maps.AppendAt
import Derived.OwnWalk
import Derived.Laws.BytesArg
import Derived.Laws.MakeOwn
import Derived.Laws.OwnMore
import Derived.Deep.OwnRows
import Derived.Tactics
import Derived.Lib.ConvBytes
import Derived.Laws.Slices
import Derived.WalkKit
import Derived.KernelRfl
import Derived.RowKit3
import Derived.Deep.LoopGhost
import Derived.Deep.QuietTactic
import Derived.BigQuiet
import Derived.WideLaws
import Derived.Deep.DeepCutAuto
import Derived.Deep.CutBlock
import Derived.Deep.RegionHeld3
import Derived.Laws.Rows
import Derived.Lib.AppendStr
import Derived.ArgAppend
import Derived.Laws.IdiomCopy
import Derived.OrdersHeld
import Derived.Laws.BitsLemmas
import Derived.RowKit
import Derived.Test.YtoigapileicelaaWWords
import Derived.Test.YtoigapileicelaaWLast
import Derived.Test.YtoigapileicelaaWTab
import Derived.Test.YtoigapileicelaaWFour
import Derived.Test.YtoigapileicelaaWQPut
import Derived.Test.YtoigapileicelaaWApart
import Derived.Test.YtoigapileicelaaWArr
import Derived.Test.YtoigapileicelaaWZeros
import Derived.Test.YtoigapileicelaaWFoot
import Derived.Test.YtoigapileicelaaWKept
import Derived.Test.YtoigapileicelaaWShare
import Derived.Test.YtoigapileicelaaWN
import Derived.Test.YtoigapileicelaaWFootNe
import Derived.Test.YtoigapileicelaaWAt
import Derived.Test.YtoigapileicelaaWEqStruct
import Derived.Test.YtoigapileicelaaWRepsOne
import Derived.Test.YtoigapileicelaaWInv
import Derived.Test.YtoigapileicelaaWInvWords
import Derived.Test.YtoigapileicelaaWGuard
import Derived.Test.YtoigapileicelaaWNEv
import Derived.Test.YtoigapileicelaaWMore
namespace Go.Proofs.Ytoigapileicelaa.QFnExactOrderAt
open Go.RowKit Go.Proofs.YtoigapileicelaaW.PrintWords Go.Proofs.YtoigapileicelaaW.PrintLast Go.Proofs.YtoigapileicelaaW.PrintMore
attribute [local go_sem] max2_int min2_int max_two min_two max_three min_three max_four min_four   -- for this text's walks alone
set_option linter.unusedVariables false
set_option linter.unusedSimpArgs false



def errW : Option Int → Value
  | none => .nilIface
  | some c => .iface 0 (.int .i64 c)
theorem errW_none : errW none = .nilIface := rfl
theorem errW_some (c : Int) : errW (some c) = .iface 0 (.int .i64 c) := rfl

theorem info3 : (Try.prog.info? 3).map (fun i => (i.zero, i.size, i.bytes)) = some (some (.int .i64 0), 1, 8) := by kernel_rfl
-- the values' own types

end Go.Proofs.Ytoigapileicelaa.QFnExactOrderAt

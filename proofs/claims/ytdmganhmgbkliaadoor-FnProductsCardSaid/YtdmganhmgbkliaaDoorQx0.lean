-- printed by a program of this session out of the translation; Lean checks it
import Derived.Test.YtdmganhmgbkliaaDoorProg
import Derived.Below
import Derived.Deep.Draws
import Derived.Deep.AppendLies
import Derived.Maps.AppendAt
import Derived.OwnWalk
import Derived.Laws.BytesArg
import Derived.Laws.MakeOwn
import Derived.Laws.OwnMore
import Derived.Deep.OwnRows
import Derived.Tactics
import Derived.Lib.ConvBytes
import Derived.Laws.Slices
import Derived.WalkKit
import Derived.KernelRfl
import Derived.RowKit3
import Derived.Deep.LoopGhost
import Derived.Deep.QuietTactic
import Derived.BigQuiet
import Derived.WideLaws
import Derived.Deep.DeepCutAuto
import Derived.Deep.CutBlock
import Derived.Deep.RegionHeld3
import Derived.Laws.Rows
import Derived.Lib.AppendStr
import Derived.ArgAppend
import Derived.Laws.IdiomCopy
import Derived.OrdersHeld
import Derived.Laws.BitsLemmas
import Derived.RowKit
import Derived.Test.YtdmganhmgbkliaaDoorWWords
import Derived.Test.YtdmganhmgbkliaaDoorWLast
import Derived.Test.YtdmganhmgbkliaaDoorWTab
import Derived.Test.YtdmganhmgbkliaaDoorWFour
import Derived.Test.YtdmganhmgbkliaaDoorWQPut
import Derived.Test.YtdmganhmgbkliaaDoorWApart
import Derived.Test.YtdmganhmgbkliaaDoorWArr
import Derived.Test.YtdmganhmgbkliaaDoorWZeros
import Derived.Test.YtdmganhmgbkliaaDoorWFoot
import Derived.Test.YtdmganhmgbkliaaDoorWKept
import Derived.Test.YtdmganhmgbkliaaDoorWShare
import Derived.Test.YtdmganhmgbkliaaDoorWN
import Derived.Test.YtdmganhmgbkliaaDoorWFootNe
import Derived.Test.YtdmganhmgbkliaaDoorWAt
import Derived.Test.YtdmganhmgbkliaaDoorWEqStruct
import Derived.Test.YtdmganhmgbkliaaDoorWRepsOne
import Derived.Test.YtdmganhmgbkliaaDoorWInv
import Derived.Test.YtdmganhmgbkliaaDoorWInvWords
import Derived.Test.YtdmganhmgbkliaaDoorWGuard
import Derived.Test.YtdmganhmgbkliaaDoorWNEv
import Derived.Test.YtdmganhmgbkliaaDoorWMore
namespace Go.Proofs.YtdmganhmgbkliaaDoor.Q
open Go.RowKit Go.Proofs.YtdmganhmgbkliaaDoorW.PrintWords Go.Proofs.YtdmganhmgbkliaaDoorW.PrintLast Go.Proofs.YtdmganhmgbkliaaDoorW.PrintMore
attribute [local go_sem] max2_int min2_int max_two min_two max_three min_three max_four min_four   -- for this text's walks alone
set_option linter.unusedVariables false
set_option linter.unusedSimpArgs false



def errW : Option Int → Value
  | none => .nilIface
  | some c => .iface 0 (.int .i64 c)
theorem errW_none : errW none = .nilIface := rfl
theorem errW_some (c : Int) : errW (some c) = .iface 0 (.int .i64 c) := rfl

theorem info3 : (Tryd.prog.info? 3).map (fun i => (i.zero, i.size, i.bytes)) = some (some (.int .i64 0), 1, 8) := by kernel_rfl
-- the values' own types

end Go.Proofs.YtdmganhmgbkliaaDoor.Q

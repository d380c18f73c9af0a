-- Written for this claim by the kit's print program (print.py), which this session called for several functions at once
import Derived.Test.YtlfloandockgbaaDoorProg
import Derived.Below
import Derived.Deep.Draws
import Derived.Deep.AppendLies
import Derived.Maps.AppendAt
import Derived.OwnWalk
import Derived.Laws.BytesArg
import Derived.Laws.MakeOwn
import Derived.Laws.OwnMore
import Derived.Deep.OwnRows
import Derived.Tactics
import Derived.Lib.ConvBytes
import Derived.Laws.Slices
import Derived.WalkKit
import Derived.KernelRfl
import Derived.RowKit3
import Derived.Deep.LoopGhost
import Derived.Deep.QuietTactic
import Derived.BigQuiet
import Derived.WideLaws
import Derived.Deep.DeepCutAuto
import Derived.Deep.CutBlock
import Derived.Deep.RegionHeld3
import Derived.Laws.Rows
import Derived.Lib.AppendStr
import Derived.ArgAppend
import Derived.Laws.IdiomCopy
import Derived.OrdersHeld
import Derived.Laws.BitsLemmas
import Derived.RowKit
import Derived.Test.YtlfloandockgbaaDoorBits0
import Derived.Test.YtlfloandockgbaaDoorWWords
import Derived.Test.YtlfloandockgbaaDoorWLast
import Derived.Test.YtlfloandockgbaaDoorWTab
import Derived.Test.YtlfloandockgbaaDoorWFour
import Derived.Test.YtlfloandockgbaaDoorWQPut
import Derived.Test.YtlfloandockgbaaDoorWApart
import Derived.Test.YtlfloandockgbaaDoorWArr
import Derived.Test.YtlfloandockgbaaDoorWZeros
import Derived.Test.YtlfloandockgbaaDoorWFoot
import Derived.Test.YtlfloandockgbaaDoorWKept
import Derived.Test.YtlfloandockgbaaDoorWShare
import Derived.Test.YtlfloandockgbaaDoorWN
import Derived.Test.YtlfloandockgbaaDoorWFootNe
import Derived.Test.YtlfloandockgbaaDoorWAt
import Derived.Test.YtlfloandockgbaaDoorWEqStruct
import Derived.Test.YtlfloandockgbaaDoorWRepsOne
import Derived.Test.YtlfloandockgbaaDoorWInv
import Derived.Test.YtlfloandockgbaaDoorWInvWords
import Derived.Test.YtlfloandockgbaaDoorWGuard
import Derived.Test.YtlfloandockgbaaDoorWNEv
import Derived.Test.YtlfloandockgbaaDoorWMore
namespace Go.Proofs.YtlfloandockgbaaDoor.PAll
open Go.RowKit Go.Proofs.YtlfloandockgbaaDoor.Uni Go.Proofs.YtlfloandockgbaaDoorW.PrintWords Go.Proofs.YtlfloandockgbaaDoorW.PrintLast Go.Proofs.YtlfloandockgbaaDoorW.PrintMore
attribute [local go_sem] max2_int min2_int max_two min_two max_three min_three max_four min_four   -- for this text's walks alone
set_option linter.unusedVariables false
set_option linter.unusedSimpArgs false



def errW : Option Int → Value
  | none => .nilIface
  | some c => .iface 0 (.int .i64 c)
theorem errW_none : errW none = .nilIface := rfl
theorem errW_some (c : Int) : errW (some c) = .iface 0 (.int .i64 c) := rfl

-- the values' own types

end Go.Proofs.YtlfloandockgbaaDoor.PAll

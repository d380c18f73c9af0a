-- Written for this claim by the kit's print program (print.py), which this session called for several functions at once
import Derived.Test.YthdkfgpcdghblaaDoorProg
import Derived.Below
import Derived.Deep.Draws
import Derived.Deep.AppendLies
import Derived.Maps.AppendAt
import Derived.OwnWalk
import Derived.Laws.BytesArg
import Derived.Laws.MakeOwn
import Derived.Laws.OwnMore
import Derived.Deep.OwnRows
import Derived.Tactics
import Derived.Lib.ConvBytes
import Derived.Laws.Slices
import Derived.WalkKit
import Derived.KernelRfl
import Derived.RowKit3
import Derived.Deep.LoopGhost
import Derived.Deep.QuietTactic
import Derived.BigQuiet
import Derived.WideLaws
import Derived.Deep.DeepCutAuto
import Derived.Deep.CutBlock
import Derived.Deep.RegionHeld3
import Derived.Laws.Rows
import Derived.Lib.AppendStr
import Derived.ArgAppend
import Derived.Laws.IdiomCopy
import Derived.OrdersHeld
import Derived.Laws.BitsLemmas
import Derived.RowKit
import Derived.Test.YthdkfgpcdghblaaDoorText0
import Derived.Test.YthdkfgpcdghblaaDoorWWords
import Derived.Test.YthdkfgpcdghblaaDoorWLast
import Derived.Test.YthdkfgpcdghblaaDoorWTab
import Derived.Test.YthdkfgpcdghblaaDoorWFour
import Derived.Test.YthdkfgpcdghblaaDoorWQPut
import Derived.Test.YthdkfgpcdghblaaDoorWApart
import Derived.Test.YthdkfgpcdghblaaDoorWArr
import Derived.Test.YthdkfgpcdghblaaDoorWZeros
import Derived.Test.YthdkfgpcdghblaaDoorWFoot
import Derived.Test.YthdkfgpcdghblaaDoorWKept
import Derived.Test.YthdkfgpcdghblaaDoorWShare
import Derived.Test.YthdkfgpcdghblaaDoorWN
import Derived.Test.YthdkfgpcdghblaaDoorWFootNe
import Derived.Test.YthdkfgpcdghblaaDoorWAt
import Derived.Test.YthdkfgpcdghblaaDoorWEqStruct
import Derived.Test.YthdkfgpcdghblaaDoorWRepsOne
import Derived.Test.YthdkfgpcdghblaaDoorWInv
import Derived.Test.YthdkfgpcdghblaaDoorWInvWords
import Derived.Test.YthdkfgpcdghblaaDoorWGuard
import Derived.Test.YthdkfgpcdghblaaDoorWNEv
import Derived.Test.YthdkfgpcdghblaaDoorWMore
namespace Go.Proofs.YthdkfgpcdghblaaDoor.PFin
open Go.RowKit Go.Proofs.YthdkfgpcdghblaaDoor.PAll Go.Proofs.YthdkfgpcdghblaaDoor.Cal Go.Proofs.YthdkfgpcdghblaaDoorW.PrintWords Go.Proofs.YthdkfgpcdghblaaDoorW.PrintLast Go.Proofs.YthdkfgpcdghblaaDoorW.PrintMore
attribute [local go_sem] max2_int min2_int max_two min_two max_three min_three max_four min_four   -- for this text's walks alone
set_option linter.unusedVariables false
set_option linter.unusedSimpArgs false



def errW : Option Int → Value
  | none => .nilIface
  | some c => .iface 0 (.int .i64 c)
theorem errW_none : errW none = .nilIface := rfl
theorem errW_some (c : Int) : errW (some c) = .iface 0 (.int .i64 c) := rfl

-- the values' own types

end Go.Proofs.YthdkfgpcdghblaaDoor.PFin

-- Written by a program of this session (gprint.py), by the kit's print with given contracts.
import Derived.Test.YtifbpchakoljaaaDoorProg
import Derived.Below
import Derived.Deep.Draws
import Derived.Deep.AppendLies
import Derived.Maps.AppendAt
import Derived.OwnWalk
import Derived.Laws.BytesArg
import Derived.Laws.MakeOwn
import Derived.Laws.OwnMore
import Derived.Deep.OwnRows
import Derived.Tactics
import Derived.Lib.ConvBytes
import Derived.Laws.Slices
import Derived.WalkKit
import Derived.KernelRfl
import Derived.RowKit3
import Derived.Deep.LoopGhost
import Derived.Deep.QuietTactic
import Derived.BigQuiet
import Derived.WideLaws
import Derived.Deep.DeepCutAuto
import Derived.Deep.CutBlock
import Derived.Deep.RegionHeld3
import Derived.Laws.Rows
import Derived.Lib.AppendStr
import Derived.ArgAppend
import Derived.Laws.IdiomCopy
import Derived.OrdersHeld
import Derived.Laws.BitsLemmas
import Derived.RowKit
import Derived.Test.YtifbpchakoljaaaDoorFrmA
import Derived.Test.YtifbpchakoljaaaDoorWWords
import Derived.Test.YtifbpchakoljaaaDoorWLast
import Derived.Test.YtifbpchakoljaaaDoorWTab
import Derived.Test.YtifbpchakoljaaaDoorWFour
import Derived.Test.YtifbpchakoljaaaDoorWQPut
import Derived.Test.YtifbpchakoljaaaDoorWApart
import Derived.Test.YtifbpchakoljaaaDoorWArr
import Derived.Test.YtifbpchakoljaaaDoorWZeros
import Derived.Test.YtifbpchakoljaaaDoorWFoot
import Derived.Test.YtifbpchakoljaaaDoorWKept
import Derived.Test.YtifbpchakoljaaaDoorWShare
import Derived.Test.YtifbpchakoljaaaDoorWN
import Derived.Test.YtifbpchakoljaaaDoorWFootNe
import Derived.Test.YtifbpchakoljaaaDoorWAt
import Derived.Test.YtifbpchakoljaaaDoorWEqStruct
import Derived.Test.YtifbpchakoljaaaDoorWRepsOne
import Derived.Test.YtifbpchakoljaaaDoorWInv
import Derived.Test.YtifbpchakoljaaaDoorWInvWords
import Derived.Test.YtifbpchakoljaaaDoorWGuard
import Derived.Test.YtifbpchakoljaaaDoorWNEv
import Derived.Test.YtifbpchakoljaaaDoorWMore
namespace Go.Proofs.YtifbpchakoljaaaDoor.P
open Go.RowKit Go.Proofs.YtifbpchakoljaaaDoor.Giv Go.Proofs.YtifbpchakoljaaaDoorW.PrintWords Go.Proofs.YtifbpchakoljaaaDoorW.PrintLast Go.Proofs.YtifbpchakoljaaaDoorW.PrintMore
attribute [local go_sem] max2_int min2_int max_two min_two max_three min_three max_four min_four   -- for this text's walks alone
set_option linter.unusedVariables false
set_option linter.unusedSimpArgs false



def errW : Option Int → Value
  | none => .nilIface
  | some c => .iface 0 (.int .i64 c)
theorem errW_none : errW none = .nilIface := rfl
theorem errW_some (c : Int) : errW (some c) = .iface 0 (.int .i64 c) := rfl

theorem info5 : (Tryd.prog.info? 5).map (fun i => (i.zero, i.size, i.bytes)) = some (some (.int .u8 0), 1, 1) := by kernel_rfl
theorem info9 : (Tryd.prog.info? 9).map (fun i => (i.zero, i.size, i.bytes)) = some (some (.string ⟨#[]⟩), 1, 16) := by kernel_rfl
-- the values' own types

end Go.Proofs.YtifbpchakoljaaaDoor.P

-- Written by a program of this session (gprint.py), by the kit's print with given contracts.
import Derived.Test.YtdgbfmblnkjmjaaDoorProg
import Derived.Below
import Derived.Deep.Draws
import Derived.Deep.AppendLies
import Derived.Maps.AppendAt
import Derived.OwnWalk
import Derived.Laws.BytesArg
import Derived.Laws.MakeOwn
import Derived.Laws.OwnMore
import Derived.Deep.OwnRows
import Derived.Tactics
import Derived.Lib.ConvBytes
import Derived.Laws.Slices
import Derived.WalkKit
import Derived.KernelRfl
import Derived.RowKit3
import Derived.Deep.LoopGhost
import Derived.Deep.QuietTactic
import Derived.BigQuiet
import Derived.WideLaws
import Derived.Deep.DeepCutAuto
import Derived.Deep.CutBlock
import Derived.Deep.RegionHeld3
import Derived.Laws.Rows
import Derived.Lib.AppendStr
import Derived.ArgAppend
import Derived.Laws.IdiomCopy
import Derived.OrdersHeld
import Derived.Laws.BitsLemmas
import Derived.RowKit
import Derived.Test.YtdgbfmblnkjmjaaDoorGivH
import Derived.Test.YtdgbfmblnkjmjaaDoorWWords
import Derived.Test.YtdgbfmblnkjmjaaDoorWLast
import Derived.Test.YtdgbfmblnkjmjaaDoorWTab
import Derived.Test.YtdgbfmblnkjmjaaDoorWFour
import Derived.Test.YtdgbfmblnkjmjaaDoorWQPut
import Derived.Test.YtdgbfmblnkjmjaaDoorWApart
import Derived.Test.YtdgbfmblnkjmjaaDoorWArr
import Derived.Test.YtdgbfmblnkjmjaaDoorWZeros
import Derived.Test.YtdgbfmblnkjmjaaDoorWFoot
import Derived.Test.YtdgbfmblnkjmjaaDoorWKept
import Derived.Test.YtdgbfmblnkjmjaaDoorWShare
import Derived.Test.YtdgbfmblnkjmjaaDoorWN
import Derived.Test.YtdgbfmblnkjmjaaDoorWFootNe
import Derived.Test.YtdgbfmblnkjmjaaDoorWAt
import Derived.Test.YtdgbfmblnkjmjaaDoorWEqStruct
import Derived.Test.YtdgbfmblnkjmjaaDoorWRepsOne
import Derived.Test.YtdgbfmblnkjmjaaDoorWInv
import Derived.Test.YtdgbfmblnkjmjaaDoorWInvWords
import Derived.Test.YtdgbfmblnkjmjaaDoorWGuard
import Derived.Test.YtdgbfmblnkjmjaaDoorWNEv
import Derived.Test.YtdgbfmblnkjmjaaDoorWMore
namespace Go.Proofs.YtdgbfmblnkjmjaaDoor.D
open Go.RowKit Go.Proofs.YtdgbfmblnkjmjaaDoor.Giv Go.Proofs.YtdgbfmblnkjmjaaDoorW.PrintWords Go.Proofs.YtdgbfmblnkjmjaaDoorW.PrintLast Go.Proofs.YtdgbfmblnkjmjaaDoorW.PrintMore
attribute [local go_sem] max2_int min2_int max_two min_two max_three min_three max_four min_four   -- for this text's walks alone
set_option linter.unusedVariables false
set_option linter.unusedSimpArgs false



def errW : Option Int → Value
  | none => .nilIface
  | some c => .iface 0 (.int .i64 c)
theorem errW_none : errW none = .nilIface := rfl
theorem errW_some (c : Int) : errW (some c) = .iface 0 (.int .i64 c) := rfl

theorem info5 : (Tryd.prog.info? 5).map (fun i => (i.zero, i.size, i.bytes)) = some (some (.int .u8 0), 1, 1) := by kernel_rfl
-- the values' own types

end Go.Proofs.YtdgbfmblnkjmjaaDoor.D

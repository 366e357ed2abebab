-- Written by a program of this session (gprint.py), by the kit's print with given contracts.
import Derived.Test.YtnfjhfhdiknccaaDoorQx0
import Derived.Test.YtnfjhfhdiknccaaDoorQx1
import Derived.Test.YtnfjhfhdiknccaaDoorQx2
namespace Go.Proofs.YtnfjhfhdiknccaaDoor.Q
open Go.RowKit Go.Proofs.YtnfjhfhdiknccaaDoorW.PrintWords Go.Proofs.YtnfjhfhdiknccaaDoorW.PrintLast Go.Proofs.YtnfjhfhdiknccaaDoorW.PrintMore
attribute [local go_sem] max2_int min2_int max_two min_two max_three min_three max_four min_four   -- for this text's walks alone
set_option linter.unusedVariables false
set_option linter.unusedSimpArgs false

end Go.Proofs.YtnfjhfhdiknccaaDoor.Q

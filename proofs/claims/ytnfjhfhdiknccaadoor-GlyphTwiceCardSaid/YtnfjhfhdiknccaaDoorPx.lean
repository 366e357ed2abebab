-- Written by a program of this session (gprint.py), by the kit's print with given contracts.
import Derived.Test.YtnfjhfhdiknccaaDoorPx0
import Derived.Test.YtnfjhfhdiknccaaDoorPx1
import Derived.Test.YtnfjhfhdiknccaaDoorPx2
import Derived.Test.YtnfjhfhdiknccaaDoorPx3
import Derived.Test.YtnfjhfhdiknccaaDoorPx4
import Derived.Test.YtnfjhfhdiknccaaDoorPx5
import Derived.Test.YtnfjhfhdiknccaaDoorPx6
import Derived.Test.YtnfjhfhdiknccaaDoorPx7
import Derived.Test.YtnfjhfhdiknccaaDoorPx8
import Derived.Test.YtnfjhfhdiknccaaDoorPx9
import Derived.Test.YtnfjhfhdiknccaaDoorPx10
import Derived.Test.YtnfjhfhdiknccaaDoorPx11
import Derived.Test.YtnfjhfhdiknccaaDoorPx12
import Derived.Test.YtnfjhfhdiknccaaDoorPx13
import Derived.Test.YtnfjhfhdiknccaaDoorPx14
import Derived.Test.YtnfjhfhdiknccaaDoorPx15
import Derived.Test.YtnfjhfhdiknccaaDoorPx16
namespace Go.Proofs.YtnfjhfhdiknccaaDoor.P
open Go.RowKit Go.Proofs.YtnfjhfhdiknccaaDoor.Giv Go.Proofs.YtnfjhfhdiknccaaDoorW.PrintWords Go.Proofs.YtnfjhfhdiknccaaDoorW.PrintLast Go.Proofs.YtnfjhfhdiknccaaDoorW.PrintMore
attribute [local go_sem] max2_int min2_int max_two min_two max_three min_three max_four min_four   -- for this text's walks alone
set_option linter.unusedVariables false
set_option linter.unusedSimpArgs false

end Go.Proofs.YtnfjhfhdiknccaaDoor.P

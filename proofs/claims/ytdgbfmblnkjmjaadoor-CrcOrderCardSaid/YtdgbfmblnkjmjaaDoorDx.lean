-- Written by a program of this session (gprint.py), by the kit's print with given contracts.
import Derived.Test.YtdgbfmblnkjmjaaDoorDx0
import Derived.Test.YtdgbfmblnkjmjaaDoorDx1
namespace Go.Proofs.YtdgbfmblnkjmjaaDoor.D
open Go.RowKit Go.Proofs.YtdgbfmblnkjmjaaDoor.Giv Go.Proofs.YtdgbfmblnkjmjaaDoorW.PrintWords Go.Proofs.YtdgbfmblnkjmjaaDoorW.PrintLast Go.Proofs.YtdgbfmblnkjmjaaDoorW.PrintMore
attribute [local go_sem] max2_int min2_int max_two min_two max_three min_three max_four min_four   -- for this text's walks alone
set_option linter.unusedVariables false
set_option linter.unusedSimpArgs false

end Go.Proofs.YtdgbfmblnkjmjaaDoor.D

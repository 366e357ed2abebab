-- Written by a program of this session (gprint.py), by the kit's print with given contracts.
import Derived.Test.YtifbpchakoljaaaDoorPx0
import Derived.Test.YtifbpchakoljaaaDoorPx1
import Derived.Test.YtifbpchakoljaaaDoorPx2
import Derived.Test.YtifbpchakoljaaaDoorPx3
namespace Go.Proofs.YtifbpchakoljaaaDoor.P
open Go.RowKit Go.Proofs.YtifbpchakoljaaaDoor.Giv Go.Proofs.YtifbpchakoljaaaDoorW.PrintWords Go.Proofs.YtifbpchakoljaaaDoorW.PrintLast Go.Proofs.YtifbpchakoljaaaDoorW.PrintMore
attribute [local go_sem] max2_int min2_int max_two min_two max_three min_three max_four min_four   -- for this text's walks alone
set_option linter.unusedVariables false
set_option linter.unusedSimpArgs false

end Go.Proofs.YtifbpchakoljaaaDoor.P

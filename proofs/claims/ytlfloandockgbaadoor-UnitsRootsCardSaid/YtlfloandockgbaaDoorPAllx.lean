-- Written for this claim by the kit's print program (print.py), which this session called for several functions at once
import Derived.Test.YtlfloandockgbaaDoorPAllx0
import Derived.Test.YtlfloandockgbaaDoorPAllx1
import Derived.Test.YtlfloandockgbaaDoorPAllx2
import Derived.Test.YtlfloandockgbaaDoorPAllx3
import Derived.Test.YtlfloandockgbaaDoorPAllx4
namespace Go.Proofs.YtlfloandockgbaaDoor.PAll
open Go.RowKit Go.Proofs.YtlfloandockgbaaDoor.Uni Go.Proofs.YtlfloandockgbaaDoorW.PrintWords Go.Proofs.YtlfloandockgbaaDoorW.PrintLast Go.Proofs.YtlfloandockgbaaDoorW.PrintMore
attribute [local go_sem] max2_int min2_int max_two min_two max_three min_three max_four min_four   -- for this text's walks alone
set_option linter.unusedVariables false
set_option linter.unusedSimpArgs false

end Go.Proofs.YtlfloandockgbaaDoor.PAll

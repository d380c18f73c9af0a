-- Written for this claim by the kit's print program (print.py), which this session called for several functions at once
import Derived.Test.YthdkfgpcdghblaaDoorPAllx0
import Derived.Test.YthdkfgpcdghblaaDoorPAllx1
import Derived.Test.YthdkfgpcdghblaaDoorPAllx2
import Derived.Test.YthdkfgpcdghblaaDoorPAllx3
import Derived.Test.YthdkfgpcdghblaaDoorPAllx4
import Derived.Test.YthdkfgpcdghblaaDoorPAllx5
import Derived.Test.YthdkfgpcdghblaaDoorPAllx6
import Derived.Test.YthdkfgpcdghblaaDoorPAllx7
namespace Go.Proofs.YthdkfgpcdghblaaDoor.PAll
open Go.RowKit Go.Proofs.YthdkfgpcdghblaaDoorW.PrintWords Go.Proofs.YthdkfgpcdghblaaDoorW.PrintLast Go.Proofs.YthdkfgpcdghblaaDoorW.PrintMore
attribute [local go_sem] max2_int min2_int max_two min_two max_three min_three max_four min_four   -- for this text's walks alone
set_option linter.unusedVariables false
set_option linter.unusedSimpArgs false

end Go.Proofs.YthdkfgpcdghblaaDoor.PAll

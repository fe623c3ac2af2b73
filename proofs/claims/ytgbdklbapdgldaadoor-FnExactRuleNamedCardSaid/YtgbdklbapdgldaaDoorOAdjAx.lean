/- Walks of the functions that a law reaches, printed by a program of this session. -/
import Derived.Test.YtgbdklbapdgldaaDoorOAdjAx0
import Derived.Test.YtgbdklbapdgldaaDoorOAdjAx1
namespace Go.Proofs.YtgbdklbapdgldaaDoor.OAdjA
open Go.RowKit Go.Proofs.YtgbdklbapdgldaaDoorW.PrintWords Go.Proofs.YtgbdklbapdgldaaDoorW.PrintLast Go.Proofs.YtgbdklbapdgldaaDoorW.PrintMore
attribute [local go_sem] max2_int min2_int max_two min_two max_three min_three max_four min_four   -- for this text's walks alone
open Go.Proofs.YtgbdklbapdgldaaDoor.Open
set_option linter.unusedVariables false
set_option linter.unusedSimpArgs false

end Go.Proofs.YtgbdklbapdgldaaDoor.OAdjA

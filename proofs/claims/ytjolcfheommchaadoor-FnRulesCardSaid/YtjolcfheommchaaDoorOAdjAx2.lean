/- Walks of the functions that a law reaches, printed by a program of this session. -/
import Derived.Test.YtjolcfheommchaaDoorOAdjAx0
import Derived.Test.YtjolcfheommchaaDoorOAdjAx1
namespace Go.Proofs.YtjolcfheommchaaDoor.OAdjA
open Go.RowKit Go.Proofs.YtjolcfheommchaaDoorW.PrintWords Go.Proofs.YtjolcfheommchaaDoorW.PrintLast Go.Proofs.YtjolcfheommchaaDoorW.PrintMore
attribute [local go_sem] max2_int min2_int max_two min_two max_three min_three max_four min_four   -- for this text's walks alone
open Go.Proofs.YtjolcfheommchaaDoor.Open
open Go.Proofs.YtjolcfheommchaaDoor.G
set_option linter.unusedVariables false
set_option linter.unusedSimpArgs false

end Go.Proofs.YtjolcfheommchaaDoor.OAdjA

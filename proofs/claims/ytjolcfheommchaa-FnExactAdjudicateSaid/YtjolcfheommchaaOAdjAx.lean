/- Walks of the functions that a law reaches, printed by a program of this session. -/
import Derived.Test.YtjolcfheommchaaOAdjAx0
import Derived.Test.YtjolcfheommchaaOAdjAx1
import Derived.Test.YtjolcfheommchaaOAdjAx2
import Derived.Test.YtjolcfheommchaaOAdjAx3
namespace Go.Proofs.Ytjolcfheommchaa.OAdjA
open Go.RowKit Go.Proofs.YtjolcfheommchaaW.PrintWords Go.Proofs.YtjolcfheommchaaW.PrintLast Go.Proofs.YtjolcfheommchaaW.PrintMore
attribute [local go_sem] max2_int min2_int max_two min_two max_three min_three max_four min_four   -- for this text's walks alone
open Go.Proofs.Ytjolcfheommchaa.Open
open Go.Proofs.Ytjolcfheommchaa.G
set_option linter.unusedVariables false
set_option linter.unusedSimpArgs false

end Go.Proofs.Ytjolcfheommchaa.OAdjA

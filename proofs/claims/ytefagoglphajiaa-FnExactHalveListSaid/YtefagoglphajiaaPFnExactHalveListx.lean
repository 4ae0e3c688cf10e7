-- Written by a program of this session: wip/mkprint.py over the kit's print, with contracts proved by hand (wip/given.py)
import Derived.Test.YtefagoglphajiaaPFnExactHalveListx0
import Derived.Test.YtefagoglphajiaaPFnExactHalveListx1
import Derived.Test.YtefagoglphajiaaPFnExactHalveListx2
import Derived.Test.YtefagoglphajiaaPFnExactHalveListx3
import Derived.Test.YtefagoglphajiaaPFnExactHalveListx4
import Derived.Test.YtefagoglphajiaaPFnExactHalveListx5
import Derived.Test.YtefagoglphajiaaPFnExactHalveListx6
namespace Go.Proofs.Ytefagoglphajiaa.PFnExactHalveList
open Go.RowKit Go.Proofs.YtefagoglphajiaaW.PrintWords Go.Proofs.YtefagoglphajiaaW.PrintLast Go.Proofs.YtefagoglphajiaaW.PrintMore
attribute [local go_sem] max2_int min2_int max_two min_two max_three min_three max_four min_four   -- for this text's walks alone
set_option linter.unusedVariables false
set_option linter.unusedSimpArgs false

end Go.Proofs.Ytefagoglphajiaa.PFnExactHalveList

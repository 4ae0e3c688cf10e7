-- Written by a program of this session: wip/mkprint.py over the kit's print, with contracts proved by hand (wip/given.py)
import Derived.Test.YtefagoglphajiaaPFnExactGatherBoundsx0
import Derived.Test.YtefagoglphajiaaPFnExactGatherBoundsx1
import Derived.Test.YtefagoglphajiaaPFnExactGatherBoundsx2
import Derived.Test.YtefagoglphajiaaPFnExactGatherBoundsx3
import Derived.Test.YtefagoglphajiaaPFnExactGatherBoundsx4
import Derived.Test.YtefagoglphajiaaPFnExactGatherBoundsx5
import Derived.Test.YtefagoglphajiaaPFnExactGatherBoundsx6
import Derived.Test.YtefagoglphajiaaPFnExactGatherBoundsx7
namespace Go.Proofs.Ytefagoglphajiaa.PFnExactGatherBounds
open Go.RowKit Go.Proofs.YtefagoglphajiaaW.PrintWords Go.Proofs.YtefagoglphajiaaW.PrintLast Go.Proofs.YtefagoglphajiaaW.PrintMore
attribute [local go_sem] max2_int min2_int max_two min_two max_three min_three max_four min_four   -- for this text's walks alone
set_option linter.unusedVariables false
set_option linter.unusedSimpArgs false

end Go.Proofs.Ytefagoglphajiaa.PFnExactGatherBounds

-- Written by a program of this session: wip/mkprint.py over the kit's print, with contracts proved by hand (wip/given.py)
import Derived.Test.YtefagoglphajiaaPFnCoefsx0
import Derived.Test.YtefagoglphajiaaPFnCoefsx1
import Derived.Test.YtefagoglphajiaaPFnCoefsx2
import Derived.Test.YtefagoglphajiaaPFnCoefsx3
import Derived.Test.YtefagoglphajiaaPFnCoefsx4
import Derived.Test.YtefagoglphajiaaPFnCoefsx5
import Derived.Test.YtefagoglphajiaaPFnCoefsx6
import Derived.Test.YtefagoglphajiaaPFnCoefsx7
import Derived.Test.YtefagoglphajiaaPFnCoefsx8
import Derived.Test.YtefagoglphajiaaPFnCoefsx9
import Derived.Test.YtefagoglphajiaaPFnCoefsx10
import Derived.Test.YtefagoglphajiaaPFnCoefsx11
import Derived.Test.YtefagoglphajiaaPFnCoefsx12
namespace Go.Proofs.Ytefagoglphajiaa.PFnCoefs
open Go.RowKit Go.Proofs.YtefagoglphajiaaW.PrintWords Go.Proofs.YtefagoglphajiaaW.PrintLast Go.Proofs.YtefagoglphajiaaW.PrintMore
attribute [local go_sem] max2_int min2_int max_two min_two max_three min_three max_four min_four   -- for this text's walks alone
set_option linter.unusedVariables false
set_option linter.unusedSimpArgs false

end Go.Proofs.Ytefagoglphajiaa.PFnCoefs

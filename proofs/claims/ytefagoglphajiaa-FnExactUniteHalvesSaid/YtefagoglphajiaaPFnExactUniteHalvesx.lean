-- Written by a program of this session: wip/mkprint.py over the kit's print, with contracts proved by hand (wip/given.py)
import Derived.Test.YtefagoglphajiaaPFnExactUniteHalvesx0
import Derived.Test.YtefagoglphajiaaPFnExactUniteHalvesx1
import Derived.Test.YtefagoglphajiaaPFnExactUniteHalvesx2
import Derived.Test.YtefagoglphajiaaPFnExactUniteHalvesx3
import Derived.Test.YtefagoglphajiaaPFnExactUniteHalvesx4
import Derived.Test.YtefagoglphajiaaPFnExactUniteHalvesx5
import Derived.Test.YtefagoglphajiaaPFnExactUniteHalvesx6
import Derived.Test.YtefagoglphajiaaPFnExactUniteHalvesx7
namespace Go.Proofs.Ytefagoglphajiaa.PFnExactUniteHalves
open Go.RowKit Go.Proofs.YtefagoglphajiaaW.PrintWords Go.Proofs.YtefagoglphajiaaW.PrintLast Go.Proofs.YtefagoglphajiaaW.PrintMore
attribute [local go_sem] max2_int min2_int max_two min_two max_three min_three max_four min_four   -- for this text's walks alone
set_option linter.unusedVariables false
set_option linter.unusedSimpArgs false

end Go.Proofs.Ytefagoglphajiaa.PFnExactUniteHalves

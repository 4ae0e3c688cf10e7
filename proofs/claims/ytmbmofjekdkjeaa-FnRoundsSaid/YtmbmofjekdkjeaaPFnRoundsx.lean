-- Written by a program of this session: wip/mkprint.py over the kit's print, with contracts proved by hand (wip/given.py)
import Derived.Test.YtmbmofjekdkjeaaPFnRoundsx0
import Derived.Test.YtmbmofjekdkjeaaPFnRoundsx1
import Derived.Test.YtmbmofjekdkjeaaPFnRoundsx2
import Derived.Test.YtmbmofjekdkjeaaPFnRoundsx3
namespace Go.Proofs.Ytmbmofjekdkjeaa.PFnRounds
open Go.RowKit Go.Proofs.YtmbmofjekdkjeaaW.PrintWords Go.Proofs.YtmbmofjekdkjeaaW.PrintLast Go.Proofs.YtmbmofjekdkjeaaW.PrintMore
attribute [local go_sem] max2_int min2_int max_two min_two max_three min_three max_four min_four   -- for this text's walks alone
set_option linter.unusedVariables false
set_option linter.unusedSimpArgs false

end Go.Proofs.Ytmbmofjekdkjeaa.PFnRounds

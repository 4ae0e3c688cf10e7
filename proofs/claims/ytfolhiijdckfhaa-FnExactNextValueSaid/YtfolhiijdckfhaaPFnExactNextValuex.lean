-- Written by a program of this session: wip/mkprint.py over the kit's print, with contracts proved by hand (wip/given.py)
import Derived.Test.YtfolhiijdckfhaaPFnExactNextValuex0
import Derived.Test.YtfolhiijdckfhaaPFnExactNextValuex1
import Derived.Test.YtfolhiijdckfhaaPFnExactNextValuex2
import Derived.Test.YtfolhiijdckfhaaPFnExactNextValuex3
import Derived.Test.YtfolhiijdckfhaaPFnExactNextValuex4
namespace Go.Proofs.Ytfolhiijdckfhaa.PFnExactNextValue
open Go.RowKit Go.Proofs.YtfolhiijdckfhaaW.PrintWords Go.Proofs.YtfolhiijdckfhaaW.PrintLast Go.Proofs.YtfolhiijdckfhaaW.PrintMore
attribute [local go_sem] max2_int min2_int max_two min_two max_three min_three max_four min_four   -- for this text's walks alone
set_option linter.unusedVariables false
set_option linter.unusedSimpArgs false

end Go.Proofs.Ytfolhiijdckfhaa.PFnExactNextValue

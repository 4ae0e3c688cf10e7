-- Written by a program of this session: wip/mkprint.py over the kit's print, with contracts proved by hand (wip/given.py)
import Derived.Test.YtfolhiijdckfhaaPFnExactStartDecodex0
import Derived.Test.YtfolhiijdckfhaaPFnExactStartDecodex1
import Derived.Test.YtfolhiijdckfhaaPFnExactStartDecodex2
import Derived.Test.YtfolhiijdckfhaaPFnExactStartDecodex3
namespace Go.Proofs.Ytfolhiijdckfhaa.PFnExactStartDecode
open Go.RowKit Go.Proofs.YtfolhiijdckfhaaW.PrintWords Go.Proofs.YtfolhiijdckfhaaW.PrintLast Go.Proofs.YtfolhiijdckfhaaW.PrintMore
attribute [local go_sem] max2_int min2_int max_two min_two max_three min_three max_four min_four   -- for this text's walks alone
set_option linter.unusedVariables false
set_option linter.unusedSimpArgs false

end Go.Proofs.Ytfolhiijdckfhaa.PFnExactStartDecode

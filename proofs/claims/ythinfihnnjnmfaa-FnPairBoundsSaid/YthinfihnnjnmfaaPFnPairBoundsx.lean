-- Written by a program of this session: wip/mkprint.py over the kit's print, with contracts proved by hand (wip/given.py)
import Derived.Test.YthinfihnnjnmfaaPFnPairBoundsx0
import Derived.Test.YthinfihnnjnmfaaPFnPairBoundsx1
import Derived.Test.YthinfihnnjnmfaaPFnPairBoundsx2
import Derived.Test.YthinfihnnjnmfaaPFnPairBoundsx3
import Derived.Test.YthinfihnnjnmfaaPFnPairBoundsx4
import Derived.Test.YthinfihnnjnmfaaPFnPairBoundsx5
import Derived.Test.YthinfihnnjnmfaaPFnPairBoundsx6
namespace Go.Proofs.Ythinfihnnjnmfaa.PFnPairBounds
open Go.RowKit Go.Proofs.YthinfihnnjnmfaaW.PrintWords Go.Proofs.YthinfihnnjnmfaaW.PrintLast Go.Proofs.YthinfihnnjnmfaaW.PrintMore
attribute [local go_sem] max2_int min2_int max_two min_two max_three min_three max_four min_four   -- for this text's walks alone
set_option linter.unusedVariables false
set_option linter.unusedSimpArgs false

end Go.Proofs.Ythinfihnnjnmfaa.PFnPairBounds

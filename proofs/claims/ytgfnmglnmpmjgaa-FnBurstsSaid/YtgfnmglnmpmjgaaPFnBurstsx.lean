-- Written by a program of this session: wip/mkprint.py over the kit's print, with contracts proved by hand (wip/given.py)
import Derived.Test.YtgfnmglnmpmjgaaPFnBurstsx0
import Derived.Test.YtgfnmglnmpmjgaaPFnBurstsx1
import Derived.Test.YtgfnmglnmpmjgaaPFnBurstsx2
import Derived.Test.YtgfnmglnmpmjgaaPFnBurstsx3
import Derived.Test.YtgfnmglnmpmjgaaPFnBurstsx4
import Derived.Test.YtgfnmglnmpmjgaaPFnBurstsx5
namespace Go.Proofs.Ytgfnmglnmpmjgaa.PFnBursts
open Go.RowKit Go.Proofs.YtgfnmglnmpmjgaaW.PrintWords Go.Proofs.YtgfnmglnmpmjgaaW.PrintLast Go.Proofs.YtgfnmglnmpmjgaaW.PrintMore
attribute [local go_sem] max2_int min2_int max_two min_two max_three min_three max_four min_four   -- for this text's walks alone
set_option linter.unusedVariables false
set_option linter.unusedSimpArgs false

end Go.Proofs.Ytgfnmglnmpmjgaa.PFnBursts

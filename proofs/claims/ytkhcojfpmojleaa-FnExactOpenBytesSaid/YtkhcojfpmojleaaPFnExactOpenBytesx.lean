-- Written by a program of this session: wip/mkprint.py over the kit's print, with contracts proved by hand (wip/given.py)
import Derived.Test.YtkhcojfpmojleaaPFnExactOpenBytesx0
import Derived.Test.YtkhcojfpmojleaaPFnExactOpenBytesx1
import Derived.Test.YtkhcojfpmojleaaPFnExactOpenBytesx2
import Derived.Test.YtkhcojfpmojleaaPFnExactOpenBytesx3
namespace Go.Proofs.Ytkhcojfpmojleaa.PFnExactOpenBytes
open Go.RowKit Go.Proofs.YtkhcojfpmojleaaW.PrintWords Go.Proofs.YtkhcojfpmojleaaW.PrintLast Go.Proofs.YtkhcojfpmojleaaW.PrintMore
attribute [local go_sem] max2_int min2_int max_two min_two max_three min_three max_four min_four   -- for this text's walks alone
set_option linter.unusedVariables false
set_option linter.unusedSimpArgs false

end Go.Proofs.Ytkhcojfpmojleaa.PFnExactOpenBytes

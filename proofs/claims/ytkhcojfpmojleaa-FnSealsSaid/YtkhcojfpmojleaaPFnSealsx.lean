-- Written by a program of this session: wip/mkprint.py over the kit's print, with contracts proved by hand (wip/given.py)
import Derived.Test.YtkhcojfpmojleaaPFnSealsx0
import Derived.Test.YtkhcojfpmojleaaPFnSealsx1
import Derived.Test.YtkhcojfpmojleaaPFnSealsx2
import Derived.Test.YtkhcojfpmojleaaPFnSealsx3
import Derived.Test.YtkhcojfpmojleaaPFnSealsx4
import Derived.Test.YtkhcojfpmojleaaPFnSealsx5
namespace Go.Proofs.Ytkhcojfpmojleaa.PFnSeals
open Go.RowKit Go.Proofs.YtkhcojfpmojleaaW.PrintWords Go.Proofs.YtkhcojfpmojleaaW.PrintLast Go.Proofs.YtkhcojfpmojleaaW.PrintMore
attribute [local go_sem] max2_int min2_int max_two min_two max_three min_three max_four min_four   -- for this text's walks alone
set_option linter.unusedVariables false
set_option linter.unusedSimpArgs false

end Go.Proofs.Ytkhcojfpmojleaa.PFnSeals

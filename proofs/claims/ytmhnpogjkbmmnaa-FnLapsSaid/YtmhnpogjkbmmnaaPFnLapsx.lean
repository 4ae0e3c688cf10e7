-- Written by a program of this session: wip/mkprint.py over the kit's print, with contracts proved by hand (wip/given.py)
import Derived.Test.YtmhnpogjkbmmnaaPFnLapsx0
import Derived.Test.YtmhnpogjkbmmnaaPFnLapsx1
import Derived.Test.YtmhnpogjkbmmnaaPFnLapsx2
import Derived.Test.YtmhnpogjkbmmnaaPFnLapsx3
import Derived.Test.YtmhnpogjkbmmnaaPFnLapsx4
import Derived.Test.YtmhnpogjkbmmnaaPFnLapsx5
import Derived.Test.YtmhnpogjkbmmnaaPFnLapsx6
import Derived.Test.YtmhnpogjkbmmnaaPFnLapsx7
import Derived.Test.YtmhnpogjkbmmnaaPFnLapsx8
import Derived.Test.YtmhnpogjkbmmnaaPFnLapsx9
import Derived.Test.YtmhnpogjkbmmnaaPFnLapsx10
import Derived.Test.YtmhnpogjkbmmnaaPFnLapsx11
import Derived.Test.YtmhnpogjkbmmnaaPFnLapsx12
import Derived.Test.YtmhnpogjkbmmnaaPFnLapsx13
import Derived.Test.YtmhnpogjkbmmnaaPFnLapsx14
import Derived.Test.YtmhnpogjkbmmnaaPFnLapsx15
import Derived.Test.YtmhnpogjkbmmnaaPFnLapsx16
import Derived.Test.YtmhnpogjkbmmnaaPFnLapsx17
import Derived.Test.YtmhnpogjkbmmnaaPFnLapsx18
namespace Go.Proofs.Ytmhnpogjkbmmnaa.PFnLaps
open Go.RowKit Go.Proofs.YtmhnpogjkbmmnaaW.PrintWords Go.Proofs.YtmhnpogjkbmmnaaW.PrintLast Go.Proofs.YtmhnpogjkbmmnaaW.PrintMore
attribute [local go_sem] max2_int min2_int max_two min_two max_three min_three max_four min_four   -- for this text's walks alone
set_option linter.unusedVariables false
set_option linter.unusedSimpArgs false

end Go.Proofs.Ytmhnpogjkbmmnaa.PFnLaps

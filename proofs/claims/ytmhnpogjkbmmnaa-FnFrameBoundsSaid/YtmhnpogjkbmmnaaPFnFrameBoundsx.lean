-- Written by a program of this session: wip/mkprint.py over the kit's print, with contracts proved by hand (wip/given.py)
import Derived.Test.YtmhnpogjkbmmnaaPFnFrameBoundsx0
import Derived.Test.YtmhnpogjkbmmnaaPFnFrameBoundsx1
import Derived.Test.YtmhnpogjkbmmnaaPFnFrameBoundsx2
import Derived.Test.YtmhnpogjkbmmnaaPFnFrameBoundsx3
import Derived.Test.YtmhnpogjkbmmnaaPFnFrameBoundsx4
import Derived.Test.YtmhnpogjkbmmnaaPFnFrameBoundsx5
import Derived.Test.YtmhnpogjkbmmnaaPFnFrameBoundsx6
import Derived.Test.YtmhnpogjkbmmnaaPFnFrameBoundsx7
import Derived.Test.YtmhnpogjkbmmnaaPFnFrameBoundsx8
import Derived.Test.YtmhnpogjkbmmnaaPFnFrameBoundsx9
import Derived.Test.YtmhnpogjkbmmnaaPFnFrameBoundsx10
import Derived.Test.YtmhnpogjkbmmnaaPFnFrameBoundsx11
import Derived.Test.YtmhnpogjkbmmnaaPFnFrameBoundsx12
import Derived.Test.YtmhnpogjkbmmnaaPFnFrameBoundsx13
import Derived.Test.YtmhnpogjkbmmnaaPFnFrameBoundsx14
import Derived.Test.YtmhnpogjkbmmnaaPFnFrameBoundsx15
import Derived.Test.YtmhnpogjkbmmnaaPFnFrameBoundsx16
import Derived.Test.YtmhnpogjkbmmnaaPFnFrameBoundsx17
import Derived.Test.YtmhnpogjkbmmnaaPFnFrameBoundsx18
namespace Go.Proofs.Ytmhnpogjkbmmnaa.PFnFrameBounds
open Go.RowKit Go.Proofs.YtmhnpogjkbmmnaaW.PrintWords Go.Proofs.YtmhnpogjkbmmnaaW.PrintLast Go.Proofs.YtmhnpogjkbmmnaaW.PrintMore
attribute [local go_sem] max2_int min2_int max_two min_two max_three min_three max_four min_four   -- for this text's walks alone
set_option linter.unusedVariables false
set_option linter.unusedSimpArgs false

end Go.Proofs.Ytmhnpogjkbmmnaa.PFnFrameBounds

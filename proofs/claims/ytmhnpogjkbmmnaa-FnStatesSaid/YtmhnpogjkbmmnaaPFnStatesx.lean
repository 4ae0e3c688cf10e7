-- Written by a program of this session: wip/mkprint.py over the kit's print, with contracts proved by hand (wip/given.py)
import Derived.Test.YtmhnpogjkbmmnaaPFnStatesx0
import Derived.Test.YtmhnpogjkbmmnaaPFnStatesx1
import Derived.Test.YtmhnpogjkbmmnaaPFnStatesx2
import Derived.Test.YtmhnpogjkbmmnaaPFnStatesx3
import Derived.Test.YtmhnpogjkbmmnaaPFnStatesx4
import Derived.Test.YtmhnpogjkbmmnaaPFnStatesx5
import Derived.Test.YtmhnpogjkbmmnaaPFnStatesx6
import Derived.Test.YtmhnpogjkbmmnaaPFnStatesx7
import Derived.Test.YtmhnpogjkbmmnaaPFnStatesx8
import Derived.Test.YtmhnpogjkbmmnaaPFnStatesx9
import Derived.Test.YtmhnpogjkbmmnaaPFnStatesx10
import Derived.Test.YtmhnpogjkbmmnaaPFnStatesx11
import Derived.Test.YtmhnpogjkbmmnaaPFnStatesx12
import Derived.Test.YtmhnpogjkbmmnaaPFnStatesx13
import Derived.Test.YtmhnpogjkbmmnaaPFnStatesx14
import Derived.Test.YtmhnpogjkbmmnaaPFnStatesx15
import Derived.Test.YtmhnpogjkbmmnaaPFnStatesx16
import Derived.Test.YtmhnpogjkbmmnaaPFnStatesx17
import Derived.Test.YtmhnpogjkbmmnaaPFnStatesx18
import Derived.Test.YtmhnpogjkbmmnaaPFnStatesx19
import Derived.Test.YtmhnpogjkbmmnaaPFnStatesx20
import Derived.Test.YtmhnpogjkbmmnaaPFnStatesx21
import Derived.Test.YtmhnpogjkbmmnaaPFnStatesx22
import Derived.Test.YtmhnpogjkbmmnaaPFnStatesx23
import Derived.Test.YtmhnpogjkbmmnaaPFnStatesx24
import Derived.Test.YtmhnpogjkbmmnaaPFnStatesx25
import Derived.Test.YtmhnpogjkbmmnaaPFnStatesx26
namespace Go.Proofs.Ytmhnpogjkbmmnaa.PFnStates
open Go.RowKit Go.Proofs.YtmhnpogjkbmmnaaW.PrintWords Go.Proofs.YtmhnpogjkbmmnaaW.PrintLast Go.Proofs.YtmhnpogjkbmmnaaW.PrintMore
attribute [local go_sem] max2_int min2_int max_two min_two max_three min_three max_four min_four   -- for this text's walks alone
set_option linter.unusedVariables false
set_option linter.unusedSimpArgs false

end Go.Proofs.Ytmhnpogjkbmmnaa.PFnStates

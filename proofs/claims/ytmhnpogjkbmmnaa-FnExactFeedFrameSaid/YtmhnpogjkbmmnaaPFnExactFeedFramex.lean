-- Written by a program of this session: wip/mkprint.py over the kit's print, with contracts proved by hand (wip/given.py)
import Derived.Test.YtmhnpogjkbmmnaaPFnExactFeedFramex0
import Derived.Test.YtmhnpogjkbmmnaaPFnExactFeedFramex1
import Derived.Test.YtmhnpogjkbmmnaaPFnExactFeedFramex2
import Derived.Test.YtmhnpogjkbmmnaaPFnExactFeedFramex3
import Derived.Test.YtmhnpogjkbmmnaaPFnExactFeedFramex4
import Derived.Test.YtmhnpogjkbmmnaaPFnExactFeedFramex5
import Derived.Test.YtmhnpogjkbmmnaaPFnExactFeedFramex6
import Derived.Test.YtmhnpogjkbmmnaaPFnExactFeedFramex7
import Derived.Test.YtmhnpogjkbmmnaaPFnExactFeedFramex8
import Derived.Test.YtmhnpogjkbmmnaaPFnExactFeedFramex9
import Derived.Test.YtmhnpogjkbmmnaaPFnExactFeedFramex10
import Derived.Test.YtmhnpogjkbmmnaaPFnExactFeedFramex11
import Derived.Test.YtmhnpogjkbmmnaaPFnExactFeedFramex12
import Derived.Test.YtmhnpogjkbmmnaaPFnExactFeedFramex13
import Derived.Test.YtmhnpogjkbmmnaaPFnExactFeedFramex14
import Derived.Test.YtmhnpogjkbmmnaaPFnExactFeedFramex15
namespace Go.Proofs.Ytmhnpogjkbmmnaa.PFnExactFeedFrame
open Go.RowKit Go.Proofs.YtmhnpogjkbmmnaaW.PrintWords Go.Proofs.YtmhnpogjkbmmnaaW.PrintLast Go.Proofs.YtmhnpogjkbmmnaaW.PrintMore
attribute [local go_sem] max2_int min2_int max_two min_two max_three min_three max_four min_four   -- for this text's walks alone
set_option linter.unusedVariables false
set_option linter.unusedSimpArgs false

end Go.Proofs.Ytmhnpogjkbmmnaa.PFnExactFeedFrame

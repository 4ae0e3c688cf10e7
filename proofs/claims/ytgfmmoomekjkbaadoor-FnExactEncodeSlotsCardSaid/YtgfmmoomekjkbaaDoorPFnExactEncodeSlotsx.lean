-- Written by a program of this session: wip/mkprint.py over the kit's print, with contracts proved by hand (wip/given.py)
import Derived.Test.YtgfmmoomekjkbaaDoorPFnExactEncodeSlotsx0
import Derived.Test.YtgfmmoomekjkbaaDoorPFnExactEncodeSlotsx1
import Derived.Test.YtgfmmoomekjkbaaDoorPFnExactEncodeSlotsx2
import Derived.Test.YtgfmmoomekjkbaaDoorPFnExactEncodeSlotsx3
import Derived.Test.YtgfmmoomekjkbaaDoorPFnExactEncodeSlotsx4
import Derived.Test.YtgfmmoomekjkbaaDoorPFnExactEncodeSlotsx5
import Derived.Test.YtgfmmoomekjkbaaDoorPFnExactEncodeSlotsx6
namespace Go.Proofs.YtgfmmoomekjkbaaDoor.PFnExactEncodeSlots
open Go.RowKit Go.Proofs.YtgfmmoomekjkbaaDoorW.PrintWords Go.Proofs.YtgfmmoomekjkbaaDoorW.PrintLast Go.Proofs.YtgfmmoomekjkbaaDoorW.PrintMore
attribute [local go_sem] max2_int min2_int max_two min_two max_three min_three max_four min_four   -- for this text's walks alone
set_option linter.unusedVariables false
set_option linter.unusedSimpArgs false

end Go.Proofs.YtgfmmoomekjkbaaDoor.PFnExactEncodeSlots

-- Written by a program of this session: wip/mkprint.py over the kit's print, with contracts proved by hand (wip/given.py)
import Derived.Test.YtgfmmoomekjkbaaDoorPFnExactEncodeValuesx0
import Derived.Test.YtgfmmoomekjkbaaDoorPFnExactEncodeValuesx1
import Derived.Test.YtgfmmoomekjkbaaDoorPFnExactEncodeValuesx2
import Derived.Test.YtgfmmoomekjkbaaDoorPFnExactEncodeValuesx3
import Derived.Test.YtgfmmoomekjkbaaDoorPFnExactEncodeValuesx4
import Derived.Test.YtgfmmoomekjkbaaDoorPFnExactEncodeValuesx5
import Derived.Test.YtgfmmoomekjkbaaDoorPFnExactEncodeValuesx6
import Derived.Test.YtgfmmoomekjkbaaDoorPFnExactEncodeValuesx7
namespace Go.Proofs.YtgfmmoomekjkbaaDoor.PFnExactEncodeValues
open Go.RowKit Go.Proofs.YtgfmmoomekjkbaaDoorW.PrintWords Go.Proofs.YtgfmmoomekjkbaaDoorW.PrintLast Go.Proofs.YtgfmmoomekjkbaaDoorW.PrintMore
attribute [local go_sem] max2_int min2_int max_two min_two max_three min_three max_four min_four   -- for this text's walks alone
set_option linter.unusedVariables false
set_option linter.unusedSimpArgs false

end Go.Proofs.YtgfmmoomekjkbaaDoor.PFnExactEncodeValues

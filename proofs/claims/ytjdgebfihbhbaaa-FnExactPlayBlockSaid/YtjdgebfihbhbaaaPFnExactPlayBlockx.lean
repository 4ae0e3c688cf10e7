-- Written by a program of this session: wip/mkprint.py over the kit's print, with contracts proved by hand (wip/given.py)
import Derived.Test.YtjdgebfihbhbaaaPFnExactPlayBlockx0
import Derived.Test.YtjdgebfihbhbaaaPFnExactPlayBlockx1
import Derived.Test.YtjdgebfihbhbaaaPFnExactPlayBlockx2
import Derived.Test.YtjdgebfihbhbaaaPFnExactPlayBlockx3
import Derived.Test.YtjdgebfihbhbaaaPFnExactPlayBlockx4
import Derived.Test.YtjdgebfihbhbaaaPFnExactPlayBlockx5
import Derived.Test.YtjdgebfihbhbaaaPFnExactPlayBlockx6
import Derived.Test.YtjdgebfihbhbaaaPFnExactPlayBlockx7
import Derived.Test.YtjdgebfihbhbaaaPFnExactPlayBlockx8
import Derived.Test.YtjdgebfihbhbaaaPFnExactPlayBlockx9
import Derived.Test.YtjdgebfihbhbaaaPFnExactPlayBlockx10
import Derived.Test.YtjdgebfihbhbaaaPFnExactPlayBlockx11
import Derived.Test.YtjdgebfihbhbaaaPFnExactPlayBlockx12
import Derived.Test.YtjdgebfihbhbaaaPFnExactPlayBlockx13
namespace Go.Proofs.Ytjdgebfihbhbaaa.PFnExactPlayBlock
open Go.RowKit Go.Proofs.YtjdgebfihbhbaaaW.PrintWords Go.Proofs.YtjdgebfihbhbaaaW.PrintLast Go.Proofs.YtjdgebfihbhbaaaW.PrintMore
attribute [local go_sem] max2_int min2_int max_two min_two max_three min_three max_four min_four   -- for this text's walks alone
set_option linter.unusedVariables false
set_option linter.unusedSimpArgs false

end Go.Proofs.Ytjdgebfihbhbaaa.PFnExactPlayBlock

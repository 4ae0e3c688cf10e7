-- The print's words, without what this claim does not reach (wip/prune.py)
import Derived.Test.YtjdgebfihbhbaaaWInv
import Derived.Test.YtjdgebfihbhbaaaWFootNe
namespace Go.Proofs.YtjdgebfihbhbaaaW.PrintWords
open Go.RowKit
end Go.Proofs.YtjdgebfihbhbaaaW.PrintWords
namespace Go.Proofs.YtjdgebfihbhbaaaW.PrintLast
section
variable {ops : Array Oper} {a : Act} {o og : Oper} {g : Nat} {t : Tmp} {u : Bool}
end
end Go.Proofs.YtjdgebfihbhbaaaW.PrintLast

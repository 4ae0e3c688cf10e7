-- The print's words, without what this claim does not reach (wip/prune.py)
import Derived.SizedLaws
import Derived.ChangeSlices
namespace Go.Proofs.YtjdgebfihbhbaaaW.PrintWords
open Go.ChangeShapes Go.WideShapes
end Go.Proofs.YtjdgebfihbhbaaaW.PrintWords

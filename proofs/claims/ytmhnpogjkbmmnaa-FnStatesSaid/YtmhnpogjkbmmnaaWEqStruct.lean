-- The print's words, without what this claim does not reach (wip/prune.py)
import Derived.Test.YtmhnpogjkbmmnaaWWords
import Derived.Laws.StructEq
namespace Go.Proofs.YtmhnpogjkbmmnaaW.PrintWords
open Go.RowKit
section
variable {P : Program} {d : Nat} {xs ys : Array Value} {f : Field} {fs : List Field} {a b : Value} {r s : Bool} {w : World}
end
end Go.Proofs.YtmhnpogjkbmmnaaW.PrintWords

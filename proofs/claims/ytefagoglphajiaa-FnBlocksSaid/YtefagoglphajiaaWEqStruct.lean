-- The print's words, without what this claim does not reach (wip/prune.py)
import Derived.Test.YtefagoglphajiaaWWords
import Derived.Laws.StructEq
namespace Go.Proofs.YtefagoglphajiaaW.PrintWords
open Go.RowKit
section
variable {P : Program} {d : Nat} {xs ys : Array Value} {f : Field} {fs : List Field} {a b : Value} {r s : Bool} {w : World}
end
end Go.Proofs.YtefagoglphajiaaW.PrintWords

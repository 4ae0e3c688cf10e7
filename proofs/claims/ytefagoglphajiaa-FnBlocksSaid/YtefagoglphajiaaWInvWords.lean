-- The print's words, without what this claim does not reach (wip/prune.py)
import Derived.Test.YtefagoglphajiaaWInv
import Derived.Test.YtefagoglphajiaaWFootNe
namespace Go.Proofs.YtefagoglphajiaaW.PrintWords
open Go.RowKit
end Go.Proofs.YtefagoglphajiaaW.PrintWords
namespace Go.Proofs.YtefagoglphajiaaW.PrintLast
section
variable {ops : Array Oper} {a : Act} {o og : Oper} {g : Nat} {t : Tmp} {u : Bool}
end
end Go.Proofs.YtefagoglphajiaaW.PrintLast

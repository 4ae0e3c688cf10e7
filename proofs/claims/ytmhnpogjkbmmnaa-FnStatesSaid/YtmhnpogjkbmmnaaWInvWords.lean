-- The print's words, without what this claim does not reach (wip/prune.py)
import Derived.Test.YtmhnpogjkbmmnaaWInv
import Derived.Test.YtmhnpogjkbmmnaaWFootNe
namespace Go.Proofs.YtmhnpogjkbmmnaaW.PrintWords
open Go.RowKit
end Go.Proofs.YtmhnpogjkbmmnaaW.PrintWords
namespace Go.Proofs.YtmhnpogjkbmmnaaW.PrintLast
section
variable {ops : Array Oper} {a : Act} {o og : Oper} {g : Nat} {t : Tmp} {u : Bool}
end
end Go.Proofs.YtmhnpogjkbmmnaaW.PrintLast

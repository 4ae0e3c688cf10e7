-- The print's words, without what this claim does not reach (wip/prune.py)
import Derived.Test.YtmhnpogjkbmmnaaWTab
namespace Go.Proofs.YtmhnpogjkbmmnaaW.PrintLast
section
variable {P : Program} {ops : Array Oper} {Q : Exit → Act → World → Prop} {md : Region.Mode} {S : World → Prop} {ds : List Nat} {T : Bool × List (List Nat × List Nat)}
end
end Go.Proofs.YtmhnpogjkbmmnaaW.PrintLast

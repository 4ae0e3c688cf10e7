-- The print's words, without what this claim does not reach (wip/prune.py)
import Derived.Test.YtmhnpogjkbmmnaaWN
namespace Go.Proofs.YtmhnpogjkbmmnaaW.PrintWords
open Go.RowKit
namespace Kd
section
variable {α : Type} {d : Kd α} {W : World} {g n : Nat} {S ok : Nat → Prop} {A : Option Addr} {ad : Addr} {xs : List α}
end
end Kd
end Go.Proofs.YtmhnpogjkbmmnaaW.PrintWords

/-
  No cell of these rows narrows 'for every input' (looked for: loops, veiled, ifaces, maps, wideKeys, modest, calm, conditions, laid).
  DERIVED. THE GIVEN ROWS OF THIS SEAT. 6 by the template 'for every input the law returns true; each argument reads behind the call as it read before'; 0 by the template 'total and deterministic' (their statements: YtmhnpogjkbmmnaaTotals.lean).
  GIVEN WITH THE SEED: the statements are not yours to turn. If you find one false, say at which input.
  Laid BY PROGRAM, IN A SANDBOX (cutbox-rows.mjs): the forced cells as the released guide's own fill.sh prints them over the translation 705914658fc40a8c… (all of the seat's roots in one cut). By AI agents, Wed Nov 11 2026. No macro, syntax, notation, axiom, sorry.
-/
import Derived.Test.YtmhnpogjkbmmnaaChecked
import GoSem.Claim
import GoSem.ClaimJoined
import GoSem.ClaimMapViews
import Derived.JoinedTies
import Derived.KernelRfl
namespace Go.Proofs.Ytmhnpogjkbmmnaa
/- THE CELL 'sum', in the pinned program and in every row, IS THE sha256 OF THE DUMP (.gsa) THAT YtmhnpogjkbmmnaaProg.lean LOADS. Nothing in Lean hashes anything: it is a label: what it is worth is what the hold of that sum in a sandbox is worth. -/
noncomputable def Try.pinned : Pinned := { name := "ytmhnpogjkbmmnaa", sum := "705914658fc40a8c72c98be370433b6090a0ea7d0b2d1773dbd34d5b466074ab", checked := Try.checked }
namespace Rows
def none {H : Type} : Left H := { results := [], args := [] }

/-- 'laws.FnExactFrameBounds': WHATEVER THE INPUT: true; the input reads as it did. -/
def fnExactFrameBoundsSpec : ChangeSpec := { name := "fnExactFrameBounds", fn := fun _ => fun
  | [d1, d2, d3, d4] => { results := [.lit (.bool true)], args := [d1, d2, d3, d4] }
  | _ => none }
def fnExactFrameBoundsRow : OpenClaim := { program := "ytmhnpogjkbmmnaa", sum := "705914658fc40a8c72c98be370433b6090a0ea7d0b2d1773dbd34d5b466074ab", func := "loop.example/g00657/laws.FnExactFrameBounds", spec := "fnExactFrameBounds", unfollowed := true, recurses := true, apart := false }
def FnExactFrameBoundsSaid : Prop := fnExactFrameBoundsRow.holds Try.pinned (OpenSpec.ofChange fnExactFrameBoundsSpec)

/-- ITS FALSE NEIGHBOUR: 'it returns false'. Refute it at one input. -/
def fnExactFrameBoundsWrong : ChangeSpec := { name := "fnExactFrameBounds", fn := fun _ => fun
  | [d1, d2, d3, d4] => { results := [.lit (.bool false)], args := [d1, d2, d3, d4] }
  | _ => none }
def FnExactFrameBoundsWrongFalsely : Prop := fnExactFrameBoundsRow.holds Try.pinned (OpenSpec.ofChange fnExactFrameBoundsWrong)

/-- 'laws.FnExactPlayBlock': WHATEVER THE INPUT: true; the input reads as it did. -/
def fnExactPlayBlockSpec : ChangeSpec := { name := "fnExactPlayBlock", fn := fun _ => fun
  | [d1, d2] => { results := [.lit (.bool true)], args := [d1, d2] }
  | _ => none }
def fnExactPlayBlockRow : OpenClaim := { program := "ytmhnpogjkbmmnaa", sum := "705914658fc40a8c72c98be370433b6090a0ea7d0b2d1773dbd34d5b466074ab", func := "loop.example/g00657/laws.FnExactPlayBlock", spec := "fnExactPlayBlock", unfollowed := true, recurses := true, apart := false }
def FnExactPlayBlockSaid : Prop := fnExactPlayBlockRow.holds Try.pinned (OpenSpec.ofChange fnExactPlayBlockSpec)

/-- ITS FALSE NEIGHBOUR: 'it returns false'. Refute it at one input. -/
def fnExactPlayBlockWrong : ChangeSpec := { name := "fnExactPlayBlock", fn := fun _ => fun
  | [d1, d2] => { results := [.lit (.bool false)], args := [d1, d2] }
  | _ => none }
def FnExactPlayBlockWrongFalsely : Prop := fnExactPlayBlockRow.holds Try.pinned (OpenSpec.ofChange fnExactPlayBlockWrong)

/-- 'laws.FnExactFeedFrame': WHATEVER THE INPUT: true; the input reads as it did. -/
def fnExactFeedFrameSpec : ChangeSpec := { name := "fnExactFeedFrame", fn := fun _ => fun
  | [d1, d2] => { results := [.lit (.bool true)], args := [d1, d2] }
  | _ => none }
def fnExactFeedFrameRow : OpenClaim := { program := "ytmhnpogjkbmmnaa", sum := "705914658fc40a8c72c98be370433b6090a0ea7d0b2d1773dbd34d5b466074ab", func := "loop.example/g00657/laws.FnExactFeedFrame", spec := "fnExactFeedFrame", unfollowed := true, recurses := true, apart := false }
def FnExactFeedFrameSaid : Prop := fnExactFeedFrameRow.holds Try.pinned (OpenSpec.ofChange fnExactFeedFrameSpec)

/-- ITS FALSE NEIGHBOUR: 'it returns false'. Refute it at one input. -/
def fnExactFeedFrameWrong : ChangeSpec := { name := "fnExactFeedFrame", fn := fun _ => fun
  | [d1, d2] => { results := [.lit (.bool false)], args := [d1, d2] }
  | _ => none }
def FnExactFeedFrameWrongFalsely : Prop := fnExactFeedFrameRow.holds Try.pinned (OpenSpec.ofChange fnExactFeedFrameWrong)

/-- 'laws.FnFrameBounds': WHATEVER THE INPUT: true; the input reads as it did. -/
def fnFrameBoundsSpec : ChangeSpec := { name := "fnFrameBounds", fn := fun _ => fun
  | [d] => { results := [.lit (.bool true)], args := [d] }
  | _ => none }
def fnFrameBoundsRow : OpenClaim := { program := "ytmhnpogjkbmmnaa", sum := "705914658fc40a8c72c98be370433b6090a0ea7d0b2d1773dbd34d5b466074ab", func := "loop.example/g00657/laws.FnFrameBounds", spec := "fnFrameBounds", unfollowed := true, recurses := true, apart := false }
def FnFrameBoundsSaid : Prop := fnFrameBoundsRow.holds Try.pinned (OpenSpec.ofChange fnFrameBoundsSpec)

/-- ITS FALSE NEIGHBOUR: 'it returns false'. Refute it at one input. -/
def fnFrameBoundsWrong : ChangeSpec := { name := "fnFrameBounds", fn := fun _ => fun
  | [d] => { results := [.lit (.bool false)], args := [d] }
  | _ => none }
def FnFrameBoundsWrongFalsely : Prop := fnFrameBoundsRow.holds Try.pinned (OpenSpec.ofChange fnFrameBoundsWrong)

/-- 'laws.FnStates': WHATEVER THE INPUT: true; the input reads as it did. -/
def fnStatesSpec : ChangeSpec := { name := "fnStates", fn := fun _ => fun
  | [d] => { results := [.lit (.bool true)], args := [d] }
  | _ => none }
def fnStatesRow : OpenClaim := { program := "ytmhnpogjkbmmnaa", sum := "705914658fc40a8c72c98be370433b6090a0ea7d0b2d1773dbd34d5b466074ab", func := "loop.example/g00657/laws.FnStates", spec := "fnStates", unfollowed := true, recurses := true, apart := false }
def FnStatesSaid : Prop := fnStatesRow.holds Try.pinned (OpenSpec.ofChange fnStatesSpec)

/-- ITS FALSE NEIGHBOUR: 'it returns false'. Refute it at one input. -/
def fnStatesWrong : ChangeSpec := { name := "fnStates", fn := fun _ => fun
  | [d] => { results := [.lit (.bool false)], args := [d] }
  | _ => none }
def FnStatesWrongFalsely : Prop := fnStatesRow.holds Try.pinned (OpenSpec.ofChange fnStatesWrong)

/-- 'laws.FnLaps': WHATEVER THE INPUT: true; the input reads as it did. -/
def fnLapsSpec : ChangeSpec := { name := "fnLaps", fn := fun _ => fun
  | [d] => { results := [.lit (.bool true)], args := [d] }
  | _ => none }
def fnLapsRow : OpenClaim := { program := "ytmhnpogjkbmmnaa", sum := "705914658fc40a8c72c98be370433b6090a0ea7d0b2d1773dbd34d5b466074ab", func := "loop.example/g00657/laws.FnLaps", spec := "fnLaps", unfollowed := true, recurses := true, apart := false }
def FnLapsSaid : Prop := fnLapsRow.holds Try.pinned (OpenSpec.ofChange fnLapsSpec)

/-- ITS FALSE NEIGHBOUR: 'it returns false'. Refute it at one input. -/
def fnLapsWrong : ChangeSpec := { name := "fnLaps", fn := fun _ => fun
  | [d] => { results := [.lit (.bool false)], args := [d] }
  | _ => none }
def FnLapsWrongFalsely : Prop := fnLapsRow.holds Try.pinned (OpenSpec.ofChange fnLapsWrong)

/- THE SECOND FORM. 'bulk': how many values and letters a reading holds, each counted each time it is reached (what is shared counts as often as it is met; a slice's spare places count too). A statement '..UptoSaid' is the law's where the arguments, and the package variables that the reading takes, are together of bulk at most 1048576: NARROWER than '..Said'. Prove '..Said' where nothing that the law and all that it calls make is longer than what came in: it says more and counts as full. Else prove '..UptoSaid'. A law counts once. -/
mutual
def uptoBulk {H : Type} : DataW H → Nat
  | .lit (.string bytes) => bytes.length + 1
  | .lit _ => 1
  | .nil => 1
  | .ptr d => uptoBulk d + 1
  | .slice elems spare => uptoBulkAll elems + uptoBulkAll spare + 1
  | .agg parts => uptoBulkAll parts + 1
  | .iface _ d => uptoBulk d + 1
  | .map entries => uptoBulkEntries entries + 1
  | .held _ => 1
def uptoBulkAll {H : Type} : List (DataW H) → Nat
  | [] => 0
  | d :: r => uptoBulk d + uptoBulkAll r
def uptoBulkEntries {H : Type} : List (Lit × DataW H) → Nat
  | [] => 0
  | x :: r => uptoBulkEntry x + uptoBulkEntries r
def uptoBulkEntry {H : Type} : Lit × DataW H → Nat
  | (.string bytes, d) => bytes.length + uptoBulk d + 1
  | (_, d) => uptoBulk d + 1
 end
def uptoSmall : (H : Type) → List (DataW H) → Bool := fun _ ds => decide (uptoBulkAll ds ≤ 1048576)
def OpenSpec.upto (s : _root_.Go.ChangeSpec) : _root_.Go.OpenSpec := { _root_.Go.OpenSpec.ofChange s with cond := some uptoSmall }

/-- 'laws.FnExactFrameBounds', WHERE WHAT IT READS IS OF BULK AT MOST 1048576: true; the input reads as it did. -/
def fnExactFrameBoundsUptoRow : OpenClaim := { program := "ytmhnpogjkbmmnaa", sum := "705914658fc40a8c72c98be370433b6090a0ea7d0b2d1773dbd34d5b466074ab", func := "loop.example/g00657/laws.FnExactFrameBounds", spec := "fnExactFrameBounds", unfollowed := true, recurses := true, apart := false, narrowed := true }
def FnExactFrameBoundsUptoSaid : Prop := fnExactFrameBoundsUptoRow.holds Try.pinned (OpenSpec.upto fnExactFrameBoundsSpec)

/-- 'laws.FnExactPlayBlock', WHERE WHAT IT READS IS OF BULK AT MOST 1048576: true; the input reads as it did. -/
def fnExactPlayBlockUptoRow : OpenClaim := { program := "ytmhnpogjkbmmnaa", sum := "705914658fc40a8c72c98be370433b6090a0ea7d0b2d1773dbd34d5b466074ab", func := "loop.example/g00657/laws.FnExactPlayBlock", spec := "fnExactPlayBlock", unfollowed := true, recurses := true, apart := false, narrowed := true }
def FnExactPlayBlockUptoSaid : Prop := fnExactPlayBlockUptoRow.holds Try.pinned (OpenSpec.upto fnExactPlayBlockSpec)

/-- 'laws.FnExactFeedFrame', WHERE WHAT IT READS IS OF BULK AT MOST 1048576: true; the input reads as it did. -/
def fnExactFeedFrameUptoRow : OpenClaim := { program := "ytmhnpogjkbmmnaa", sum := "705914658fc40a8c72c98be370433b6090a0ea7d0b2d1773dbd34d5b466074ab", func := "loop.example/g00657/laws.FnExactFeedFrame", spec := "fnExactFeedFrame", unfollowed := true, recurses := true, apart := false, narrowed := true }
def FnExactFeedFrameUptoSaid : Prop := fnExactFeedFrameUptoRow.holds Try.pinned (OpenSpec.upto fnExactFeedFrameSpec)

/-- 'laws.FnFrameBounds', WHERE WHAT IT READS IS OF BULK AT MOST 1048576: true; the input reads as it did. -/
def fnFrameBoundsUptoRow : OpenClaim := { program := "ytmhnpogjkbmmnaa", sum := "705914658fc40a8c72c98be370433b6090a0ea7d0b2d1773dbd34d5b466074ab", func := "loop.example/g00657/laws.FnFrameBounds", spec := "fnFrameBounds", unfollowed := true, recurses := true, apart := false, narrowed := true }
def FnFrameBoundsUptoSaid : Prop := fnFrameBoundsUptoRow.holds Try.pinned (OpenSpec.upto fnFrameBoundsSpec)

/-- 'laws.FnStates', WHERE WHAT IT READS IS OF BULK AT MOST 1048576: true; the input reads as it did. -/
def fnStatesUptoRow : OpenClaim := { program := "ytmhnpogjkbmmnaa", sum := "705914658fc40a8c72c98be370433b6090a0ea7d0b2d1773dbd34d5b466074ab", func := "loop.example/g00657/laws.FnStates", spec := "fnStates", unfollowed := true, recurses := true, apart := false, narrowed := true }
def FnStatesUptoSaid : Prop := fnStatesUptoRow.holds Try.pinned (OpenSpec.upto fnStatesSpec)

/-- 'laws.FnLaps', WHERE WHAT IT READS IS OF BULK AT MOST 1048576: true; the input reads as it did. -/
def fnLapsUptoRow : OpenClaim := { program := "ytmhnpogjkbmmnaa", sum := "705914658fc40a8c72c98be370433b6090a0ea7d0b2d1773dbd34d5b466074ab", func := "loop.example/g00657/laws.FnLaps", spec := "fnLaps", unfollowed := true, recurses := true, apart := false, narrowed := true }
def FnLapsUptoSaid : Prop := fnLapsUptoRow.holds Try.pinned (OpenSpec.upto fnLapsSpec)

end Rows
end Go.Proofs.Ytmhnpogjkbmmnaa

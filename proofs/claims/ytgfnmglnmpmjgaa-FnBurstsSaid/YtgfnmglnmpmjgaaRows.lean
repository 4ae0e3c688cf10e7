/-
  No cell of these rows narrows 'for every input' (looked for: loops, veiled, ifaces, maps, wideKeys, modest, calm, conditions, laid).
  DERIVED. THE GIVEN ROWS OF THIS SEAT. 12 by the template 'for every input the law returns true; each argument reads behind the call as it read before'; 0 by the template 'total and deterministic' (their statements: YtgfnmglnmpmjgaaTotals.lean).
  GIVEN WITH THE SEED: the statements are not yours to turn. If you find one false, say at which input.
  Laid BY PROGRAM, IN A SANDBOX (cutbox-rows.mjs): the forced cells as the released guide's own fill.sh prints them over the translation 4f84ad76a60d425c… (all of the seat's roots in one cut). By AI agents, Wed Nov 11 2026. No macro, syntax, notation, axiom, sorry.
-/
import Derived.Test.YtgfnmglnmpmjgaaChecked
import GoSem.Claim
import GoSem.ClaimJoined
import GoSem.ClaimMapViews
import Derived.JoinedTies
import Derived.KernelRfl
namespace Go.Proofs.Ytgfnmglnmpmjgaa
/- THE CELL 'sum', in the pinned program and in every row, IS THE sha256 OF THE DUMP (.gsa) THAT YtgfnmglnmpmjgaaProg.lean LOADS. Nothing in Lean hashes anything: it is a label: what it is worth is what the hold of that sum in a sandbox is worth. -/
noncomputable def Try.pinned : Pinned := { name := "ytgfnmglnmpmjgaa", sum := "4f84ad76a60d425ce82e386c7296a3dc4b8fc30f62518c813b0ea84525464eec", checked := Try.checked }
namespace Rows
def none {H : Type} : Left H := { results := [], args := [] }

/-- 'laws.FnExactCrcOf': WHATEVER THE INPUT: true; the input reads as it did. -/
def fnExactCrcOfSpec : ChangeSpec := { name := "fnExactCrcOf", fn := fun _ => fun
  | [d] => { results := [.lit (.bool true)], args := [d] }
  | _ => none }
def fnExactCrcOfRow : OpenClaim := { program := "ytgfnmglnmpmjgaa", sum := "4f84ad76a60d425ce82e386c7296a3dc4b8fc30f62518c813b0ea84525464eec", func := "loop.example/g00657/laws.FnExactCrcOf", spec := "fnExactCrcOf", apart := false }
def FnExactCrcOfSaid : Prop := fnExactCrcOfRow.holds Try.pinned (OpenSpec.ofChange fnExactCrcOfSpec)

/-- ITS FALSE NEIGHBOUR: 'it returns false'. Refute it at one input. -/
def fnExactCrcOfWrong : ChangeSpec := { name := "fnExactCrcOf", fn := fun _ => fun
  | [d] => { results := [.lit (.bool false)], args := [d] }
  | _ => none }
def FnExactCrcOfWrongFalsely : Prop := fnExactCrcOfRow.holds Try.pinned (OpenSpec.ofChange fnExactCrcOfWrong)

/-- 'laws.FnExactSealBytes': WHATEVER THE INPUT: true; the input reads as it did. -/
def fnExactSealBytesSpec : ChangeSpec := { name := "fnExactSealBytes", fn := fun _ => fun
  | [d] => { results := [.lit (.bool true)], args := [d] }
  | _ => none }
def fnExactSealBytesRow : OpenClaim := { program := "ytgfnmglnmpmjgaa", sum := "4f84ad76a60d425ce82e386c7296a3dc4b8fc30f62518c813b0ea84525464eec", func := "loop.example/g00657/laws.FnExactSealBytes", spec := "fnExactSealBytes", apart := false }
def FnExactSealBytesSaid : Prop := fnExactSealBytesRow.holds Try.pinned (OpenSpec.ofChange fnExactSealBytesSpec)

/-- ITS FALSE NEIGHBOUR: 'it returns false'. Refute it at one input. -/
def fnExactSealBytesWrong : ChangeSpec := { name := "fnExactSealBytes", fn := fun _ => fun
  | [d] => { results := [.lit (.bool false)], args := [d] }
  | _ => none }
def FnExactSealBytesWrongFalsely : Prop := fnExactSealBytesRow.holds Try.pinned (OpenSpec.ofChange fnExactSealBytesWrong)

/-- 'laws.FnExactOpenBytes': WHATEVER THE INPUT: true; the input reads as it did. -/
def fnExactOpenBytesSpec : ChangeSpec := { name := "fnExactOpenBytes", fn := fun _ => fun
  | [d] => { results := [.lit (.bool true)], args := [d] }
  | _ => none }
def fnExactOpenBytesRow : OpenClaim := { program := "ytgfnmglnmpmjgaa", sum := "4f84ad76a60d425ce82e386c7296a3dc4b8fc30f62518c813b0ea84525464eec", func := "loop.example/g00657/laws.FnExactOpenBytes", spec := "fnExactOpenBytes", apart := false }
def FnExactOpenBytesSaid : Prop := fnExactOpenBytesRow.holds Try.pinned (OpenSpec.ofChange fnExactOpenBytesSpec)

/-- ITS FALSE NEIGHBOUR: 'it returns false'. Refute it at one input. -/
def fnExactOpenBytesWrong : ChangeSpec := { name := "fnExactOpenBytes", fn := fun _ => fun
  | [d] => { results := [.lit (.bool false)], args := [d] }
  | _ => none }
def FnExactOpenBytesWrongFalsely : Prop := fnExactOpenBytesRow.holds Try.pinned (OpenSpec.ofChange fnExactOpenBytesWrong)

/-- 'laws.FnExactFlipBits': WHATEVER THE INPUT: true; the input reads as it did. -/
def fnExactFlipBitsSpec : ChangeSpec := { name := "fnExactFlipBits", fn := fun _ => fun
  | [d1, d2, d3] => { results := [.lit (.bool true)], args := [d1, d2, d3] }
  | _ => none }
def fnExactFlipBitsRow : OpenClaim := { program := "ytgfnmglnmpmjgaa", sum := "4f84ad76a60d425ce82e386c7296a3dc4b8fc30f62518c813b0ea84525464eec", func := "loop.example/g00657/laws.FnExactFlipBits", spec := "fnExactFlipBits", apart := false }
def FnExactFlipBitsSaid : Prop := fnExactFlipBitsRow.holds Try.pinned (OpenSpec.ofChange fnExactFlipBitsSpec)

/-- ITS FALSE NEIGHBOUR: 'it returns false'. Refute it at one input. -/
def fnExactFlipBitsWrong : ChangeSpec := { name := "fnExactFlipBits", fn := fun _ => fun
  | [d1, d2, d3] => { results := [.lit (.bool false)], args := [d1, d2, d3] }
  | _ => none }
def FnExactFlipBitsWrongFalsely : Prop := fnExactFlipBitsRow.holds Try.pinned (OpenSpec.ofChange fnExactFlipBitsWrong)

/-- 'laws.FnSeals': WHATEVER THE INPUT: true; the input reads as it did. -/
def fnSealsSpec : ChangeSpec := { name := "fnSeals", fn := fun _ => fun
  | [d] => { results := [.lit (.bool true)], args := [d] }
  | _ => none }
def fnSealsRow : OpenClaim := { program := "ytgfnmglnmpmjgaa", sum := "4f84ad76a60d425ce82e386c7296a3dc4b8fc30f62518c813b0ea84525464eec", func := "loop.example/g00657/laws.FnSeals", spec := "fnSeals", apart := false }
def FnSealsSaid : Prop := fnSealsRow.holds Try.pinned (OpenSpec.ofChange fnSealsSpec)

/-- ITS FALSE NEIGHBOUR: 'it returns false'. Refute it at one input. -/
def fnSealsWrong : ChangeSpec := { name := "fnSeals", fn := fun _ => fun
  | [d] => { results := [.lit (.bool false)], args := [d] }
  | _ => none }
def FnSealsWrongFalsely : Prop := fnSealsRow.holds Try.pinned (OpenSpec.ofChange fnSealsWrong)

/-- 'laws.FnBursts': WHATEVER THE INPUT: true; the input reads as it did. -/
def fnBurstsSpec : ChangeSpec := { name := "fnBursts", fn := fun _ => fun
  | [d] => { results := [.lit (.bool true)], args := [d] }
  | _ => none }
def fnBurstsRow : OpenClaim := { program := "ytgfnmglnmpmjgaa", sum := "4f84ad76a60d425ce82e386c7296a3dc4b8fc30f62518c813b0ea84525464eec", func := "loop.example/g00657/laws.FnBursts", spec := "fnBursts", apart := false }
def FnBurstsSaid : Prop := fnBurstsRow.holds Try.pinned (OpenSpec.ofChange fnBurstsSpec)

/-- ITS FALSE NEIGHBOUR: 'it returns false'. Refute it at one input. -/
def fnBurstsWrong : ChangeSpec := { name := "fnBursts", fn := fun _ => fun
  | [d] => { results := [.lit (.bool false)], args := [d] }
  | _ => none }
def FnBurstsWrongFalsely : Prop := fnBurstsRow.holds Try.pinned (OpenSpec.ofChange fnBurstsWrong)

/-- 'laws.FnExactTurnOf': WHATEVER THE INPUT: true; the input reads as it did. -/
def fnExactTurnOfSpec : ChangeSpec := { name := "fnExactTurnOf", fn := fun _ => fun
  | [d1, d2] => { results := [.lit (.bool true)], args := [d1, d2] }
  | _ => none }
def fnExactTurnOfRow : OpenClaim := { program := "ytgfnmglnmpmjgaa", sum := "4f84ad76a60d425ce82e386c7296a3dc4b8fc30f62518c813b0ea84525464eec", func := "loop.example/g00657/laws.FnExactTurnOf", spec := "fnExactTurnOf", apart := false }
def FnExactTurnOfSaid : Prop := fnExactTurnOfRow.holds Try.pinned (OpenSpec.ofChange fnExactTurnOfSpec)

/-- ITS FALSE NEIGHBOUR: 'it returns false'. Refute it at one input. -/
def fnExactTurnOfWrong : ChangeSpec := { name := "fnExactTurnOf", fn := fun _ => fun
  | [d1, d2] => { results := [.lit (.bool false)], args := [d1, d2] }
  | _ => none }
def FnExactTurnOfWrongFalsely : Prop := fnExactTurnOfRow.holds Try.pinned (OpenSpec.ofChange fnExactTurnOfWrong)

/-- 'laws.FnExactTurnBounds': WHATEVER THE INPUT: true; the input reads as it did. -/
def fnExactTurnBoundsSpec : ChangeSpec := { name := "fnExactTurnBounds", fn := fun _ => fun
  | [d1, d2, d3, d4] => { results := [.lit (.bool true)], args := [d1, d2, d3, d4] }
  | _ => none }
def fnExactTurnBoundsRow : OpenClaim := { program := "ytgfnmglnmpmjgaa", sum := "4f84ad76a60d425ce82e386c7296a3dc4b8fc30f62518c813b0ea84525464eec", func := "loop.example/g00657/laws.FnExactTurnBounds", spec := "fnExactTurnBounds", apart := false }
def FnExactTurnBoundsSaid : Prop := fnExactTurnBoundsRow.holds Try.pinned (OpenSpec.ofChange fnExactTurnBoundsSpec)

/-- ITS FALSE NEIGHBOUR: 'it returns false'. Refute it at one input. -/
def fnExactTurnBoundsWrong : ChangeSpec := { name := "fnExactTurnBounds", fn := fun _ => fun
  | [d1, d2, d3, d4] => { results := [.lit (.bool false)], args := [d1, d2, d3, d4] }
  | _ => none }
def FnExactTurnBoundsWrongFalsely : Prop := fnExactTurnBoundsRow.holds Try.pinned (OpenSpec.ofChange fnExactTurnBoundsWrong)

/-- 'laws.FnExactBackPair': WHATEVER THE INPUT: true; the input reads as it did. -/
def fnExactBackPairSpec : ChangeSpec := { name := "fnExactBackPair", fn := fun _ => fun
  | [d1, d2, d3, d4] => { results := [.lit (.bool true)], args := [d1, d2, d3, d4] }
  | _ => none }
def fnExactBackPairRow : OpenClaim := { program := "ytgfnmglnmpmjgaa", sum := "4f84ad76a60d425ce82e386c7296a3dc4b8fc30f62518c813b0ea84525464eec", func := "loop.example/g00657/laws.FnExactBackPair", spec := "fnExactBackPair", apart := false }
def FnExactBackPairSaid : Prop := fnExactBackPairRow.holds Try.pinned (OpenSpec.ofChange fnExactBackPairSpec)

/-- ITS FALSE NEIGHBOUR: 'it returns false'. Refute it at one input. -/
def fnExactBackPairWrong : ChangeSpec := { name := "fnExactBackPair", fn := fun _ => fun
  | [d1, d2, d3, d4] => { results := [.lit (.bool false)], args := [d1, d2, d3, d4] }
  | _ => none }
def FnExactBackPairWrongFalsely : Prop := fnExactBackPairRow.holds Try.pinned (OpenSpec.ofChange fnExactBackPairWrong)

/-- 'laws.FnExactTurnPair': WHATEVER THE INPUT: true; the input reads as it did. -/
def fnExactTurnPairSpec : ChangeSpec := { name := "fnExactTurnPair", fn := fun _ => fun
  | [d1, d2, d3, d4] => { results := [.lit (.bool true)], args := [d1, d2, d3, d4] }
  | _ => none }
def fnExactTurnPairRow : OpenClaim := { program := "ytgfnmglnmpmjgaa", sum := "4f84ad76a60d425ce82e386c7296a3dc4b8fc30f62518c813b0ea84525464eec", func := "loop.example/g00657/laws.FnExactTurnPair", spec := "fnExactTurnPair", apart := false }
def FnExactTurnPairSaid : Prop := fnExactTurnPairRow.holds Try.pinned (OpenSpec.ofChange fnExactTurnPairSpec)

/-- ITS FALSE NEIGHBOUR: 'it returns false'. Refute it at one input. -/
def fnExactTurnPairWrong : ChangeSpec := { name := "fnExactTurnPair", fn := fun _ => fun
  | [d1, d2, d3, d4] => { results := [.lit (.bool false)], args := [d1, d2, d3, d4] }
  | _ => none }
def FnExactTurnPairWrongFalsely : Prop := fnExactTurnPairRow.holds Try.pinned (OpenSpec.ofChange fnExactTurnPairWrong)

/-- 'laws.FnTurns': WHATEVER THE INPUT: true; the input reads as it did. -/
def fnTurnsSpec : ChangeSpec := { name := "fnTurns", fn := fun _ => fun
  | [d] => { results := [.lit (.bool true)], args := [d] }
  | _ => none }
def fnTurnsRow : OpenClaim := { program := "ytgfnmglnmpmjgaa", sum := "4f84ad76a60d425ce82e386c7296a3dc4b8fc30f62518c813b0ea84525464eec", func := "loop.example/g00657/laws.FnTurns", spec := "fnTurns", apart := false }
def FnTurnsSaid : Prop := fnTurnsRow.holds Try.pinned (OpenSpec.ofChange fnTurnsSpec)

/-- ITS FALSE NEIGHBOUR: 'it returns false'. Refute it at one input. -/
def fnTurnsWrong : ChangeSpec := { name := "fnTurns", fn := fun _ => fun
  | [d] => { results := [.lit (.bool false)], args := [d] }
  | _ => none }
def FnTurnsWrongFalsely : Prop := fnTurnsRow.holds Try.pinned (OpenSpec.ofChange fnTurnsWrong)

/-- 'laws.FnPairBounds': WHATEVER THE INPUT: true; the input reads as it did. -/
def fnPairBoundsSpec : ChangeSpec := { name := "fnPairBounds", fn := fun _ => fun
  | [d] => { results := [.lit (.bool true)], args := [d] }
  | _ => none }
def fnPairBoundsRow : OpenClaim := { program := "ytgfnmglnmpmjgaa", sum := "4f84ad76a60d425ce82e386c7296a3dc4b8fc30f62518c813b0ea84525464eec", func := "loop.example/g00657/laws.FnPairBounds", spec := "fnPairBounds", apart := false }
def FnPairBoundsSaid : Prop := fnPairBoundsRow.holds Try.pinned (OpenSpec.ofChange fnPairBoundsSpec)

/-- ITS FALSE NEIGHBOUR: 'it returns false'. Refute it at one input. -/
def fnPairBoundsWrong : ChangeSpec := { name := "fnPairBounds", fn := fun _ => fun
  | [d] => { results := [.lit (.bool false)], args := [d] }
  | _ => none }
def FnPairBoundsWrongFalsely : Prop := fnPairBoundsRow.holds Try.pinned (OpenSpec.ofChange fnPairBoundsWrong)

/- THE SECOND FORM. 'bulk': how many values and letters a reading holds, each counted each time it is reached (what is shared counts as often as it is met; a slice's spare places count too). A statement '..UptoSaid' is the law's where the arguments, and the package variables that the reading takes, are together of bulk at most 1048576: NARROWER than '..Said'. Prove '..Said' where nothing that the law and all that it calls make is longer than what came in: it says more and counts as full. Else prove '..UptoSaid'. A law counts once. -/
mutual
def uptoBulk {H : Type} : DataW H → Nat
  | .lit (.string bytes) => bytes.length + 1
  | .lit _ => 1
  | .nil => 1
  | .ptr d => uptoBulk d + 1
  | .slice elems spare => uptoBulkAll elems + uptoBulkAll spare + 1
  | .agg parts => uptoBulkAll parts + 1
  | .iface _ d => uptoBulk d + 1
  | .map entries => uptoBulkEntries entries + 1
  | .held _ => 1
def uptoBulkAll {H : Type} : List (DataW H) → Nat
  | [] => 0
  | d :: r => uptoBulk d + uptoBulkAll r
def uptoBulkEntries {H : Type} : List (Lit × DataW H) → Nat
  | [] => 0
  | x :: r => uptoBulkEntry x + uptoBulkEntries r
def uptoBulkEntry {H : Type} : Lit × DataW H → Nat
  | (.string bytes, d) => bytes.length + uptoBulk d + 1
  | (_, d) => uptoBulk d + 1
 end
def uptoSmall : (H : Type) → List (DataW H) → Bool := fun _ ds => decide (uptoBulkAll ds ≤ 1048576)
def OpenSpec.upto (s : _root_.Go.ChangeSpec) : _root_.Go.OpenSpec := { _root_.Go.OpenSpec.ofChange s with cond := some uptoSmall }

/-- 'laws.FnExactCrcOf', WHERE WHAT IT READS IS OF BULK AT MOST 1048576: true; the input reads as it did. -/
def fnExactCrcOfUptoRow : OpenClaim := { program := "ytgfnmglnmpmjgaa", sum := "4f84ad76a60d425ce82e386c7296a3dc4b8fc30f62518c813b0ea84525464eec", func := "loop.example/g00657/laws.FnExactCrcOf", spec := "fnExactCrcOf", apart := false, narrowed := true }
def FnExactCrcOfUptoSaid : Prop := fnExactCrcOfUptoRow.holds Try.pinned (OpenSpec.upto fnExactCrcOfSpec)

/-- 'laws.FnExactSealBytes', WHERE WHAT IT READS IS OF BULK AT MOST 1048576: true; the input reads as it did. -/
def fnExactSealBytesUptoRow : OpenClaim := { program := "ytgfnmglnmpmjgaa", sum := "4f84ad76a60d425ce82e386c7296a3dc4b8fc30f62518c813b0ea84525464eec", func := "loop.example/g00657/laws.FnExactSealBytes", spec := "fnExactSealBytes", apart := false, narrowed := true }
def FnExactSealBytesUptoSaid : Prop := fnExactSealBytesUptoRow.holds Try.pinned (OpenSpec.upto fnExactSealBytesSpec)

/-- 'laws.FnExactOpenBytes', WHERE WHAT IT READS IS OF BULK AT MOST 1048576: true; the input reads as it did. -/
def fnExactOpenBytesUptoRow : OpenClaim := { program := "ytgfnmglnmpmjgaa", sum := "4f84ad76a60d425ce82e386c7296a3dc4b8fc30f62518c813b0ea84525464eec", func := "loop.example/g00657/laws.FnExactOpenBytes", spec := "fnExactOpenBytes", apart := false, narrowed := true }
def FnExactOpenBytesUptoSaid : Prop := fnExactOpenBytesUptoRow.holds Try.pinned (OpenSpec.upto fnExactOpenBytesSpec)

/-- 'laws.FnExactFlipBits', WHERE WHAT IT READS IS OF BULK AT MOST 1048576: true; the input reads as it did. -/
def fnExactFlipBitsUptoRow : OpenClaim := { program := "ytgfnmglnmpmjgaa", sum := "4f84ad76a60d425ce82e386c7296a3dc4b8fc30f62518c813b0ea84525464eec", func := "loop.example/g00657/laws.FnExactFlipBits", spec := "fnExactFlipBits", apart := false, narrowed := true }
def FnExactFlipBitsUptoSaid : Prop := fnExactFlipBitsUptoRow.holds Try.pinned (OpenSpec.upto fnExactFlipBitsSpec)

/-- 'laws.FnSeals', WHERE WHAT IT READS IS OF BULK AT MOST 1048576: true; the input reads as it did. -/
def fnSealsUptoRow : OpenClaim := { program := "ytgfnmglnmpmjgaa", sum := "4f84ad76a60d425ce82e386c7296a3dc4b8fc30f62518c813b0ea84525464eec", func := "loop.example/g00657/laws.FnSeals", spec := "fnSeals", apart := false, narrowed := true }
def FnSealsUptoSaid : Prop := fnSealsUptoRow.holds Try.pinned (OpenSpec.upto fnSealsSpec)

/-- 'laws.FnBursts', WHERE WHAT IT READS IS OF BULK AT MOST 1048576: true; the input reads as it did. -/
def fnBurstsUptoRow : OpenClaim := { program := "ytgfnmglnmpmjgaa", sum := "4f84ad76a60d425ce82e386c7296a3dc4b8fc30f62518c813b0ea84525464eec", func := "loop.example/g00657/laws.FnBursts", spec := "fnBursts", apart := false, narrowed := true }
def FnBurstsUptoSaid : Prop := fnBurstsUptoRow.holds Try.pinned (OpenSpec.upto fnBurstsSpec)

/-- 'laws.FnExactTurnOf', WHERE WHAT IT READS IS OF BULK AT MOST 1048576: true; the input reads as it did. -/
def fnExactTurnOfUptoRow : OpenClaim := { program := "ytgfnmglnmpmjgaa", sum := "4f84ad76a60d425ce82e386c7296a3dc4b8fc30f62518c813b0ea84525464eec", func := "loop.example/g00657/laws.FnExactTurnOf", spec := "fnExactTurnOf", apart := false, narrowed := true }
def FnExactTurnOfUptoSaid : Prop := fnExactTurnOfUptoRow.holds Try.pinned (OpenSpec.upto fnExactTurnOfSpec)

/-- 'laws.FnExactTurnBounds', WHERE WHAT IT READS IS OF BULK AT MOST 1048576: true; the input reads as it did. -/
def fnExactTurnBoundsUptoRow : OpenClaim := { program := "ytgfnmglnmpmjgaa", sum := "4f84ad76a60d425ce82e386c7296a3dc4b8fc30f62518c813b0ea84525464eec", func := "loop.example/g00657/laws.FnExactTurnBounds", spec := "fnExactTurnBounds", apart := false, narrowed := true }
def FnExactTurnBoundsUptoSaid : Prop := fnExactTurnBoundsUptoRow.holds Try.pinned (OpenSpec.upto fnExactTurnBoundsSpec)

/-- 'laws.FnExactBackPair', WHERE WHAT IT READS IS OF BULK AT MOST 1048576: true; the input reads as it did. -/
def fnExactBackPairUptoRow : OpenClaim := { program := "ytgfnmglnmpmjgaa", sum := "4f84ad76a60d425ce82e386c7296a3dc4b8fc30f62518c813b0ea84525464eec", func := "loop.example/g00657/laws.FnExactBackPair", spec := "fnExactBackPair", apart := false, narrowed := true }
def FnExactBackPairUptoSaid : Prop := fnExactBackPairUptoRow.holds Try.pinned (OpenSpec.upto fnExactBackPairSpec)

/-- 'laws.FnExactTurnPair', WHERE WHAT IT READS IS OF BULK AT MOST 1048576: true; the input reads as it did. -/
def fnExactTurnPairUptoRow : OpenClaim := { program := "ytgfnmglnmpmjgaa", sum := "4f84ad76a60d425ce82e386c7296a3dc4b8fc30f62518c813b0ea84525464eec", func := "loop.example/g00657/laws.FnExactTurnPair", spec := "fnExactTurnPair", apart := false, narrowed := true }
def FnExactTurnPairUptoSaid : Prop := fnExactTurnPairUptoRow.holds Try.pinned (OpenSpec.upto fnExactTurnPairSpec)

/-- 'laws.FnTurns', WHERE WHAT IT READS IS OF BULK AT MOST 1048576: true; the input reads as it did. -/
def fnTurnsUptoRow : OpenClaim := { program := "ytgfnmglnmpmjgaa", sum := "4f84ad76a60d425ce82e386c7296a3dc4b8fc30f62518c813b0ea84525464eec", func := "loop.example/g00657/laws.FnTurns", spec := "fnTurns", apart := false, narrowed := true }
def FnTurnsUptoSaid : Prop := fnTurnsUptoRow.holds Try.pinned (OpenSpec.upto fnTurnsSpec)

/-- 'laws.FnPairBounds', WHERE WHAT IT READS IS OF BULK AT MOST 1048576: true; the input reads as it did. -/
def fnPairBoundsUptoRow : OpenClaim := { program := "ytgfnmglnmpmjgaa", sum := "4f84ad76a60d425ce82e386c7296a3dc4b8fc30f62518c813b0ea84525464eec", func := "loop.example/g00657/laws.FnPairBounds", spec := "fnPairBounds", apart := false, narrowed := true }
def FnPairBoundsUptoSaid : Prop := fnPairBoundsUptoRow.holds Try.pinned (OpenSpec.upto fnPairBoundsSpec)

end Rows
end Go.Proofs.Ytgfnmglnmpmjgaa

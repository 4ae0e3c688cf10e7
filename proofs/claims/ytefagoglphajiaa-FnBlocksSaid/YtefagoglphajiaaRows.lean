/-
  No cell of these rows narrows 'for every input' (looked for: loops, veiled, ifaces, maps, wideKeys, modest, calm, conditions, laid).
  DERIVED. THE GIVEN ROWS OF THIS SEAT. 12 by the template 'for every input the law returns true; each argument reads behind the call as it read before'; 0 by the template 'total and deterministic' (their statements: YtefagoglphajiaaTotals.lean).
  GIVEN WITH THE SEED: the statements are not yours to turn. If you find one false, say at which input.
  Laid BY PROGRAM, IN A SANDBOX (cutbox-rows.mjs): the forced cells as the released guide's own fill.sh prints them over the translation cc73b00afdb8ce60… (all of the seat's roots in one cut). By AI agents, Wed Nov 11 2026. No macro, syntax, notation, axiom, sorry.
-/
import Derived.Test.YtefagoglphajiaaChecked
import GoSem.Claim
import GoSem.ClaimJoined
import GoSem.ClaimMapViews
import Derived.JoinedTies
import Derived.KernelRfl
namespace Go.Proofs.Ytefagoglphajiaa
/- THE CELL 'sum', in the pinned program and in every row, IS THE sha256 OF THE DUMP (.gsa) THAT YtefagoglphajiaaProg.lean LOADS. Nothing in Lean hashes anything: it is a label: what it is worth is what the hold of that sum in a sandbox is worth. -/
noncomputable def Try.pinned : Pinned := { name := "ytefagoglphajiaa", sum := "cc73b00afdb8ce6084181e3567a24dd884d6d3a026306f5395ed2cdd2df9e5cf", checked := Try.checked }
namespace Rows
def none {H : Type} : Left H := { results := [], args := [] }

/-- 'laws.FnExactUniteHalves': WHATEVER THE INPUT: true; the input reads as it did. -/
def fnExactUniteHalvesSpec : ChangeSpec := { name := "fnExactUniteHalves", fn := fun _ => fun
  | [d1, d2] => { results := [.lit (.bool true)], args := [d1, d2] }
  | _ => none }
def fnExactUniteHalvesRow : OpenClaim := { program := "ytefagoglphajiaa", sum := "cc73b00afdb8ce6084181e3567a24dd884d6d3a026306f5395ed2cdd2df9e5cf", func := "loop.example/g00657/laws.FnExactUniteHalves", spec := "fnExactUniteHalves", unfollowed := true, recurses := true, apart := false }
def FnExactUniteHalvesSaid : Prop := fnExactUniteHalvesRow.holds Try.pinned (OpenSpec.ofChange fnExactUniteHalvesSpec)

/-- ITS FALSE NEIGHBOUR: 'it returns false'. Refute it at one input. -/
def fnExactUniteHalvesWrong : ChangeSpec := { name := "fnExactUniteHalves", fn := fun _ => fun
  | [d1, d2] => { results := [.lit (.bool false)], args := [d1, d2] }
  | _ => none }
def FnExactUniteHalvesWrongFalsely : Prop := fnExactUniteHalvesRow.holds Try.pinned (OpenSpec.ofChange fnExactUniteHalvesWrong)

/-- 'laws.FnExactHalveList': WHATEVER THE INPUT: true; the input reads as it did. -/
def fnExactHalveListSpec : ChangeSpec := { name := "fnExactHalveList", fn := fun _ => fun
  | [d] => { results := [.lit (.bool true)], args := [d] }
  | _ => none }
def fnExactHalveListRow : OpenClaim := { program := "ytefagoglphajiaa", sum := "cc73b00afdb8ce6084181e3567a24dd884d6d3a026306f5395ed2cdd2df9e5cf", func := "loop.example/g00657/laws.FnExactHalveList", spec := "fnExactHalveList", unfollowed := true, recurses := true, apart := false }
def FnExactHalveListSaid : Prop := fnExactHalveListRow.holds Try.pinned (OpenSpec.ofChange fnExactHalveListSpec)

/-- ITS FALSE NEIGHBOUR: 'it returns false'. Refute it at one input. -/
def fnExactHalveListWrong : ChangeSpec := { name := "fnExactHalveList", fn := fun _ => fun
  | [d] => { results := [.lit (.bool false)], args := [d] }
  | _ => none }
def FnExactHalveListWrongFalsely : Prop := fnExactHalveListRow.holds Try.pinned (OpenSpec.ofChange fnExactHalveListWrong)

/-- 'laws.FnExactSpreadBlock': WHATEVER THE INPUT: true; the input reads as it did. -/
def fnExactSpreadBlockSpec : ChangeSpec := { name := "fnExactSpreadBlock", fn := fun _ => fun
  | [d] => { results := [.lit (.bool true)], args := [d] }
  | _ => none }
def fnExactSpreadBlockRow : OpenClaim := { program := "ytefagoglphajiaa", sum := "cc73b00afdb8ce6084181e3567a24dd884d6d3a026306f5395ed2cdd2df9e5cf", func := "loop.example/g00657/laws.FnExactSpreadBlock", spec := "fnExactSpreadBlock", unfollowed := true, recurses := true, apart := false }
def FnExactSpreadBlockSaid : Prop := fnExactSpreadBlockRow.holds Try.pinned (OpenSpec.ofChange fnExactSpreadBlockSpec)

/-- ITS FALSE NEIGHBOUR: 'it returns false'. Refute it at one input. -/
def fnExactSpreadBlockWrong : ChangeSpec := { name := "fnExactSpreadBlock", fn := fun _ => fun
  | [d] => { results := [.lit (.bool false)], args := [d] }
  | _ => none }
def FnExactSpreadBlockWrongFalsely : Prop := fnExactSpreadBlockRow.holds Try.pinned (OpenSpec.ofChange fnExactSpreadBlockWrong)

/-- 'laws.FnExactGatherBlock': WHATEVER THE INPUT: true; the input reads as it did. -/
def fnExactGatherBlockSpec : ChangeSpec := { name := "fnExactGatherBlock", fn := fun _ => fun
  | [d] => { results := [.lit (.bool true)], args := [d] }
  | _ => none }
def fnExactGatherBlockRow : OpenClaim := { program := "ytefagoglphajiaa", sum := "cc73b00afdb8ce6084181e3567a24dd884d6d3a026306f5395ed2cdd2df9e5cf", func := "loop.example/g00657/laws.FnExactGatherBlock", spec := "fnExactGatherBlock", unfollowed := true, recurses := true, apart := false }
def FnExactGatherBlockSaid : Prop := fnExactGatherBlockRow.holds Try.pinned (OpenSpec.ofChange fnExactGatherBlockSpec)

/-- ITS FALSE NEIGHBOUR: 'it returns false'. Refute it at one input. -/
def fnExactGatherBlockWrong : ChangeSpec := { name := "fnExactGatherBlock", fn := fun _ => fun
  | [d] => { results := [.lit (.bool false)], args := [d] }
  | _ => none }
def FnExactGatherBlockWrongFalsely : Prop := fnExactGatherBlockRow.holds Try.pinned (OpenSpec.ofChange fnExactGatherBlockWrong)

/-- 'laws.FnExactGatherBounds': WHATEVER THE INPUT: true; the input reads as it did. -/
def fnExactGatherBoundsSpec : ChangeSpec := { name := "fnExactGatherBounds", fn := fun _ => fun
  | [d] => { results := [.lit (.bool true)], args := [d] }
  | _ => none }
def fnExactGatherBoundsRow : OpenClaim := { program := "ytefagoglphajiaa", sum := "cc73b00afdb8ce6084181e3567a24dd884d6d3a026306f5395ed2cdd2df9e5cf", func := "loop.example/g00657/laws.FnExactGatherBounds", spec := "fnExactGatherBounds", unfollowed := true, recurses := true, apart := false }
def FnExactGatherBoundsSaid : Prop := fnExactGatherBoundsRow.holds Try.pinned (OpenSpec.ofChange fnExactGatherBoundsSpec)

/-- ITS FALSE NEIGHBOUR: 'it returns false'. Refute it at one input. -/
def fnExactGatherBoundsWrong : ChangeSpec := { name := "fnExactGatherBounds", fn := fun _ => fun
  | [d] => { results := [.lit (.bool false)], args := [d] }
  | _ => none }
def FnExactGatherBoundsWrongFalsely : Prop := fnExactGatherBoundsRow.holds Try.pinned (OpenSpec.ofChange fnExactGatherBoundsWrong)

/-- 'laws.FnExactFrameBounds': WHATEVER THE INPUT: true; the input reads as it did. -/
def fnExactFrameBoundsSpec : ChangeSpec := { name := "fnExactFrameBounds", fn := fun _ => fun
  | [d1, d2, d3, d4] => { results := [.lit (.bool true)], args := [d1, d2, d3, d4] }
  | _ => none }
def fnExactFrameBoundsRow : OpenClaim := { program := "ytefagoglphajiaa", sum := "cc73b00afdb8ce6084181e3567a24dd884d6d3a026306f5395ed2cdd2df9e5cf", func := "loop.example/g00657/laws.FnExactFrameBounds", spec := "fnExactFrameBounds", unfollowed := true, recurses := true, apart := false }
def FnExactFrameBoundsSaid : Prop := fnExactFrameBoundsRow.holds Try.pinned (OpenSpec.ofChange fnExactFrameBoundsSpec)

/-- ITS FALSE NEIGHBOUR: 'it returns false'. Refute it at one input. -/
def fnExactFrameBoundsWrong : ChangeSpec := { name := "fnExactFrameBounds", fn := fun _ => fun
  | [d1, d2, d3, d4] => { results := [.lit (.bool false)], args := [d1, d2, d3, d4] }
  | _ => none }
def FnExactFrameBoundsWrongFalsely : Prop := fnExactFrameBoundsRow.holds Try.pinned (OpenSpec.ofChange fnExactFrameBoundsWrong)

/-- 'laws.FnExactPlayBlock': WHATEVER THE INPUT: true; the input reads as it did. -/
def fnExactPlayBlockSpec : ChangeSpec := { name := "fnExactPlayBlock", fn := fun _ => fun
  | [d1, d2] => { results := [.lit (.bool true)], args := [d1, d2] }
  | _ => none }
def fnExactPlayBlockRow : OpenClaim := { program := "ytefagoglphajiaa", sum := "cc73b00afdb8ce6084181e3567a24dd884d6d3a026306f5395ed2cdd2df9e5cf", func := "loop.example/g00657/laws.FnExactPlayBlock", spec := "fnExactPlayBlock", unfollowed := true, recurses := true, apart := false }
def FnExactPlayBlockSaid : Prop := fnExactPlayBlockRow.holds Try.pinned (OpenSpec.ofChange fnExactPlayBlockSpec)

/-- ITS FALSE NEIGHBOUR: 'it returns false'. Refute it at one input. -/
def fnExactPlayBlockWrong : ChangeSpec := { name := "fnExactPlayBlock", fn := fun _ => fun
  | [d1, d2] => { results := [.lit (.bool false)], args := [d1, d2] }
  | _ => none }
def FnExactPlayBlockWrongFalsely : Prop := fnExactPlayBlockRow.holds Try.pinned (OpenSpec.ofChange fnExactPlayBlockWrong)

/-- 'laws.FnExactFeedFrame': WHATEVER THE INPUT: true; the input reads as it did. -/
def fnExactFeedFrameSpec : ChangeSpec := { name := "fnExactFeedFrame", fn := fun _ => fun
  | [d1, d2] => { results := [.lit (.bool true)], args := [d1, d2] }
  | _ => none }
def fnExactFeedFrameRow : OpenClaim := { program := "ytefagoglphajiaa", sum := "cc73b00afdb8ce6084181e3567a24dd884d6d3a026306f5395ed2cdd2df9e5cf", func := "loop.example/g00657/laws.FnExactFeedFrame", spec := "fnExactFeedFrame", unfollowed := true, recurses := true, apart := false }
def FnExactFeedFrameSaid : Prop := fnExactFeedFrameRow.holds Try.pinned (OpenSpec.ofChange fnExactFeedFrameSpec)

/-- ITS FALSE NEIGHBOUR: 'it returns false'. Refute it at one input. -/
def fnExactFeedFrameWrong : ChangeSpec := { name := "fnExactFeedFrame", fn := fun _ => fun
  | [d1, d2] => { results := [.lit (.bool false)], args := [d1, d2] }
  | _ => none }
def FnExactFeedFrameWrongFalsely : Prop := fnExactFeedFrameRow.holds Try.pinned (OpenSpec.ofChange fnExactFeedFrameWrong)

/-- 'laws.FnCoefs': WHATEVER THE INPUT: true; the input reads as it did. -/
def fnCoefsSpec : ChangeSpec := { name := "fnCoefs", fn := fun _ => fun
  | [d] => { results := [.lit (.bool true)], args := [d] }
  | _ => none }
def fnCoefsRow : OpenClaim := { program := "ytefagoglphajiaa", sum := "cc73b00afdb8ce6084181e3567a24dd884d6d3a026306f5395ed2cdd2df9e5cf", func := "loop.example/g00657/laws.FnCoefs", spec := "fnCoefs", unfollowed := true, recurses := true, apart := false }
def FnCoefsSaid : Prop := fnCoefsRow.holds Try.pinned (OpenSpec.ofChange fnCoefsSpec)

/-- ITS FALSE NEIGHBOUR: 'it returns false'. Refute it at one input. -/
def fnCoefsWrong : ChangeSpec := { name := "fnCoefs", fn := fun _ => fun
  | [d] => { results := [.lit (.bool false)], args := [d] }
  | _ => none }
def FnCoefsWrongFalsely : Prop := fnCoefsRow.holds Try.pinned (OpenSpec.ofChange fnCoefsWrong)

/-- 'laws.FnBlocks': WHATEVER THE INPUT: true; the input reads as it did. -/
def fnBlocksSpec : ChangeSpec := { name := "fnBlocks", fn := fun _ => fun
  | [d] => { results := [.lit (.bool true)], args := [d] }
  | _ => none }
def fnBlocksRow : OpenClaim := { program := "ytefagoglphajiaa", sum := "cc73b00afdb8ce6084181e3567a24dd884d6d3a026306f5395ed2cdd2df9e5cf", func := "loop.example/g00657/laws.FnBlocks", spec := "fnBlocks", unfollowed := true, recurses := true, apart := false }
def FnBlocksSaid : Prop := fnBlocksRow.holds Try.pinned (OpenSpec.ofChange fnBlocksSpec)

/-- ITS FALSE NEIGHBOUR: 'it returns false'. Refute it at one input. -/
def fnBlocksWrong : ChangeSpec := { name := "fnBlocks", fn := fun _ => fun
  | [d] => { results := [.lit (.bool false)], args := [d] }
  | _ => none }
def FnBlocksWrongFalsely : Prop := fnBlocksRow.holds Try.pinned (OpenSpec.ofChange fnBlocksWrong)

/-- 'laws.FnFrameBounds': WHATEVER THE INPUT: true; the input reads as it did. -/
def fnFrameBoundsSpec : ChangeSpec := { name := "fnFrameBounds", fn := fun _ => fun
  | [d] => { results := [.lit (.bool true)], args := [d] }
  | _ => none }
def fnFrameBoundsRow : OpenClaim := { program := "ytefagoglphajiaa", sum := "cc73b00afdb8ce6084181e3567a24dd884d6d3a026306f5395ed2cdd2df9e5cf", func := "loop.example/g00657/laws.FnFrameBounds", spec := "fnFrameBounds", unfollowed := true, recurses := true, apart := false }
def FnFrameBoundsSaid : Prop := fnFrameBoundsRow.holds Try.pinned (OpenSpec.ofChange fnFrameBoundsSpec)

/-- ITS FALSE NEIGHBOUR: 'it returns false'. Refute it at one input. -/
def fnFrameBoundsWrong : ChangeSpec := { name := "fnFrameBounds", fn := fun _ => fun
  | [d] => { results := [.lit (.bool false)], args := [d] }
  | _ => none }
def FnFrameBoundsWrongFalsely : Prop := fnFrameBoundsRow.holds Try.pinned (OpenSpec.ofChange fnFrameBoundsWrong)

/-- 'laws.FnStates': WHATEVER THE INPUT: true; the input reads as it did. -/
def fnStatesSpec : ChangeSpec := { name := "fnStates", fn := fun _ => fun
  | [d] => { results := [.lit (.bool true)], args := [d] }
  | _ => none }
def fnStatesRow : OpenClaim := { program := "ytefagoglphajiaa", sum := "cc73b00afdb8ce6084181e3567a24dd884d6d3a026306f5395ed2cdd2df9e5cf", func := "loop.example/g00657/laws.FnStates", spec := "fnStates", unfollowed := true, recurses := true, apart := false }
def FnStatesSaid : Prop := fnStatesRow.holds Try.pinned (OpenSpec.ofChange fnStatesSpec)

/-- ITS FALSE NEIGHBOUR: 'it returns false'. Refute it at one input. -/
def fnStatesWrong : ChangeSpec := { name := "fnStates", fn := fun _ => fun
  | [d] => { results := [.lit (.bool false)], args := [d] }
  | _ => none }
def FnStatesWrongFalsely : Prop := fnStatesRow.holds Try.pinned (OpenSpec.ofChange fnStatesWrong)

/- THE SECOND FORM. 'bulk': how many values and letters a reading holds, each counted each time it is reached (what is shared counts as often as it is met; a slice's spare places count too). A statement '..UptoSaid' is the law's where the arguments, and the package variables that the reading takes, are together of bulk at most 1048576: NARROWER than '..Said'. Prove '..Said' where nothing that the law and all that it calls make is longer than what came in: it says more and counts as full. Else prove '..UptoSaid'. A law counts once. -/
mutual
def uptoBulk {H : Type} : DataW H → Nat
  | .lit (.string bytes) => bytes.length + 1
  | .lit _ => 1
  | .nil => 1
  | .ptr d => uptoBulk d + 1
  | .slice elems spare => uptoBulkAll elems + uptoBulkAll spare + 1
  | .agg parts => uptoBulkAll parts + 1
  | .iface _ d => uptoBulk d + 1
  | .map entries => uptoBulkEntries entries + 1
  | .held _ => 1
def uptoBulkAll {H : Type} : List (DataW H) → Nat
  | [] => 0
  | d :: r => uptoBulk d + uptoBulkAll r
def uptoBulkEntries {H : Type} : List (Lit × DataW H) → Nat
  | [] => 0
  | x :: r => uptoBulkEntry x + uptoBulkEntries r
def uptoBulkEntry {H : Type} : Lit × DataW H → Nat
  | (.string bytes, d) => bytes.length + uptoBulk d + 1
  | (_, d) => uptoBulk d + 1
 end
def uptoSmall : (H : Type) → List (DataW H) → Bool := fun _ ds => decide (uptoBulkAll ds ≤ 1048576)
def OpenSpec.upto (s : _root_.Go.ChangeSpec) : _root_.Go.OpenSpec := { _root_.Go.OpenSpec.ofChange s with cond := some uptoSmall }

/-- 'laws.FnExactUniteHalves', WHERE WHAT IT READS IS OF BULK AT MOST 1048576: true; the input reads as it did. -/
def fnExactUniteHalvesUptoRow : OpenClaim := { program := "ytefagoglphajiaa", sum := "cc73b00afdb8ce6084181e3567a24dd884d6d3a026306f5395ed2cdd2df9e5cf", func := "loop.example/g00657/laws.FnExactUniteHalves", spec := "fnExactUniteHalves", unfollowed := true, recurses := true, apart := false, narrowed := true }
def FnExactUniteHalvesUptoSaid : Prop := fnExactUniteHalvesUptoRow.holds Try.pinned (OpenSpec.upto fnExactUniteHalvesSpec)

/-- 'laws.FnExactHalveList', WHERE WHAT IT READS IS OF BULK AT MOST 1048576: true; the input reads as it did. -/
def fnExactHalveListUptoRow : OpenClaim := { program := "ytefagoglphajiaa", sum := "cc73b00afdb8ce6084181e3567a24dd884d6d3a026306f5395ed2cdd2df9e5cf", func := "loop.example/g00657/laws.FnExactHalveList", spec := "fnExactHalveList", unfollowed := true, recurses := true, apart := false, narrowed := true }
def FnExactHalveListUptoSaid : Prop := fnExactHalveListUptoRow.holds Try.pinned (OpenSpec.upto fnExactHalveListSpec)

/-- 'laws.FnExactSpreadBlock', WHERE WHAT IT READS IS OF BULK AT MOST 1048576: true; the input reads as it did. -/
def fnExactSpreadBlockUptoRow : OpenClaim := { program := "ytefagoglphajiaa", sum := "cc73b00afdb8ce6084181e3567a24dd884d6d3a026306f5395ed2cdd2df9e5cf", func := "loop.example/g00657/laws.FnExactSpreadBlock", spec := "fnExactSpreadBlock", unfollowed := true, recurses := true, apart := false, narrowed := true }
def FnExactSpreadBlockUptoSaid : Prop := fnExactSpreadBlockUptoRow.holds Try.pinned (OpenSpec.upto fnExactSpreadBlockSpec)

/-- 'laws.FnExactGatherBlock', WHERE WHAT IT READS IS OF BULK AT MOST 1048576: true; the input reads as it did. -/
def fnExactGatherBlockUptoRow : OpenClaim := { program := "ytefagoglphajiaa", sum := "cc73b00afdb8ce6084181e3567a24dd884d6d3a026306f5395ed2cdd2df9e5cf", func := "loop.example/g00657/laws.FnExactGatherBlock", spec := "fnExactGatherBlock", unfollowed := true, recurses := true, apart := false, narrowed := true }
def FnExactGatherBlockUptoSaid : Prop := fnExactGatherBlockUptoRow.holds Try.pinned (OpenSpec.upto fnExactGatherBlockSpec)

/-- 'laws.FnExactGatherBounds', WHERE WHAT IT READS IS OF BULK AT MOST 1048576: true; the input reads as it did. -/
def fnExactGatherBoundsUptoRow : OpenClaim := { program := "ytefagoglphajiaa", sum := "cc73b00afdb8ce6084181e3567a24dd884d6d3a026306f5395ed2cdd2df9e5cf", func := "loop.example/g00657/laws.FnExactGatherBounds", spec := "fnExactGatherBounds", unfollowed := true, recurses := true, apart := false, narrowed := true }
def FnExactGatherBoundsUptoSaid : Prop := fnExactGatherBoundsUptoRow.holds Try.pinned (OpenSpec.upto fnExactGatherBoundsSpec)

/-- 'laws.FnExactFrameBounds', WHERE WHAT IT READS IS OF BULK AT MOST 1048576: true; the input reads as it did. -/
def fnExactFrameBoundsUptoRow : OpenClaim := { program := "ytefagoglphajiaa", sum := "cc73b00afdb8ce6084181e3567a24dd884d6d3a026306f5395ed2cdd2df9e5cf", func := "loop.example/g00657/laws.FnExactFrameBounds", spec := "fnExactFrameBounds", unfollowed := true, recurses := true, apart := false, narrowed := true }
def FnExactFrameBoundsUptoSaid : Prop := fnExactFrameBoundsUptoRow.holds Try.pinned (OpenSpec.upto fnExactFrameBoundsSpec)

/-- 'laws.FnExactPlayBlock', WHERE WHAT IT READS IS OF BULK AT MOST 1048576: true; the input reads as it did. -/
def fnExactPlayBlockUptoRow : OpenClaim := { program := "ytefagoglphajiaa", sum := "cc73b00afdb8ce6084181e3567a24dd884d6d3a026306f5395ed2cdd2df9e5cf", func := "loop.example/g00657/laws.FnExactPlayBlock", spec := "fnExactPlayBlock", unfollowed := true, recurses := true, apart := false, narrowed := true }
def FnExactPlayBlockUptoSaid : Prop := fnExactPlayBlockUptoRow.holds Try.pinned (OpenSpec.upto fnExactPlayBlockSpec)

/-- 'laws.FnExactFeedFrame', WHERE WHAT IT READS IS OF BULK AT MOST 1048576: true; the input reads as it did. -/
def fnExactFeedFrameUptoRow : OpenClaim := { program := "ytefagoglphajiaa", sum := "cc73b00afdb8ce6084181e3567a24dd884d6d3a026306f5395ed2cdd2df9e5cf", func := "loop.example/g00657/laws.FnExactFeedFrame", spec := "fnExactFeedFrame", unfollowed := true, recurses := true, apart := false, narrowed := true }
def FnExactFeedFrameUptoSaid : Prop := fnExactFeedFrameUptoRow.holds Try.pinned (OpenSpec.upto fnExactFeedFrameSpec)

/-- 'laws.FnCoefs', WHERE WHAT IT READS IS OF BULK AT MOST 1048576: true; the input reads as it did. -/
def fnCoefsUptoRow : OpenClaim := { program := "ytefagoglphajiaa", sum := "cc73b00afdb8ce6084181e3567a24dd884d6d3a026306f5395ed2cdd2df9e5cf", func := "loop.example/g00657/laws.FnCoefs", spec := "fnCoefs", unfollowed := true, recurses := true, apart := false, narrowed := true }
def FnCoefsUptoSaid : Prop := fnCoefsUptoRow.holds Try.pinned (OpenSpec.upto fnCoefsSpec)

/-- 'laws.FnBlocks', WHERE WHAT IT READS IS OF BULK AT MOST 1048576: true; the input reads as it did. -/
def fnBlocksUptoRow : OpenClaim := { program := "ytefagoglphajiaa", sum := "cc73b00afdb8ce6084181e3567a24dd884d6d3a026306f5395ed2cdd2df9e5cf", func := "loop.example/g00657/laws.FnBlocks", spec := "fnBlocks", unfollowed := true, recurses := true, apart := false, narrowed := true }
def FnBlocksUptoSaid : Prop := fnBlocksUptoRow.holds Try.pinned (OpenSpec.upto fnBlocksSpec)

/-- 'laws.FnFrameBounds', WHERE WHAT IT READS IS OF BULK AT MOST 1048576: true; the input reads as it did. -/
def fnFrameBoundsUptoRow : OpenClaim := { program := "ytefagoglphajiaa", sum := "cc73b00afdb8ce6084181e3567a24dd884d6d3a026306f5395ed2cdd2df9e5cf", func := "loop.example/g00657/laws.FnFrameBounds", spec := "fnFrameBounds", unfollowed := true, recurses := true, apart := false, narrowed := true }
def FnFrameBoundsUptoSaid : Prop := fnFrameBoundsUptoRow.holds Try.pinned (OpenSpec.upto fnFrameBoundsSpec)

/-- 'laws.FnStates', WHERE WHAT IT READS IS OF BULK AT MOST 1048576: true; the input reads as it did. -/
def fnStatesUptoRow : OpenClaim := { program := "ytefagoglphajiaa", sum := "cc73b00afdb8ce6084181e3567a24dd884d6d3a026306f5395ed2cdd2df9e5cf", func := "loop.example/g00657/laws.FnStates", spec := "fnStates", unfollowed := true, recurses := true, apart := false, narrowed := true }
def FnStatesUptoSaid : Prop := fnStatesUptoRow.holds Try.pinned (OpenSpec.upto fnStatesSpec)

end Rows
end Go.Proofs.Ytefagoglphajiaa

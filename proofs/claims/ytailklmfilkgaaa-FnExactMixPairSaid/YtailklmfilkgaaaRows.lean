/-
  No cell of these rows narrows 'for every input' (looked for: loops, veiled, ifaces, maps, wideKeys, modest, calm, conditions, laid).
  DERIVED. THE GIVEN ROWS OF THIS SEAT. 12 by the template 'for every input the law returns true; each argument reads behind the call as it read before'; 0 by the template 'total and deterministic' (their statements: YtailklmfilkgaaaTotals.lean).
  GIVEN WITH THE SEED: the statements are not yours to turn. If you find one false, say at which input.
  Laid BY PROGRAM, IN A SANDBOX (cutbox-rows.mjs): the forced cells as the released guide's own fill.sh prints them over the translation 4b4f39c87d82b24a… (all of the seat's roots in one cut). By AI agents, Wed Nov 11 2026. No macro, syntax, notation, axiom, sorry.
-/
import Derived.Test.YtailklmfilkgaaaChecked
import GoSem.Claim
import GoSem.ClaimJoined
import GoSem.ClaimMapViews
import Derived.JoinedTies
import Derived.KernelRfl
namespace Go.Proofs.Ytailklmfilkgaaa
/- THE CELL 'sum', in the pinned program and in every row, IS THE sha256 OF THE DUMP (.gsa) THAT YtailklmfilkgaaaProg.lean LOADS. Nothing in Lean hashes anything: it is a label: what it is worth is what the hold of that sum in a sandbox is worth. -/
noncomputable def Try.pinned : Pinned := { name := "ytailklmfilkgaaa", sum := "4b4f39c87d82b24a2a8bbe28ccebb6318c33b45772789ca0d6306375c9f1d89a", checked := Try.checked }
namespace Rows
def none {H : Type} : Left H := { results := [], args := [] }

/-- 'laws.FnExactConstants': WHATEVER THE INPUT: true; the input reads as it did. -/
def fnExactConstantsSpec : ChangeSpec := { name := "fnExactConstants", fn := fun _ => fun
  | [] => { results := [.lit (.bool true)], args := [] }
  | _ => none }
def fnExactConstantsRow : OpenClaim := { program := "ytailklmfilkgaaa", sum := "4b4f39c87d82b24a2a8bbe28ccebb6318c33b45772789ca0d6306375c9f1d89a", func := "loop.example/g00657/laws.FnExactConstants", spec := "fnExactConstants", apart := false }
def FnExactConstantsSaid : Prop := fnExactConstantsRow.holds Try.pinned (OpenSpec.ofChange fnExactConstantsSpec)

/-- ITS FALSE NEIGHBOUR: 'it returns false'. Refute it at one input. -/
def fnExactConstantsWrong : ChangeSpec := { name := "fnExactConstants", fn := fun _ => fun
  | [] => { results := [.lit (.bool false)], args := [] }
  | _ => none }
def FnExactConstantsWrongFalsely : Prop := fnExactConstantsRow.holds Try.pinned (OpenSpec.ofChange fnExactConstantsWrong)

/-- 'laws.FnExactClamp16': WHATEVER THE INPUT: true; the input reads as it did. -/
def fnExactClamp16Spec : ChangeSpec := { name := "fnExactClamp16", fn := fun _ => fun
  | [d] => { results := [.lit (.bool true)], args := [d] }
  | _ => none }
def fnExactClamp16Row : OpenClaim := { program := "ytailklmfilkgaaa", sum := "4b4f39c87d82b24a2a8bbe28ccebb6318c33b45772789ca0d6306375c9f1d89a", func := "loop.example/g00657/laws.FnExactClamp16", spec := "fnExactClamp16", apart := false }
def FnExactClamp16Said : Prop := fnExactClamp16Row.holds Try.pinned (OpenSpec.ofChange fnExactClamp16Spec)

/-- ITS FALSE NEIGHBOUR: 'it returns false'. Refute it at one input. -/
def fnExactClamp16Wrong : ChangeSpec := { name := "fnExactClamp16", fn := fun _ => fun
  | [d] => { results := [.lit (.bool false)], args := [d] }
  | _ => none }
def FnExactClamp16WrongFalsely : Prop := fnExactClamp16Row.holds Try.pinned (OpenSpec.ofChange fnExactClamp16Wrong)

/-- 'laws.FnExactSizeFault': WHATEVER THE INPUT: true; the input reads as it did. -/
def fnExactSizeFaultSpec : ChangeSpec := { name := "fnExactSizeFault", fn := fun _ => fun
  | [d] => { results := [.lit (.bool true)], args := [d] }
  | _ => none }
def fnExactSizeFaultRow : OpenClaim := { program := "ytailklmfilkgaaa", sum := "4b4f39c87d82b24a2a8bbe28ccebb6318c33b45772789ca0d6306375c9f1d89a", func := "loop.example/g00657/laws.FnExactSizeFault", spec := "fnExactSizeFault", apart := false }
def FnExactSizeFaultSaid : Prop := fnExactSizeFaultRow.holds Try.pinned (OpenSpec.ofChange fnExactSizeFaultSpec)

/-- ITS FALSE NEIGHBOUR: 'it returns false'. Refute it at one input. -/
def fnExactSizeFaultWrong : ChangeSpec := { name := "fnExactSizeFault", fn := fun _ => fun
  | [d] => { results := [.lit (.bool false)], args := [d] }
  | _ => none }
def FnExactSizeFaultWrongFalsely : Prop := fnExactSizeFaultRow.holds Try.pinned (OpenSpec.ofChange fnExactSizeFaultWrong)

/-- 'laws.FnExactSlotFault': WHATEVER THE INPUT: true; the input reads as it did. -/
def fnExactSlotFaultSpec : ChangeSpec := { name := "fnExactSlotFault", fn := fun _ => fun
  | [d] => { results := [.lit (.bool true)], args := [d] }
  | _ => none }
def fnExactSlotFaultRow : OpenClaim := { program := "ytailklmfilkgaaa", sum := "4b4f39c87d82b24a2a8bbe28ccebb6318c33b45772789ca0d6306375c9f1d89a", func := "loop.example/g00657/laws.FnExactSlotFault", spec := "fnExactSlotFault", apart := false }
def FnExactSlotFaultSaid : Prop := fnExactSlotFaultRow.holds Try.pinned (OpenSpec.ofChange fnExactSlotFaultSpec)

/-- ITS FALSE NEIGHBOUR: 'it returns false'. Refute it at one input. -/
def fnExactSlotFaultWrong : ChangeSpec := { name := "fnExactSlotFault", fn := fun _ => fun
  | [d] => { results := [.lit (.bool false)], args := [d] }
  | _ => none }
def FnExactSlotFaultWrongFalsely : Prop := fnExactSlotFaultRow.holds Try.pinned (OpenSpec.ofChange fnExactSlotFaultWrong)

/-- 'laws.FnExactCeilDiv': WHATEVER THE INPUT: true; the input reads as it did. -/
def fnExactCeilDivSpec : ChangeSpec := { name := "fnExactCeilDiv", fn := fun _ => fun
  | [d1, d2] => { results := [.lit (.bool true)], args := [d1, d2] }
  | _ => none }
def fnExactCeilDivRow : OpenClaim := { program := "ytailklmfilkgaaa", sum := "4b4f39c87d82b24a2a8bbe28ccebb6318c33b45772789ca0d6306375c9f1d89a", func := "loop.example/g00657/laws.FnExactCeilDiv", spec := "fnExactCeilDiv", apart := false }
def FnExactCeilDivSaid : Prop := fnExactCeilDivRow.holds Try.pinned (OpenSpec.ofChange fnExactCeilDivSpec)

/-- ITS FALSE NEIGHBOUR: 'it returns false'. Refute it at one input. -/
def fnExactCeilDivWrong : ChangeSpec := { name := "fnExactCeilDiv", fn := fun _ => fun
  | [d1, d2] => { results := [.lit (.bool false)], args := [d1, d2] }
  | _ => none }
def FnExactCeilDivWrongFalsely : Prop := fnExactCeilDivRow.holds Try.pinned (OpenSpec.ofChange fnExactCeilDivWrong)

/-- 'laws.FnExactTenOf': WHATEVER THE INPUT: true; the input reads as it did. -/
def fnExactTenOfSpec : ChangeSpec := { name := "fnExactTenOf", fn := fun _ => fun
  | [d] => { results := [.lit (.bool true)], args := [d] }
  | _ => none }
def fnExactTenOfRow : OpenClaim := { program := "ytailklmfilkgaaa", sum := "4b4f39c87d82b24a2a8bbe28ccebb6318c33b45772789ca0d6306375c9f1d89a", func := "loop.example/g00657/laws.FnExactTenOf", spec := "fnExactTenOf", apart := false }
def FnExactTenOfSaid : Prop := fnExactTenOfRow.holds Try.pinned (OpenSpec.ofChange fnExactTenOfSpec)

/-- ITS FALSE NEIGHBOUR: 'it returns false'. Refute it at one input. -/
def fnExactTenOfWrong : ChangeSpec := { name := "fnExactTenOf", fn := fun _ => fun
  | [d] => { results := [.lit (.bool false)], args := [d] }
  | _ => none }
def FnExactTenOfWrongFalsely : Prop := fnExactTenOfRow.holds Try.pinned (OpenSpec.ofChange fnExactTenOfWrong)

/-- 'laws.FnExactUnzigOf': WHATEVER THE INPUT: true; the input reads as it did. -/
def fnExactUnzigOfSpec : ChangeSpec := { name := "fnExactUnzigOf", fn := fun _ => fun
  | [d] => { results := [.lit (.bool true)], args := [d] }
  | _ => none }
def fnExactUnzigOfRow : OpenClaim := { program := "ytailklmfilkgaaa", sum := "4b4f39c87d82b24a2a8bbe28ccebb6318c33b45772789ca0d6306375c9f1d89a", func := "loop.example/g00657/laws.FnExactUnzigOf", spec := "fnExactUnzigOf", apart := false }
def FnExactUnzigOfSaid : Prop := fnExactUnzigOfRow.holds Try.pinned (OpenSpec.ofChange fnExactUnzigOfSpec)

/-- ITS FALSE NEIGHBOUR: 'it returns false'. Refute it at one input. -/
def fnExactUnzigOfWrong : ChangeSpec := { name := "fnExactUnzigOf", fn := fun _ => fun
  | [d] => { results := [.lit (.bool false)], args := [d] }
  | _ => none }
def FnExactUnzigOfWrongFalsely : Prop := fnExactUnzigOfRow.holds Try.pinned (OpenSpec.ofChange fnExactUnzigOfWrong)

/-- 'laws.FnExactPlayBlock': WHATEVER THE INPUT: true; the input reads as it did. -/
def fnExactPlayBlockSpec : ChangeSpec := { name := "fnExactPlayBlock", fn := fun _ => fun
  | [d1, d2] => { results := [.lit (.bool true)], args := [d1, d2] }
  | _ => none }
def fnExactPlayBlockRow : OpenClaim := { program := "ytailklmfilkgaaa", sum := "4b4f39c87d82b24a2a8bbe28ccebb6318c33b45772789ca0d6306375c9f1d89a", func := "loop.example/g00657/laws.FnExactPlayBlock", spec := "fnExactPlayBlock", unfollowed := true, recurses := true, apart := false }
def FnExactPlayBlockSaid : Prop := fnExactPlayBlockRow.holds Try.pinned (OpenSpec.ofChange fnExactPlayBlockSpec)

/-- ITS FALSE NEIGHBOUR: 'it returns false'. Refute it at one input. -/
def fnExactPlayBlockWrong : ChangeSpec := { name := "fnExactPlayBlock", fn := fun _ => fun
  | [d1, d2] => { results := [.lit (.bool false)], args := [d1, d2] }
  | _ => none }
def FnExactPlayBlockWrongFalsely : Prop := fnExactPlayBlockRow.holds Try.pinned (OpenSpec.ofChange fnExactPlayBlockWrong)

/-- 'laws.FnExactRoundDiv': WHATEVER THE INPUT: true; the input reads as it did. -/
def fnExactRoundDivSpec : ChangeSpec := { name := "fnExactRoundDiv", fn := fun _ => fun
  | [d1, d2] => { results := [.lit (.bool true)], args := [d1, d2] }
  | _ => none }
def fnExactRoundDivRow : OpenClaim := { program := "ytailklmfilkgaaa", sum := "4b4f39c87d82b24a2a8bbe28ccebb6318c33b45772789ca0d6306375c9f1d89a", func := "loop.example/g00657/laws.FnExactRoundDiv", spec := "fnExactRoundDiv", recurses := true, apart := false }
def FnExactRoundDivSaid : Prop := fnExactRoundDivRow.holds Try.pinned (OpenSpec.ofChange fnExactRoundDivSpec)

/-- ITS FALSE NEIGHBOUR: 'it returns false'. Refute it at one input. -/
def fnExactRoundDivWrong : ChangeSpec := { name := "fnExactRoundDiv", fn := fun _ => fun
  | [d1, d2] => { results := [.lit (.bool false)], args := [d1, d2] }
  | _ => none }
def FnExactRoundDivWrongFalsely : Prop := fnExactRoundDivRow.holds Try.pinned (OpenSpec.ofChange fnExactRoundDivWrong)

/-- 'laws.FnExactZigOf': WHATEVER THE INPUT: true; the input reads as it did. -/
def fnExactZigOfSpec : ChangeSpec := { name := "fnExactZigOf", fn := fun _ => fun
  | [d] => { results := [.lit (.bool true)], args := [d] }
  | _ => none }
def fnExactZigOfRow : OpenClaim := { program := "ytailklmfilkgaaa", sum := "4b4f39c87d82b24a2a8bbe28ccebb6318c33b45772789ca0d6306375c9f1d89a", func := "loop.example/g00657/laws.FnExactZigOf", spec := "fnExactZigOf", apart := false }
def FnExactZigOfSaid : Prop := fnExactZigOfRow.holds Try.pinned (OpenSpec.ofChange fnExactZigOfSpec)

/-- ITS FALSE NEIGHBOUR: 'it returns false'. Refute it at one input. -/
def fnExactZigOfWrong : ChangeSpec := { name := "fnExactZigOf", fn := fun _ => fun
  | [d] => { results := [.lit (.bool false)], args := [d] }
  | _ => none }
def FnExactZigOfWrongFalsely : Prop := fnExactZigOfRow.holds Try.pinned (OpenSpec.ofChange fnExactZigOfWrong)

/-- 'laws.FnExactPartBounds': WHATEVER THE INPUT: true; the input reads as it did. -/
def fnExactPartBoundsSpec : ChangeSpec := { name := "fnExactPartBounds", fn := fun _ => fun
  | [d1, d2] => { results := [.lit (.bool true)], args := [d1, d2] }
  | _ => none }
def fnExactPartBoundsRow : OpenClaim := { program := "ytailklmfilkgaaa", sum := "4b4f39c87d82b24a2a8bbe28ccebb6318c33b45772789ca0d6306375c9f1d89a", func := "loop.example/g00657/laws.FnExactPartBounds", spec := "fnExactPartBounds", apart := false }
def FnExactPartBoundsSaid : Prop := fnExactPartBoundsRow.holds Try.pinned (OpenSpec.ofChange fnExactPartBoundsSpec)

/-- ITS FALSE NEIGHBOUR: 'it returns false'. Refute it at one input. -/
def fnExactPartBoundsWrong : ChangeSpec := { name := "fnExactPartBounds", fn := fun _ => fun
  | [d1, d2] => { results := [.lit (.bool false)], args := [d1, d2] }
  | _ => none }
def FnExactPartBoundsWrongFalsely : Prop := fnExactPartBoundsRow.holds Try.pinned (OpenSpec.ofChange fnExactPartBoundsWrong)

/-- 'laws.FnExactMixPair': WHATEVER THE INPUT: true; the input reads as it did. -/
def fnExactMixPairSpec : ChangeSpec := { name := "fnExactMixPair", fn := fun _ => fun
  | [d1, d2] => { results := [.lit (.bool true)], args := [d1, d2] }
  | _ => none }
def fnExactMixPairRow : OpenClaim := { program := "ytailklmfilkgaaa", sum := "4b4f39c87d82b24a2a8bbe28ccebb6318c33b45772789ca0d6306375c9f1d89a", func := "loop.example/g00657/laws.FnExactMixPair", spec := "fnExactMixPair", apart := false }
def FnExactMixPairSaid : Prop := fnExactMixPairRow.holds Try.pinned (OpenSpec.ofChange fnExactMixPairSpec)

/-- ITS FALSE NEIGHBOUR: 'it returns false'. Refute it at one input. -/
def fnExactMixPairWrong : ChangeSpec := { name := "fnExactMixPair", fn := fun _ => fun
  | [d1, d2] => { results := [.lit (.bool false)], args := [d1, d2] }
  | _ => none }
def FnExactMixPairWrongFalsely : Prop := fnExactMixPairRow.holds Try.pinned (OpenSpec.ofChange fnExactMixPairWrong)

/- THE SECOND FORM. 'bulk': how many values and letters a reading holds, each counted each time it is reached (what is shared counts as often as it is met; a slice's spare places count too). A statement '..UptoSaid' is the law's where the arguments, and the package variables that the reading takes, are together of bulk at most 1048576: NARROWER than '..Said'. Prove '..Said' where nothing that the law and all that it calls make is longer than what came in: it says more and counts as full. Else prove '..UptoSaid'. A law counts once. -/
mutual
def uptoBulk {H : Type} : DataW H → Nat
  | .lit (.string bytes) => bytes.length + 1
  | .lit _ => 1
  | .nil => 1
  | .ptr d => uptoBulk d + 1
  | .slice elems spare => uptoBulkAll elems + uptoBulkAll spare + 1
  | .agg parts => uptoBulkAll parts + 1
  | .iface _ d => uptoBulk d + 1
  | .map entries => uptoBulkEntries entries + 1
  | .held _ => 1
def uptoBulkAll {H : Type} : List (DataW H) → Nat
  | [] => 0
  | d :: r => uptoBulk d + uptoBulkAll r
def uptoBulkEntries {H : Type} : List (Lit × DataW H) → Nat
  | [] => 0
  | x :: r => uptoBulkEntry x + uptoBulkEntries r
def uptoBulkEntry {H : Type} : Lit × DataW H → Nat
  | (.string bytes, d) => bytes.length + uptoBulk d + 1
  | (_, d) => uptoBulk d + 1
 end
def uptoSmall : (H : Type) → List (DataW H) → Bool := fun _ ds => decide (uptoBulkAll ds ≤ 1048576)
def OpenSpec.upto (s : _root_.Go.ChangeSpec) : _root_.Go.OpenSpec := { _root_.Go.OpenSpec.ofChange s with cond := some uptoSmall }

/-- 'laws.FnExactConstants', WHERE WHAT IT READS IS OF BULK AT MOST 1048576: true; the input reads as it did. -/
def fnExactConstantsUptoRow : OpenClaim := { program := "ytailklmfilkgaaa", sum := "4b4f39c87d82b24a2a8bbe28ccebb6318c33b45772789ca0d6306375c9f1d89a", func := "loop.example/g00657/laws.FnExactConstants", spec := "fnExactConstants", apart := false, narrowed := true }
def FnExactConstantsUptoSaid : Prop := fnExactConstantsUptoRow.holds Try.pinned (OpenSpec.upto fnExactConstantsSpec)

/-- 'laws.FnExactClamp16', WHERE WHAT IT READS IS OF BULK AT MOST 1048576: true; the input reads as it did. -/
def fnExactClamp16UptoRow : OpenClaim := { program := "ytailklmfilkgaaa", sum := "4b4f39c87d82b24a2a8bbe28ccebb6318c33b45772789ca0d6306375c9f1d89a", func := "loop.example/g00657/laws.FnExactClamp16", spec := "fnExactClamp16", apart := false, narrowed := true }
def FnExactClamp16UptoSaid : Prop := fnExactClamp16UptoRow.holds Try.pinned (OpenSpec.upto fnExactClamp16Spec)

/-- 'laws.FnExactSizeFault', WHERE WHAT IT READS IS OF BULK AT MOST 1048576: true; the input reads as it did. -/
def fnExactSizeFaultUptoRow : OpenClaim := { program := "ytailklmfilkgaaa", sum := "4b4f39c87d82b24a2a8bbe28ccebb6318c33b45772789ca0d6306375c9f1d89a", func := "loop.example/g00657/laws.FnExactSizeFault", spec := "fnExactSizeFault", apart := false, narrowed := true }
def FnExactSizeFaultUptoSaid : Prop := fnExactSizeFaultUptoRow.holds Try.pinned (OpenSpec.upto fnExactSizeFaultSpec)

/-- 'laws.FnExactSlotFault', WHERE WHAT IT READS IS OF BULK AT MOST 1048576: true; the input reads as it did. -/
def fnExactSlotFaultUptoRow : OpenClaim := { program := "ytailklmfilkgaaa", sum := "4b4f39c87d82b24a2a8bbe28ccebb6318c33b45772789ca0d6306375c9f1d89a", func := "loop.example/g00657/laws.FnExactSlotFault", spec := "fnExactSlotFault", apart := false, narrowed := true }
def FnExactSlotFaultUptoSaid : Prop := fnExactSlotFaultUptoRow.holds Try.pinned (OpenSpec.upto fnExactSlotFaultSpec)

/-- 'laws.FnExactCeilDiv', WHERE WHAT IT READS IS OF BULK AT MOST 1048576: true; the input reads as it did. -/
def fnExactCeilDivUptoRow : OpenClaim := { program := "ytailklmfilkgaaa", sum := "4b4f39c87d82b24a2a8bbe28ccebb6318c33b45772789ca0d6306375c9f1d89a", func := "loop.example/g00657/laws.FnExactCeilDiv", spec := "fnExactCeilDiv", apart := false, narrowed := true }
def FnExactCeilDivUptoSaid : Prop := fnExactCeilDivUptoRow.holds Try.pinned (OpenSpec.upto fnExactCeilDivSpec)

/-- 'laws.FnExactTenOf', WHERE WHAT IT READS IS OF BULK AT MOST 1048576: true; the input reads as it did. -/
def fnExactTenOfUptoRow : OpenClaim := { program := "ytailklmfilkgaaa", sum := "4b4f39c87d82b24a2a8bbe28ccebb6318c33b45772789ca0d6306375c9f1d89a", func := "loop.example/g00657/laws.FnExactTenOf", spec := "fnExactTenOf", apart := false, narrowed := true }
def FnExactTenOfUptoSaid : Prop := fnExactTenOfUptoRow.holds Try.pinned (OpenSpec.upto fnExactTenOfSpec)

/-- 'laws.FnExactUnzigOf', WHERE WHAT IT READS IS OF BULK AT MOST 1048576: true; the input reads as it did. -/
def fnExactUnzigOfUptoRow : OpenClaim := { program := "ytailklmfilkgaaa", sum := "4b4f39c87d82b24a2a8bbe28ccebb6318c33b45772789ca0d6306375c9f1d89a", func := "loop.example/g00657/laws.FnExactUnzigOf", spec := "fnExactUnzigOf", apart := false, narrowed := true }
def FnExactUnzigOfUptoSaid : Prop := fnExactUnzigOfUptoRow.holds Try.pinned (OpenSpec.upto fnExactUnzigOfSpec)

/-- 'laws.FnExactPlayBlock', WHERE WHAT IT READS IS OF BULK AT MOST 1048576: true; the input reads as it did. -/
def fnExactPlayBlockUptoRow : OpenClaim := { program := "ytailklmfilkgaaa", sum := "4b4f39c87d82b24a2a8bbe28ccebb6318c33b45772789ca0d6306375c9f1d89a", func := "loop.example/g00657/laws.FnExactPlayBlock", spec := "fnExactPlayBlock", unfollowed := true, recurses := true, apart := false, narrowed := true }
def FnExactPlayBlockUptoSaid : Prop := fnExactPlayBlockUptoRow.holds Try.pinned (OpenSpec.upto fnExactPlayBlockSpec)

/-- 'laws.FnExactRoundDiv', WHERE WHAT IT READS IS OF BULK AT MOST 1048576: true; the input reads as it did. -/
def fnExactRoundDivUptoRow : OpenClaim := { program := "ytailklmfilkgaaa", sum := "4b4f39c87d82b24a2a8bbe28ccebb6318c33b45772789ca0d6306375c9f1d89a", func := "loop.example/g00657/laws.FnExactRoundDiv", spec := "fnExactRoundDiv", recurses := true, apart := false, narrowed := true }
def FnExactRoundDivUptoSaid : Prop := fnExactRoundDivUptoRow.holds Try.pinned (OpenSpec.upto fnExactRoundDivSpec)

/-- 'laws.FnExactZigOf', WHERE WHAT IT READS IS OF BULK AT MOST 1048576: true; the input reads as it did. -/
def fnExactZigOfUptoRow : OpenClaim := { program := "ytailklmfilkgaaa", sum := "4b4f39c87d82b24a2a8bbe28ccebb6318c33b45772789ca0d6306375c9f1d89a", func := "loop.example/g00657/laws.FnExactZigOf", spec := "fnExactZigOf", apart := false, narrowed := true }
def FnExactZigOfUptoSaid : Prop := fnExactZigOfUptoRow.holds Try.pinned (OpenSpec.upto fnExactZigOfSpec)

/-- 'laws.FnExactPartBounds', WHERE WHAT IT READS IS OF BULK AT MOST 1048576: true; the input reads as it did. -/
def fnExactPartBoundsUptoRow : OpenClaim := { program := "ytailklmfilkgaaa", sum := "4b4f39c87d82b24a2a8bbe28ccebb6318c33b45772789ca0d6306375c9f1d89a", func := "loop.example/g00657/laws.FnExactPartBounds", spec := "fnExactPartBounds", apart := false, narrowed := true }
def FnExactPartBoundsUptoSaid : Prop := fnExactPartBoundsUptoRow.holds Try.pinned (OpenSpec.upto fnExactPartBoundsSpec)

/-- 'laws.FnExactMixPair', WHERE WHAT IT READS IS OF BULK AT MOST 1048576: true; the input reads as it did. -/
def fnExactMixPairUptoRow : OpenClaim := { program := "ytailklmfilkgaaa", sum := "4b4f39c87d82b24a2a8bbe28ccebb6318c33b45772789ca0d6306375c9f1d89a", func := "loop.example/g00657/laws.FnExactMixPair", spec := "fnExactMixPair", apart := false, narrowed := true }
def FnExactMixPairUptoSaid : Prop := fnExactMixPairUptoRow.holds Try.pinned (OpenSpec.upto fnExactMixPairSpec)

end Rows
end Go.Proofs.Ytailklmfilkgaaa

/-
  No cell of these rows narrows 'for every input' (looked for: loops, veiled, ifaces, maps, wideKeys, modest, calm, conditions, laid).
  DERIVED. THE GIVEN ROWS OF THIS SEAT. 8 by the template 'for every input the law returns true; each argument reads behind the call as it read before'; 0 by the template 'total and deterministic' (their statements: YtfolhiijdckfhaaTotals.lean).
  GIVEN WITH THE SEED: the statements are not yours to turn. If you find one false, say at which input.
  Laid BY PROGRAM, IN A SANDBOX (cutbox-rows.mjs): the forced cells as the released guide's own fill.sh prints them over the translation 87946f220a510286… (all of the seat's roots in one cut). By AI agents, Wed Nov 11 2026. No macro, syntax, notation, axiom, sorry.
-/
import Derived.Test.YtfolhiijdckfhaaChecked
import GoSem.Claim
import GoSem.ClaimJoined
import GoSem.ClaimMapViews
import Derived.JoinedTies
import Derived.KernelRfl
namespace Go.Proofs.Ytfolhiijdckfhaa
/- THE CELL 'sum', in the pinned program and in every row, IS THE sha256 OF THE DUMP (.gsa) THAT YtfolhiijdckfhaaProg.lean LOADS. Nothing in Lean hashes anything: it is a label: what it is worth is what the hold of that sum in a sandbox is worth. -/
noncomputable def Try.pinned : Pinned := { name := "ytfolhiijdckfhaa", sum := "87946f220a5102862277829dc1a2cabcbc7ac43cebfff878374069ea9aaaa2e1", checked := Try.checked }
namespace Rows
def none {H : Type} : Left H := { results := [], args := [] }

/-- 'laws.FnExactSameDecoders': WHATEVER THE INPUT: true; the input reads as it did. -/
def fnExactSameDecodersSpec : ChangeSpec := { name := "fnExactSameDecoders", fn := fun _ => fun
  | [d1, d2] => { results := [.lit (.bool true)], args := [d1, d2] }
  | _ => none }
def fnExactSameDecodersRow : OpenClaim := { program := "ytfolhiijdckfhaa", sum := "87946f220a5102862277829dc1a2cabcbc7ac43cebfff878374069ea9aaaa2e1", func := "loop.example/g00657/laws.FnExactSameDecoders", spec := "fnExactSameDecoders", apart := false }
def FnExactSameDecodersSaid : Prop := fnExactSameDecodersRow.holds Try.pinned (OpenSpec.ofChange fnExactSameDecodersSpec)

/-- ITS FALSE NEIGHBOUR: 'it returns false'. Refute it at one input. -/
def fnExactSameDecodersWrong : ChangeSpec := { name := "fnExactSameDecoders", fn := fun _ => fun
  | [d1, d2] => { results := [.lit (.bool false)], args := [d1, d2] }
  | _ => none }
def FnExactSameDecodersWrongFalsely : Prop := fnExactSameDecodersRow.holds Try.pinned (OpenSpec.ofChange fnExactSameDecodersWrong)

/-- 'laws.FnExactDecoderFault': WHATEVER THE INPUT: true; the input reads as it did. -/
def fnExactDecoderFaultSpec : ChangeSpec := { name := "fnExactDecoderFault", fn := fun _ => fun
  | [d] => { results := [.lit (.bool true)], args := [d] }
  | _ => none }
def fnExactDecoderFaultRow : OpenClaim := { program := "ytfolhiijdckfhaa", sum := "87946f220a5102862277829dc1a2cabcbc7ac43cebfff878374069ea9aaaa2e1", func := "loop.example/g00657/laws.FnExactDecoderFault", spec := "fnExactDecoderFault", apart := false }
def FnExactDecoderFaultSaid : Prop := fnExactDecoderFaultRow.holds Try.pinned (OpenSpec.ofChange fnExactDecoderFaultSpec)

/-- ITS FALSE NEIGHBOUR: 'it returns false'. Refute it at one input. -/
def fnExactDecoderFaultWrong : ChangeSpec := { name := "fnExactDecoderFault", fn := fun _ => fun
  | [d] => { results := [.lit (.bool false)], args := [d] }
  | _ => none }
def FnExactDecoderFaultWrongFalsely : Prop := fnExactDecoderFaultRow.holds Try.pinned (OpenSpec.ofChange fnExactDecoderFaultWrong)

/-- 'laws.FnExactNextValue': WHATEVER THE INPUT: true; the input reads as it did. -/
def fnExactNextValueSpec : ChangeSpec := { name := "fnExactNextValue", fn := fun _ => fun
  | [d1, d2] => { results := [.lit (.bool true)], args := [d1, d2] }
  | _ => none }
def fnExactNextValueRow : OpenClaim := { program := "ytfolhiijdckfhaa", sum := "87946f220a5102862277829dc1a2cabcbc7ac43cebfff878374069ea9aaaa2e1", func := "loop.example/g00657/laws.FnExactNextValue", spec := "fnExactNextValue", apart := false }
def FnExactNextValueSaid : Prop := fnExactNextValueRow.holds Try.pinned (OpenSpec.ofChange fnExactNextValueSpec)

/-- ITS FALSE NEIGHBOUR: 'it returns false'. Refute it at one input. -/
def fnExactNextValueWrong : ChangeSpec := { name := "fnExactNextValue", fn := fun _ => fun
  | [d1, d2] => { results := [.lit (.bool false)], args := [d1, d2] }
  | _ => none }
def FnExactNextValueWrongFalsely : Prop := fnExactNextValueRow.holds Try.pinned (OpenSpec.ofChange fnExactNextValueWrong)

/-- 'laws.FnExactStartDecode': WHATEVER THE INPUT: true; the input reads as it did. -/
def fnExactStartDecodeSpec : ChangeSpec := { name := "fnExactStartDecode", fn := fun _ => fun
  | [d] => { results := [.lit (.bool true)], args := [d] }
  | _ => none }
def fnExactStartDecodeRow : OpenClaim := { program := "ytfolhiijdckfhaa", sum := "87946f220a5102862277829dc1a2cabcbc7ac43cebfff878374069ea9aaaa2e1", func := "loop.example/g00657/laws.FnExactStartDecode", spec := "fnExactStartDecode", apart := false }
def FnExactStartDecodeSaid : Prop := fnExactStartDecodeRow.holds Try.pinned (OpenSpec.ofChange fnExactStartDecodeSpec)

/-- ITS FALSE NEIGHBOUR: 'it returns false'. Refute it at one input. -/
def fnExactStartDecodeWrong : ChangeSpec := { name := "fnExactStartDecode", fn := fun _ => fun
  | [d] => { results := [.lit (.bool false)], args := [d] }
  | _ => none }
def FnExactStartDecodeWrongFalsely : Prop := fnExactStartDecodeRow.holds Try.pinned (OpenSpec.ofChange fnExactStartDecodeWrong)

/-- 'laws.FnExactClassSlot': WHATEVER THE INPUT: true; the input reads as it did. -/
def fnExactClassSlotSpec : ChangeSpec := { name := "fnExactClassSlot", fn := fun _ => fun
  | [d] => { results := [.lit (.bool true)], args := [d] }
  | _ => none }
def fnExactClassSlotRow : OpenClaim := { program := "ytfolhiijdckfhaa", sum := "87946f220a5102862277829dc1a2cabcbc7ac43cebfff878374069ea9aaaa2e1", func := "loop.example/g00657/laws.FnExactClassSlot", spec := "fnExactClassSlot", apart := false }
def FnExactClassSlotSaid : Prop := fnExactClassSlotRow.holds Try.pinned (OpenSpec.ofChange fnExactClassSlotSpec)

/-- ITS FALSE NEIGHBOUR: 'it returns false'. Refute it at one input. -/
def fnExactClassSlotWrong : ChangeSpec := { name := "fnExactClassSlot", fn := fun _ => fun
  | [d] => { results := [.lit (.bool false)], args := [d] }
  | _ => none }
def FnExactClassSlotWrongFalsely : Prop := fnExactClassSlotRow.holds Try.pinned (OpenSpec.ofChange fnExactClassSlotWrong)

/-- 'laws.FnExactSlotsOf': WHATEVER THE INPUT: true; the input reads as it did. -/
def fnExactSlotsOfSpec : ChangeSpec := { name := "fnExactSlotsOf", fn := fun _ => fun
  | [d] => { results := [.lit (.bool true)], args := [d] }
  | _ => none }
def fnExactSlotsOfRow : OpenClaim := { program := "ytfolhiijdckfhaa", sum := "87946f220a5102862277829dc1a2cabcbc7ac43cebfff878374069ea9aaaa2e1", func := "loop.example/g00657/laws.FnExactSlotsOf", spec := "fnExactSlotsOf", apart := false }
def FnExactSlotsOfSaid : Prop := fnExactSlotsOfRow.holds Try.pinned (OpenSpec.ofChange fnExactSlotsOfSpec)

/-- ITS FALSE NEIGHBOUR: 'it returns false'. Refute it at one input. -/
def fnExactSlotsOfWrong : ChangeSpec := { name := "fnExactSlotsOf", fn := fun _ => fun
  | [d] => { results := [.lit (.bool false)], args := [d] }
  | _ => none }
def FnExactSlotsOfWrongFalsely : Prop := fnExactSlotsOfRow.holds Try.pinned (OpenSpec.ofChange fnExactSlotsOfWrong)

/-- 'laws.FnZigs': WHATEVER THE INPUT: true; the input reads as it did. -/
def fnZigsSpec : ChangeSpec := { name := "fnZigs", fn := fun _ => fun
  | [d] => { results := [.lit (.bool true)], args := [d] }
  | _ => none }
def fnZigsRow : OpenClaim := { program := "ytfolhiijdckfhaa", sum := "87946f220a5102862277829dc1a2cabcbc7ac43cebfff878374069ea9aaaa2e1", func := "loop.example/g00657/laws.FnZigs", spec := "fnZigs", apart := false }
def FnZigsSaid : Prop := fnZigsRow.holds Try.pinned (OpenSpec.ofChange fnZigsSpec)

/-- ITS FALSE NEIGHBOUR: 'it returns false'. Refute it at one input. -/
def fnZigsWrong : ChangeSpec := { name := "fnZigs", fn := fun _ => fun
  | [d] => { results := [.lit (.bool false)], args := [d] }
  | _ => none }
def FnZigsWrongFalsely : Prop := fnZigsRow.holds Try.pinned (OpenSpec.ofChange fnZigsWrong)

/-- 'laws.FnTens': WHATEVER THE INPUT: true; the input reads as it did. -/
def fnTensSpec : ChangeSpec := { name := "fnTens", fn := fun _ => fun
  | [d] => { results := [.lit (.bool true)], args := [d] }
  | _ => none }
def fnTensRow : OpenClaim := { program := "ytfolhiijdckfhaa", sum := "87946f220a5102862277829dc1a2cabcbc7ac43cebfff878374069ea9aaaa2e1", func := "loop.example/g00657/laws.FnTens", spec := "fnTens", unfollowed := true, recurses := true, apart := false }
def FnTensSaid : Prop := fnTensRow.holds Try.pinned (OpenSpec.ofChange fnTensSpec)

/-- ITS FALSE NEIGHBOUR: 'it returns false'. Refute it at one input. -/
def fnTensWrong : ChangeSpec := { name := "fnTens", fn := fun _ => fun
  | [d] => { results := [.lit (.bool false)], args := [d] }
  | _ => none }
def FnTensWrongFalsely : Prop := fnTensRow.holds Try.pinned (OpenSpec.ofChange fnTensWrong)

/- THE SECOND FORM. 'bulk': how many values and letters a reading holds, each counted each time it is reached (what is shared counts as often as it is met; a slice's spare places count too). A statement '..UptoSaid' is the law's where the arguments, and the package variables that the reading takes, are together of bulk at most 1048576: NARROWER than '..Said'. Prove '..Said' where nothing that the law and all that it calls make is longer than what came in: it says more and counts as full. Else prove '..UptoSaid'. A law counts once. -/
mutual
def uptoBulk {H : Type} : DataW H → Nat
  | .lit (.string bytes) => bytes.length + 1
  | .lit _ => 1
  | .nil => 1
  | .ptr d => uptoBulk d + 1
  | .slice elems spare => uptoBulkAll elems + uptoBulkAll spare + 1
  | .agg parts => uptoBulkAll parts + 1
  | .iface _ d => uptoBulk d + 1
  | .map entries => uptoBulkEntries entries + 1
  | .held _ => 1
def uptoBulkAll {H : Type} : List (DataW H) → Nat
  | [] => 0
  | d :: r => uptoBulk d + uptoBulkAll r
def uptoBulkEntries {H : Type} : List (Lit × DataW H) → Nat
  | [] => 0
  | x :: r => uptoBulkEntry x + uptoBulkEntries r
def uptoBulkEntry {H : Type} : Lit × DataW H → Nat
  | (.string bytes, d) => bytes.length + uptoBulk d + 1
  | (_, d) => uptoBulk d + 1
 end
def uptoSmall : (H : Type) → List (DataW H) → Bool := fun _ ds => decide (uptoBulkAll ds ≤ 1048576)
def OpenSpec.upto (s : _root_.Go.ChangeSpec) : _root_.Go.OpenSpec := { _root_.Go.OpenSpec.ofChange s with cond := some uptoSmall }

/-- 'laws.FnExactSameDecoders', WHERE WHAT IT READS IS OF BULK AT MOST 1048576: true; the input reads as it did. -/
def fnExactSameDecodersUptoRow : OpenClaim := { program := "ytfolhiijdckfhaa", sum := "87946f220a5102862277829dc1a2cabcbc7ac43cebfff878374069ea9aaaa2e1", func := "loop.example/g00657/laws.FnExactSameDecoders", spec := "fnExactSameDecoders", apart := false, narrowed := true }
def FnExactSameDecodersUptoSaid : Prop := fnExactSameDecodersUptoRow.holds Try.pinned (OpenSpec.upto fnExactSameDecodersSpec)

/-- 'laws.FnExactDecoderFault', WHERE WHAT IT READS IS OF BULK AT MOST 1048576: true; the input reads as it did. -/
def fnExactDecoderFaultUptoRow : OpenClaim := { program := "ytfolhiijdckfhaa", sum := "87946f220a5102862277829dc1a2cabcbc7ac43cebfff878374069ea9aaaa2e1", func := "loop.example/g00657/laws.FnExactDecoderFault", spec := "fnExactDecoderFault", apart := false, narrowed := true }
def FnExactDecoderFaultUptoSaid : Prop := fnExactDecoderFaultUptoRow.holds Try.pinned (OpenSpec.upto fnExactDecoderFaultSpec)

/-- 'laws.FnExactNextValue', WHERE WHAT IT READS IS OF BULK AT MOST 1048576: true; the input reads as it did. -/
def fnExactNextValueUptoRow : OpenClaim := { program := "ytfolhiijdckfhaa", sum := "87946f220a5102862277829dc1a2cabcbc7ac43cebfff878374069ea9aaaa2e1", func := "loop.example/g00657/laws.FnExactNextValue", spec := "fnExactNextValue", apart := false, narrowed := true }
def FnExactNextValueUptoSaid : Prop := fnExactNextValueUptoRow.holds Try.pinned (OpenSpec.upto fnExactNextValueSpec)

/-- 'laws.FnExactStartDecode', WHERE WHAT IT READS IS OF BULK AT MOST 1048576: true; the input reads as it did. -/
def fnExactStartDecodeUptoRow : OpenClaim := { program := "ytfolhiijdckfhaa", sum := "87946f220a5102862277829dc1a2cabcbc7ac43cebfff878374069ea9aaaa2e1", func := "loop.example/g00657/laws.FnExactStartDecode", spec := "fnExactStartDecode", apart := false, narrowed := true }
def FnExactStartDecodeUptoSaid : Prop := fnExactStartDecodeUptoRow.holds Try.pinned (OpenSpec.upto fnExactStartDecodeSpec)

/-- 'laws.FnExactClassSlot', WHERE WHAT IT READS IS OF BULK AT MOST 1048576: true; the input reads as it did. -/
def fnExactClassSlotUptoRow : OpenClaim := { program := "ytfolhiijdckfhaa", sum := "87946f220a5102862277829dc1a2cabcbc7ac43cebfff878374069ea9aaaa2e1", func := "loop.example/g00657/laws.FnExactClassSlot", spec := "fnExactClassSlot", apart := false, narrowed := true }
def FnExactClassSlotUptoSaid : Prop := fnExactClassSlotUptoRow.holds Try.pinned (OpenSpec.upto fnExactClassSlotSpec)

/-- 'laws.FnExactSlotsOf', WHERE WHAT IT READS IS OF BULK AT MOST 1048576: true; the input reads as it did. -/
def fnExactSlotsOfUptoRow : OpenClaim := { program := "ytfolhiijdckfhaa", sum := "87946f220a5102862277829dc1a2cabcbc7ac43cebfff878374069ea9aaaa2e1", func := "loop.example/g00657/laws.FnExactSlotsOf", spec := "fnExactSlotsOf", apart := false, narrowed := true }
def FnExactSlotsOfUptoSaid : Prop := fnExactSlotsOfUptoRow.holds Try.pinned (OpenSpec.upto fnExactSlotsOfSpec)

/-- 'laws.FnZigs', WHERE WHAT IT READS IS OF BULK AT MOST 1048576: true; the input reads as it did. -/
def fnZigsUptoRow : OpenClaim := { program := "ytfolhiijdckfhaa", sum := "87946f220a5102862277829dc1a2cabcbc7ac43cebfff878374069ea9aaaa2e1", func := "loop.example/g00657/laws.FnZigs", spec := "fnZigs", apart := false, narrowed := true }
def FnZigsUptoSaid : Prop := fnZigsUptoRow.holds Try.pinned (OpenSpec.upto fnZigsSpec)

/-- 'laws.FnTens', WHERE WHAT IT READS IS OF BULK AT MOST 1048576: true; the input reads as it did. -/
def fnTensUptoRow : OpenClaim := { program := "ytfolhiijdckfhaa", sum := "87946f220a5102862277829dc1a2cabcbc7ac43cebfff878374069ea9aaaa2e1", func := "loop.example/g00657/laws.FnTens", spec := "fnTens", unfollowed := true, recurses := true, apart := false, narrowed := true }
def FnTensUptoSaid : Prop := fnTensUptoRow.holds Try.pinned (OpenSpec.upto fnTensSpec)

end Rows
end Go.Proofs.Ytfolhiijdckfhaa

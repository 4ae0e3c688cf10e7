/-
  No cell of these rows narrows 'for every input' (looked for: loops, veiled, ifaces, maps, wideKeys, modest, calm, conditions, laid).
  DERIVED. THE GIVEN ROWS OF THIS SEAT. 8 by the template 'for every input the law returns true; each argument reads behind the call as it read before'; 0 by the template 'total and deterministic' (their statements: YtkhcojfpmojleaaTotals.lean).
  GIVEN WITH THE SEED: the statements are not yours to turn. If you find one false, say at which input.
  Laid BY PROGRAM, IN A SANDBOX (cutbox-rows.mjs): the forced cells as the released guide's own fill.sh prints them over the translation de9ed398fdca2267… (all of the seat's roots in one cut). By AI agents, Wed Nov 11 2026. No macro, syntax, notation, axiom, sorry.
-/
import Derived.Test.YtkhcojfpmojleaaChecked
import GoSem.Claim
import GoSem.ClaimJoined
import GoSem.ClaimMapViews
import Derived.JoinedTies
import Derived.KernelRfl
namespace Go.Proofs.Ytkhcojfpmojleaa
/- THE CELL 'sum', in the pinned program and in every row, IS THE sha256 OF THE DUMP (.gsa) THAT YtkhcojfpmojleaaProg.lean LOADS. Nothing in Lean hashes anything: it is a label: what it is worth is what the hold of that sum in a sandbox is worth. -/
noncomputable def Try.pinned : Pinned := { name := "ytkhcojfpmojleaa", sum := "de9ed398fdca2267c7fd17c8734c30bceeb644a3d7414255ae4c30022cbcbcdc", checked := Try.checked }
namespace Rows
def none {H : Type} : Left H := { results := [], args := [] }

/-- 'laws.FnExactSlotFault': WHATEVER THE INPUT: true; the input reads as it did. -/
def fnExactSlotFaultSpec : ChangeSpec := { name := "fnExactSlotFault", fn := fun _ => fun
  | [d] => { results := [.lit (.bool true)], args := [d] }
  | _ => none }
def fnExactSlotFaultRow : OpenClaim := { program := "ytkhcojfpmojleaa", sum := "de9ed398fdca2267c7fd17c8734c30bceeb644a3d7414255ae4c30022cbcbcdc", func := "loop.example/g00657/laws.FnExactSlotFault", spec := "fnExactSlotFault", apart := false }
def FnExactSlotFaultSaid : Prop := fnExactSlotFaultRow.holds Try.pinned (OpenSpec.ofChange fnExactSlotFaultSpec)

/-- ITS FALSE NEIGHBOUR: 'it returns false'. Refute it at one input. -/
def fnExactSlotFaultWrong : ChangeSpec := { name := "fnExactSlotFault", fn := fun _ => fun
  | [d] => { results := [.lit (.bool false)], args := [d] }
  | _ => none }
def FnExactSlotFaultWrongFalsely : Prop := fnExactSlotFaultRow.holds Try.pinned (OpenSpec.ofChange fnExactSlotFaultWrong)

/-- 'laws.FnExactSameLaps': WHATEVER THE INPUT: true; the input reads as it did. -/
def fnExactSameLapsSpec : ChangeSpec := { name := "fnExactSameLaps", fn := fun _ => fun
  | [d1, d2] => { results := [.lit (.bool true)], args := [d1, d2] }
  | _ => none }
def fnExactSameLapsRow : OpenClaim := { program := "ytkhcojfpmojleaa", sum := "de9ed398fdca2267c7fd17c8734c30bceeb644a3d7414255ae4c30022cbcbcdc", func := "loop.example/g00657/laws.FnExactSameLaps", spec := "fnExactSameLaps", apart := false }
def FnExactSameLapsSaid : Prop := fnExactSameLapsRow.holds Try.pinned (OpenSpec.ofChange fnExactSameLapsSpec)

/-- ITS FALSE NEIGHBOUR: 'it returns false'. Refute it at one input. -/
def fnExactSameLapsWrong : ChangeSpec := { name := "fnExactSameLaps", fn := fun _ => fun
  | [d1, d2] => { results := [.lit (.bool false)], args := [d1, d2] }
  | _ => none }
def FnExactSameLapsWrongFalsely : Prop := fnExactSameLapsRow.holds Try.pinned (OpenSpec.ofChange fnExactSameLapsWrong)

/-- 'laws.FnExactSameSynths': WHATEVER THE INPUT: true; the input reads as it did. -/
def fnExactSameSynthsSpec : ChangeSpec := { name := "fnExactSameSynths", fn := fun _ => fun
  | [d1, d2] => { results := [.lit (.bool true)], args := [d1, d2] }
  | _ => none }
def fnExactSameSynthsRow : OpenClaim := { program := "ytkhcojfpmojleaa", sum := "de9ed398fdca2267c7fd17c8734c30bceeb644a3d7414255ae4c30022cbcbcdc", func := "loop.example/g00657/laws.FnExactSameSynths", spec := "fnExactSameSynths", apart := false }
def FnExactSameSynthsSaid : Prop := fnExactSameSynthsRow.holds Try.pinned (OpenSpec.ofChange fnExactSameSynthsSpec)

/-- ITS FALSE NEIGHBOUR: 'it returns false'. Refute it at one input. -/
def fnExactSameSynthsWrong : ChangeSpec := { name := "fnExactSameSynths", fn := fun _ => fun
  | [d1, d2] => { results := [.lit (.bool false)], args := [d1, d2] }
  | _ => none }
def FnExactSameSynthsWrongFalsely : Prop := fnExactSameSynthsRow.holds Try.pinned (OpenSpec.ofChange fnExactSameSynthsWrong)

/-- 'laws.FnExactSynthFault': WHATEVER THE INPUT: true; the input reads as it did. -/
def fnExactSynthFaultSpec : ChangeSpec := { name := "fnExactSynthFault", fn := fun _ => fun
  | [d] => { results := [.lit (.bool true)], args := [d] }
  | _ => none }
def fnExactSynthFaultRow : OpenClaim := { program := "ytkhcojfpmojleaa", sum := "de9ed398fdca2267c7fd17c8734c30bceeb644a3d7414255ae4c30022cbcbcdc", func := "loop.example/g00657/laws.FnExactSynthFault", spec := "fnExactSynthFault", unfollowed := true, recurses := true, apart := false }
def FnExactSynthFaultSaid : Prop := fnExactSynthFaultRow.holds Try.pinned (OpenSpec.ofChange fnExactSynthFaultSpec)

/-- ITS FALSE NEIGHBOUR: 'it returns false'. Refute it at one input. -/
def fnExactSynthFaultWrong : ChangeSpec := { name := "fnExactSynthFault", fn := fun _ => fun
  | [d] => { results := [.lit (.bool false)], args := [d] }
  | _ => none }
def FnExactSynthFaultWrongFalsely : Prop := fnExactSynthFaultRow.holds Try.pinned (OpenSpec.ofChange fnExactSynthFaultWrong)

/-- 'laws.FnExactLapFault': WHATEVER THE INPUT: true; the input reads as it did. -/
def fnExactLapFaultSpec : ChangeSpec := { name := "fnExactLapFault", fn := fun _ => fun
  | [d] => { results := [.lit (.bool true)], args := [d] }
  | _ => none }
def fnExactLapFaultRow : OpenClaim := { program := "ytkhcojfpmojleaa", sum := "de9ed398fdca2267c7fd17c8734c30bceeb644a3d7414255ae4c30022cbcbcdc", func := "loop.example/g00657/laws.FnExactLapFault", spec := "fnExactLapFault", unfollowed := true, recurses := true, apart := false }
def FnExactLapFaultSaid : Prop := fnExactLapFaultRow.holds Try.pinned (OpenSpec.ofChange fnExactLapFaultSpec)

/-- ITS FALSE NEIGHBOUR: 'it returns false'. Refute it at one input. -/
def fnExactLapFaultWrong : ChangeSpec := { name := "fnExactLapFault", fn := fun _ => fun
  | [d] => { results := [.lit (.bool false)], args := [d] }
  | _ => none }
def FnExactLapFaultWrongFalsely : Prop := fnExactLapFaultRow.holds Try.pinned (OpenSpec.ofChange fnExactLapFaultWrong)

/-- 'laws.FnExactOpenBytes': WHATEVER THE INPUT: true; the input reads as it did. -/
def fnExactOpenBytesSpec : ChangeSpec := { name := "fnExactOpenBytes", fn := fun _ => fun
  | [d] => { results := [.lit (.bool true)], args := [d] }
  | _ => none }
def fnExactOpenBytesRow : OpenClaim := { program := "ytkhcojfpmojleaa", sum := "de9ed398fdca2267c7fd17c8734c30bceeb644a3d7414255ae4c30022cbcbcdc", func := "loop.example/g00657/laws.FnExactOpenBytes", spec := "fnExactOpenBytes", apart := false }
def FnExactOpenBytesSaid : Prop := fnExactOpenBytesRow.holds Try.pinned (OpenSpec.ofChange fnExactOpenBytesSpec)

/-- ITS FALSE NEIGHBOUR: 'it returns false'. Refute it at one input. -/
def fnExactOpenBytesWrong : ChangeSpec := { name := "fnExactOpenBytes", fn := fun _ => fun
  | [d] => { results := [.lit (.bool false)], args := [d] }
  | _ => none }
def FnExactOpenBytesWrongFalsely : Prop := fnExactOpenBytesRow.holds Try.pinned (OpenSpec.ofChange fnExactOpenBytesWrong)

/-- 'laws.FnSeals': WHATEVER THE INPUT: true; the input reads as it did. -/
def fnSealsSpec : ChangeSpec := { name := "fnSeals", fn := fun _ => fun
  | [d] => { results := [.lit (.bool true)], args := [d] }
  | _ => none }
def fnSealsRow : OpenClaim := { program := "ytkhcojfpmojleaa", sum := "de9ed398fdca2267c7fd17c8734c30bceeb644a3d7414255ae4c30022cbcbcdc", func := "loop.example/g00657/laws.FnSeals", spec := "fnSeals", apart := false }
def FnSealsSaid : Prop := fnSealsRow.holds Try.pinned (OpenSpec.ofChange fnSealsSpec)

/-- ITS FALSE NEIGHBOUR: 'it returns false'. Refute it at one input. -/
def fnSealsWrong : ChangeSpec := { name := "fnSeals", fn := fun _ => fun
  | [d] => { results := [.lit (.bool false)], args := [d] }
  | _ => none }
def FnSealsWrongFalsely : Prop := fnSealsRow.holds Try.pinned (OpenSpec.ofChange fnSealsWrong)

/-- 'laws.FnPairBounds': WHATEVER THE INPUT: true; the input reads as it did. -/
def fnPairBoundsSpec : ChangeSpec := { name := "fnPairBounds", fn := fun _ => fun
  | [d] => { results := [.lit (.bool true)], args := [d] }
  | _ => none }
def fnPairBoundsRow : OpenClaim := { program := "ytkhcojfpmojleaa", sum := "de9ed398fdca2267c7fd17c8734c30bceeb644a3d7414255ae4c30022cbcbcdc", func := "loop.example/g00657/laws.FnPairBounds", spec := "fnPairBounds", apart := false }
def FnPairBoundsSaid : Prop := fnPairBoundsRow.holds Try.pinned (OpenSpec.ofChange fnPairBoundsSpec)

/-- ITS FALSE NEIGHBOUR: 'it returns false'. Refute it at one input. -/
def fnPairBoundsWrong : ChangeSpec := { name := "fnPairBounds", fn := fun _ => fun
  | [d] => { results := [.lit (.bool false)], args := [d] }
  | _ => none }
def FnPairBoundsWrongFalsely : Prop := fnPairBoundsRow.holds Try.pinned (OpenSpec.ofChange fnPairBoundsWrong)

/- THE SECOND FORM. 'bulk': how many values and letters a reading holds, each counted each time it is reached (what is shared counts as often as it is met; a slice's spare places count too). A statement '..UptoSaid' is the law's where the arguments, and the package variables that the reading takes, are together of bulk at most 1048576: NARROWER than '..Said'. Prove '..Said' where nothing that the law and all that it calls make is longer than what came in: it says more and counts as full. Else prove '..UptoSaid'. A law counts once. -/
mutual
def uptoBulk {H : Type} : DataW H → Nat
  | .lit (.string bytes) => bytes.length + 1
  | .lit _ => 1
  | .nil => 1
  | .ptr d => uptoBulk d + 1
  | .slice elems spare => uptoBulkAll elems + uptoBulkAll spare + 1
  | .agg parts => uptoBulkAll parts + 1
  | .iface _ d => uptoBulk d + 1
  | .map entries => uptoBulkEntries entries + 1
  | .held _ => 1
def uptoBulkAll {H : Type} : List (DataW H) → Nat
  | [] => 0
  | d :: r => uptoBulk d + uptoBulkAll r
def uptoBulkEntries {H : Type} : List (Lit × DataW H) → Nat
  | [] => 0
  | x :: r => uptoBulkEntry x + uptoBulkEntries r
def uptoBulkEntry {H : Type} : Lit × DataW H → Nat
  | (.string bytes, d) => bytes.length + uptoBulk d + 1
  | (_, d) => uptoBulk d + 1
 end
def uptoSmall : (H : Type) → List (DataW H) → Bool := fun _ ds => decide (uptoBulkAll ds ≤ 1048576)
def OpenSpec.upto (s : _root_.Go.ChangeSpec) : _root_.Go.OpenSpec := { _root_.Go.OpenSpec.ofChange s with cond := some uptoSmall }

/-- 'laws.FnExactSlotFault', WHERE WHAT IT READS IS OF BULK AT MOST 1048576: true; the input reads as it did. -/
def fnExactSlotFaultUptoRow : OpenClaim := { program := "ytkhcojfpmojleaa", sum := "de9ed398fdca2267c7fd17c8734c30bceeb644a3d7414255ae4c30022cbcbcdc", func := "loop.example/g00657/laws.FnExactSlotFault", spec := "fnExactSlotFault", apart := false, narrowed := true }
def FnExactSlotFaultUptoSaid : Prop := fnExactSlotFaultUptoRow.holds Try.pinned (OpenSpec.upto fnExactSlotFaultSpec)

/-- 'laws.FnExactSameLaps', WHERE WHAT IT READS IS OF BULK AT MOST 1048576: true; the input reads as it did. -/
def fnExactSameLapsUptoRow : OpenClaim := { program := "ytkhcojfpmojleaa", sum := "de9ed398fdca2267c7fd17c8734c30bceeb644a3d7414255ae4c30022cbcbcdc", func := "loop.example/g00657/laws.FnExactSameLaps", spec := "fnExactSameLaps", apart := false, narrowed := true }
def FnExactSameLapsUptoSaid : Prop := fnExactSameLapsUptoRow.holds Try.pinned (OpenSpec.upto fnExactSameLapsSpec)

/-- 'laws.FnExactSameSynths', WHERE WHAT IT READS IS OF BULK AT MOST 1048576: true; the input reads as it did. -/
def fnExactSameSynthsUptoRow : OpenClaim := { program := "ytkhcojfpmojleaa", sum := "de9ed398fdca2267c7fd17c8734c30bceeb644a3d7414255ae4c30022cbcbcdc", func := "loop.example/g00657/laws.FnExactSameSynths", spec := "fnExactSameSynths", apart := false, narrowed := true }
def FnExactSameSynthsUptoSaid : Prop := fnExactSameSynthsUptoRow.holds Try.pinned (OpenSpec.upto fnExactSameSynthsSpec)

/-- 'laws.FnExactSynthFault', WHERE WHAT IT READS IS OF BULK AT MOST 1048576: true; the input reads as it did. -/
def fnExactSynthFaultUptoRow : OpenClaim := { program := "ytkhcojfpmojleaa", sum := "de9ed398fdca2267c7fd17c8734c30bceeb644a3d7414255ae4c30022cbcbcdc", func := "loop.example/g00657/laws.FnExactSynthFault", spec := "fnExactSynthFault", unfollowed := true, recurses := true, apart := false, narrowed := true }
def FnExactSynthFaultUptoSaid : Prop := fnExactSynthFaultUptoRow.holds Try.pinned (OpenSpec.upto fnExactSynthFaultSpec)

/-- 'laws.FnExactLapFault', WHERE WHAT IT READS IS OF BULK AT MOST 1048576: true; the input reads as it did. -/
def fnExactLapFaultUptoRow : OpenClaim := { program := "ytkhcojfpmojleaa", sum := "de9ed398fdca2267c7fd17c8734c30bceeb644a3d7414255ae4c30022cbcbcdc", func := "loop.example/g00657/laws.FnExactLapFault", spec := "fnExactLapFault", unfollowed := true, recurses := true, apart := false, narrowed := true }
def FnExactLapFaultUptoSaid : Prop := fnExactLapFaultUptoRow.holds Try.pinned (OpenSpec.upto fnExactLapFaultSpec)

/-- 'laws.FnExactOpenBytes', WHERE WHAT IT READS IS OF BULK AT MOST 1048576: true; the input reads as it did. -/
def fnExactOpenBytesUptoRow : OpenClaim := { program := "ytkhcojfpmojleaa", sum := "de9ed398fdca2267c7fd17c8734c30bceeb644a3d7414255ae4c30022cbcbcdc", func := "loop.example/g00657/laws.FnExactOpenBytes", spec := "fnExactOpenBytes", apart := false, narrowed := true }
def FnExactOpenBytesUptoSaid : Prop := fnExactOpenBytesUptoRow.holds Try.pinned (OpenSpec.upto fnExactOpenBytesSpec)

/-- 'laws.FnSeals', WHERE WHAT IT READS IS OF BULK AT MOST 1048576: true; the input reads as it did. -/
def fnSealsUptoRow : OpenClaim := { program := "ytkhcojfpmojleaa", sum := "de9ed398fdca2267c7fd17c8734c30bceeb644a3d7414255ae4c30022cbcbcdc", func := "loop.example/g00657/laws.FnSeals", spec := "fnSeals", apart := false, narrowed := true }
def FnSealsUptoSaid : Prop := fnSealsUptoRow.holds Try.pinned (OpenSpec.upto fnSealsSpec)

/-- 'laws.FnPairBounds', WHERE WHAT IT READS IS OF BULK AT MOST 1048576: true; the input reads as it did. -/
def fnPairBoundsUptoRow : OpenClaim := { program := "ytkhcojfpmojleaa", sum := "de9ed398fdca2267c7fd17c8734c30bceeb644a3d7414255ae4c30022cbcbcdc", func := "loop.example/g00657/laws.FnPairBounds", spec := "fnPairBounds", apart := false, narrowed := true }
def FnPairBoundsUptoSaid : Prop := fnPairBoundsUptoRow.holds Try.pinned (OpenSpec.upto fnPairBoundsSpec)

end Rows
end Go.Proofs.Ytkhcojfpmojleaa

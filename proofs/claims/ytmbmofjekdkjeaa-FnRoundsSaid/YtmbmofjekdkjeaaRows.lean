/-
  No cell of these rows narrows 'for every input' (looked for: loops, veiled, ifaces, maps, wideKeys, modest, calm, conditions, laid).
  DERIVED. THE GIVEN ROWS OF THIS SEAT. 12 by the template 'for every input the law returns true; each argument reads behind the call as it read before'; 0 by the template 'total and deterministic' (their statements: YtmbmofjekdkjeaaTotals.lean).
  GIVEN WITH THE SEED: the statements are not yours to turn. If you find one false, say at which input.
  Laid BY PROGRAM, IN A SANDBOX (cutbox-rows.mjs): the forced cells as the released guide's own fill.sh prints them over the translation fc595b7fa4c2ff39… (all of the seat's roots in one cut). By AI agents, Wed Nov 11 2026. No macro, syntax, notation, axiom, sorry.
-/
import Derived.Test.YtmbmofjekdkjeaaChecked
import GoSem.Claim
import GoSem.ClaimJoined
import GoSem.ClaimMapViews
import Derived.JoinedTies
import Derived.KernelRfl
namespace Go.Proofs.Ytmbmofjekdkjeaa
/- THE CELL 'sum', in the pinned program and in every row, IS THE sha256 OF THE DUMP (.gsa) THAT YtmbmofjekdkjeaaProg.lean LOADS. Nothing in Lean hashes anything: it is a label: what it is worth is what the hold of that sum in a sandbox is worth. -/
noncomputable def Try.pinned : Pinned := { name := "ytmbmofjekdkjeaa", sum := "fc595b7fa4c2ff39986b79b18b629488bd1ef177085a86c466694bde9748aad7", checked := Try.checked }
namespace Rows
def none {H : Type} : Left H := { results := [], args := [] }

/-- 'laws.FnExactPartPair': WHATEVER THE INPUT: true; the input reads as it did. -/
def fnExactPartPairSpec : ChangeSpec := { name := "fnExactPartPair", fn := fun _ => fun
  | [d1, d2] => { results := [.lit (.bool true)], args := [d1, d2] }
  | _ => none }
def fnExactPartPairRow : OpenClaim := { program := "ytmbmofjekdkjeaa", sum := "fc595b7fa4c2ff39986b79b18b629488bd1ef177085a86c466694bde9748aad7", func := "loop.example/g00657/laws.FnExactPartPair", spec := "fnExactPartPair", apart := false }
def FnExactPartPairSaid : Prop := fnExactPartPairRow.holds Try.pinned (OpenSpec.ofChange fnExactPartPairSpec)

/-- ITS FALSE NEIGHBOUR: 'it returns false'. Refute it at one input. -/
def fnExactPartPairWrong : ChangeSpec := { name := "fnExactPartPair", fn := fun _ => fun
  | [d1, d2] => { results := [.lit (.bool false)], args := [d1, d2] }
  | _ => none }
def FnExactPartPairWrongFalsely : Prop := fnExactPartPairRow.holds Try.pinned (OpenSpec.ofChange fnExactPartPairWrong)

/-- 'laws.FnExactIsWithin': WHATEVER THE INPUT: true; the input reads as it did. -/
def fnExactIsWithinSpec : ChangeSpec := { name := "fnExactIsWithin", fn := fun _ => fun
  | [d1, d2, d3] => { results := [.lit (.bool true)], args := [d1, d2, d3] }
  | _ => none }
def fnExactIsWithinRow : OpenClaim := { program := "ytmbmofjekdkjeaa", sum := "fc595b7fa4c2ff39986b79b18b629488bd1ef177085a86c466694bde9748aad7", func := "loop.example/g00657/laws.FnExactIsWithin", spec := "fnExactIsWithin", unfollowed := true, recurses := true, apart := false }
def FnExactIsWithinSaid : Prop := fnExactIsWithinRow.holds Try.pinned (OpenSpec.ofChange fnExactIsWithinSpec)

/-- ITS FALSE NEIGHBOUR: 'it returns false'. Refute it at one input. -/
def fnExactIsWithinWrong : ChangeSpec := { name := "fnExactIsWithin", fn := fun _ => fun
  | [d1, d2, d3] => { results := [.lit (.bool false)], args := [d1, d2, d3] }
  | _ => none }
def FnExactIsWithinWrongFalsely : Prop := fnExactIsWithinRow.holds Try.pinned (OpenSpec.ofChange fnExactIsWithinWrong)

/-- 'laws.FnExactSamplesFault': WHATEVER THE INPUT: true; the input reads as it did. -/
def fnExactSamplesFaultSpec : ChangeSpec := { name := "fnExactSamplesFault", fn := fun _ => fun
  | [d1, d2] => { results := [.lit (.bool true)], args := [d1, d2] }
  | _ => none }
def fnExactSamplesFaultRow : OpenClaim := { program := "ytmbmofjekdkjeaa", sum := "fc595b7fa4c2ff39986b79b18b629488bd1ef177085a86c466694bde9748aad7", func := "loop.example/g00657/laws.FnExactSamplesFault", spec := "fnExactSamplesFault", unfollowed := true, recurses := true, apart := false }
def FnExactSamplesFaultSaid : Prop := fnExactSamplesFaultRow.holds Try.pinned (OpenSpec.ofChange fnExactSamplesFaultSpec)

/-- ITS FALSE NEIGHBOUR: 'it returns false'. Refute it at one input. -/
def fnExactSamplesFaultWrong : ChangeSpec := { name := "fnExactSamplesFault", fn := fun _ => fun
  | [d1, d2] => { results := [.lit (.bool false)], args := [d1, d2] }
  | _ => none }
def FnExactSamplesFaultWrongFalsely : Prop := fnExactSamplesFaultRow.holds Try.pinned (OpenSpec.ofChange fnExactSamplesFaultWrong)

/-- 'laws.FnExactSameLaps': WHATEVER THE INPUT: true; the input reads as it did. -/
def fnExactSameLapsSpec : ChangeSpec := { name := "fnExactSameLaps", fn := fun _ => fun
  | [d1, d2] => { results := [.lit (.bool true)], args := [d1, d2] }
  | _ => none }
def fnExactSameLapsRow : OpenClaim := { program := "ytmbmofjekdkjeaa", sum := "fc595b7fa4c2ff39986b79b18b629488bd1ef177085a86c466694bde9748aad7", func := "loop.example/g00657/laws.FnExactSameLaps", spec := "fnExactSameLaps", apart := false }
def FnExactSameLapsSaid : Prop := fnExactSameLapsRow.holds Try.pinned (OpenSpec.ofChange fnExactSameLapsSpec)

/-- ITS FALSE NEIGHBOUR: 'it returns false'. Refute it at one input. -/
def fnExactSameLapsWrong : ChangeSpec := { name := "fnExactSameLaps", fn := fun _ => fun
  | [d1, d2] => { results := [.lit (.bool false)], args := [d1, d2] }
  | _ => none }
def FnExactSameLapsWrongFalsely : Prop := fnExactSameLapsRow.holds Try.pinned (OpenSpec.ofChange fnExactSameLapsWrong)

/-- 'laws.FnExactSameSynths': WHATEVER THE INPUT: true; the input reads as it did. -/
def fnExactSameSynthsSpec : ChangeSpec := { name := "fnExactSameSynths", fn := fun _ => fun
  | [d1, d2] => { results := [.lit (.bool true)], args := [d1, d2] }
  | _ => none }
def fnExactSameSynthsRow : OpenClaim := { program := "ytmbmofjekdkjeaa", sum := "fc595b7fa4c2ff39986b79b18b629488bd1ef177085a86c466694bde9748aad7", func := "loop.example/g00657/laws.FnExactSameSynths", spec := "fnExactSameSynths", apart := false }
def FnExactSameSynthsSaid : Prop := fnExactSameSynthsRow.holds Try.pinned (OpenSpec.ofChange fnExactSameSynthsSpec)

/-- ITS FALSE NEIGHBOUR: 'it returns false'. Refute it at one input. -/
def fnExactSameSynthsWrong : ChangeSpec := { name := "fnExactSameSynths", fn := fun _ => fun
  | [d1, d2] => { results := [.lit (.bool false)], args := [d1, d2] }
  | _ => none }
def FnExactSameSynthsWrongFalsely : Prop := fnExactSameSynthsRow.holds Try.pinned (OpenSpec.ofChange fnExactSameSynthsWrong)

/-- 'laws.FnExactNormOf': WHATEVER THE INPUT: true; the input reads as it did. -/
def fnExactNormOfSpec : ChangeSpec := { name := "fnExactNormOf", fn := fun _ => fun
  | [d] => { results := [.lit (.bool true)], args := [d] }
  | _ => none }
def fnExactNormOfRow : OpenClaim := { program := "ytmbmofjekdkjeaa", sum := "fc595b7fa4c2ff39986b79b18b629488bd1ef177085a86c466694bde9748aad7", func := "loop.example/g00657/laws.FnExactNormOf", spec := "fnExactNormOf", unfollowed := true, recurses := true, apart := false }
def FnExactNormOfSaid : Prop := fnExactNormOfRow.holds Try.pinned (OpenSpec.ofChange fnExactNormOfSpec)

/-- ITS FALSE NEIGHBOUR: 'it returns false'. Refute it at one input. -/
def fnExactNormOfWrong : ChangeSpec := { name := "fnExactNormOf", fn := fun _ => fun
  | [d] => { results := [.lit (.bool false)], args := [d] }
  | _ => none }
def FnExactNormOfWrongFalsely : Prop := fnExactNormOfRow.holds Try.pinned (OpenSpec.ofChange fnExactNormOfWrong)

/-- 'laws.FnExactNewLap': WHATEVER THE INPUT: true; the input reads as it did. -/
def fnExactNewLapSpec : ChangeSpec := { name := "fnExactNewLap", fn := fun _ => fun
  | [d] => { results := [.lit (.bool true)], args := [d] }
  | _ => none }
def fnExactNewLapRow : OpenClaim := { program := "ytmbmofjekdkjeaa", sum := "fc595b7fa4c2ff39986b79b18b629488bd1ef177085a86c466694bde9748aad7", func := "loop.example/g00657/laws.FnExactNewLap", spec := "fnExactNewLap", apart := false }
def FnExactNewLapSaid : Prop := fnExactNewLapRow.holds Try.pinned (OpenSpec.ofChange fnExactNewLapSpec)

/-- ITS FALSE NEIGHBOUR: 'it returns false'. Refute it at one input. -/
def fnExactNewLapWrong : ChangeSpec := { name := "fnExactNewLap", fn := fun _ => fun
  | [d] => { results := [.lit (.bool false)], args := [d] }
  | _ => none }
def FnExactNewLapWrongFalsely : Prop := fnExactNewLapRow.holds Try.pinned (OpenSpec.ofChange fnExactNewLapWrong)

/-- 'laws.FnExactNewSynth': WHATEVER THE INPUT: true; the input reads as it did. -/
def fnExactNewSynthSpec : ChangeSpec := { name := "fnExactNewSynth", fn := fun _ => fun
  | [d] => { results := [.lit (.bool true)], args := [d] }
  | _ => none }
def fnExactNewSynthRow : OpenClaim := { program := "ytmbmofjekdkjeaa", sum := "fc595b7fa4c2ff39986b79b18b629488bd1ef177085a86c466694bde9748aad7", func := "loop.example/g00657/laws.FnExactNewSynth", spec := "fnExactNewSynth", apart := false }
def FnExactNewSynthSaid : Prop := fnExactNewSynthRow.holds Try.pinned (OpenSpec.ofChange fnExactNewSynthSpec)

/-- ITS FALSE NEIGHBOUR: 'it returns false'. Refute it at one input. -/
def fnExactNewSynthWrong : ChangeSpec := { name := "fnExactNewSynth", fn := fun _ => fun
  | [d] => { results := [.lit (.bool false)], args := [d] }
  | _ => none }
def FnExactNewSynthWrongFalsely : Prop := fnExactNewSynthRow.holds Try.pinned (OpenSpec.ofChange fnExactNewSynthWrong)

/-- 'laws.FnRounds': WHATEVER THE INPUT: true; the input reads as it did. -/
def fnRoundsSpec : ChangeSpec := { name := "fnRounds", fn := fun _ => fun
  | [d] => { results := [.lit (.bool true)], args := [d] }
  | _ => none }
def fnRoundsRow : OpenClaim := { program := "ytmbmofjekdkjeaa", sum := "fc595b7fa4c2ff39986b79b18b629488bd1ef177085a86c466694bde9748aad7", func := "loop.example/g00657/laws.FnRounds", spec := "fnRounds", recurses := true, apart := false }
def FnRoundsSaid : Prop := fnRoundsRow.holds Try.pinned (OpenSpec.ofChange fnRoundsSpec)

/-- ITS FALSE NEIGHBOUR: 'it returns false'. Refute it at one input. -/
def fnRoundsWrong : ChangeSpec := { name := "fnRounds", fn := fun _ => fun
  | [d] => { results := [.lit (.bool false)], args := [d] }
  | _ => none }
def FnRoundsWrongFalsely : Prop := fnRoundsRow.holds Try.pinned (OpenSpec.ofChange fnRoundsWrong)

/-- 'laws.FnMixes': WHATEVER THE INPUT: true; the input reads as it did. -/
def fnMixesSpec : ChangeSpec := { name := "fnMixes", fn := fun _ => fun
  | [d] => { results := [.lit (.bool true)], args := [d] }
  | _ => none }
def fnMixesRow : OpenClaim := { program := "ytmbmofjekdkjeaa", sum := "fc595b7fa4c2ff39986b79b18b629488bd1ef177085a86c466694bde9748aad7", func := "loop.example/g00657/laws.FnMixes", spec := "fnMixes", apart := false }
def FnMixesSaid : Prop := fnMixesRow.holds Try.pinned (OpenSpec.ofChange fnMixesSpec)

/-- ITS FALSE NEIGHBOUR: 'it returns false'. Refute it at one input. -/
def fnMixesWrong : ChangeSpec := { name := "fnMixes", fn := fun _ => fun
  | [d] => { results := [.lit (.bool false)], args := [d] }
  | _ => none }
def FnMixesWrongFalsely : Prop := fnMixesRow.holds Try.pinned (OpenSpec.ofChange fnMixesWrong)

/-- 'laws.FnExactSynthFault': WHATEVER THE INPUT: true; the input reads as it did. -/
def fnExactSynthFaultSpec : ChangeSpec := { name := "fnExactSynthFault", fn := fun _ => fun
  | [d] => { results := [.lit (.bool true)], args := [d] }
  | _ => none }
def fnExactSynthFaultRow : OpenClaim := { program := "ytmbmofjekdkjeaa", sum := "fc595b7fa4c2ff39986b79b18b629488bd1ef177085a86c466694bde9748aad7", func := "loop.example/g00657/laws.FnExactSynthFault", spec := "fnExactSynthFault", unfollowed := true, recurses := true, apart := false }
def FnExactSynthFaultSaid : Prop := fnExactSynthFaultRow.holds Try.pinned (OpenSpec.ofChange fnExactSynthFaultSpec)

/-- ITS FALSE NEIGHBOUR: 'it returns false'. Refute it at one input. -/
def fnExactSynthFaultWrong : ChangeSpec := { name := "fnExactSynthFault", fn := fun _ => fun
  | [d] => { results := [.lit (.bool false)], args := [d] }
  | _ => none }
def FnExactSynthFaultWrongFalsely : Prop := fnExactSynthFaultRow.holds Try.pinned (OpenSpec.ofChange fnExactSynthFaultWrong)

/-- 'laws.FnExactLapFault': WHATEVER THE INPUT: true; the input reads as it did. -/
def fnExactLapFaultSpec : ChangeSpec := { name := "fnExactLapFault", fn := fun _ => fun
  | [d] => { results := [.lit (.bool true)], args := [d] }
  | _ => none }
def fnExactLapFaultRow : OpenClaim := { program := "ytmbmofjekdkjeaa", sum := "fc595b7fa4c2ff39986b79b18b629488bd1ef177085a86c466694bde9748aad7", func := "loop.example/g00657/laws.FnExactLapFault", spec := "fnExactLapFault", unfollowed := true, recurses := true, apart := false }
def FnExactLapFaultSaid : Prop := fnExactLapFaultRow.holds Try.pinned (OpenSpec.ofChange fnExactLapFaultSpec)

/-- ITS FALSE NEIGHBOUR: 'it returns false'. Refute it at one input. -/
def fnExactLapFaultWrong : ChangeSpec := { name := "fnExactLapFault", fn := fun _ => fun
  | [d] => { results := [.lit (.bool false)], args := [d] }
  | _ => none }
def FnExactLapFaultWrongFalsely : Prop := fnExactLapFaultRow.holds Try.pinned (OpenSpec.ofChange fnExactLapFaultWrong)

/- THE SECOND FORM. 'bulk': how many values and letters a reading holds, each counted each time it is reached (what is shared counts as often as it is met; a slice's spare places count too). A statement '..UptoSaid' is the law's where the arguments, and the package variables that the reading takes, are together of bulk at most 1048576: NARROWER than '..Said'. Prove '..Said' where nothing that the law and all that it calls make is longer than what came in: it says more and counts as full. Else prove '..UptoSaid'. A law counts once. -/
mutual
def uptoBulk {H : Type} : DataW H → Nat
  | .lit (.string bytes) => bytes.length + 1
  | .lit _ => 1
  | .nil => 1
  | .ptr d => uptoBulk d + 1
  | .slice elems spare => uptoBulkAll elems + uptoBulkAll spare + 1
  | .agg parts => uptoBulkAll parts + 1
  | .iface _ d => uptoBulk d + 1
  | .map entries => uptoBulkEntries entries + 1
  | .held _ => 1
def uptoBulkAll {H : Type} : List (DataW H) → Nat
  | [] => 0
  | d :: r => uptoBulk d + uptoBulkAll r
def uptoBulkEntries {H : Type} : List (Lit × DataW H) → Nat
  | [] => 0
  | x :: r => uptoBulkEntry x + uptoBulkEntries r
def uptoBulkEntry {H : Type} : Lit × DataW H → Nat
  | (.string bytes, d) => bytes.length + uptoBulk d + 1
  | (_, d) => uptoBulk d + 1
 end
def uptoSmall : (H : Type) → List (DataW H) → Bool := fun _ ds => decide (uptoBulkAll ds ≤ 1048576)
def OpenSpec.upto (s : _root_.Go.ChangeSpec) : _root_.Go.OpenSpec := { _root_.Go.OpenSpec.ofChange s with cond := some uptoSmall }

/-- 'laws.FnExactPartPair', WHERE WHAT IT READS IS OF BULK AT MOST 1048576: true; the input reads as it did. -/
def fnExactPartPairUptoRow : OpenClaim := { program := "ytmbmofjekdkjeaa", sum := "fc595b7fa4c2ff39986b79b18b629488bd1ef177085a86c466694bde9748aad7", func := "loop.example/g00657/laws.FnExactPartPair", spec := "fnExactPartPair", apart := false, narrowed := true }
def FnExactPartPairUptoSaid : Prop := fnExactPartPairUptoRow.holds Try.pinned (OpenSpec.upto fnExactPartPairSpec)

/-- 'laws.FnExactIsWithin', WHERE WHAT IT READS IS OF BULK AT MOST 1048576: true; the input reads as it did. -/
def fnExactIsWithinUptoRow : OpenClaim := { program := "ytmbmofjekdkjeaa", sum := "fc595b7fa4c2ff39986b79b18b629488bd1ef177085a86c466694bde9748aad7", func := "loop.example/g00657/laws.FnExactIsWithin", spec := "fnExactIsWithin", unfollowed := true, recurses := true, apart := false, narrowed := true }
def FnExactIsWithinUptoSaid : Prop := fnExactIsWithinUptoRow.holds Try.pinned (OpenSpec.upto fnExactIsWithinSpec)

/-- 'laws.FnExactSamplesFault', WHERE WHAT IT READS IS OF BULK AT MOST 1048576: true; the input reads as it did. -/
def fnExactSamplesFaultUptoRow : OpenClaim := { program := "ytmbmofjekdkjeaa", sum := "fc595b7fa4c2ff39986b79b18b629488bd1ef177085a86c466694bde9748aad7", func := "loop.example/g00657/laws.FnExactSamplesFault", spec := "fnExactSamplesFault", unfollowed := true, recurses := true, apart := false, narrowed := true }
def FnExactSamplesFaultUptoSaid : Prop := fnExactSamplesFaultUptoRow.holds Try.pinned (OpenSpec.upto fnExactSamplesFaultSpec)

/-- 'laws.FnExactSameLaps', WHERE WHAT IT READS IS OF BULK AT MOST 1048576: true; the input reads as it did. -/
def fnExactSameLapsUptoRow : OpenClaim := { program := "ytmbmofjekdkjeaa", sum := "fc595b7fa4c2ff39986b79b18b629488bd1ef177085a86c466694bde9748aad7", func := "loop.example/g00657/laws.FnExactSameLaps", spec := "fnExactSameLaps", apart := false, narrowed := true }
def FnExactSameLapsUptoSaid : Prop := fnExactSameLapsUptoRow.holds Try.pinned (OpenSpec.upto fnExactSameLapsSpec)

/-- 'laws.FnExactSameSynths', WHERE WHAT IT READS IS OF BULK AT MOST 1048576: true; the input reads as it did. -/
def fnExactSameSynthsUptoRow : OpenClaim := { program := "ytmbmofjekdkjeaa", sum := "fc595b7fa4c2ff39986b79b18b629488bd1ef177085a86c466694bde9748aad7", func := "loop.example/g00657/laws.FnExactSameSynths", spec := "fnExactSameSynths", apart := false, narrowed := true }
def FnExactSameSynthsUptoSaid : Prop := fnExactSameSynthsUptoRow.holds Try.pinned (OpenSpec.upto fnExactSameSynthsSpec)

/-- 'laws.FnExactNormOf', WHERE WHAT IT READS IS OF BULK AT MOST 1048576: true; the input reads as it did. -/
def fnExactNormOfUptoRow : OpenClaim := { program := "ytmbmofjekdkjeaa", sum := "fc595b7fa4c2ff39986b79b18b629488bd1ef177085a86c466694bde9748aad7", func := "loop.example/g00657/laws.FnExactNormOf", spec := "fnExactNormOf", unfollowed := true, recurses := true, apart := false, narrowed := true }
def FnExactNormOfUptoSaid : Prop := fnExactNormOfUptoRow.holds Try.pinned (OpenSpec.upto fnExactNormOfSpec)

/-- 'laws.FnExactNewLap', WHERE WHAT IT READS IS OF BULK AT MOST 1048576: true; the input reads as it did. -/
def fnExactNewLapUptoRow : OpenClaim := { program := "ytmbmofjekdkjeaa", sum := "fc595b7fa4c2ff39986b79b18b629488bd1ef177085a86c466694bde9748aad7", func := "loop.example/g00657/laws.FnExactNewLap", spec := "fnExactNewLap", apart := false, narrowed := true }
def FnExactNewLapUptoSaid : Prop := fnExactNewLapUptoRow.holds Try.pinned (OpenSpec.upto fnExactNewLapSpec)

/-- 'laws.FnExactNewSynth', WHERE WHAT IT READS IS OF BULK AT MOST 1048576: true; the input reads as it did. -/
def fnExactNewSynthUptoRow : OpenClaim := { program := "ytmbmofjekdkjeaa", sum := "fc595b7fa4c2ff39986b79b18b629488bd1ef177085a86c466694bde9748aad7", func := "loop.example/g00657/laws.FnExactNewSynth", spec := "fnExactNewSynth", apart := false, narrowed := true }
def FnExactNewSynthUptoSaid : Prop := fnExactNewSynthUptoRow.holds Try.pinned (OpenSpec.upto fnExactNewSynthSpec)

/-- 'laws.FnRounds', WHERE WHAT IT READS IS OF BULK AT MOST 1048576: true; the input reads as it did. -/
def fnRoundsUptoRow : OpenClaim := { program := "ytmbmofjekdkjeaa", sum := "fc595b7fa4c2ff39986b79b18b629488bd1ef177085a86c466694bde9748aad7", func := "loop.example/g00657/laws.FnRounds", spec := "fnRounds", recurses := true, apart := false, narrowed := true }
def FnRoundsUptoSaid : Prop := fnRoundsUptoRow.holds Try.pinned (OpenSpec.upto fnRoundsSpec)

/-- 'laws.FnMixes', WHERE WHAT IT READS IS OF BULK AT MOST 1048576: true; the input reads as it did. -/
def fnMixesUptoRow : OpenClaim := { program := "ytmbmofjekdkjeaa", sum := "fc595b7fa4c2ff39986b79b18b629488bd1ef177085a86c466694bde9748aad7", func := "loop.example/g00657/laws.FnMixes", spec := "fnMixes", apart := false, narrowed := true }
def FnMixesUptoSaid : Prop := fnMixesUptoRow.holds Try.pinned (OpenSpec.upto fnMixesSpec)

/-- 'laws.FnExactSynthFault', WHERE WHAT IT READS IS OF BULK AT MOST 1048576: true; the input reads as it did. -/
def fnExactSynthFaultUptoRow : OpenClaim := { program := "ytmbmofjekdkjeaa", sum := "fc595b7fa4c2ff39986b79b18b629488bd1ef177085a86c466694bde9748aad7", func := "loop.example/g00657/laws.FnExactSynthFault", spec := "fnExactSynthFault", unfollowed := true, recurses := true, apart := false, narrowed := true }
def FnExactSynthFaultUptoSaid : Prop := fnExactSynthFaultUptoRow.holds Try.pinned (OpenSpec.upto fnExactSynthFaultSpec)

/-- 'laws.FnExactLapFault', WHERE WHAT IT READS IS OF BULK AT MOST 1048576: true; the input reads as it did. -/
def fnExactLapFaultUptoRow : OpenClaim := { program := "ytmbmofjekdkjeaa", sum := "fc595b7fa4c2ff39986b79b18b629488bd1ef177085a86c466694bde9748aad7", func := "loop.example/g00657/laws.FnExactLapFault", spec := "fnExactLapFault", unfollowed := true, recurses := true, apart := false, narrowed := true }
def FnExactLapFaultUptoSaid : Prop := fnExactLapFaultUptoRow.holds Try.pinned (OpenSpec.upto fnExactLapFaultSpec)

end Rows
end Go.Proofs.Ytmbmofjekdkjeaa

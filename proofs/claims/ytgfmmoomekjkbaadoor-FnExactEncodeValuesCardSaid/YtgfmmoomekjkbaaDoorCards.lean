/-
  DERIVED. GIVEN WITH THE SEED: THE CARDS: each row of YtgfmmoomekjkbaaDoorRows.lean that lists a variable, with what it lists TIED to the program's text (the seventh form; the later family's looks); each row that meets fmt, with fmt's text TOLD by the authors' own Lean function (tested against real Go, not proved from fmt's source: count such statements apart). THE CARD IS WHAT COUNTS. Prove the row's statement (the work); the ties are given (YtgfmmoomekjkbaaDoorTie.lean); close each card by the builder's one call (the guide's Derived/Test/ToyasCard.lean, 'card_holds'). Laid BY PROGRAM, IN A SANDBOX (cutbox-door.mjs). By AI agents, Wed Nov 11 2026. No macro, syntax, notation, axiom, sorry.
-/
import Derived.Test.YtgfmmoomekjkbaaDoorRows
import GoSem.ClaimSeven
namespace Go.Proofs.YtgfmmoomekjkbaaDoor
namespace Rows

/-- THE TIED CARD OF 'laws.FnExactEncodeSlots'. -/
def fnExactEncodeSlotsCard : Claim7 := { stood := { row := fnExactEncodeSlotsRow, standIns := [], harness := (true, "5b55511c1dc6d39be23a909dbc1f903ad6248185cdb01a4af114b9345fddbfa5"), looks := false }, kinds := [], alts := [], laidByText := true, laidKinds := [.data, .pinned], laidTests := true, laidLooks := .later }
def FnExactEncodeSlotsCardSaid : Prop := Claim7.holds Tryd.pinned (.plain (OpenSpec.ofChange fnExactEncodeSlotsSpec)) fnExactEncodeSlotsCard

/-- THE TIED CARD OF 'laws.FnExactCostOf'. -/
def fnExactCostOfCard : Claim7 := { stood := { row := fnExactCostOfRow, standIns := [], harness := (true, "5b55511c1dc6d39be23a909dbc1f903ad6248185cdb01a4af114b9345fddbfa5"), looks := false }, kinds := [], alts := [], laidByText := true, laidKinds := [.data, .pinned], laidTests := true, laidLooks := .later }
def FnExactCostOfCardSaid : Prop := Claim7.holds Tryd.pinned (.plain (OpenSpec.ofChange fnExactCostOfSpec)) fnExactCostOfCard

/-- THE TIED CARD OF 'laws.FnExactEncodeValues'. -/
def fnExactEncodeValuesCard : Claim7 := { stood := { row := fnExactEncodeValuesRow, standIns := [], harness := (true, "5b55511c1dc6d39be23a909dbc1f903ad6248185cdb01a4af114b9345fddbfa5"), looks := false }, kinds := [], alts := [], laidByText := true, laidKinds := [.data, .pinned], laidTests := true, laidLooks := .later }
def FnExactEncodeValuesCardSaid : Prop := Claim7.holds Tryd.pinned (.plain (OpenSpec.ofChange fnExactEncodeValuesSpec)) fnExactEncodeValuesCard

/-- THE SECOND FORM's CARD OF 'laws.FnExactEncodeSlots'. -/
def fnExactEncodeSlotsUptoCard : Claim7 := { stood := { row := fnExactEncodeSlotsUptoRow, standIns := [], harness := (true, "5b55511c1dc6d39be23a909dbc1f903ad6248185cdb01a4af114b9345fddbfa5"), looks := false }, kinds := [], alts := [], laidByText := true, laidKinds := [.data, .pinned], laidTests := true, laidLooks := .later }
def FnExactEncodeSlotsUptoCardSaid : Prop := Claim7.holds Tryd.pinned (.plain (OpenSpec.upto fnExactEncodeSlotsSpec)) fnExactEncodeSlotsUptoCard

/-- THE SECOND FORM's CARD OF 'laws.FnExactCostOf'. -/
def fnExactCostOfUptoCard : Claim7 := { stood := { row := fnExactCostOfUptoRow, standIns := [], harness := (true, "5b55511c1dc6d39be23a909dbc1f903ad6248185cdb01a4af114b9345fddbfa5"), looks := false }, kinds := [], alts := [], laidByText := true, laidKinds := [.data, .pinned], laidTests := true, laidLooks := .later }
def FnExactCostOfUptoCardSaid : Prop := Claim7.holds Tryd.pinned (.plain (OpenSpec.upto fnExactCostOfSpec)) fnExactCostOfUptoCard

/-- THE SECOND FORM's CARD OF 'laws.FnExactEncodeValues'. -/
def fnExactEncodeValuesUptoCard : Claim7 := { stood := { row := fnExactEncodeValuesUptoRow, standIns := [], harness := (true, "5b55511c1dc6d39be23a909dbc1f903ad6248185cdb01a4af114b9345fddbfa5"), looks := false }, kinds := [], alts := [], laidByText := true, laidKinds := [.data, .pinned], laidTests := true, laidLooks := .later }
def FnExactEncodeValuesUptoCardSaid : Prop := Claim7.holds Tryd.pinned (.plain (OpenSpec.upto fnExactEncodeValuesSpec)) fnExactEncodeValuesUptoCard
end Rows
end Go.Proofs.YtgfmmoomekjkbaaDoor

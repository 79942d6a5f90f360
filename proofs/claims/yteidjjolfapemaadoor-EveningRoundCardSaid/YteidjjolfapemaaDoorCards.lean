/-
  DERIVED. GIVEN WITH THE SEED: THE CARDS: each row of YteidjjolfapemaaDoorRows.lean that lists a variable, with what it lists TIED to the program's text (the seventh form; the later family's looks); each row that meets fmt, with fmt's text TOLD by the authors' own Lean function (tested against real Go, not proved from fmt's source: count such statements apart). THE CARD IS WHAT COUNTS. Prove the row's statement (the work); the ties are given (YteidjjolfapemaaDoorTie.lean); close each card by the builder's one call (the guide's Derived/Test/ToyasCard.lean, 'card_holds'). Laid BY PROGRAM, IN A SANDBOX (cutbox-door.mjs). By AI agents, Wed Nov 11 2026. No macro, syntax, notation, axiom, sorry.
-/
import Derived.Test.YteidjjolfapemaaDoorRows
import GoSem.ClaimSeven
namespace Go.Proofs.YteidjjolfapemaaDoor
namespace Rows

/-- THE TIED CARD OF 'trestlelaw09.EveningParses'. -/
def eveningParsesCard : Claim7 := { stood := { row := eveningParsesRow, standIns := [], harness := (true, "35fc75f0791b67bc8e00508ce9d77dc323d3f51e507950d40ef64d45470d67bb"), looks := false }, kinds := [], alts := [], laidByText := true, laidKinds := [.data, .data, .data, .data, .pinned], laidTests := true, laidLooks := .later }
def EveningParsesCardSaid : Prop := Claim7.holds Tryd.pinned (.plain (OpenSpec.ofChange eveningParsesSpec)) eveningParsesCard

/-- THE TIED CARD OF 'trestlelaw09.EveningRound'. -/
def eveningRoundCard : Claim7 := { stood := { row := eveningRoundRow, standIns := [], harness := (true, "35fc75f0791b67bc8e00508ce9d77dc323d3f51e507950d40ef64d45470d67bb"), looks := false }, kinds := [], alts := [], laidByText := true, laidKinds := [.data, .data, .data, .data, .pinned], laidTests := true, laidLooks := .later }
def EveningRoundCardSaid : Prop := Claim7.holds Tryd.pinned (.plain (OpenSpec.ofChange eveningRoundSpec)) eveningRoundCard

/-- THE SECOND FORM's CARD OF 'trestlelaw09.EveningParses'. -/
def eveningParsesUptoCard : Claim7 := { stood := { row := eveningParsesUptoRow, standIns := [], harness := (true, "35fc75f0791b67bc8e00508ce9d77dc323d3f51e507950d40ef64d45470d67bb"), looks := false }, kinds := [], alts := [], laidByText := true, laidKinds := [.data, .data, .data, .data, .pinned], laidTests := true, laidLooks := .later }
def EveningParsesUptoCardSaid : Prop := Claim7.holds Tryd.pinned (.plain (OpenSpec.upto eveningParsesSpec)) eveningParsesUptoCard

/-- THE SECOND FORM's CARD OF 'trestlelaw09.EveningRound'. -/
def eveningRoundUptoCard : Claim7 := { stood := { row := eveningRoundUptoRow, standIns := [], harness := (true, "35fc75f0791b67bc8e00508ce9d77dc323d3f51e507950d40ef64d45470d67bb"), looks := false }, kinds := [], alts := [], laidByText := true, laidKinds := [.data, .data, .data, .data, .pinned], laidTests := true, laidLooks := .later }
def EveningRoundUptoCardSaid : Prop := Claim7.holds Tryd.pinned (.plain (OpenSpec.upto eveningRoundSpec)) eveningRoundUptoCard
end Rows
end Go.Proofs.YteidjjolfapemaaDoor

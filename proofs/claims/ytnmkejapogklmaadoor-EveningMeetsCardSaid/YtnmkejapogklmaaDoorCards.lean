/-
  DERIVED. GIVEN WITH THE SEED: THE CARDS: each row of YtnmkejapogklmaaDoorRows.lean that lists a variable, with what it lists TIED to the program's text (the seventh form; the later family's looks); each row that meets fmt, with fmt's text TOLD by the authors' own Lean function (tested against real Go, not proved from fmt's source: count such statements apart). THE CARD IS WHAT COUNTS. Prove the row's statement (the work); the ties are given (YtnmkejapogklmaaDoorTie.lean); close each card by the builder's one call (the guide's Derived/Test/ToyasCard.lean, 'card_holds'). Laid BY PROGRAM, IN A SANDBOX (cutbox-door.mjs). By AI agents, Wed Nov 11 2026. No macro, syntax, notation, axiom, sorry.
-/
import Derived.Test.YtnmkejapogklmaaDoorRows
import GoSem.ClaimSeven
namespace Go.Proofs.YtnmkejapogklmaaDoor
namespace Rows

/-- THE TIED CARD OF 'trestlelaw09.EveningMeets'. -/
def eveningMeetsCard : Claim7 := { stood := { row := eveningMeetsRow, standIns := [], harness := (true, "7340dfb9936d4fe515bad16880b1593a5668a73d022bca7b9b74145fc624144d"), looks := false }, kinds := [], alts := [], laidByText := true, laidKinds := [.data, .data, .data], laidTests := true, laidLooks := .later }
def EveningMeetsCardSaid : Prop := Claim7.holds Tryd.pinned (.plain (OpenSpec.ofChange eveningMeetsSpec)) eveningMeetsCard

/-- THE TIED CARD OF 'trestlelaw09.EveningDesigned'. -/
def eveningDesignedCard : Claim7 := { stood := { row := eveningDesignedRow, standIns := [], harness := (true, "7340dfb9936d4fe515bad16880b1593a5668a73d022bca7b9b74145fc624144d"), looks := false }, kinds := [], alts := [], laidByText := true, laidKinds := [.data, .data, .data], laidTests := true, laidLooks := .later }
def EveningDesignedCardSaid : Prop := Claim7.holds Tryd.pinned (.plain (OpenSpec.ofChange eveningDesignedSpec)) eveningDesignedCard

/-- THE SECOND FORM's CARD OF 'trestlelaw09.EveningMeets'. -/
def eveningMeetsUptoCard : Claim7 := { stood := { row := eveningMeetsUptoRow, standIns := [], harness := (true, "7340dfb9936d4fe515bad16880b1593a5668a73d022bca7b9b74145fc624144d"), looks := false }, kinds := [], alts := [], laidByText := true, laidKinds := [.data, .data, .data], laidTests := true, laidLooks := .later }
def EveningMeetsUptoCardSaid : Prop := Claim7.holds Tryd.pinned (.plain (OpenSpec.upto eveningMeetsSpec)) eveningMeetsUptoCard

/-- THE SECOND FORM's CARD OF 'trestlelaw09.EveningDesigned'. -/
def eveningDesignedUptoCard : Claim7 := { stood := { row := eveningDesignedUptoRow, standIns := [], harness := (true, "7340dfb9936d4fe515bad16880b1593a5668a73d022bca7b9b74145fc624144d"), looks := false }, kinds := [], alts := [], laidByText := true, laidKinds := [.data, .data, .data], laidTests := true, laidLooks := .later }
def EveningDesignedUptoCardSaid : Prop := Claim7.holds Tryd.pinned (.plain (OpenSpec.upto eveningDesignedSpec)) eveningDesignedUptoCard
end Rows
end Go.Proofs.YtnmkejapogklmaaDoor

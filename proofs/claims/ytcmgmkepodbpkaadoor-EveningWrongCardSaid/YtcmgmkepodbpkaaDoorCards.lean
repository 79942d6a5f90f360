/-
  DERIVED. GIVEN WITH THE SEED: THE CARDS: each row of YtcmgmkepodbpkaaDoorRows.lean that lists a variable, with what it lists TIED to the program's text (the seventh form; the later family's looks); each row that meets fmt, with fmt's text TOLD by the authors' own Lean function (tested against real Go, not proved from fmt's source: count such statements apart). THE CARD IS WHAT COUNTS. Prove the row's statement (the work); the ties are given (YtcmgmkepodbpkaaDoorTie.lean); close each card by the builder's one call (the guide's Derived/Test/ToyasCard.lean, 'card_holds'). Laid BY PROGRAM, IN A SANDBOX (cutbox-door.mjs). By AI agents, Wed Nov 11 2026. No macro, syntax, notation, axiom, sorry.
-/
import Derived.Test.YtcmgmkepodbpkaaDoorRows
import GoSem.ClaimSeven
namespace Go.Proofs.YtcmgmkepodbpkaaDoor
namespace Rows

/-- THE TIED CARD OF 'trestlelaw09.EveningFormats'. -/
def eveningFormatsCard : Claim7 := { stood := { row := eveningFormatsRow, standIns := [], harness := (true, "4ce92b4a41be7397a5c9975bb1377f0b1c335d683ea41c94490d5fe8bef21671"), looks := false }, kinds := [], alts := [], laidByText := true, laidKinds := [.data, .data, .data], laidTests := true, laidLooks := .later }
def EveningFormatsCardSaid : Prop := Claim7.holds Tryd.pinned (.plain (OpenSpec.ofChange eveningFormatsSpec)) eveningFormatsCard

/-- THE TIED CARD OF 'trestlelaw09.EveningDesigns'. -/
def eveningDesignsCard : Claim7 := { stood := { row := eveningDesignsRow, standIns := [], harness := (true, "4ce92b4a41be7397a5c9975bb1377f0b1c335d683ea41c94490d5fe8bef21671"), looks := false }, kinds := [], alts := [], laidByText := true, laidKinds := [.data, .data, .data], laidTests := true, laidLooks := .later }
def EveningDesignsCardSaid : Prop := Claim7.holds Tryd.pinned (.plain (OpenSpec.ofChange eveningDesignsSpec)) eveningDesignsCard

/-- THE TIED CARD OF 'trestlelaw09.EveningPlans'. -/
def eveningPlansCard : Claim7 := { stood := { row := eveningPlansRow, standIns := [], harness := (true, "4ce92b4a41be7397a5c9975bb1377f0b1c335d683ea41c94490d5fe8bef21671"), looks := false }, kinds := [], alts := [], laidByText := true, laidKinds := [.data, .data, .data], laidTests := true, laidLooks := .later }
def EveningPlansCardSaid : Prop := Claim7.holds Tryd.pinned (.plain (OpenSpec.ofChange eveningPlansSpec)) eveningPlansCard

/-- THE TIED CARD OF 'trestlelaw09.EveningPolishes'. -/
def eveningPolishesCard : Claim7 := { stood := { row := eveningPolishesRow, standIns := [], harness := (true, "4ce92b4a41be7397a5c9975bb1377f0b1c335d683ea41c94490d5fe8bef21671"), looks := false }, kinds := [], alts := [], laidByText := true, laidKinds := [.data, .data, .data], laidTests := true, laidLooks := .later }
def EveningPolishesCardSaid : Prop := Claim7.holds Tryd.pinned (.plain (OpenSpec.ofChange eveningPolishesSpec)) eveningPolishesCard

/-- THE TIED CARD OF 'trestlelaw09.EveningBetter'. -/
def eveningBetterCard : Claim7 := { stood := { row := eveningBetterRow, standIns := [], harness := (true, "4ce92b4a41be7397a5c9975bb1377f0b1c335d683ea41c94490d5fe8bef21671"), looks := false }, kinds := [], alts := [], laidByText := true, laidKinds := [.data, .data, .data], laidTests := true, laidLooks := .later }
def EveningBetterCardSaid : Prop := Claim7.holds Tryd.pinned (.plain (OpenSpec.ofChange eveningBetterSpec)) eveningBetterCard

/-- THE TIED CARD OF 'trestlelaw09.EveningRelabels'. -/
def eveningRelabelsCard : Claim7 := { stood := { row := eveningRelabelsRow, standIns := [], harness := (true, "4ce92b4a41be7397a5c9975bb1377f0b1c335d683ea41c94490d5fe8bef21671"), looks := false }, kinds := [], alts := [], laidByText := true, laidKinds := [.data, .data, .data], laidTests := true, laidLooks := .later }
def EveningRelabelsCardSaid : Prop := Claim7.holds Tryd.pinned (.plain (OpenSpec.ofChange eveningRelabelsSpec)) eveningRelabelsCard

/-- THE TIED CARD OF 'trestlelaw09.EveningMoves'. -/
def eveningMovesCard : Claim7 := { stood := { row := eveningMovesRow, standIns := [], harness := (true, "4ce92b4a41be7397a5c9975bb1377f0b1c335d683ea41c94490d5fe8bef21671"), looks := false }, kinds := [], alts := [], laidByText := true, laidKinds := [.data, .data, .data], laidTests := true, laidLooks := .later }
def EveningMovesCardSaid : Prop := Claim7.holds Tryd.pinned (.plain (OpenSpec.ofChange eveningMovesSpec)) eveningMovesCard

/-- THE TIED CARD OF 'trestlelaw09.EveningPlanned'. -/
def eveningPlannedCard : Claim7 := { stood := { row := eveningPlannedRow, standIns := [], harness := (true, "4ce92b4a41be7397a5c9975bb1377f0b1c335d683ea41c94490d5fe8bef21671"), looks := false }, kinds := [], alts := [], laidByText := true, laidKinds := [.data, .data, .data], laidTests := true, laidLooks := .later }
def EveningPlannedCardSaid : Prop := Claim7.holds Tryd.pinned (.plain (OpenSpec.ofChange eveningPlannedSpec)) eveningPlannedCard

/-- THE TIED CARD OF 'trestlelaw09.EveningWrong'. -/
def eveningWrongCard : Claim7 := { stood := { row := eveningWrongRow, standIns := [], harness := (true, "4ce92b4a41be7397a5c9975bb1377f0b1c335d683ea41c94490d5fe8bef21671"), looks := false }, kinds := [], alts := [], laidByText := true, laidKinds := [.data, .data, .data], laidTests := true, laidLooks := .later }
def EveningWrongCardSaid : Prop := Claim7.holds Tryd.pinned (.plain (OpenSpec.ofChange eveningWrongSpec)) eveningWrongCard

/-- THE SECOND FORM's CARD OF 'trestlelaw09.EveningFormats'. -/
def eveningFormatsUptoCard : Claim7 := { stood := { row := eveningFormatsUptoRow, standIns := [], harness := (true, "4ce92b4a41be7397a5c9975bb1377f0b1c335d683ea41c94490d5fe8bef21671"), looks := false }, kinds := [], alts := [], laidByText := true, laidKinds := [.data, .data, .data], laidTests := true, laidLooks := .later }
def EveningFormatsUptoCardSaid : Prop := Claim7.holds Tryd.pinned (.plain (OpenSpec.upto eveningFormatsSpec)) eveningFormatsUptoCard

/-- THE SECOND FORM's CARD OF 'trestlelaw09.EveningDesigns'. -/
def eveningDesignsUptoCard : Claim7 := { stood := { row := eveningDesignsUptoRow, standIns := [], harness := (true, "4ce92b4a41be7397a5c9975bb1377f0b1c335d683ea41c94490d5fe8bef21671"), looks := false }, kinds := [], alts := [], laidByText := true, laidKinds := [.data, .data, .data], laidTests := true, laidLooks := .later }
def EveningDesignsUptoCardSaid : Prop := Claim7.holds Tryd.pinned (.plain (OpenSpec.upto eveningDesignsSpec)) eveningDesignsUptoCard

/-- THE SECOND FORM's CARD OF 'trestlelaw09.EveningPlans'. -/
def eveningPlansUptoCard : Claim7 := { stood := { row := eveningPlansUptoRow, standIns := [], harness := (true, "4ce92b4a41be7397a5c9975bb1377f0b1c335d683ea41c94490d5fe8bef21671"), looks := false }, kinds := [], alts := [], laidByText := true, laidKinds := [.data, .data, .data], laidTests := true, laidLooks := .later }
def EveningPlansUptoCardSaid : Prop := Claim7.holds Tryd.pinned (.plain (OpenSpec.upto eveningPlansSpec)) eveningPlansUptoCard

/-- THE SECOND FORM's CARD OF 'trestlelaw09.EveningPolishes'. -/
def eveningPolishesUptoCard : Claim7 := { stood := { row := eveningPolishesUptoRow, standIns := [], harness := (true, "4ce92b4a41be7397a5c9975bb1377f0b1c335d683ea41c94490d5fe8bef21671"), looks := false }, kinds := [], alts := [], laidByText := true, laidKinds := [.data, .data, .data], laidTests := true, laidLooks := .later }
def EveningPolishesUptoCardSaid : Prop := Claim7.holds Tryd.pinned (.plain (OpenSpec.upto eveningPolishesSpec)) eveningPolishesUptoCard

/-- THE SECOND FORM's CARD OF 'trestlelaw09.EveningBetter'. -/
def eveningBetterUptoCard : Claim7 := { stood := { row := eveningBetterUptoRow, standIns := [], harness := (true, "4ce92b4a41be7397a5c9975bb1377f0b1c335d683ea41c94490d5fe8bef21671"), looks := false }, kinds := [], alts := [], laidByText := true, laidKinds := [.data, .data, .data], laidTests := true, laidLooks := .later }
def EveningBetterUptoCardSaid : Prop := Claim7.holds Tryd.pinned (.plain (OpenSpec.upto eveningBetterSpec)) eveningBetterUptoCard

/-- THE SECOND FORM's CARD OF 'trestlelaw09.EveningRelabels'. -/
def eveningRelabelsUptoCard : Claim7 := { stood := { row := eveningRelabelsUptoRow, standIns := [], harness := (true, "4ce92b4a41be7397a5c9975bb1377f0b1c335d683ea41c94490d5fe8bef21671"), looks := false }, kinds := [], alts := [], laidByText := true, laidKinds := [.data, .data, .data], laidTests := true, laidLooks := .later }
def EveningRelabelsUptoCardSaid : Prop := Claim7.holds Tryd.pinned (.plain (OpenSpec.upto eveningRelabelsSpec)) eveningRelabelsUptoCard

/-- THE SECOND FORM's CARD OF 'trestlelaw09.EveningMoves'. -/
def eveningMovesUptoCard : Claim7 := { stood := { row := eveningMovesUptoRow, standIns := [], harness := (true, "4ce92b4a41be7397a5c9975bb1377f0b1c335d683ea41c94490d5fe8bef21671"), looks := false }, kinds := [], alts := [], laidByText := true, laidKinds := [.data, .data, .data], laidTests := true, laidLooks := .later }
def EveningMovesUptoCardSaid : Prop := Claim7.holds Tryd.pinned (.plain (OpenSpec.upto eveningMovesSpec)) eveningMovesUptoCard

/-- THE SECOND FORM's CARD OF 'trestlelaw09.EveningPlanned'. -/
def eveningPlannedUptoCard : Claim7 := { stood := { row := eveningPlannedUptoRow, standIns := [], harness := (true, "4ce92b4a41be7397a5c9975bb1377f0b1c335d683ea41c94490d5fe8bef21671"), looks := false }, kinds := [], alts := [], laidByText := true, laidKinds := [.data, .data, .data], laidTests := true, laidLooks := .later }
def EveningPlannedUptoCardSaid : Prop := Claim7.holds Tryd.pinned (.plain (OpenSpec.upto eveningPlannedSpec)) eveningPlannedUptoCard

/-- THE SECOND FORM's CARD OF 'trestlelaw09.EveningWrong'. -/
def eveningWrongUptoCard : Claim7 := { stood := { row := eveningWrongUptoRow, standIns := [], harness := (true, "4ce92b4a41be7397a5c9975bb1377f0b1c335d683ea41c94490d5fe8bef21671"), looks := false }, kinds := [], alts := [], laidByText := true, laidKinds := [.data, .data, .data], laidTests := true, laidLooks := .later }
def EveningWrongUptoCardSaid : Prop := Claim7.holds Tryd.pinned (.plain (OpenSpec.upto eveningWrongSpec)) eveningWrongUptoCard
end Rows
end Go.Proofs.YtcmgmkepodbpkaaDoor

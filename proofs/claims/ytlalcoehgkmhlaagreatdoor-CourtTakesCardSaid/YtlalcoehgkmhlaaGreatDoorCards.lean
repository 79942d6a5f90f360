/-
  DERIVED. GIVEN WITH THE SEED: THE CARDS: each row of YtlalcoehgkmhlaaGreatDoorRows.lean that lists a variable, with what it lists TIED to the program's text (the seventh form; the later family's looks); each row that meets fmt, with fmt's text TOLD by the authors' own Lean function (tested against real Go, not proved from fmt's source: count such statements apart). THE CARD IS WHAT COUNTS. Prove the row's statement (the work); the ties are given (YtlalcoehgkmhlaaGreatDoorTie.lean); close each card by the builder's one call (the guide's Derived/Test/ToyasCard.lean, 'card_holds'). Laid BY PROGRAM, IN A SANDBOX (cutbox-door.mjs). By AI agents, Wed Nov 11 2026. No macro, syntax, notation, axiom, sorry.
-/
import Derived.Test.YtlalcoehgkmhlaaGreatDoorRows
import GoSem.ClaimSeven
namespace Go.Proofs.YtlalcoehgkmhlaaGreatDoor
namespace Rows

/-- THE TIED CARD OF 'trestlelaw03.CourtOrders'. -/
def courtOrdersCard : Claim7 := { stood := { row := courtOrdersRow, standIns := [], harness := (true, "24645bc778ec100f721f55e0cbc7493916c1eae9bbd8fe54f4e7050e3ce001ac"), looks := true }, kinds := [], alts := [], laidByText := true, laidKinds := [.data, .data, .data, .data, .pinned], laidTests := true, laidLooks := .later }
def CourtOrdersCardSaid : Prop := Claim7.holds Tryz.pinned (.plain (OpenSpec.ofChange courtOrdersSpec)) courtOrdersCard

/-- THE TIED CARD OF 'trestlelaw03.CourtWeak'. -/
def courtWeakCard : Claim7 := { stood := { row := courtWeakRow, standIns := [], harness := (true, "24645bc778ec100f721f55e0cbc7493916c1eae9bbd8fe54f4e7050e3ce001ac"), looks := true }, kinds := [], alts := [], laidByText := true, laidKinds := [.data, .data, .data, .data, .pinned], laidTests := true, laidLooks := .later }
def CourtWeakCardSaid : Prop := Claim7.holds Tryz.pinned (.plain (OpenSpec.ofChange courtWeakSpec)) courtWeakCard

/-- THE TIED CARD OF 'trestlelaw03.CourtGroups'. -/
def courtGroupsCard : Claim7 := { stood := { row := courtGroupsRow, standIns := [], harness := (true, "24645bc778ec100f721f55e0cbc7493916c1eae9bbd8fe54f4e7050e3ce001ac"), looks := true }, kinds := [], alts := [], laidByText := true, laidKinds := [.data, .data, .data, .data, .pinned], laidTests := true, laidLooks := .later }
def CourtGroupsCardSaid : Prop := Claim7.holds Tryz.pinned (.plain (OpenSpec.ofChange courtGroupsSpec)) courtGroupsCard

/-- THE TIED CARD OF 'trestlelaw03.CourtMoved'. -/
def courtMovedCard : Claim7 := { stood := { row := courtMovedRow, standIns := [], harness := (true, "24645bc778ec100f721f55e0cbc7493916c1eae9bbd8fe54f4e7050e3ce001ac"), looks := true }, kinds := [], alts := [], laidByText := true, laidKinds := [.data, .data, .data, .data, .pinned], laidTests := true, laidLooks := .later }
def CourtMovedCardSaid : Prop := Claim7.holds Tryz.pinned (.plain (OpenSpec.ofChange courtMovedSpec)) courtMovedCard

/-- THE TIED CARD OF 'trestlelaw03.CourtMerges'. -/
def courtMergesCard : Claim7 := { stood := { row := courtMergesRow, standIns := [], harness := (true, "24645bc778ec100f721f55e0cbc7493916c1eae9bbd8fe54f4e7050e3ce001ac"), looks := true }, kinds := [], alts := [], laidByText := true, laidKinds := [.data, .data, .data, .data, .pinned], laidTests := true, laidLooks := .later }
def CourtMergesCardSaid : Prop := Claim7.holds Tryz.pinned (.plain (OpenSpec.ofChange courtMergesSpec)) courtMergesCard

/-- THE TIED CARD OF 'trestlelaw03.CourtTurns'. -/
def courtTurnsCard : Claim7 := { stood := { row := courtTurnsRow, standIns := [], harness := (true, "24645bc778ec100f721f55e0cbc7493916c1eae9bbd8fe54f4e7050e3ce001ac"), looks := true }, kinds := [], alts := [], laidByText := true, laidKinds := [.data, .data, .data, .data, .pinned], laidTests := true, laidLooks := .later }
def CourtTurnsCardSaid : Prop := Claim7.holds Tryz.pinned (.plain (OpenSpec.ofChange courtTurnsSpec)) courtTurnsCard

/-- THE TIED CARD OF 'trestlelaw03.CourtTakes'. -/
def courtTakesCard : Claim7 := { stood := { row := courtTakesRow, standIns := [], harness := (true, "24645bc778ec100f721f55e0cbc7493916c1eae9bbd8fe54f4e7050e3ce001ac"), looks := true }, kinds := [], alts := [], laidByText := true, laidKinds := [.data, .data, .data, .data, .pinned], laidTests := true, laidLooks := .later }
def CourtTakesCardSaid : Prop := Claim7.holds Tryz.pinned (.plain (OpenSpec.ofChange courtTakesSpec)) courtTakesCard

/-- THE TIED CARD OF 'trestlelaw03.CourtCompromises'. -/
def courtCompromisesCard : Claim7 := { stood := { row := courtCompromisesRow, standIns := [], harness := (true, "24645bc778ec100f721f55e0cbc7493916c1eae9bbd8fe54f4e7050e3ce001ac"), looks := true }, kinds := [], alts := [], laidByText := true, laidKinds := [.data, .data, .data, .data, .pinned], laidTests := true, laidLooks := .later }
def CourtCompromisesCardSaid : Prop := Claim7.holds Tryz.pinned (.plain (OpenSpec.ofChange courtCompromisesSpec)) courtCompromisesCard

/-- THE TIED CARD OF 'trestlelaw03.CourtPairs'. -/
def courtPairsCard : Claim7 := { stood := { row := courtPairsRow, standIns := [], harness := (true, "24645bc778ec100f721f55e0cbc7493916c1eae9bbd8fe54f4e7050e3ce001ac"), looks := true }, kinds := [], alts := [], laidByText := true, laidKinds := [.data, .data, .data, .data, .pinned], laidTests := true, laidLooks := .later }
def CourtPairsCardSaid : Prop := Claim7.holds Tryz.pinned (.plain (OpenSpec.ofChange courtPairsSpec)) courtPairsCard

/-- THE TIED CARD OF 'trestlelaw03.CourtReverse'. -/
def courtReverseCard : Claim7 := { stood := { row := courtReverseRow, standIns := [], harness := (true, "24645bc778ec100f721f55e0cbc7493916c1eae9bbd8fe54f4e7050e3ce001ac"), looks := true }, kinds := [], alts := [], laidByText := true, laidKinds := [.data, .data, .data, .data, .pinned], laidTests := true, laidLooks := .later }
def CourtReverseCardSaid : Prop := Claim7.holds Tryz.pinned (.plain (OpenSpec.ofChange courtReverseSpec)) courtReverseCard

/-- THE TIED CARD OF 'trestlelaw03.CourtLeast'. -/
def courtLeastCard : Claim7 := { stood := { row := courtLeastRow, standIns := [], harness := (true, "24645bc778ec100f721f55e0cbc7493916c1eae9bbd8fe54f4e7050e3ce001ac"), looks := true }, kinds := [], alts := [], laidByText := true, laidKinds := [.data, .data, .data, .data, .pinned], laidTests := true, laidLooks := .later }
def CourtLeastCardSaid : Prop := Claim7.holds Tryz.pinned (.plain (OpenSpec.ofChange courtLeastSpec)) courtLeastCard

/-- THE TIED CARD OF 'trestlelaw03.CourtPareto'. -/
def courtParetoCard : Claim7 := { stood := { row := courtParetoRow, standIns := [], harness := (true, "24645bc778ec100f721f55e0cbc7493916c1eae9bbd8fe54f4e7050e3ce001ac"), looks := true }, kinds := [], alts := [], laidByText := true, laidKinds := [.data, .data, .data, .data, .pinned], laidTests := true, laidLooks := .later }
def CourtParetoCardSaid : Prop := Claim7.holds Tryz.pinned (.plain (OpenSpec.ofChange courtParetoSpec)) courtParetoCard

/-- THE SECOND FORM's CARD OF 'trestlelaw03.CourtOrders'. -/
def courtOrdersUptoCard : Claim7 := { stood := { row := courtOrdersUptoRow, standIns := [], harness := (true, "24645bc778ec100f721f55e0cbc7493916c1eae9bbd8fe54f4e7050e3ce001ac"), looks := true }, kinds := [], alts := [], laidByText := true, laidKinds := [.data, .data, .data, .data, .pinned], laidTests := true, laidLooks := .later }
def CourtOrdersUptoCardSaid : Prop := Claim7.holds Tryz.pinned (.plain (OpenSpec.upto courtOrdersSpec)) courtOrdersUptoCard

/-- THE SECOND FORM's CARD OF 'trestlelaw03.CourtWeak'. -/
def courtWeakUptoCard : Claim7 := { stood := { row := courtWeakUptoRow, standIns := [], harness := (true, "24645bc778ec100f721f55e0cbc7493916c1eae9bbd8fe54f4e7050e3ce001ac"), looks := true }, kinds := [], alts := [], laidByText := true, laidKinds := [.data, .data, .data, .data, .pinned], laidTests := true, laidLooks := .later }
def CourtWeakUptoCardSaid : Prop := Claim7.holds Tryz.pinned (.plain (OpenSpec.upto courtWeakSpec)) courtWeakUptoCard

/-- THE SECOND FORM's CARD OF 'trestlelaw03.CourtGroups'. -/
def courtGroupsUptoCard : Claim7 := { stood := { row := courtGroupsUptoRow, standIns := [], harness := (true, "24645bc778ec100f721f55e0cbc7493916c1eae9bbd8fe54f4e7050e3ce001ac"), looks := true }, kinds := [], alts := [], laidByText := true, laidKinds := [.data, .data, .data, .data, .pinned], laidTests := true, laidLooks := .later }
def CourtGroupsUptoCardSaid : Prop := Claim7.holds Tryz.pinned (.plain (OpenSpec.upto courtGroupsSpec)) courtGroupsUptoCard

/-- THE SECOND FORM's CARD OF 'trestlelaw03.CourtMoved'. -/
def courtMovedUptoCard : Claim7 := { stood := { row := courtMovedUptoRow, standIns := [], harness := (true, "24645bc778ec100f721f55e0cbc7493916c1eae9bbd8fe54f4e7050e3ce001ac"), looks := true }, kinds := [], alts := [], laidByText := true, laidKinds := [.data, .data, .data, .data, .pinned], laidTests := true, laidLooks := .later }
def CourtMovedUptoCardSaid : Prop := Claim7.holds Tryz.pinned (.plain (OpenSpec.upto courtMovedSpec)) courtMovedUptoCard

/-- THE SECOND FORM's CARD OF 'trestlelaw03.CourtMerges'. -/
def courtMergesUptoCard : Claim7 := { stood := { row := courtMergesUptoRow, standIns := [], harness := (true, "24645bc778ec100f721f55e0cbc7493916c1eae9bbd8fe54f4e7050e3ce001ac"), looks := true }, kinds := [], alts := [], laidByText := true, laidKinds := [.data, .data, .data, .data, .pinned], laidTests := true, laidLooks := .later }
def CourtMergesUptoCardSaid : Prop := Claim7.holds Tryz.pinned (.plain (OpenSpec.upto courtMergesSpec)) courtMergesUptoCard

/-- THE SECOND FORM's CARD OF 'trestlelaw03.CourtTurns'. -/
def courtTurnsUptoCard : Claim7 := { stood := { row := courtTurnsUptoRow, standIns := [], harness := (true, "24645bc778ec100f721f55e0cbc7493916c1eae9bbd8fe54f4e7050e3ce001ac"), looks := true }, kinds := [], alts := [], laidByText := true, laidKinds := [.data, .data, .data, .data, .pinned], laidTests := true, laidLooks := .later }
def CourtTurnsUptoCardSaid : Prop := Claim7.holds Tryz.pinned (.plain (OpenSpec.upto courtTurnsSpec)) courtTurnsUptoCard

/-- THE SECOND FORM's CARD OF 'trestlelaw03.CourtTakes'. -/
def courtTakesUptoCard : Claim7 := { stood := { row := courtTakesUptoRow, standIns := [], harness := (true, "24645bc778ec100f721f55e0cbc7493916c1eae9bbd8fe54f4e7050e3ce001ac"), looks := true }, kinds := [], alts := [], laidByText := true, laidKinds := [.data, .data, .data, .data, .pinned], laidTests := true, laidLooks := .later }
def CourtTakesUptoCardSaid : Prop := Claim7.holds Tryz.pinned (.plain (OpenSpec.upto courtTakesSpec)) courtTakesUptoCard

/-- THE SECOND FORM's CARD OF 'trestlelaw03.CourtCompromises'. -/
def courtCompromisesUptoCard : Claim7 := { stood := { row := courtCompromisesUptoRow, standIns := [], harness := (true, "24645bc778ec100f721f55e0cbc7493916c1eae9bbd8fe54f4e7050e3ce001ac"), looks := true }, kinds := [], alts := [], laidByText := true, laidKinds := [.data, .data, .data, .data, .pinned], laidTests := true, laidLooks := .later }
def CourtCompromisesUptoCardSaid : Prop := Claim7.holds Tryz.pinned (.plain (OpenSpec.upto courtCompromisesSpec)) courtCompromisesUptoCard

/-- THE SECOND FORM's CARD OF 'trestlelaw03.CourtPairs'. -/
def courtPairsUptoCard : Claim7 := { stood := { row := courtPairsUptoRow, standIns := [], harness := (true, "24645bc778ec100f721f55e0cbc7493916c1eae9bbd8fe54f4e7050e3ce001ac"), looks := true }, kinds := [], alts := [], laidByText := true, laidKinds := [.data, .data, .data, .data, .pinned], laidTests := true, laidLooks := .later }
def CourtPairsUptoCardSaid : Prop := Claim7.holds Tryz.pinned (.plain (OpenSpec.upto courtPairsSpec)) courtPairsUptoCard

/-- THE SECOND FORM's CARD OF 'trestlelaw03.CourtReverse'. -/
def courtReverseUptoCard : Claim7 := { stood := { row := courtReverseUptoRow, standIns := [], harness := (true, "24645bc778ec100f721f55e0cbc7493916c1eae9bbd8fe54f4e7050e3ce001ac"), looks := true }, kinds := [], alts := [], laidByText := true, laidKinds := [.data, .data, .data, .data, .pinned], laidTests := true, laidLooks := .later }
def CourtReverseUptoCardSaid : Prop := Claim7.holds Tryz.pinned (.plain (OpenSpec.upto courtReverseSpec)) courtReverseUptoCard

/-- THE SECOND FORM's CARD OF 'trestlelaw03.CourtLeast'. -/
def courtLeastUptoCard : Claim7 := { stood := { row := courtLeastUptoRow, standIns := [], harness := (true, "24645bc778ec100f721f55e0cbc7493916c1eae9bbd8fe54f4e7050e3ce001ac"), looks := true }, kinds := [], alts := [], laidByText := true, laidKinds := [.data, .data, .data, .data, .pinned], laidTests := true, laidLooks := .later }
def CourtLeastUptoCardSaid : Prop := Claim7.holds Tryz.pinned (.plain (OpenSpec.upto courtLeastSpec)) courtLeastUptoCard

/-- THE SECOND FORM's CARD OF 'trestlelaw03.CourtPareto'. -/
def courtParetoUptoCard : Claim7 := { stood := { row := courtParetoUptoRow, standIns := [], harness := (true, "24645bc778ec100f721f55e0cbc7493916c1eae9bbd8fe54f4e7050e3ce001ac"), looks := true }, kinds := [], alts := [], laidByText := true, laidKinds := [.data, .data, .data, .data, .pinned], laidTests := true, laidLooks := .later }
def CourtParetoUptoCardSaid : Prop := Claim7.holds Tryz.pinned (.plain (OpenSpec.upto courtParetoSpec)) courtParetoUptoCard
end Rows
end Go.Proofs.YtlalcoehgkmhlaaGreatDoor

/-
  DERIVED. GIVEN WITH THE SEED: THE CARDS: each row of YtiphapnckldpbaaGreatDoorRows.lean that lists a variable, with what it lists TIED to the program's text (the seventh form; the later family's looks); each row that meets fmt, with fmt's text TOLD by the authors' own Lean function (tested against real Go, not proved from fmt's source: count such statements apart). THE CARD IS WHAT COUNTS. Prove the row's statement (the work); the ties are given (YtiphapnckldpbaaGreatDoorTie.lean); close each card by the builder's one call (the guide's Derived/Test/ToyasCard.lean, 'card_holds'). Laid BY PROGRAM, IN A SANDBOX (cutbox-door.mjs). By AI agents, Wed Nov 11 2026. No macro, syntax, notation, axiom, sorry.
-/
import Derived.Test.YtiphapnckldpbaaGreatDoorRows
import GoSem.ClaimSeven
namespace Go.Proofs.YtiphapnckldpbaaGreatDoor
namespace Rows

/-- THE TIED CARD OF 'trestlelaw03.CourtChecks'. -/
def courtChecksCard : Claim7 := { stood := { row := courtChecksRow, standIns := [], harness := (true, "0c6e3bb202b824e2c2dd9abdb031a5b81cbdcc6c8a68afc2455dbfd7d81a45d3"), looks := true }, kinds := [], alts := [], laidByText := true, laidKinds := [.data, .data, .data, .data, .pinned], laidTests := true, laidLooks := .later }
def CourtChecksCardSaid : Prop := Claim7.holds Tryz.pinned (.plain (OpenSpec.ofChange courtChecksSpec)) courtChecksCard

/-- THE TIED CARD OF 'trestlelaw03.CourtOrders'. -/
def courtOrdersCard : Claim7 := { stood := { row := courtOrdersRow, standIns := [], harness := (true, "0c6e3bb202b824e2c2dd9abdb031a5b81cbdcc6c8a68afc2455dbfd7d81a45d3"), looks := true }, kinds := [], alts := [], laidByText := true, laidKinds := [.data, .data, .data, .data, .pinned], laidTests := true, laidLooks := .later }
def CourtOrdersCardSaid : Prop := Claim7.holds Tryz.pinned (.plain (OpenSpec.ofChange courtOrdersSpec)) courtOrdersCard

/-- THE TIED CARD OF 'trestlelaw03.CourtInversions'. -/
def courtInversionsCard : Claim7 := { stood := { row := courtInversionsRow, standIns := [], harness := (true, "0c6e3bb202b824e2c2dd9abdb031a5b81cbdcc6c8a68afc2455dbfd7d81a45d3"), looks := true }, kinds := [], alts := [], laidByText := true, laidKinds := [.data, .data, .data, .data, .pinned], laidTests := true, laidLooks := .later }
def CourtInversionsCardSaid : Prop := Claim7.holds Tryz.pinned (.plain (OpenSpec.ofChange courtInversionsSpec)) courtInversionsCard

/-- THE TIED CARD OF 'trestlelaw03.CourtParses'. -/
def courtParsesCard : Claim7 := { stood := { row := courtParsesRow, standIns := [], harness := (true, "0c6e3bb202b824e2c2dd9abdb031a5b81cbdcc6c8a68afc2455dbfd7d81a45d3"), looks := true }, kinds := [], alts := [], laidByText := true, laidKinds := [.data, .data, .data, .data, .pinned], laidTests := true, laidLooks := .later }
def CourtParsesCardSaid : Prop := Claim7.holds Tryz.pinned (.plain (OpenSpec.ofChange courtParsesSpec)) courtParsesCard

/-- THE TIED CARD OF 'trestlelaw03.CourtFormats'. -/
def courtFormatsCard : Claim7 := { stood := { row := courtFormatsRow, standIns := [], harness := (true, "0c6e3bb202b824e2c2dd9abdb031a5b81cbdcc6c8a68afc2455dbfd7d81a45d3"), looks := true }, kinds := [], alts := [], laidByText := true, laidKinds := [.data, .data, .data, .data, .pinned], laidTests := true, laidLooks := .later }
def CourtFormatsCardSaid : Prop := Claim7.holds Tryz.pinned (.plain (OpenSpec.ofChange courtFormatsSpec)) courtFormatsCard

/-- THE TIED CARD OF 'trestlelaw03.CourtRound'. -/
def courtRoundCard : Claim7 := { stood := { row := courtRoundRow, standIns := [], harness := (true, "0c6e3bb202b824e2c2dd9abdb031a5b81cbdcc6c8a68afc2455dbfd7d81a45d3"), looks := true }, kinds := [], alts := [], laidByText := true, laidKinds := [.data, .data, .data, .data, .pinned], laidTests := true, laidLooks := .later }
def CourtRoundCardSaid : Prop := Claim7.holds Tryz.pinned (.plain (OpenSpec.ofChange courtRoundSpec)) courtRoundCard

/-- THE TIED CARD OF 'trestlelaw03.CourtCompares'. -/
def courtComparesCard : Claim7 := { stood := { row := courtComparesRow, standIns := [], harness := (true, "0c6e3bb202b824e2c2dd9abdb031a5b81cbdcc6c8a68afc2455dbfd7d81a45d3"), looks := true }, kinds := [], alts := [], laidByText := true, laidKinds := [.data, .data, .data, .data, .pinned], laidTests := true, laidLooks := .later }
def CourtComparesCardSaid : Prop := Claim7.holds Tryz.pinned (.plain (OpenSpec.ofChange courtComparesSpec)) courtComparesCard

/-- THE TIED CARD OF 'trestlelaw03.CourtWeak'. -/
def courtWeakCard : Claim7 := { stood := { row := courtWeakRow, standIns := [], harness := (true, "0c6e3bb202b824e2c2dd9abdb031a5b81cbdcc6c8a68afc2455dbfd7d81a45d3"), looks := true }, kinds := [], alts := [], laidByText := true, laidKinds := [.data, .data, .data, .data, .pinned], laidTests := true, laidLooks := .later }
def CourtWeakCardSaid : Prop := Claim7.holds Tryz.pinned (.plain (OpenSpec.ofChange courtWeakSpec)) courtWeakCard

/-- THE TIED CARD OF 'trestlelaw03.CourtGroups'. -/
def courtGroupsCard : Claim7 := { stood := { row := courtGroupsRow, standIns := [], harness := (true, "0c6e3bb202b824e2c2dd9abdb031a5b81cbdcc6c8a68afc2455dbfd7d81a45d3"), looks := true }, kinds := [], alts := [], laidByText := true, laidKinds := [.data, .data, .data, .data, .pinned], laidTests := true, laidLooks := .later }
def CourtGroupsCardSaid : Prop := Claim7.holds Tryz.pinned (.plain (OpenSpec.ofChange courtGroupsSpec)) courtGroupsCard

/-- THE TIED CARD OF 'trestlelaw03.CourtMoved'. -/
def courtMovedCard : Claim7 := { stood := { row := courtMovedRow, standIns := [], harness := (true, "0c6e3bb202b824e2c2dd9abdb031a5b81cbdcc6c8a68afc2455dbfd7d81a45d3"), looks := true }, kinds := [], alts := [], laidByText := true, laidKinds := [.data, .data, .data, .data, .pinned], laidTests := true, laidLooks := .later }
def CourtMovedCardSaid : Prop := Claim7.holds Tryz.pinned (.plain (OpenSpec.ofChange courtMovedSpec)) courtMovedCard

/-- THE TIED CARD OF 'trestlelaw03.CourtMerges'. -/
def courtMergesCard : Claim7 := { stood := { row := courtMergesRow, standIns := [], harness := (true, "0c6e3bb202b824e2c2dd9abdb031a5b81cbdcc6c8a68afc2455dbfd7d81a45d3"), looks := true }, kinds := [], alts := [], laidByText := true, laidKinds := [.data, .data, .data, .data, .pinned], laidTests := true, laidLooks := .later }
def CourtMergesCardSaid : Prop := Claim7.holds Tryz.pinned (.plain (OpenSpec.ofChange courtMergesSpec)) courtMergesCard

/-- THE TIED CARD OF 'trestlelaw03.CourtRefines'. -/
def courtRefinesCard : Claim7 := { stood := { row := courtRefinesRow, standIns := [], harness := (true, "0c6e3bb202b824e2c2dd9abdb031a5b81cbdcc6c8a68afc2455dbfd7d81a45d3"), looks := true }, kinds := [], alts := [], laidByText := true, laidKinds := [.data, .data, .data, .data, .pinned], laidTests := true, laidLooks := .later }
def CourtRefinesCardSaid : Prop := Claim7.holds Tryz.pinned (.plain (OpenSpec.ofChange courtRefinesSpec)) courtRefinesCard

/-- THE SECOND FORM's CARD OF 'trestlelaw03.CourtChecks'. -/
def courtChecksUptoCard : Claim7 := { stood := { row := courtChecksUptoRow, standIns := [], harness := (true, "0c6e3bb202b824e2c2dd9abdb031a5b81cbdcc6c8a68afc2455dbfd7d81a45d3"), looks := true }, kinds := [], alts := [], laidByText := true, laidKinds := [.data, .data, .data, .data, .pinned], laidTests := true, laidLooks := .later }
def CourtChecksUptoCardSaid : Prop := Claim7.holds Tryz.pinned (.plain (OpenSpec.upto courtChecksSpec)) courtChecksUptoCard

/-- THE SECOND FORM's CARD OF 'trestlelaw03.CourtOrders'. -/
def courtOrdersUptoCard : Claim7 := { stood := { row := courtOrdersUptoRow, standIns := [], harness := (true, "0c6e3bb202b824e2c2dd9abdb031a5b81cbdcc6c8a68afc2455dbfd7d81a45d3"), looks := true }, kinds := [], alts := [], laidByText := true, laidKinds := [.data, .data, .data, .data, .pinned], laidTests := true, laidLooks := .later }
def CourtOrdersUptoCardSaid : Prop := Claim7.holds Tryz.pinned (.plain (OpenSpec.upto courtOrdersSpec)) courtOrdersUptoCard

/-- THE SECOND FORM's CARD OF 'trestlelaw03.CourtInversions'. -/
def courtInversionsUptoCard : Claim7 := { stood := { row := courtInversionsUptoRow, standIns := [], harness := (true, "0c6e3bb202b824e2c2dd9abdb031a5b81cbdcc6c8a68afc2455dbfd7d81a45d3"), looks := true }, kinds := [], alts := [], laidByText := true, laidKinds := [.data, .data, .data, .data, .pinned], laidTests := true, laidLooks := .later }
def CourtInversionsUptoCardSaid : Prop := Claim7.holds Tryz.pinned (.plain (OpenSpec.upto courtInversionsSpec)) courtInversionsUptoCard

/-- THE SECOND FORM's CARD OF 'trestlelaw03.CourtParses'. -/
def courtParsesUptoCard : Claim7 := { stood := { row := courtParsesUptoRow, standIns := [], harness := (true, "0c6e3bb202b824e2c2dd9abdb031a5b81cbdcc6c8a68afc2455dbfd7d81a45d3"), looks := true }, kinds := [], alts := [], laidByText := true, laidKinds := [.data, .data, .data, .data, .pinned], laidTests := true, laidLooks := .later }
def CourtParsesUptoCardSaid : Prop := Claim7.holds Tryz.pinned (.plain (OpenSpec.upto courtParsesSpec)) courtParsesUptoCard

/-- THE SECOND FORM's CARD OF 'trestlelaw03.CourtFormats'. -/
def courtFormatsUptoCard : Claim7 := { stood := { row := courtFormatsUptoRow, standIns := [], harness := (true, "0c6e3bb202b824e2c2dd9abdb031a5b81cbdcc6c8a68afc2455dbfd7d81a45d3"), looks := true }, kinds := [], alts := [], laidByText := true, laidKinds := [.data, .data, .data, .data, .pinned], laidTests := true, laidLooks := .later }
def CourtFormatsUptoCardSaid : Prop := Claim7.holds Tryz.pinned (.plain (OpenSpec.upto courtFormatsSpec)) courtFormatsUptoCard

/-- THE SECOND FORM's CARD OF 'trestlelaw03.CourtRound'. -/
def courtRoundUptoCard : Claim7 := { stood := { row := courtRoundUptoRow, standIns := [], harness := (true, "0c6e3bb202b824e2c2dd9abdb031a5b81cbdcc6c8a68afc2455dbfd7d81a45d3"), looks := true }, kinds := [], alts := [], laidByText := true, laidKinds := [.data, .data, .data, .data, .pinned], laidTests := true, laidLooks := .later }
def CourtRoundUptoCardSaid : Prop := Claim7.holds Tryz.pinned (.plain (OpenSpec.upto courtRoundSpec)) courtRoundUptoCard

/-- THE SECOND FORM's CARD OF 'trestlelaw03.CourtCompares'. -/
def courtComparesUptoCard : Claim7 := { stood := { row := courtComparesUptoRow, standIns := [], harness := (true, "0c6e3bb202b824e2c2dd9abdb031a5b81cbdcc6c8a68afc2455dbfd7d81a45d3"), looks := true }, kinds := [], alts := [], laidByText := true, laidKinds := [.data, .data, .data, .data, .pinned], laidTests := true, laidLooks := .later }
def CourtComparesUptoCardSaid : Prop := Claim7.holds Tryz.pinned (.plain (OpenSpec.upto courtComparesSpec)) courtComparesUptoCard

/-- THE SECOND FORM's CARD OF 'trestlelaw03.CourtWeak'. -/
def courtWeakUptoCard : Claim7 := { stood := { row := courtWeakUptoRow, standIns := [], harness := (true, "0c6e3bb202b824e2c2dd9abdb031a5b81cbdcc6c8a68afc2455dbfd7d81a45d3"), looks := true }, kinds := [], alts := [], laidByText := true, laidKinds := [.data, .data, .data, .data, .pinned], laidTests := true, laidLooks := .later }
def CourtWeakUptoCardSaid : Prop := Claim7.holds Tryz.pinned (.plain (OpenSpec.upto courtWeakSpec)) courtWeakUptoCard

/-- THE SECOND FORM's CARD OF 'trestlelaw03.CourtGroups'. -/
def courtGroupsUptoCard : Claim7 := { stood := { row := courtGroupsUptoRow, standIns := [], harness := (true, "0c6e3bb202b824e2c2dd9abdb031a5b81cbdcc6c8a68afc2455dbfd7d81a45d3"), looks := true }, kinds := [], alts := [], laidByText := true, laidKinds := [.data, .data, .data, .data, .pinned], laidTests := true, laidLooks := .later }
def CourtGroupsUptoCardSaid : Prop := Claim7.holds Tryz.pinned (.plain (OpenSpec.upto courtGroupsSpec)) courtGroupsUptoCard

/-- THE SECOND FORM's CARD OF 'trestlelaw03.CourtMoved'. -/
def courtMovedUptoCard : Claim7 := { stood := { row := courtMovedUptoRow, standIns := [], harness := (true, "0c6e3bb202b824e2c2dd9abdb031a5b81cbdcc6c8a68afc2455dbfd7d81a45d3"), looks := true }, kinds := [], alts := [], laidByText := true, laidKinds := [.data, .data, .data, .data, .pinned], laidTests := true, laidLooks := .later }
def CourtMovedUptoCardSaid : Prop := Claim7.holds Tryz.pinned (.plain (OpenSpec.upto courtMovedSpec)) courtMovedUptoCard

/-- THE SECOND FORM's CARD OF 'trestlelaw03.CourtMerges'. -/
def courtMergesUptoCard : Claim7 := { stood := { row := courtMergesUptoRow, standIns := [], harness := (true, "0c6e3bb202b824e2c2dd9abdb031a5b81cbdcc6c8a68afc2455dbfd7d81a45d3"), looks := true }, kinds := [], alts := [], laidByText := true, laidKinds := [.data, .data, .data, .data, .pinned], laidTests := true, laidLooks := .later }
def CourtMergesUptoCardSaid : Prop := Claim7.holds Tryz.pinned (.plain (OpenSpec.upto courtMergesSpec)) courtMergesUptoCard

/-- THE SECOND FORM's CARD OF 'trestlelaw03.CourtRefines'. -/
def courtRefinesUptoCard : Claim7 := { stood := { row := courtRefinesUptoRow, standIns := [], harness := (true, "0c6e3bb202b824e2c2dd9abdb031a5b81cbdcc6c8a68afc2455dbfd7d81a45d3"), looks := true }, kinds := [], alts := [], laidByText := true, laidKinds := [.data, .data, .data, .data, .pinned], laidTests := true, laidLooks := .later }
def CourtRefinesUptoCardSaid : Prop := Claim7.holds Tryz.pinned (.plain (OpenSpec.upto courtRefinesSpec)) courtRefinesUptoCard
end Rows
end Go.Proofs.YtiphapnckldpbaaGreatDoor

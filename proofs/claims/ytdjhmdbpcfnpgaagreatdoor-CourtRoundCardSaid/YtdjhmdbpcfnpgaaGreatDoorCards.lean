/-
  DERIVED. GIVEN WITH THE SEED: THE CARDS: each row of YtdjhmdbpcfnpgaaGreatDoorRows.lean that lists a variable, with what it lists TIED to the program's text (the seventh form; the later family's looks); each row that meets fmt, with fmt's text TOLD by the authors' own Lean function (tested against real Go, not proved from fmt's source: count such statements apart). THE CARD IS WHAT COUNTS. Prove the row's statement (the work); the ties are given (YtdjhmdbpcfnpgaaGreatDoorTie.lean); close each card by the builder's one call (the guide's Derived/Test/ToyasCard.lean, 'card_holds'). Laid BY PROGRAM, IN A SANDBOX (cutbox-door.mjs). By AI agents, Wed Nov 11 2026. No macro, syntax, notation, axiom, sorry.
-/
import Derived.Test.YtdjhmdbpcfnpgaaGreatDoorRows
import GoSem.ClaimSeven
namespace Go.Proofs.YtdjhmdbpcfnpgaaGreatDoor
namespace Rows

/-- THE TIED CARD OF 'trestlelaw03.CourtParses'. -/
def courtParsesCard : Claim7 := { stood := { row := courtParsesRow, standIns := [], harness := (true, "d36a3e5ce449645a0ea96993f4f5e2fa6089856748763faca868534a1b2112e0"), looks := true }, kinds := [], alts := [], laidByText := true, laidKinds := [.data, .data, .data, .data, .pinned], laidTests := true, laidLooks := .later }
def CourtParsesCardSaid : Prop := Claim7.holds Tryz.pinned (.plain (OpenSpec.ofChange courtParsesSpec)) courtParsesCard

/-- THE TIED CARD OF 'trestlelaw03.CourtRound'. -/
def courtRoundCard : Claim7 := { stood := { row := courtRoundRow, standIns := [], harness := (true, "d36a3e5ce449645a0ea96993f4f5e2fa6089856748763faca868534a1b2112e0"), looks := true }, kinds := [], alts := [], laidByText := true, laidKinds := [.data, .data, .data, .data, .pinned], laidTests := true, laidLooks := .later }
def CourtRoundCardSaid : Prop := Claim7.holds Tryz.pinned (.plain (OpenSpec.ofChange courtRoundSpec)) courtRoundCard

/-- THE TIED CARD OF 'trestlelaw03.CourtWeak'. -/
def courtWeakCard : Claim7 := { stood := { row := courtWeakRow, standIns := [], harness := (true, "d36a3e5ce449645a0ea96993f4f5e2fa6089856748763faca868534a1b2112e0"), looks := true }, kinds := [], alts := [], laidByText := true, laidKinds := [.data, .data, .data, .data, .pinned], laidTests := true, laidLooks := .later }
def CourtWeakCardSaid : Prop := Claim7.holds Tryz.pinned (.plain (OpenSpec.ofChange courtWeakSpec)) courtWeakCard

/-- THE TIED CARD OF 'trestlelaw03.CourtMerges'. -/
def courtMergesCard : Claim7 := { stood := { row := courtMergesRow, standIns := [], harness := (true, "d36a3e5ce449645a0ea96993f4f5e2fa6089856748763faca868534a1b2112e0"), looks := true }, kinds := [], alts := [], laidByText := true, laidKinds := [.data, .data, .data, .data, .pinned], laidTests := true, laidLooks := .later }
def CourtMergesCardSaid : Prop := Claim7.holds Tryz.pinned (.plain (OpenSpec.ofChange courtMergesSpec)) courtMergesCard

/-- THE SECOND FORM's CARD OF 'trestlelaw03.CourtParses'. -/
def courtParsesUptoCard : Claim7 := { stood := { row := courtParsesUptoRow, standIns := [], harness := (true, "d36a3e5ce449645a0ea96993f4f5e2fa6089856748763faca868534a1b2112e0"), looks := true }, kinds := [], alts := [], laidByText := true, laidKinds := [.data, .data, .data, .data, .pinned], laidTests := true, laidLooks := .later }
def CourtParsesUptoCardSaid : Prop := Claim7.holds Tryz.pinned (.plain (OpenSpec.upto courtParsesSpec)) courtParsesUptoCard

/-- THE SECOND FORM's CARD OF 'trestlelaw03.CourtRound'. -/
def courtRoundUptoCard : Claim7 := { stood := { row := courtRoundUptoRow, standIns := [], harness := (true, "d36a3e5ce449645a0ea96993f4f5e2fa6089856748763faca868534a1b2112e0"), looks := true }, kinds := [], alts := [], laidByText := true, laidKinds := [.data, .data, .data, .data, .pinned], laidTests := true, laidLooks := .later }
def CourtRoundUptoCardSaid : Prop := Claim7.holds Tryz.pinned (.plain (OpenSpec.upto courtRoundSpec)) courtRoundUptoCard

/-- THE SECOND FORM's CARD OF 'trestlelaw03.CourtWeak'. -/
def courtWeakUptoCard : Claim7 := { stood := { row := courtWeakUptoRow, standIns := [], harness := (true, "d36a3e5ce449645a0ea96993f4f5e2fa6089856748763faca868534a1b2112e0"), looks := true }, kinds := [], alts := [], laidByText := true, laidKinds := [.data, .data, .data, .data, .pinned], laidTests := true, laidLooks := .later }
def CourtWeakUptoCardSaid : Prop := Claim7.holds Tryz.pinned (.plain (OpenSpec.upto courtWeakSpec)) courtWeakUptoCard

/-- THE SECOND FORM's CARD OF 'trestlelaw03.CourtMerges'. -/
def courtMergesUptoCard : Claim7 := { stood := { row := courtMergesUptoRow, standIns := [], harness := (true, "d36a3e5ce449645a0ea96993f4f5e2fa6089856748763faca868534a1b2112e0"), looks := true }, kinds := [], alts := [], laidByText := true, laidKinds := [.data, .data, .data, .data, .pinned], laidTests := true, laidLooks := .later }
def CourtMergesUptoCardSaid : Prop := Claim7.holds Tryz.pinned (.plain (OpenSpec.upto courtMergesSpec)) courtMergesUptoCard
end Rows
end Go.Proofs.YtdjhmdbpcfnpgaaGreatDoor

/-
  DERIVED. GIVEN WITH THE SEED: THE CARDS: each row of YthofgamegondnaaDoorRows.lean that lists a variable, with what it lists TIED to the program's text (the seventh form; the later family's looks); each row that meets fmt, with fmt's text TOLD by the authors' own Lean function (tested against real Go, not proved from fmt's source: count such statements apart). THE CARD IS WHAT COUNTS. Prove the row's statement (the work); the ties are given (YthofgamegondnaaDoorTie.lean); close each card by the builder's one call (the guide's Derived/Test/ToyasCard.lean, 'card_holds'). Laid BY PROGRAM, IN A SANDBOX (cutbox-door.mjs). By AI agents, Wed Nov 11 2026. No macro, syntax, notation, axiom, sorry.
-/
import Derived.Test.YthofgamegondnaaDoorRows
import GoSem.ClaimSeven
namespace Go.Proofs.YthofgamegondnaaDoor
namespace Rows

/-- THE TIED CARD OF 'trestlelaw09.EveningFields'. -/
def eveningFieldsCard : Claim7 := { stood := { row := eveningFieldsRow, standIns := [], harness := (true, "a3de70f50ceb2dfc58e9308089e76ec30784edc4096ed22beee36fd701d1c7ae"), looks := false }, kinds := [], alts := [], laidByText := true, laidKinds := [.data, .data, .data], laidTests := true, laidLooks := .later }
def EveningFieldsCardSaid : Prop := Claim7.holds Tryd.pinned (.plain (OpenSpec.ofChange eveningFieldsSpec)) eveningFieldsCard

/-- THE TIED CARD OF 'trestlelaw09.EveningAxioms'. -/
def eveningAxiomsCard : Claim7 := { stood := { row := eveningAxiomsRow, standIns := [], harness := (true, "a3de70f50ceb2dfc58e9308089e76ec30784edc4096ed22beee36fd701d1c7ae"), looks := false }, kinds := [], alts := [], laidByText := true, laidKinds := [.data, .data, .data], laidTests := true, laidLooks := .later }
def EveningAxiomsCardSaid : Prop := Claim7.holds Tryd.pinned (.plain (OpenSpec.ofChange eveningAxiomsSpec)) eveningAxiomsCard

/-- THE TIED CARD OF 'trestlelaw09.EveningFormats'. -/
def eveningFormatsCard : Claim7 := { stood := { row := eveningFormatsRow, standIns := [], harness := (true, "a3de70f50ceb2dfc58e9308089e76ec30784edc4096ed22beee36fd701d1c7ae"), looks := false }, kinds := [], alts := [], laidByText := true, laidKinds := [.data, .data, .data], laidTests := true, laidLooks := .later }
def EveningFormatsCardSaid : Prop := Claim7.holds Tryd.pinned (.plain (OpenSpec.ofChange eveningFormatsSpec)) eveningFormatsCard

/-- THE TIED CARD OF 'trestlelaw09.EveningChecks'. -/
def eveningChecksCard : Claim7 := { stood := { row := eveningChecksRow, standIns := [], harness := (true, "a3de70f50ceb2dfc58e9308089e76ec30784edc4096ed22beee36fd701d1c7ae"), looks := false }, kinds := [], alts := [], laidByText := true, laidKinds := [.data, .data, .data], laidTests := true, laidLooks := .later }
def EveningChecksCardSaid : Prop := Claim7.holds Tryd.pinned (.plain (OpenSpec.ofChange eveningChecksSpec)) eveningChecksCard

/-- THE TIED CARD OF 'trestlelaw09.EveningBounds'. -/
def eveningBoundsCard : Claim7 := { stood := { row := eveningBoundsRow, standIns := [], harness := (true, "a3de70f50ceb2dfc58e9308089e76ec30784edc4096ed22beee36fd701d1c7ae"), looks := false }, kinds := [], alts := [], laidByText := true, laidKinds := [.data, .data, .data], laidTests := true, laidLooks := .later }
def EveningBoundsCardSaid : Prop := Claim7.holds Tryd.pinned (.plain (OpenSpec.ofChange eveningBoundsSpec)) eveningBoundsCard

/-- THE TIED CARD OF 'trestlelaw09.EveningOnce'. -/
def eveningOnceCard : Claim7 := { stood := { row := eveningOnceRow, standIns := [], harness := (true, "a3de70f50ceb2dfc58e9308089e76ec30784edc4096ed22beee36fd701d1c7ae"), looks := false }, kinds := [], alts := [], laidByText := true, laidKinds := [.data, .data, .data], laidTests := true, laidLooks := .later }
def EveningOnceCardSaid : Prop := Claim7.holds Tryd.pinned (.plain (OpenSpec.ofChange eveningOnceSpec)) eveningOnceCard

/-- THE TIED CARD OF 'trestlelaw09.EveningHosts'. -/
def eveningHostsCard : Claim7 := { stood := { row := eveningHostsRow, standIns := [], harness := (true, "a3de70f50ceb2dfc58e9308089e76ec30784edc4096ed22beee36fd701d1c7ae"), looks := false }, kinds := [], alts := [], laidByText := true, laidKinds := [.data, .data, .data], laidTests := true, laidLooks := .later }
def EveningHostsCardSaid : Prop := Claim7.holds Tryd.pinned (.plain (OpenSpec.ofChange eveningHostsSpec)) eveningHostsCard

/-- THE TIED CARD OF 'trestlelaw09.EveningRings'. -/
def eveningRingsCard : Claim7 := { stood := { row := eveningRingsRow, standIns := [], harness := (true, "a3de70f50ceb2dfc58e9308089e76ec30784edc4096ed22beee36fd701d1c7ae"), looks := false }, kinds := [], alts := [], laidByText := true, laidKinds := [.data, .data, .data], laidTests := true, laidLooks := .later }
def EveningRingsCardSaid : Prop := Claim7.holds Tryd.pinned (.plain (OpenSpec.ofChange eveningRingsSpec)) eveningRingsCard

/-- THE TIED CARD OF 'trestlelaw09.EveningNets'. -/
def eveningNetsCard : Claim7 := { stood := { row := eveningNetsRow, standIns := [], harness := (true, "a3de70f50ceb2dfc58e9308089e76ec30784edc4096ed22beee36fd701d1c7ae"), looks := false }, kinds := [], alts := [], laidByText := true, laidKinds := [.data, .data, .data], laidTests := true, laidLooks := .later }
def EveningNetsCardSaid : Prop := Claim7.holds Tryd.pinned (.plain (OpenSpec.ofChange eveningNetsSpec)) eveningNetsCard

/-- THE TIED CARD OF 'trestlelaw09.EveningDesigns'. -/
def eveningDesignsCard : Claim7 := { stood := { row := eveningDesignsRow, standIns := [], harness := (true, "a3de70f50ceb2dfc58e9308089e76ec30784edc4096ed22beee36fd701d1c7ae"), looks := false }, kinds := [], alts := [], laidByText := true, laidKinds := [.data, .data, .data], laidTests := true, laidLooks := .later }
def EveningDesignsCardSaid : Prop := Claim7.holds Tryd.pinned (.plain (OpenSpec.ofChange eveningDesignsSpec)) eveningDesignsCard

/-- THE TIED CARD OF 'trestlelaw09.EveningPlans'. -/
def eveningPlansCard : Claim7 := { stood := { row := eveningPlansRow, standIns := [], harness := (true, "a3de70f50ceb2dfc58e9308089e76ec30784edc4096ed22beee36fd701d1c7ae"), looks := false }, kinds := [], alts := [], laidByText := true, laidKinds := [.data, .data, .data], laidTests := true, laidLooks := .later }
def EveningPlansCardSaid : Prop := Claim7.holds Tryd.pinned (.plain (OpenSpec.ofChange eveningPlansSpec)) eveningPlansCard

/-- THE TIED CARD OF 'trestlelaw09.EveningPigeon'. -/
def eveningPigeonCard : Claim7 := { stood := { row := eveningPigeonRow, standIns := [], harness := (true, "a3de70f50ceb2dfc58e9308089e76ec30784edc4096ed22beee36fd701d1c7ae"), looks := false }, kinds := [], alts := [], laidByText := true, laidKinds := [.data, .data, .data], laidTests := true, laidLooks := .later }
def EveningPigeonCardSaid : Prop := Claim7.holds Tryd.pinned (.plain (OpenSpec.ofChange eveningPigeonSpec)) eveningPigeonCard

/-- THE SECOND FORM's CARD OF 'trestlelaw09.EveningFields'. -/
def eveningFieldsUptoCard : Claim7 := { stood := { row := eveningFieldsUptoRow, standIns := [], harness := (true, "a3de70f50ceb2dfc58e9308089e76ec30784edc4096ed22beee36fd701d1c7ae"), looks := false }, kinds := [], alts := [], laidByText := true, laidKinds := [.data, .data, .data], laidTests := true, laidLooks := .later }
def EveningFieldsUptoCardSaid : Prop := Claim7.holds Tryd.pinned (.plain (OpenSpec.upto eveningFieldsSpec)) eveningFieldsUptoCard

/-- THE SECOND FORM's CARD OF 'trestlelaw09.EveningAxioms'. -/
def eveningAxiomsUptoCard : Claim7 := { stood := { row := eveningAxiomsUptoRow, standIns := [], harness := (true, "a3de70f50ceb2dfc58e9308089e76ec30784edc4096ed22beee36fd701d1c7ae"), looks := false }, kinds := [], alts := [], laidByText := true, laidKinds := [.data, .data, .data], laidTests := true, laidLooks := .later }
def EveningAxiomsUptoCardSaid : Prop := Claim7.holds Tryd.pinned (.plain (OpenSpec.upto eveningAxiomsSpec)) eveningAxiomsUptoCard

/-- THE SECOND FORM's CARD OF 'trestlelaw09.EveningFormats'. -/
def eveningFormatsUptoCard : Claim7 := { stood := { row := eveningFormatsUptoRow, standIns := [], harness := (true, "a3de70f50ceb2dfc58e9308089e76ec30784edc4096ed22beee36fd701d1c7ae"), looks := false }, kinds := [], alts := [], laidByText := true, laidKinds := [.data, .data, .data], laidTests := true, laidLooks := .later }
def EveningFormatsUptoCardSaid : Prop := Claim7.holds Tryd.pinned (.plain (OpenSpec.upto eveningFormatsSpec)) eveningFormatsUptoCard

/-- THE SECOND FORM's CARD OF 'trestlelaw09.EveningChecks'. -/
def eveningChecksUptoCard : Claim7 := { stood := { row := eveningChecksUptoRow, standIns := [], harness := (true, "a3de70f50ceb2dfc58e9308089e76ec30784edc4096ed22beee36fd701d1c7ae"), looks := false }, kinds := [], alts := [], laidByText := true, laidKinds := [.data, .data, .data], laidTests := true, laidLooks := .later }
def EveningChecksUptoCardSaid : Prop := Claim7.holds Tryd.pinned (.plain (OpenSpec.upto eveningChecksSpec)) eveningChecksUptoCard

/-- THE SECOND FORM's CARD OF 'trestlelaw09.EveningBounds'. -/
def eveningBoundsUptoCard : Claim7 := { stood := { row := eveningBoundsUptoRow, standIns := [], harness := (true, "a3de70f50ceb2dfc58e9308089e76ec30784edc4096ed22beee36fd701d1c7ae"), looks := false }, kinds := [], alts := [], laidByText := true, laidKinds := [.data, .data, .data], laidTests := true, laidLooks := .later }
def EveningBoundsUptoCardSaid : Prop := Claim7.holds Tryd.pinned (.plain (OpenSpec.upto eveningBoundsSpec)) eveningBoundsUptoCard

/-- THE SECOND FORM's CARD OF 'trestlelaw09.EveningOnce'. -/
def eveningOnceUptoCard : Claim7 := { stood := { row := eveningOnceUptoRow, standIns := [], harness := (true, "a3de70f50ceb2dfc58e9308089e76ec30784edc4096ed22beee36fd701d1c7ae"), looks := false }, kinds := [], alts := [], laidByText := true, laidKinds := [.data, .data, .data], laidTests := true, laidLooks := .later }
def EveningOnceUptoCardSaid : Prop := Claim7.holds Tryd.pinned (.plain (OpenSpec.upto eveningOnceSpec)) eveningOnceUptoCard

/-- THE SECOND FORM's CARD OF 'trestlelaw09.EveningHosts'. -/
def eveningHostsUptoCard : Claim7 := { stood := { row := eveningHostsUptoRow, standIns := [], harness := (true, "a3de70f50ceb2dfc58e9308089e76ec30784edc4096ed22beee36fd701d1c7ae"), looks := false }, kinds := [], alts := [], laidByText := true, laidKinds := [.data, .data, .data], laidTests := true, laidLooks := .later }
def EveningHostsUptoCardSaid : Prop := Claim7.holds Tryd.pinned (.plain (OpenSpec.upto eveningHostsSpec)) eveningHostsUptoCard

/-- THE SECOND FORM's CARD OF 'trestlelaw09.EveningRings'. -/
def eveningRingsUptoCard : Claim7 := { stood := { row := eveningRingsUptoRow, standIns := [], harness := (true, "a3de70f50ceb2dfc58e9308089e76ec30784edc4096ed22beee36fd701d1c7ae"), looks := false }, kinds := [], alts := [], laidByText := true, laidKinds := [.data, .data, .data], laidTests := true, laidLooks := .later }
def EveningRingsUptoCardSaid : Prop := Claim7.holds Tryd.pinned (.plain (OpenSpec.upto eveningRingsSpec)) eveningRingsUptoCard

/-- THE SECOND FORM's CARD OF 'trestlelaw09.EveningNets'. -/
def eveningNetsUptoCard : Claim7 := { stood := { row := eveningNetsUptoRow, standIns := [], harness := (true, "a3de70f50ceb2dfc58e9308089e76ec30784edc4096ed22beee36fd701d1c7ae"), looks := false }, kinds := [], alts := [], laidByText := true, laidKinds := [.data, .data, .data], laidTests := true, laidLooks := .later }
def EveningNetsUptoCardSaid : Prop := Claim7.holds Tryd.pinned (.plain (OpenSpec.upto eveningNetsSpec)) eveningNetsUptoCard

/-- THE SECOND FORM's CARD OF 'trestlelaw09.EveningDesigns'. -/
def eveningDesignsUptoCard : Claim7 := { stood := { row := eveningDesignsUptoRow, standIns := [], harness := (true, "a3de70f50ceb2dfc58e9308089e76ec30784edc4096ed22beee36fd701d1c7ae"), looks := false }, kinds := [], alts := [], laidByText := true, laidKinds := [.data, .data, .data], laidTests := true, laidLooks := .later }
def EveningDesignsUptoCardSaid : Prop := Claim7.holds Tryd.pinned (.plain (OpenSpec.upto eveningDesignsSpec)) eveningDesignsUptoCard

/-- THE SECOND FORM's CARD OF 'trestlelaw09.EveningPlans'. -/
def eveningPlansUptoCard : Claim7 := { stood := { row := eveningPlansUptoRow, standIns := [], harness := (true, "a3de70f50ceb2dfc58e9308089e76ec30784edc4096ed22beee36fd701d1c7ae"), looks := false }, kinds := [], alts := [], laidByText := true, laidKinds := [.data, .data, .data], laidTests := true, laidLooks := .later }
def EveningPlansUptoCardSaid : Prop := Claim7.holds Tryd.pinned (.plain (OpenSpec.upto eveningPlansSpec)) eveningPlansUptoCard

/-- THE SECOND FORM's CARD OF 'trestlelaw09.EveningPigeon'. -/
def eveningPigeonUptoCard : Claim7 := { stood := { row := eveningPigeonUptoRow, standIns := [], harness := (true, "a3de70f50ceb2dfc58e9308089e76ec30784edc4096ed22beee36fd701d1c7ae"), looks := false }, kinds := [], alts := [], laidByText := true, laidKinds := [.data, .data, .data], laidTests := true, laidLooks := .later }
def EveningPigeonUptoCardSaid : Prop := Claim7.holds Tryd.pinned (.plain (OpenSpec.upto eveningPigeonSpec)) eveningPigeonUptoCard
end Rows
end Go.Proofs.YthofgamegondnaaDoor

/-
  DERIVED. GIVEN WITH THE SEED: THE CARDS: each row of YtnblabfkkcohgaaGreatDoorRows.lean that lists a variable, with what it lists TIED to the program's text (the seventh form; the later family's looks); each row that meets fmt, with fmt's text TOLD by the authors' own Lean function (tested against real Go, not proved from fmt's source: count such statements apart). THE CARD IS WHAT COUNTS. Prove the row's statement (the work); the ties are given (YtnblabfkkcohgaaGreatDoorTie.lean); close each card by the builder's one call (the guide's Derived/Test/ToyasCard.lean, 'card_holds'). Laid BY PROGRAM, IN A SANDBOX (cutbox-door.mjs). By AI agents, Wed Nov 11 2026. No macro, syntax, notation, axiom, sorry.
-/
import Derived.Test.YtnblabfkkcohgaaGreatDoorRows
import GoSem.ClaimSeven
namespace Go.Proofs.YtnblabfkkcohgaaGreatDoor
namespace Rows

/-- THE TIED CARD OF 'mullionlaw03.WireOne'. -/
def wireOneCard : Claim7 := { stood := { row := wireOneRow, standIns := [], harness := (true, "73a2f47d6bf8ca1eac8ca06c28546c3a097fadb0f0c8e9650b57f9ae3d562347"), looks := true }, kinds := [], alts := [], laidByText := true, laidKinds := [.data, .data, .data, .sentinel, .sentinel, .data], laidTests := true, laidLooks := .later }
def WireOneCardSaid : Prop := Claim7.holds Tryz.pinned (.plain (OpenSpec.ofChange wireOneSpec)) wireOneCard

/-- THE TIED CARD OF 'mullionlaw03.WireClasses'. -/
def wireClassesCard : Claim7 := { stood := { row := wireClassesRow, standIns := [], harness := (true, "73a2f47d6bf8ca1eac8ca06c28546c3a097fadb0f0c8e9650b57f9ae3d562347"), looks := true }, kinds := [], alts := [], laidByText := true, laidKinds := [.data, .data, .data, .sentinel, .sentinel, .data], laidTests := true, laidLooks := .later }
def WireClassesCardSaid : Prop := Claim7.holds Tryz.pinned (.plain (OpenSpec.ofChange wireClassesSpec)) wireClassesCard

/-- THE TIED CARD OF 'mullionlaw03.WireEncodes'. -/
def wireEncodesCard : Claim7 := { stood := { row := wireEncodesRow, standIns := [], harness := (true, "73a2f47d6bf8ca1eac8ca06c28546c3a097fadb0f0c8e9650b57f9ae3d562347"), looks := true }, kinds := [], alts := [], laidByText := true, laidKinds := [.data, .data, .data, .sentinel, .sentinel, .data], laidTests := true, laidLooks := .later }
def WireEncodesCardSaid : Prop := Claim7.holds Tryz.pinned (.plain (OpenSpec.ofChange wireEncodesSpec)) wireEncodesCard

/-- THE TIED CARD OF 'mullionlaw03.WireDecodes'. -/
def wireDecodesCard : Claim7 := { stood := { row := wireDecodesRow, standIns := [], harness := (true, "73a2f47d6bf8ca1eac8ca06c28546c3a097fadb0f0c8e9650b57f9ae3d562347"), looks := true }, kinds := [], alts := [], laidByText := true, laidKinds := [.data, .data, .data, .sentinel, .sentinel, .data], laidTests := true, laidLooks := .later }
def WireDecodesCardSaid : Prop := Claim7.holds Tryz.pinned (.plain (OpenSpec.ofChange wireDecodesSpec)) wireDecodesCard

/-- THE TIED CARD OF 'mullionlaw03.WireBack'. -/
def wireBackCard : Claim7 := { stood := { row := wireBackRow, standIns := [], harness := (true, "73a2f47d6bf8ca1eac8ca06c28546c3a097fadb0f0c8e9650b57f9ae3d562347"), looks := true }, kinds := [], alts := [], laidByText := true, laidKinds := [.data, .data, .data, .sentinel, .sentinel, .data], laidTests := true, laidLooks := .later }
def WireBackCardSaid : Prop := Claim7.holds Tryz.pinned (.plain (OpenSpec.ofChange wireBackSpec)) wireBackCard

/-- THE TIED CARD OF 'mullionlaw03.WireReads'. -/
def wireReadsCard : Claim7 := { stood := { row := wireReadsRow, standIns := [], harness := (true, "73a2f47d6bf8ca1eac8ca06c28546c3a097fadb0f0c8e9650b57f9ae3d562347"), looks := true }, kinds := [], alts := [], laidByText := true, laidKinds := [.data, .data, .data, .sentinel, .sentinel, .data], laidTests := true, laidLooks := .later }
def WireReadsCardSaid : Prop := Claim7.holds Tryz.pinned (.plain (OpenSpec.ofChange wireReadsSpec)) wireReadsCard

/-- THE TIED CARD OF 'mullionlaw03.WirePieces'. -/
def wirePiecesCard : Claim7 := { stood := { row := wirePiecesRow, standIns := [], harness := (true, "73a2f47d6bf8ca1eac8ca06c28546c3a097fadb0f0c8e9650b57f9ae3d562347"), looks := true }, kinds := [], alts := [], laidByText := true, laidKinds := [.data, .data, .data, .sentinel, .sentinel, .data], laidTests := true, laidLooks := .later }
def WirePiecesCardSaid : Prop := Claim7.holds Tryz.pinned (.plain (OpenSpec.ofChange wirePiecesSpec)) wirePiecesCard

/-- THE TIED CARD OF 'mullionlaw03.WireTexts'. -/
def wireTextsCard : Claim7 := { stood := { row := wireTextsRow, standIns := [], harness := (true, "73a2f47d6bf8ca1eac8ca06c28546c3a097fadb0f0c8e9650b57f9ae3d562347"), looks := true }, kinds := [], alts := [], laidByText := true, laidKinds := [.data, .data, .data, .sentinel, .sentinel, .data], laidTests := true, laidLooks := .later }
def WireTextsCardSaid : Prop := Claim7.holds Tryz.pinned (.plain (OpenSpec.ofChange wireTextsSpec)) wireTextsCard

/-- THE TIED CARD OF 'mullionlaw03.WireTotal'. -/
def wireTotalCard : Claim7 := { stood := { row := wireTotalRow, standIns := [], harness := (true, "73a2f47d6bf8ca1eac8ca06c28546c3a097fadb0f0c8e9650b57f9ae3d562347"), looks := true }, kinds := [], alts := [], laidByText := true, laidKinds := [.data, .data, .data, .sentinel, .sentinel, .data], laidTests := true, laidLooks := .later }
def WireTotalCardSaid : Prop := Claim7.holds Tryz.pinned (.plain (OpenSpec.ofChange wireTotalSpec)) wireTotalCard

/-- THE TIED CARD OF 'mullionlaw03.WireForged'. -/
def wireForgedCard : Claim7 := { stood := { row := wireForgedRow, standIns := [], harness := (true, "73a2f47d6bf8ca1eac8ca06c28546c3a097fadb0f0c8e9650b57f9ae3d562347"), looks := true }, kinds := [], alts := [], laidByText := true, laidKinds := [.data, .data, .data, .sentinel, .sentinel, .data], laidTests := true, laidLooks := .later }
def WireForgedCardSaid : Prop := Claim7.holds Tryz.pinned (.plain (OpenSpec.ofChange wireForgedSpec)) wireForgedCard

/-- THE TIED CARD OF 'mullionlaw03.WireLists'. -/
def wireListsCard : Claim7 := { stood := { row := wireListsRow, standIns := [], harness := (true, "73a2f47d6bf8ca1eac8ca06c28546c3a097fadb0f0c8e9650b57f9ae3d562347"), looks := true }, kinds := [], alts := [], laidByText := true, laidKinds := [.data, .data, .data, .sentinel, .sentinel, .data], laidTests := true, laidLooks := .later }
def WireListsCardSaid : Prop := Claim7.holds Tryz.pinned (.plain (OpenSpec.ofChange wireListsSpec)) wireListsCard

/-- THE TIED CARD OF 'mullionlaw03.WireWords'. -/
def wireWordsCard : Claim7 := { stood := { row := wireWordsRow, standIns := [], harness := (true, "73a2f47d6bf8ca1eac8ca06c28546c3a097fadb0f0c8e9650b57f9ae3d562347"), looks := true }, kinds := [], alts := [], laidByText := true, laidKinds := [.data, .data, .data, .sentinel, .sentinel, .data], laidTests := true, laidLooks := .later }
def WireWordsCardSaid : Prop := Claim7.holds Tryz.pinned (.plain (OpenSpec.ofChange wireWordsSpec)) wireWordsCard

/-- THE TIED CARD OF 'mullionlaw03.WirePrefix'. -/
def wirePrefixCard : Claim7 := { stood := { row := wirePrefixRow, standIns := [], harness := (true, "73a2f47d6bf8ca1eac8ca06c28546c3a097fadb0f0c8e9650b57f9ae3d562347"), looks := true }, kinds := [], alts := [], laidByText := true, laidKinds := [.data, .data, .data, .sentinel, .sentinel, .data], laidTests := true, laidLooks := .later }
def WirePrefixCardSaid : Prop := Claim7.holds Tryz.pinned (.plain (OpenSpec.ofChange wirePrefixSpec)) wirePrefixCard

/-- THE TIED CARD OF 'mullionlaw03.WireMade'. -/
def wireMadeCard : Claim7 := { stood := { row := wireMadeRow, standIns := [], harness := (true, "73a2f47d6bf8ca1eac8ca06c28546c3a097fadb0f0c8e9650b57f9ae3d562347"), looks := true }, kinds := [], alts := [], laidByText := true, laidKinds := [.data, .data, .data, .sentinel, .sentinel, .data], laidTests := true, laidLooks := .later }
def WireMadeCardSaid : Prop := Claim7.holds Tryz.pinned (.plain (OpenSpec.ofChange wireMadeSpec)) wireMadeCard

/-- THE SECOND FORM's CARD OF 'mullionlaw03.WireOne'. -/
def wireOneUptoCard : Claim7 := { stood := { row := wireOneUptoRow, standIns := [], harness := (true, "73a2f47d6bf8ca1eac8ca06c28546c3a097fadb0f0c8e9650b57f9ae3d562347"), looks := true }, kinds := [], alts := [], laidByText := true, laidKinds := [.data, .data, .data, .sentinel, .sentinel, .data], laidTests := true, laidLooks := .later }
def WireOneUptoCardSaid : Prop := Claim7.holds Tryz.pinned (.plain (OpenSpec.upto wireOneSpec)) wireOneUptoCard

/-- THE SECOND FORM's CARD OF 'mullionlaw03.WireClasses'. -/
def wireClassesUptoCard : Claim7 := { stood := { row := wireClassesUptoRow, standIns := [], harness := (true, "73a2f47d6bf8ca1eac8ca06c28546c3a097fadb0f0c8e9650b57f9ae3d562347"), looks := true }, kinds := [], alts := [], laidByText := true, laidKinds := [.data, .data, .data, .sentinel, .sentinel, .data], laidTests := true, laidLooks := .later }
def WireClassesUptoCardSaid : Prop := Claim7.holds Tryz.pinned (.plain (OpenSpec.upto wireClassesSpec)) wireClassesUptoCard

/-- THE SECOND FORM's CARD OF 'mullionlaw03.WireEncodes'. -/
def wireEncodesUptoCard : Claim7 := { stood := { row := wireEncodesUptoRow, standIns := [], harness := (true, "73a2f47d6bf8ca1eac8ca06c28546c3a097fadb0f0c8e9650b57f9ae3d562347"), looks := true }, kinds := [], alts := [], laidByText := true, laidKinds := [.data, .data, .data, .sentinel, .sentinel, .data], laidTests := true, laidLooks := .later }
def WireEncodesUptoCardSaid : Prop := Claim7.holds Tryz.pinned (.plain (OpenSpec.upto wireEncodesSpec)) wireEncodesUptoCard

/-- THE SECOND FORM's CARD OF 'mullionlaw03.WireDecodes'. -/
def wireDecodesUptoCard : Claim7 := { stood := { row := wireDecodesUptoRow, standIns := [], harness := (true, "73a2f47d6bf8ca1eac8ca06c28546c3a097fadb0f0c8e9650b57f9ae3d562347"), looks := true }, kinds := [], alts := [], laidByText := true, laidKinds := [.data, .data, .data, .sentinel, .sentinel, .data], laidTests := true, laidLooks := .later }
def WireDecodesUptoCardSaid : Prop := Claim7.holds Tryz.pinned (.plain (OpenSpec.upto wireDecodesSpec)) wireDecodesUptoCard

/-- THE SECOND FORM's CARD OF 'mullionlaw03.WireBack'. -/
def wireBackUptoCard : Claim7 := { stood := { row := wireBackUptoRow, standIns := [], harness := (true, "73a2f47d6bf8ca1eac8ca06c28546c3a097fadb0f0c8e9650b57f9ae3d562347"), looks := true }, kinds := [], alts := [], laidByText := true, laidKinds := [.data, .data, .data, .sentinel, .sentinel, .data], laidTests := true, laidLooks := .later }
def WireBackUptoCardSaid : Prop := Claim7.holds Tryz.pinned (.plain (OpenSpec.upto wireBackSpec)) wireBackUptoCard

/-- THE SECOND FORM's CARD OF 'mullionlaw03.WireReads'. -/
def wireReadsUptoCard : Claim7 := { stood := { row := wireReadsUptoRow, standIns := [], harness := (true, "73a2f47d6bf8ca1eac8ca06c28546c3a097fadb0f0c8e9650b57f9ae3d562347"), looks := true }, kinds := [], alts := [], laidByText := true, laidKinds := [.data, .data, .data, .sentinel, .sentinel, .data], laidTests := true, laidLooks := .later }
def WireReadsUptoCardSaid : Prop := Claim7.holds Tryz.pinned (.plain (OpenSpec.upto wireReadsSpec)) wireReadsUptoCard

/-- THE SECOND FORM's CARD OF 'mullionlaw03.WirePieces'. -/
def wirePiecesUptoCard : Claim7 := { stood := { row := wirePiecesUptoRow, standIns := [], harness := (true, "73a2f47d6bf8ca1eac8ca06c28546c3a097fadb0f0c8e9650b57f9ae3d562347"), looks := true }, kinds := [], alts := [], laidByText := true, laidKinds := [.data, .data, .data, .sentinel, .sentinel, .data], laidTests := true, laidLooks := .later }
def WirePiecesUptoCardSaid : Prop := Claim7.holds Tryz.pinned (.plain (OpenSpec.upto wirePiecesSpec)) wirePiecesUptoCard

/-- THE SECOND FORM's CARD OF 'mullionlaw03.WireTexts'. -/
def wireTextsUptoCard : Claim7 := { stood := { row := wireTextsUptoRow, standIns := [], harness := (true, "73a2f47d6bf8ca1eac8ca06c28546c3a097fadb0f0c8e9650b57f9ae3d562347"), looks := true }, kinds := [], alts := [], laidByText := true, laidKinds := [.data, .data, .data, .sentinel, .sentinel, .data], laidTests := true, laidLooks := .later }
def WireTextsUptoCardSaid : Prop := Claim7.holds Tryz.pinned (.plain (OpenSpec.upto wireTextsSpec)) wireTextsUptoCard

/-- THE SECOND FORM's CARD OF 'mullionlaw03.WireTotal'. -/
def wireTotalUptoCard : Claim7 := { stood := { row := wireTotalUptoRow, standIns := [], harness := (true, "73a2f47d6bf8ca1eac8ca06c28546c3a097fadb0f0c8e9650b57f9ae3d562347"), looks := true }, kinds := [], alts := [], laidByText := true, laidKinds := [.data, .data, .data, .sentinel, .sentinel, .data], laidTests := true, laidLooks := .later }
def WireTotalUptoCardSaid : Prop := Claim7.holds Tryz.pinned (.plain (OpenSpec.upto wireTotalSpec)) wireTotalUptoCard

/-- THE SECOND FORM's CARD OF 'mullionlaw03.WireForged'. -/
def wireForgedUptoCard : Claim7 := { stood := { row := wireForgedUptoRow, standIns := [], harness := (true, "73a2f47d6bf8ca1eac8ca06c28546c3a097fadb0f0c8e9650b57f9ae3d562347"), looks := true }, kinds := [], alts := [], laidByText := true, laidKinds := [.data, .data, .data, .sentinel, .sentinel, .data], laidTests := true, laidLooks := .later }
def WireForgedUptoCardSaid : Prop := Claim7.holds Tryz.pinned (.plain (OpenSpec.upto wireForgedSpec)) wireForgedUptoCard

/-- THE SECOND FORM's CARD OF 'mullionlaw03.WireLists'. -/
def wireListsUptoCard : Claim7 := { stood := { row := wireListsUptoRow, standIns := [], harness := (true, "73a2f47d6bf8ca1eac8ca06c28546c3a097fadb0f0c8e9650b57f9ae3d562347"), looks := true }, kinds := [], alts := [], laidByText := true, laidKinds := [.data, .data, .data, .sentinel, .sentinel, .data], laidTests := true, laidLooks := .later }
def WireListsUptoCardSaid : Prop := Claim7.holds Tryz.pinned (.plain (OpenSpec.upto wireListsSpec)) wireListsUptoCard

/-- THE SECOND FORM's CARD OF 'mullionlaw03.WireWords'. -/
def wireWordsUptoCard : Claim7 := { stood := { row := wireWordsUptoRow, standIns := [], harness := (true, "73a2f47d6bf8ca1eac8ca06c28546c3a097fadb0f0c8e9650b57f9ae3d562347"), looks := true }, kinds := [], alts := [], laidByText := true, laidKinds := [.data, .data, .data, .sentinel, .sentinel, .data], laidTests := true, laidLooks := .later }
def WireWordsUptoCardSaid : Prop := Claim7.holds Tryz.pinned (.plain (OpenSpec.upto wireWordsSpec)) wireWordsUptoCard

/-- THE SECOND FORM's CARD OF 'mullionlaw03.WirePrefix'. -/
def wirePrefixUptoCard : Claim7 := { stood := { row := wirePrefixUptoRow, standIns := [], harness := (true, "73a2f47d6bf8ca1eac8ca06c28546c3a097fadb0f0c8e9650b57f9ae3d562347"), looks := true }, kinds := [], alts := [], laidByText := true, laidKinds := [.data, .data, .data, .sentinel, .sentinel, .data], laidTests := true, laidLooks := .later }
def WirePrefixUptoCardSaid : Prop := Claim7.holds Tryz.pinned (.plain (OpenSpec.upto wirePrefixSpec)) wirePrefixUptoCard

/-- THE SECOND FORM's CARD OF 'mullionlaw03.WireMade'. -/
def wireMadeUptoCard : Claim7 := { stood := { row := wireMadeUptoRow, standIns := [], harness := (true, "73a2f47d6bf8ca1eac8ca06c28546c3a097fadb0f0c8e9650b57f9ae3d562347"), looks := true }, kinds := [], alts := [], laidByText := true, laidKinds := [.data, .data, .data, .sentinel, .sentinel, .data], laidTests := true, laidLooks := .later }
def WireMadeUptoCardSaid : Prop := Claim7.holds Tryz.pinned (.plain (OpenSpec.upto wireMadeSpec)) wireMadeUptoCard
end Rows
end Go.Proofs.YtnblabfkkcohgaaGreatDoor

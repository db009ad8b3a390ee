/-
  DERIVED. GIVEN WITH THE SEED: THE CARDS: each row of YtlpeihabbkgnbaaGreatDoorRows.lean that lists a variable, with what it lists TIED to the program's text (the seventh form; the later family's looks); each row that meets fmt, with fmt's text TOLD by the authors' own Lean function (tested against real Go, not proved from fmt's source: count such statements apart). THE CARD IS WHAT COUNTS. Prove the row's statement (the work); the ties are given (YtlpeihabbkgnbaaGreatDoorTie.lean); close each card by the builder's one call (the guide's Derived/Test/ToyasCard.lean, 'card_holds'). Laid BY PROGRAM, IN A SANDBOX (cutbox-door.mjs). By AI agents, Wed Nov 11 2026. No macro, syntax, notation, axiom, sorry.
-/
import Derived.Test.YtlpeihabbkgnbaaGreatDoorRows
import GoSem.ClaimSeven
namespace Go.Proofs.YtlpeihabbkgnbaaGreatDoor
namespace Rows

/-- THE TIED CARD OF 'rotuluslaw20.PickWidth'. -/
def pickWidthCard : Claim7 := { stood := { row := pickWidthRow, standIns := [], harness := (true, "369de9e1f21f4223392028be866f93c7b7e28470e51f0b83d32a2292575a60b2"), looks := false }, kinds := [], alts := [], laidByText := true, laidKinds := [.data, .data, .data, .data, .pinned], laidTests := true, laidLooks := .later }
def PickWidthCardSaid : Prop := Claim7.holds Tryz.pinned (.plain (OpenSpec.ofChange pickWidthSpec)) pickWidthCard

/-- THE TIED CARD OF 'rotuluslaw20.CopyNew'. -/
def copyNewCard : Claim7 := { stood := { row := copyNewRow, standIns := [], harness := (true, "369de9e1f21f4223392028be866f93c7b7e28470e51f0b83d32a2292575a60b2"), looks := false }, kinds := [], alts := [], laidByText := true, laidKinds := [.data, .data, .data, .data, .pinned], laidTests := true, laidLooks := .later }
def CopyNewCardSaid : Prop := Claim7.holds Tryz.pinned (.plain (OpenSpec.ofChange copyNewSpec)) copyNewCard

/-- THE TIED CARD OF 'rotuluslaw20.CopyTurn'. -/
def copyTurnCard : Claim7 := { stood := { row := copyTurnRow, standIns := [], harness := (true, "369de9e1f21f4223392028be866f93c7b7e28470e51f0b83d32a2292575a60b2"), looks := false }, kinds := [], alts := [], laidByText := true, laidKinds := [.data, .data, .data, .data, .pinned], laidTests := true, laidLooks := .later }
def CopyTurnCardSaid : Prop := Claim7.holds Tryz.pinned (.plain (OpenSpec.ofChange copyTurnSpec)) copyTurnCard

/-- THE TIED CARD OF 'rotuluslaw20.CopySwap'. -/
def copySwapCard : Claim7 := { stood := { row := copySwapRow, standIns := [], harness := (true, "369de9e1f21f4223392028be866f93c7b7e28470e51f0b83d32a2292575a60b2"), looks := false }, kinds := [], alts := [], laidByText := true, laidKinds := [.data, .data, .data, .data, .pinned], laidTests := true, laidLooks := .later }
def CopySwapCardSaid : Prop := Claim7.holds Tryz.pinned (.plain (OpenSpec.ofChange copySwapSpec)) copySwapCard

/-- THE TIED CARD OF 'rotuluslaw20.CopyNone'. -/
def copyNoneCard : Claim7 := { stood := { row := copyNoneRow, standIns := [], harness := (true, "369de9e1f21f4223392028be866f93c7b7e28470e51f0b83d32a2292575a60b2"), looks := false }, kinds := [], alts := [], laidByText := true, laidKinds := [.data, .data, .data, .data, .pinned], laidTests := true, laidLooks := .later }
def CopyNoneCardSaid : Prop := Claim7.holds Tryz.pinned (.plain (OpenSpec.ofChange copyNoneSpec)) copyNoneCard

/-- THE TIED CARD OF 'rotuluslaw20.PickAllLines'. -/
def pickAllLinesCard : Claim7 := { stood := { row := pickAllLinesRow, standIns := [], harness := (true, "369de9e1f21f4223392028be866f93c7b7e28470e51f0b83d32a2292575a60b2"), looks := false }, kinds := [], alts := [], laidByText := true, laidKinds := [.data, .data, .data, .data, .pinned], laidTests := true, laidLooks := .later }
def PickAllLinesCardSaid : Prop := Claim7.holds Tryz.pinned (.plain (OpenSpec.ofChange pickAllLinesSpec)) pickAllLinesCard

/-- THE TIED CARD OF 'rotuluslaw20.PickOne'. -/
def pickOneCard : Claim7 := { stood := { row := pickOneRow, standIns := [], harness := (true, "369de9e1f21f4223392028be866f93c7b7e28470e51f0b83d32a2292575a60b2"), looks := false }, kinds := [], alts := [], laidByText := true, laidKinds := [.data, .data, .data, .data, .pinned], laidTests := true, laidLooks := .later }
def PickOneCardSaid : Prop := Claim7.holds Tryz.pinned (.plain (OpenSpec.ofChange pickOneSpec)) pickOneCard

/-- THE TIED CARD OF 'rotuluslaw20.CopyResize'. -/
def copyResizeCard : Claim7 := { stood := { row := copyResizeRow, standIns := [], harness := (true, "369de9e1f21f4223392028be866f93c7b7e28470e51f0b83d32a2292575a60b2"), looks := false }, kinds := [], alts := [], laidByText := true, laidKinds := [.data, .data, .data, .data, .pinned], laidTests := true, laidLooks := .later }
def CopyResizeCardSaid : Prop := Claim7.holds Tryz.pinned (.plain (OpenSpec.ofChange copyResizeSpec)) copyResizeCard

/-- THE TIED CARD OF 'rotuluslaw20.CopyWords'. -/
def copyWordsCard : Claim7 := { stood := { row := copyWordsRow, standIns := [], harness := (true, "369de9e1f21f4223392028be866f93c7b7e28470e51f0b83d32a2292575a60b2"), looks := false }, kinds := [], alts := [], laidByText := true, laidKinds := [.data, .data, .data, .data, .pinned], laidTests := true, laidLooks := .later }
def CopyWordsCardSaid : Prop := Claim7.holds Tryz.pinned (.plain (OpenSpec.ofChange copyWordsSpec)) copyWordsCard

/-- THE TIED CARD OF 'rotuluslaw20.CopyMarks'. -/
def copyMarksCard : Claim7 := { stood := { row := copyMarksRow, standIns := [], harness := (true, "369de9e1f21f4223392028be866f93c7b7e28470e51f0b83d32a2292575a60b2"), looks := false }, kinds := [], alts := [], laidByText := true, laidKinds := [.data, .data, .data, .data, .pinned], laidTests := true, laidLooks := .later }
def CopyMarksCardSaid : Prop := Claim7.holds Tryz.pinned (.plain (OpenSpec.ofChange copyMarksSpec)) copyMarksCard

/-- THE SECOND FORM's CARD OF 'rotuluslaw20.PickWidth'. -/
def pickWidthUptoCard : Claim7 := { stood := { row := pickWidthUptoRow, standIns := [], harness := (true, "369de9e1f21f4223392028be866f93c7b7e28470e51f0b83d32a2292575a60b2"), looks := false }, kinds := [], alts := [], laidByText := true, laidKinds := [.data, .data, .data, .data, .pinned], laidTests := true, laidLooks := .later }
def PickWidthUptoCardSaid : Prop := Claim7.holds Tryz.pinned (.plain (OpenSpec.upto pickWidthSpec)) pickWidthUptoCard

/-- THE SECOND FORM's CARD OF 'rotuluslaw20.CopyNew'. -/
def copyNewUptoCard : Claim7 := { stood := { row := copyNewUptoRow, standIns := [], harness := (true, "369de9e1f21f4223392028be866f93c7b7e28470e51f0b83d32a2292575a60b2"), looks := false }, kinds := [], alts := [], laidByText := true, laidKinds := [.data, .data, .data, .data, .pinned], laidTests := true, laidLooks := .later }
def CopyNewUptoCardSaid : Prop := Claim7.holds Tryz.pinned (.plain (OpenSpec.upto copyNewSpec)) copyNewUptoCard

/-- THE SECOND FORM's CARD OF 'rotuluslaw20.CopyTurn'. -/
def copyTurnUptoCard : Claim7 := { stood := { row := copyTurnUptoRow, standIns := [], harness := (true, "369de9e1f21f4223392028be866f93c7b7e28470e51f0b83d32a2292575a60b2"), looks := false }, kinds := [], alts := [], laidByText := true, laidKinds := [.data, .data, .data, .data, .pinned], laidTests := true, laidLooks := .later }
def CopyTurnUptoCardSaid : Prop := Claim7.holds Tryz.pinned (.plain (OpenSpec.upto copyTurnSpec)) copyTurnUptoCard

/-- THE SECOND FORM's CARD OF 'rotuluslaw20.CopySwap'. -/
def copySwapUptoCard : Claim7 := { stood := { row := copySwapUptoRow, standIns := [], harness := (true, "369de9e1f21f4223392028be866f93c7b7e28470e51f0b83d32a2292575a60b2"), looks := false }, kinds := [], alts := [], laidByText := true, laidKinds := [.data, .data, .data, .data, .pinned], laidTests := true, laidLooks := .later }
def CopySwapUptoCardSaid : Prop := Claim7.holds Tryz.pinned (.plain (OpenSpec.upto copySwapSpec)) copySwapUptoCard

/-- THE SECOND FORM's CARD OF 'rotuluslaw20.CopyNone'. -/
def copyNoneUptoCard : Claim7 := { stood := { row := copyNoneUptoRow, standIns := [], harness := (true, "369de9e1f21f4223392028be866f93c7b7e28470e51f0b83d32a2292575a60b2"), looks := false }, kinds := [], alts := [], laidByText := true, laidKinds := [.data, .data, .data, .data, .pinned], laidTests := true, laidLooks := .later }
def CopyNoneUptoCardSaid : Prop := Claim7.holds Tryz.pinned (.plain (OpenSpec.upto copyNoneSpec)) copyNoneUptoCard

/-- THE SECOND FORM's CARD OF 'rotuluslaw20.PickAllLines'. -/
def pickAllLinesUptoCard : Claim7 := { stood := { row := pickAllLinesUptoRow, standIns := [], harness := (true, "369de9e1f21f4223392028be866f93c7b7e28470e51f0b83d32a2292575a60b2"), looks := false }, kinds := [], alts := [], laidByText := true, laidKinds := [.data, .data, .data, .data, .pinned], laidTests := true, laidLooks := .later }
def PickAllLinesUptoCardSaid : Prop := Claim7.holds Tryz.pinned (.plain (OpenSpec.upto pickAllLinesSpec)) pickAllLinesUptoCard

/-- THE SECOND FORM's CARD OF 'rotuluslaw20.PickOne'. -/
def pickOneUptoCard : Claim7 := { stood := { row := pickOneUptoRow, standIns := [], harness := (true, "369de9e1f21f4223392028be866f93c7b7e28470e51f0b83d32a2292575a60b2"), looks := false }, kinds := [], alts := [], laidByText := true, laidKinds := [.data, .data, .data, .data, .pinned], laidTests := true, laidLooks := .later }
def PickOneUptoCardSaid : Prop := Claim7.holds Tryz.pinned (.plain (OpenSpec.upto pickOneSpec)) pickOneUptoCard

/-- THE SECOND FORM's CARD OF 'rotuluslaw20.CopyResize'. -/
def copyResizeUptoCard : Claim7 := { stood := { row := copyResizeUptoRow, standIns := [], harness := (true, "369de9e1f21f4223392028be866f93c7b7e28470e51f0b83d32a2292575a60b2"), looks := false }, kinds := [], alts := [], laidByText := true, laidKinds := [.data, .data, .data, .data, .pinned], laidTests := true, laidLooks := .later }
def CopyResizeUptoCardSaid : Prop := Claim7.holds Tryz.pinned (.plain (OpenSpec.upto copyResizeSpec)) copyResizeUptoCard

/-- THE SECOND FORM's CARD OF 'rotuluslaw20.CopyWords'. -/
def copyWordsUptoCard : Claim7 := { stood := { row := copyWordsUptoRow, standIns := [], harness := (true, "369de9e1f21f4223392028be866f93c7b7e28470e51f0b83d32a2292575a60b2"), looks := false }, kinds := [], alts := [], laidByText := true, laidKinds := [.data, .data, .data, .data, .pinned], laidTests := true, laidLooks := .later }
def CopyWordsUptoCardSaid : Prop := Claim7.holds Tryz.pinned (.plain (OpenSpec.upto copyWordsSpec)) copyWordsUptoCard

/-- THE SECOND FORM's CARD OF 'rotuluslaw20.CopyMarks'. -/
def copyMarksUptoCard : Claim7 := { stood := { row := copyMarksUptoRow, standIns := [], harness := (true, "369de9e1f21f4223392028be866f93c7b7e28470e51f0b83d32a2292575a60b2"), looks := false }, kinds := [], alts := [], laidByText := true, laidKinds := [.data, .data, .data, .data, .pinned], laidTests := true, laidLooks := .later }
def CopyMarksUptoCardSaid : Prop := Claim7.holds Tryz.pinned (.plain (OpenSpec.upto copyMarksSpec)) copyMarksUptoCard
end Rows
end Go.Proofs.YtlpeihabbkgnbaaGreatDoor

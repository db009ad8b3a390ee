/-
  DERIVED. GIVEN WITH THE SEED: THE CARDS: each row of YtkicilglbphohaaGreatDoorRows.lean that lists a variable, with what it lists TIED to the program's text (the seventh form; the later family's looks); each row that meets fmt, with fmt's text TOLD by the authors' own Lean function (tested against real Go, not proved from fmt's source: count such statements apart). THE CARD IS WHAT COUNTS. Prove the row's statement (the work); the ties are given (YtkicilglbphohaaGreatDoorTie.lean); close each card by the builder's one call (the guide's Derived/Test/ToyasCard.lean, 'card_holds'). Laid BY PROGRAM, IN A SANDBOX (cutbox-door.mjs). By AI agents, Wed Nov 11 2026. No macro, syntax, notation, axiom, sorry.
-/
import Derived.Test.YtkicilglbphohaaGreatDoorRows
import GoSem.ClaimSeven
namespace Go.Proofs.YtkicilglbphohaaGreatDoor
namespace Rows

/-- THE TIED CARD OF 'rotuluslaw24.ServerNames'. -/
def serverNamesCard : Claim7 := { stood := { row := serverNamesRow, standIns := [], harness := (true, "4adb3ec495eeb238715e5290382bec3a1823ecb493d84afe7fd9f0c6c943a97e"), looks := true }, kinds := [], alts := [], laidByText := true, laidKinds := [.data, .data, .data, .data, .sentinel, .sentinel, .pinned], laidTests := true, laidLooks := .later }
def ServerNamesCardSaid : Prop := Claim7.holds Tryz.pinned (.plain (OpenSpec.ofChange serverNamesSpec)) serverNamesCard

/-- THE TIED CARD OF 'rotuluslaw24.ServerModes'. -/
def serverModesCard : Claim7 := { stood := { row := serverModesRow, standIns := [], harness := (true, "4adb3ec495eeb238715e5290382bec3a1823ecb493d84afe7fd9f0c6c943a97e"), looks := true }, kinds := [], alts := [], laidByText := true, laidKinds := [.data, .data, .data, .data, .sentinel, .sentinel, .pinned], laidTests := true, laidLooks := .later }
def ServerModesCardSaid : Prop := Claim7.holds Tryz.pinned (.plain (OpenSpec.ofChange serverModesSpec)) serverModesCard

/-- THE TIED CARD OF 'rotuluslaw24.ServerLimit'. -/
def serverLimitCard : Claim7 := { stood := { row := serverLimitRow, standIns := [], harness := (true, "4adb3ec495eeb238715e5290382bec3a1823ecb493d84afe7fd9f0c6c943a97e"), looks := true }, kinds := [], alts := [], laidByText := true, laidKinds := [.data, .data, .data, .data, .sentinel, .sentinel, .pinned], laidTests := true, laidLooks := .later }
def ServerLimitCardSaid : Prop := Claim7.holds Tryz.pinned (.plain (OpenSpec.ofChange serverLimitSpec)) serverLimitCard

/-- THE TIED CARD OF 'rotuluslaw24.ServerWhere'. -/
def serverWhereCard : Claim7 := { stood := { row := serverWhereRow, standIns := [], harness := (true, "4adb3ec495eeb238715e5290382bec3a1823ecb493d84afe7fd9f0c6c943a97e"), looks := true }, kinds := [], alts := [], laidByText := true, laidKinds := [.data, .data, .data, .data, .sentinel, .sentinel, .pinned], laidTests := true, laidLooks := .later }
def ServerWhereCardSaid : Prop := Claim7.holds Tryz.pinned (.plain (OpenSpec.ofChange serverWhereSpec)) serverWhereCard

/-- THE TIED CARD OF 'rotuluslaw24.ServerUnknown'. -/
def serverUnknownCard : Claim7 := { stood := { row := serverUnknownRow, standIns := [], harness := (true, "4adb3ec495eeb238715e5290382bec3a1823ecb493d84afe7fd9f0c6c943a97e"), looks := true }, kinds := [], alts := [], laidByText := true, laidKinds := [.data, .data, .data, .data, .sentinel, .sentinel, .pinned], laidTests := true, laidLooks := .later }
def ServerUnknownCardSaid : Prop := Claim7.holds Tryz.pinned (.plain (OpenSpec.ofChange serverUnknownSpec)) serverUnknownCard

/-- THE TIED CARD OF 'rotuluslaw24.ServerNone'. -/
def serverNoneCard : Claim7 := { stood := { row := serverNoneRow, standIns := [], harness := (true, "4adb3ec495eeb238715e5290382bec3a1823ecb493d84afe7fd9f0c6c943a97e"), looks := true }, kinds := [], alts := [], laidByText := true, laidKinds := [.data, .data, .data, .data, .sentinel, .sentinel, .pinned], laidTests := true, laidLooks := .later }
def ServerNoneCardSaid : Prop := Claim7.holds Tryz.pinned (.plain (OpenSpec.ofChange serverNoneSpec)) serverNoneCard

/-- THE SECOND FORM's CARD OF 'rotuluslaw24.ServerNames'. -/
def serverNamesUptoCard : Claim7 := { stood := { row := serverNamesUptoRow, standIns := [], harness := (true, "4adb3ec495eeb238715e5290382bec3a1823ecb493d84afe7fd9f0c6c943a97e"), looks := true }, kinds := [], alts := [], laidByText := true, laidKinds := [.data, .data, .data, .data, .sentinel, .sentinel, .pinned], laidTests := true, laidLooks := .later }
def ServerNamesUptoCardSaid : Prop := Claim7.holds Tryz.pinned (.plain (OpenSpec.upto serverNamesSpec)) serverNamesUptoCard

/-- THE SECOND FORM's CARD OF 'rotuluslaw24.ServerModes'. -/
def serverModesUptoCard : Claim7 := { stood := { row := serverModesUptoRow, standIns := [], harness := (true, "4adb3ec495eeb238715e5290382bec3a1823ecb493d84afe7fd9f0c6c943a97e"), looks := true }, kinds := [], alts := [], laidByText := true, laidKinds := [.data, .data, .data, .data, .sentinel, .sentinel, .pinned], laidTests := true, laidLooks := .later }
def ServerModesUptoCardSaid : Prop := Claim7.holds Tryz.pinned (.plain (OpenSpec.upto serverModesSpec)) serverModesUptoCard

/-- THE SECOND FORM's CARD OF 'rotuluslaw24.ServerLimit'. -/
def serverLimitUptoCard : Claim7 := { stood := { row := serverLimitUptoRow, standIns := [], harness := (true, "4adb3ec495eeb238715e5290382bec3a1823ecb493d84afe7fd9f0c6c943a97e"), looks := true }, kinds := [], alts := [], laidByText := true, laidKinds := [.data, .data, .data, .data, .sentinel, .sentinel, .pinned], laidTests := true, laidLooks := .later }
def ServerLimitUptoCardSaid : Prop := Claim7.holds Tryz.pinned (.plain (OpenSpec.upto serverLimitSpec)) serverLimitUptoCard

/-- THE SECOND FORM's CARD OF 'rotuluslaw24.ServerWhere'. -/
def serverWhereUptoCard : Claim7 := { stood := { row := serverWhereUptoRow, standIns := [], harness := (true, "4adb3ec495eeb238715e5290382bec3a1823ecb493d84afe7fd9f0c6c943a97e"), looks := true }, kinds := [], alts := [], laidByText := true, laidKinds := [.data, .data, .data, .data, .sentinel, .sentinel, .pinned], laidTests := true, laidLooks := .later }
def ServerWhereUptoCardSaid : Prop := Claim7.holds Tryz.pinned (.plain (OpenSpec.upto serverWhereSpec)) serverWhereUptoCard

/-- THE SECOND FORM's CARD OF 'rotuluslaw24.ServerUnknown'. -/
def serverUnknownUptoCard : Claim7 := { stood := { row := serverUnknownUptoRow, standIns := [], harness := (true, "4adb3ec495eeb238715e5290382bec3a1823ecb493d84afe7fd9f0c6c943a97e"), looks := true }, kinds := [], alts := [], laidByText := true, laidKinds := [.data, .data, .data, .data, .sentinel, .sentinel, .pinned], laidTests := true, laidLooks := .later }
def ServerUnknownUptoCardSaid : Prop := Claim7.holds Tryz.pinned (.plain (OpenSpec.upto serverUnknownSpec)) serverUnknownUptoCard

/-- THE SECOND FORM's CARD OF 'rotuluslaw24.ServerNone'. -/
def serverNoneUptoCard : Claim7 := { stood := { row := serverNoneUptoRow, standIns := [], harness := (true, "4adb3ec495eeb238715e5290382bec3a1823ecb493d84afe7fd9f0c6c943a97e"), looks := true }, kinds := [], alts := [], laidByText := true, laidKinds := [.data, .data, .data, .data, .sentinel, .sentinel, .pinned], laidTests := true, laidLooks := .later }
def ServerNoneUptoCardSaid : Prop := Claim7.holds Tryz.pinned (.plain (OpenSpec.upto serverNoneSpec)) serverNoneUptoCard
end Rows
end Go.Proofs.YtkicilglbphohaaGreatDoor

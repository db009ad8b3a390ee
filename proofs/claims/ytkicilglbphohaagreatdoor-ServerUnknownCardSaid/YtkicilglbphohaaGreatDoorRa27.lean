/-
  A part of the proof (RaC7gx, RaC7gy, RaC7gz): an evaluator of the model's code with its proof, or facts of this program that it reckons. No condition.
-/
import Derived.Test.YtkicilglbphohaaGreatDoorRows
import Derived.SevenTiedAt
import Derived.Test.YtkicilglbphohaaGreatDoorCards
import Derived.WalkKit
import Derived.ProofKit
import Derived.Test.YtkicilglbphohaaGreatDoorRa21
section
namespace Go.Proofs.YtkicilglbphohaaGreatDoor.serverUnknown
open Go.ChangeShapes Go.WideShapes Go.ChangeAt Go.RowKit
set_option maxRecDepth 100000
theorem wft : Rows.serverUnknownRow.wfByText (OpenSpec.ofChange Rows.serverUnknownSpec) = true := by kernel_rfl
end Go.Proofs.YtkicilglbphohaaGreatDoor.serverUnknown
end

section
namespace Go.Proofs.YtkicilglbphohaaGreatDoor.serverUnknown
open Go.ChangeShapes Go.WideShapes Go.ChangeAt Go.RowKit
set_option maxRecDepth 100000
theorem main : Tryz.pinned.checked.prog.mainIs = some (true, "4adb3ec495eeb238715e5290382bec3a1823ecb493d84afe7fd9f0c6c943a97e".toList) := by kernel_rfl
end Go.Proofs.YtkicilglbphohaaGreatDoor.serverUnknown
end

section
namespace Go.Proofs.YtkicilglbphohaaGreatDoor.serverUnknown
open Go.ChangeShapes Go.WideShapes Go.ChangeAt Go.RowKit
set_option maxRecDepth 100000
theorem noGo : Tryz.pinned.checked.prog.funcs.any Func.goes = false := by kernel_rfl
theorem goes : false = Rows.serverUnknownRow.goesBy Tryz.pinned.checked.prog := Go.Ra.goes_no noGo
end Go.Proofs.YtkicilglbphohaaGreatDoor.serverUnknown
end


/-
  A part of the proof (RaC8gx): an evaluator of the model's code with its proof, or facts of this program that it reckons. No condition.
-/
import Derived.Test.YtkicilglbphohaaGreatDoorRows
import Derived.SevenTiedAt
import Derived.Test.YtkicilglbphohaaGreatDoorCards
import Derived.WalkKit
import Derived.ProofKit
section
namespace Go.Proofs.YtkicilglbphohaaGreatDoor.serverNone
open Go.ChangeShapes Go.WideShapes Go.ChangeAt Go.RowKit
set_option maxRecDepth 100000
theorem wft : Rows.serverNoneRow.wfByText (OpenSpec.ofChange Rows.serverNoneSpec) = true := by kernel_rfl
end Go.Proofs.YtkicilglbphohaaGreatDoor.serverNone
end


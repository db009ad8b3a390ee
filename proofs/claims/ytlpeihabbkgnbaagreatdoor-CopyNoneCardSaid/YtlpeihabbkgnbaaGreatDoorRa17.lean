/-
  A part of the proof (RaC5g): an evaluator of the model's code with its proof, or facts of this program that it reckons. No condition.
-/
import Derived.Test.YtlpeihabbkgnbaaGreatDoorRows
import Derived.SevenTiedAt
import Derived.Test.YtlpeihabbkgnbaaGreatDoorCards
import Derived.WalkKit
import Derived.ProofKit
section
namespace Go.Proofs.YtlpeihabbkgnbaaGreatDoor.copyNone
open Go.ChangeShapes Go.WideShapes Go.ChangeAt Go.RowKit
set_option maxRecDepth 100000
theorem wft : Rows.copyNoneRow.wfByText (OpenSpec.ofChange Rows.copyNoneSpec) = true := by kernel_rfl
theorem main : Tryz.pinned.checked.prog.mainIs = some (true, "369de9e1f21f4223392028be866f93c7b7e28470e51f0b83d32a2292575a60b2".toList) := by kernel_rfl
theorem goes : false = Rows.copyNoneRow.goesBy Tryz.pinned.checked.prog := by kernel_rfl
end Go.Proofs.YtlpeihabbkgnbaaGreatDoor.copyNone
end


/-
  A part of the proof (RaC12gz): an evaluator of the model's code with its proof, or facts of this program that it reckons. No condition.
-/
import Derived.Test.YtlpeihabbkgnbaaGreatDoorRows
import Derived.SevenTiedAt
import Derived.Test.YtlpeihabbkgnbaaGreatDoorCards
import Derived.Test.YtlpeihabbkgnbaaGreatDoorRb39
import Derived.WalkKit
import Derived.ProofKit
section
namespace Go.Proofs.YtlpeihabbkgnbaaGreatDoor.copyMarks
open Go.ChangeShapes Go.WideShapes Go.ChangeAt Go.RowKit
set_option maxRecDepth 100000
theorem noGo : Tryz.pinned.checked.prog.funcs.any Func.goes = false := by kernel_rfl
theorem goes : false = Rows.copyMarksRow.goesBy Tryz.pinned.checked.prog := Go.Ra.goes_no noGo
end Go.Proofs.YtlpeihabbkgnbaaGreatDoor.copyMarks
end


/-
  A part of the proof (RaBegK14): an evaluator of the model's code with its proof, or facts of this program that it reckons. No condition.
-/
import Derived.Test.YtlpeihabbkgnbaaGreatDoorRb6
import Derived.KernelRfl
section
namespace Go.Proofs
open Go Go.Ra
set_option maxRecDepth 100000
theorem beg14 : runs [205] 120 = true := by kernel_rfl
end Go.Proofs
end


/-
  A part of the proof (RaBegK7): an evaluator of the model's code with its proof, or facts of this program that it reckons. No condition.
-/
import Derived.Test.YtlpeihabbkgnbaaGreatDoorRb6
import Derived.KernelRfl
section
namespace Go.Proofs
open Go Go.Ra
set_option maxRecDepth 100000
theorem beg7 : runs [292, 205] 199 = true := by kernel_rfl
end Go.Proofs
end


/-
  A part of the proof (RaBegK20): an evaluator of the model's code with its proof, or facts of this program that it reckons. No condition.
-/
import Derived.Test.YtlpeihabbkgnbaaGreatDoorRb6
section
namespace Go.Proofs
open Go Go.Ra
set_option maxRecDepth 100000
theorem beg20 : okT (acall (EO E0 o13) (arun (EO E0 o13) 100000) 13 [] H0) = true := by kernel_rfl
end Go.Proofs
end


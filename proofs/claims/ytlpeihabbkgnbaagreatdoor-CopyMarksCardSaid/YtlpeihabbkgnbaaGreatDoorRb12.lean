/-
  A part of the proof (RaBegK18): an evaluator of the model's code with its proof, or facts of this program that it reckons. No condition.
-/
import Derived.Test.YtlpeihabbkgnbaaGreatDoorRb6
import Derived.KernelRfl
section
namespace Go.Proofs
open Go Go.Ra
set_option maxRecDepth 100000
theorem beg18 : okT (acall (EO E0 (oT ([(119, gTrue), (129, gNames)] ++ lib0))) (arun (EO E0 (oT ([(119, gTrue), (129, gNames)] ++ lib0))) 100000) 41 [] H0) = true := by kernel_rfl
end Go.Proofs
end


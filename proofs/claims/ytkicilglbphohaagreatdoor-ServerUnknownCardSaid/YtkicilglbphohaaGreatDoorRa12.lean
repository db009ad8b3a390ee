/-
  A part of the proof (RaBegK18): an evaluator of the model's code with its proof, or facts of this program that it reckons. No condition.
-/
import Derived.Test.YtkicilglbphohaaGreatDoorRa6
import Derived.KernelRfl
section
namespace Go.Proofs
open Go Go.Ra
set_option maxRecDepth 100000
theorem beg18 [Coe Bool Int] : okT (acall (EO E0 (oT ([(124, gTrue), (266, gNames)] ++ lib0))) (arun (EO E0 (oT ([(124, gTrue), (266, gNames)] ++ lib0))) 100000) 121 [] H0) = true := by kernel_rfl
end Go.Proofs
end


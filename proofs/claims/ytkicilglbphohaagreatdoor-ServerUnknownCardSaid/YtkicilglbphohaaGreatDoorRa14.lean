/-
  A part of the proof (RaBegK22): an evaluator of the model's code with its proof, or facts of this program that it reckons. No condition.
-/
import Derived.Test.YtkicilglbphohaaGreatDoorRa6
section
namespace Go.Proofs
open Go Go.Ra
set_option maxRecDepth 100000
theorem beg22 [Coe Bool Int] : okT (acall (EO E0 o22) (arun (EO E0 o22) 100000) 30 [] H0) = true := by kernel_rfl
end Go.Proofs
end


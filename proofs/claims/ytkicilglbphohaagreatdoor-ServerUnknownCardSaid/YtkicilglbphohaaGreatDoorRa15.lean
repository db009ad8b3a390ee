/-
  A part of the proof (RaBegK24): an evaluator of the model's code with its proof, or facts of this program that it reckons. No condition.
-/
import Derived.Test.YtkicilglbphohaaGreatDoorRa6
section
namespace Go.Proofs
open Go Go.Ra
set_option maxRecDepth 100000
theorem beg24 [Coe Bool Int] : okT (acall (EO E0 o24) (arun (EO E0 o24) 100000) 9 [] H0) = true := by kernel_rfl
end Go.Proofs
end


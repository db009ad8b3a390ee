/-
  A part of the proof (RaMarkP3): an evaluator of the model's code with its proof, or facts of this program that it reckons. No condition.
-/
import Derived.Test.YtlpeihabbkgnbaaGreatDoorRb16
import Derived.KernelRfl
section
namespace Go.Proofs
open Go Go.Ra
set_option maxRecDepth 100000
theorem pos_1_2 : posB (.ofNat 1) (.ofNat 2) = true := by kernel_rfl
theorem pos_1_3 : posB (.ofNat 1) (.ofNat 3) = true := by kernel_rfl
theorem pos_1_4 : posB (.ofNat 1) (.ofNat 4) = true := by kernel_rfl
theorem pos_1_5 : posB (.ofNat 1) (.ofNat 5) = true := by kernel_rfl
end Go.Proofs
end


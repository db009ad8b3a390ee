/-
  A part of the proof (RaMarkP7): an evaluator of the model's code with its proof, or facts of this program that it reckons. No condition.
-/
import Derived.Test.YtlpeihabbkgnbaaGreatDoorRb16
import Derived.KernelRfl
section
namespace Go.Proofs
open Go Go.Ra
set_option maxRecDepth 100000
theorem pos_2_8 : posB (.ofNat 2) (.ofNat 8) = true := by kernel_rfl
theorem pos_2_9 : posB (.ofNat 2) (.ofNat 9) = true := by kernel_rfl
theorem pos_3_0 : posB (.ofNat 3) (.ofNat 0) = true := by kernel_rfl
theorem pos_3_1 : posB (.ofNat 3) (.ofNat 1) = true := by kernel_rfl
end Go.Proofs
end


/-
  A part of the proof (RaMarkP0): an evaluator of the model's code with its proof, or facts of this program that it reckons. No condition.
-/
import Derived.Test.YtlpeihabbkgnbaaGreatDoorRb16
import Derived.KernelRfl
section
namespace Go.Proofs
open Go Go.Ra
set_option maxRecDepth 100000
theorem pos_0_0 : posB (.ofNat 0) (.ofNat 0) = true := by kernel_rfl
theorem pos_0_1 : posB (.ofNat 0) (.ofNat 1) = true := by kernel_rfl
theorem pos_0_2 : posB (.ofNat 0) (.ofNat 2) = true := by kernel_rfl
theorem pos_0_3 : posB (.ofNat 0) (.ofNat 3) = true := by kernel_rfl
end Go.Proofs
end


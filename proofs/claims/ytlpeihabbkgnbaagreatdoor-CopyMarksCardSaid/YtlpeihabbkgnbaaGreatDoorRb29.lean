/-
  A part of the proof (RaMarkP4): an evaluator of the model's code with its proof, or facts of this program that it reckons. No condition.
-/
import Derived.Test.YtlpeihabbkgnbaaGreatDoorRb16
import Derived.KernelRfl
section
namespace Go.Proofs
open Go Go.Ra
set_option maxRecDepth 100000
theorem pos_1_6 : posB (.ofNat 1) (.ofNat 6) = true := by kernel_rfl
theorem pos_1_7 : posB (.ofNat 1) (.ofNat 7) = true := by kernel_rfl
theorem pos_1_8 : posB (.ofNat 1) (.ofNat 8) = true := by kernel_rfl
theorem pos_1_9 : posB (.ofNat 1) (.ofNat 9) = true := by kernel_rfl
end Go.Proofs
end


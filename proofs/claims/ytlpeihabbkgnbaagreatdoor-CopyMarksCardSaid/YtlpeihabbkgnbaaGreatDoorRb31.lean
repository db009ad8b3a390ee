/-
  A part of the proof (RaMarkP6): an evaluator of the model's code with its proof, or facts of this program that it reckons. No condition.
-/
import Derived.Test.YtlpeihabbkgnbaaGreatDoorRb16
import Derived.KernelRfl
section
namespace Go.Proofs
open Go Go.Ra
set_option maxRecDepth 100000
theorem pos_2_4 : posB (.ofNat 2) (.ofNat 4) = true := by kernel_rfl
theorem pos_2_5 : posB (.ofNat 2) (.ofNat 5) = true := by kernel_rfl
theorem pos_2_6 : posB (.ofNat 2) (.ofNat 6) = true := by kernel_rfl
theorem pos_2_7 : posB (.ofNat 2) (.ofNat 7) = true := by kernel_rfl
end Go.Proofs
end


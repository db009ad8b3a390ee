/-
  A part of the proof (RaMarkN3): an evaluator of the model's code with its proof, or facts of this program that it reckons. No condition.
-/
import Derived.Test.YtlpeihabbkgnbaaGreatDoorRb16
import Derived.KernelRfl
section
namespace Go.Proofs
open Go Go.Ra
set_option maxRecDepth 100000
theorem new_2_n : ∀ _n m : Nat, newB (.ofNat 2) (.negSucc m) (.ofNat 2) (.ofNat 0) = true := fun _ _ => by kernel_rfl
theorem new_2_0 : ∀ _n _m : Nat, newB (.ofNat 2) (.ofNat 0) (.ofNat 2) (.ofNat 0) = true := fun _ _ => by kernel_rfl
theorem new_2_1 : ∀ _n _m : Nat, newB (.ofNat 2) (.ofNat 1) (.ofNat 2) (.ofNat 1) = true := fun _ _ => by kernel_rfl
theorem new_2_2 : ∀ _n _m : Nat, newB (.ofNat 2) (.ofNat 2) (.ofNat 2) (.ofNat 2) = true := fun _ _ => by kernel_rfl
theorem new_2_3 : ∀ _n _m : Nat, newB (.ofNat 2) (.ofNat 3) (.ofNat 2) (.ofNat 3) = true := fun _ _ => by kernel_rfl
theorem new_2_4 : ∀ _n _m : Nat, newB (.ofNat 2) (.ofNat 4) (.ofNat 2) (.ofNat 4) = true := fun _ _ => by kernel_rfl
theorem new_2_5 : ∀ _n _m : Nat, newB (.ofNat 2) (.ofNat 5) (.ofNat 2) (.ofNat 5) = true := fun _ _ => by kernel_rfl
theorem new_2_6 : ∀ _n _m : Nat, newB (.ofNat 2) (.ofNat 6) (.ofNat 2) (.ofNat 6) = true := fun _ _ => by kernel_rfl
theorem new_2_7 : ∀ _n _m : Nat, newB (.ofNat 2) (.ofNat 7) (.ofNat 2) (.ofNat 7) = true := fun _ _ => by kernel_rfl
theorem new_2_8 : ∀ _n _m : Nat, newB (.ofNat 2) (.ofNat 8) (.ofNat 2) (.ofNat 8) = true := fun _ _ => by kernel_rfl
theorem new_2_9 : ∀ _n _m : Nat, newB (.ofNat 2) (.ofNat 9) (.ofNat 2) (.ofNat 9) = true := fun _ _ => by kernel_rfl
theorem new_2_p : ∀ _n m : Nat, newB (.ofNat 2) (.ofNat (m + 10)) (.ofNat 2) (.ofNat 9) = true := fun _ _ => by kernel_rfl
end Go.Proofs
end


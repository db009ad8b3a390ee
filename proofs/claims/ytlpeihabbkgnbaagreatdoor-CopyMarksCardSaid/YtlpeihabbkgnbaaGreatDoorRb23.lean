/-
  A part of the proof (RaMarkN4): an evaluator of the model's code with its proof, or facts of this program that it reckons. No condition.
-/
import Derived.Test.YtlpeihabbkgnbaaGreatDoorRb16
import Derived.KernelRfl
section
namespace Go.Proofs
open Go Go.Ra
set_option maxRecDepth 100000
theorem new_3_n : ∀ _n m : Nat, newB (.ofNat 3) (.negSucc m) (.ofNat 3) (.ofNat 0) = true := fun _ _ => by kernel_rfl
theorem new_3_0 : ∀ _n _m : Nat, newB (.ofNat 3) (.ofNat 0) (.ofNat 3) (.ofNat 0) = true := fun _ _ => by kernel_rfl
theorem new_3_1 : ∀ _n _m : Nat, newB (.ofNat 3) (.ofNat 1) (.ofNat 3) (.ofNat 1) = true := fun _ _ => by kernel_rfl
theorem new_3_2 : ∀ _n _m : Nat, newB (.ofNat 3) (.ofNat 2) (.ofNat 3) (.ofNat 2) = true := fun _ _ => by kernel_rfl
theorem new_3_3 : ∀ _n _m : Nat, newB (.ofNat 3) (.ofNat 3) (.ofNat 3) (.ofNat 3) = true := fun _ _ => by kernel_rfl
theorem new_3_4 : ∀ _n _m : Nat, newB (.ofNat 3) (.ofNat 4) (.ofNat 3) (.ofNat 4) = true := fun _ _ => by kernel_rfl
theorem new_3_5 : ∀ _n _m : Nat, newB (.ofNat 3) (.ofNat 5) (.ofNat 3) (.ofNat 5) = true := fun _ _ => by kernel_rfl
theorem new_3_6 : ∀ _n _m : Nat, newB (.ofNat 3) (.ofNat 6) (.ofNat 3) (.ofNat 6) = true := fun _ _ => by kernel_rfl
theorem new_3_7 : ∀ _n _m : Nat, newB (.ofNat 3) (.ofNat 7) (.ofNat 3) (.ofNat 7) = true := fun _ _ => by kernel_rfl
theorem new_3_8 : ∀ _n _m : Nat, newB (.ofNat 3) (.ofNat 8) (.ofNat 3) (.ofNat 8) = true := fun _ _ => by kernel_rfl
theorem new_3_9 : ∀ _n _m : Nat, newB (.ofNat 3) (.ofNat 9) (.ofNat 3) (.ofNat 9) = true := fun _ _ => by kernel_rfl
theorem new_3_p : ∀ _n m : Nat, newB (.ofNat 3) (.ofNat (m + 10)) (.ofNat 3) (.ofNat 9) = true := fun _ _ => by kernel_rfl
end Go.Proofs
end


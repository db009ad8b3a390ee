/-
  A part of the proof (RaMarkN5): an evaluator of the model's code with its proof, or facts of this program that it reckons. No condition.
-/
import Derived.Test.YtlpeihabbkgnbaaGreatDoorRb16
import Derived.KernelRfl
section
namespace Go.Proofs
open Go Go.Ra
set_option maxRecDepth 100000
theorem new_p_n : ∀ n m : Nat, newB (.ofNat (n + 4)) (.negSucc m) (.ofNat 3) (.ofNat 0) = true := fun _ _ => by kernel_rfl
theorem new_p_0 : ∀ n _m : Nat, newB (.ofNat (n + 4)) (.ofNat 0) (.ofNat 3) (.ofNat 0) = true := fun _ _ => by kernel_rfl
theorem new_p_1 : ∀ n _m : Nat, newB (.ofNat (n + 4)) (.ofNat 1) (.ofNat 3) (.ofNat 1) = true := fun _ _ => by kernel_rfl
theorem new_p_2 : ∀ n _m : Nat, newB (.ofNat (n + 4)) (.ofNat 2) (.ofNat 3) (.ofNat 2) = true := fun _ _ => by kernel_rfl
theorem new_p_3 : ∀ n _m : Nat, newB (.ofNat (n + 4)) (.ofNat 3) (.ofNat 3) (.ofNat 3) = true := fun _ _ => by kernel_rfl
theorem new_p_4 : ∀ n _m : Nat, newB (.ofNat (n + 4)) (.ofNat 4) (.ofNat 3) (.ofNat 4) = true := fun _ _ => by kernel_rfl
theorem new_p_5 : ∀ n _m : Nat, newB (.ofNat (n + 4)) (.ofNat 5) (.ofNat 3) (.ofNat 5) = true := fun _ _ => by kernel_rfl
theorem new_p_6 : ∀ n _m : Nat, newB (.ofNat (n + 4)) (.ofNat 6) (.ofNat 3) (.ofNat 6) = true := fun _ _ => by kernel_rfl
theorem new_p_7 : ∀ n _m : Nat, newB (.ofNat (n + 4)) (.ofNat 7) (.ofNat 3) (.ofNat 7) = true := fun _ _ => by kernel_rfl
theorem new_p_8 : ∀ n _m : Nat, newB (.ofNat (n + 4)) (.ofNat 8) (.ofNat 3) (.ofNat 8) = true := fun _ _ => by kernel_rfl
theorem new_p_9 : ∀ n _m : Nat, newB (.ofNat (n + 4)) (.ofNat 9) (.ofNat 3) (.ofNat 9) = true := fun _ _ => by kernel_rfl
theorem new_p_p : ∀ n m : Nat, newB (.ofNat (n + 4)) (.ofNat (m + 10)) (.ofNat 3) (.ofNat 9) = true := fun _ _ => by kernel_rfl
end Go.Proofs
end


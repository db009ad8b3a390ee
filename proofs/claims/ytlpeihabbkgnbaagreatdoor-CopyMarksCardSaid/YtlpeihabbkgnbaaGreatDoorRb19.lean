/-
  A part of the proof (RaMarkN0): an evaluator of the model's code with its proof, or facts of this program that it reckons. No condition.
-/
import Derived.Test.YtlpeihabbkgnbaaGreatDoorRb16
import Derived.KernelRfl
section
namespace Go.Proofs
open Go Go.Ra
set_option maxRecDepth 100000
theorem new_n_n : ∀ n m : Nat, newB (.negSucc n) (.negSucc m) (.ofNat 0) (.ofNat 0) = true := fun _ _ => by kernel_rfl
theorem new_n_0 : ∀ n _m : Nat, newB (.negSucc n) (.ofNat 0) (.ofNat 0) (.ofNat 0) = true := fun _ _ => by kernel_rfl
theorem new_n_1 : ∀ n _m : Nat, newB (.negSucc n) (.ofNat 1) (.ofNat 0) (.ofNat 1) = true := fun _ _ => by kernel_rfl
theorem new_n_2 : ∀ n _m : Nat, newB (.negSucc n) (.ofNat 2) (.ofNat 0) (.ofNat 2) = true := fun _ _ => by kernel_rfl
theorem new_n_3 : ∀ n _m : Nat, newB (.negSucc n) (.ofNat 3) (.ofNat 0) (.ofNat 3) = true := fun _ _ => by kernel_rfl
theorem new_n_4 : ∀ n _m : Nat, newB (.negSucc n) (.ofNat 4) (.ofNat 0) (.ofNat 4) = true := fun _ _ => by kernel_rfl
theorem new_n_5 : ∀ n _m : Nat, newB (.negSucc n) (.ofNat 5) (.ofNat 0) (.ofNat 5) = true := fun _ _ => by kernel_rfl
theorem new_n_6 : ∀ n _m : Nat, newB (.negSucc n) (.ofNat 6) (.ofNat 0) (.ofNat 6) = true := fun _ _ => by kernel_rfl
theorem new_n_7 : ∀ n _m : Nat, newB (.negSucc n) (.ofNat 7) (.ofNat 0) (.ofNat 7) = true := fun _ _ => by kernel_rfl
theorem new_n_8 : ∀ n _m : Nat, newB (.negSucc n) (.ofNat 8) (.ofNat 0) (.ofNat 8) = true := fun _ _ => by kernel_rfl
theorem new_n_9 : ∀ n _m : Nat, newB (.negSucc n) (.ofNat 9) (.ofNat 0) (.ofNat 9) = true := fun _ _ => by kernel_rfl
theorem new_n_p : ∀ n m : Nat, newB (.negSucc n) (.ofNat (m + 10)) (.ofNat 0) (.ofNat 9) = true := fun _ _ => by kernel_rfl
end Go.Proofs
end


/-
  Proved: the card of ServerNone: calls on no server and no play answer as the law says: the closed law rotuluslaw24.ServerNone returns true at every run. Conditions: none beyond the given statement.
-/
import Derived.Test.YtkicilglbphohaaGreatDoorRa17
import Derived.Test.YtkicilglbphohaaGreatDoorRa18
import Derived.Test.YtkicilglbphohaaGreatDoorRa19
import Derived.Test.YtkicilglbphohaaGreatDoorRa20
import Derived.Test.YtkicilglbphohaaGreatDoorRa22
section
namespace Go.Proofs.YtkicilglbphohaaGreatDoor.serverNone
open Go.ChangeShapes Go.WideShapes Go.ChangeAt Go.RowKit
set_option maxRecDepth 100000
theorem said : Rows.ServerNoneSaid :=
  OpenClaim.holds_of_cond 8 Tryz.f8 rfl rfl rfl rfl rfl rfl rfl ⟨rfl, rfl, rfl, rfl, rfl⟩ rfl rfl rfl rfl rfl named Tryz.func8 facts inst wrap
    (fun os started H enc _ F => by rw [OpenClaim.pre_eq_preRow]; exact lifted os started H enc F)

/-- No parameter wants a stand-in; the program's own looks are off: what the card asks. -/
theorem plain (f : FuncId) (fn : Func) (hf : Tryz.pinned.checked.prog.funcNamed Rows.serverNoneRow.func = some f) (hfn : Tryz.pinned.checked.prog.funcs[f]? = some fn) :
    true = Tryz.pinned.checked.prog.looks [] ∧ ∀ (j : Nat) t, fn.params[j]? = some t → Tryz.pinned.checked.prog.wantsStandIn t = false := by
  obtain rfl : f = 8 := (Option.some.inj (named.symm.trans hf)).symm
  obtain rfl : fn = Tryz.f8 := (Option.some.inj (Tryz.func8.symm.trans hfn)).symm
  refine ⟨by kernel_rfl, fun j t ht => ?_⟩
  rw [Tryz.params8] at ht
  simp at ht

/-- The card. -/
theorem card : Rows.ServerNoneCardSaid :=
  Claim7.holds_tied_plain_at .later [] _ _ _ _ said (fun _ h => by cases h) wft (fun _ h => by cases h) serverNone_row_tie rfl ⟨rfl, rfl⟩ main rfl plain goes
end Go.Proofs.YtkicilglbphohaaGreatDoor.serverNone
end


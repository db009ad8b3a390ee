/-
  Proved: the card of ServerUnknown: for every text, commands that there are not are refused as unknown: the law rotuluslaw24.ServerUnknown returns true at every run, its argument reads as before. Conditions: none beyond the given statement.
-/
import Derived.Test.YtkicilglbphohaaGreatDoorRa25
import Derived.Test.YtkicilglbphohaaGreatDoorRa26
import Derived.Test.YtkicilglbphohaaGreatDoorRa27
section
namespace Go.Proofs.YtkicilglbphohaaGreatDoor.serverUnknown
open Go.ChangeShapes Go.WideShapes Go.ChangeAt Go.RowKit
set_option maxRecDepth 100000
theorem said : Rows.ServerUnknownSaid :=
  OpenClaim.holds_of_cond 7 Tryz.f7 rfl rfl rfl rfl rfl rfl rfl ⟨rfl, rfl, rfl, rfl, rfl⟩ rfl rfl rfl rfl rfl named Tryz.func7 facts inst wrap
    (fun os started H enc _ F => by rw [OpenClaim.pre_eq_preRow]; exact lifted os started H enc F)

/-- No parameter wants a stand-in; the program's own looks are off: what the card asks. -/
theorem plain (f : FuncId) (fn : Func) (hf : Tryz.pinned.checked.prog.funcNamed Rows.serverUnknownRow.func = some f) (hfn : Tryz.pinned.checked.prog.funcs[f]? = some fn) :
    true = Tryz.pinned.checked.prog.looks [] ∧ ∀ (j : Nat) t, fn.params[j]? = some t → Tryz.pinned.checked.prog.wantsStandIn t = false := by
  obtain rfl : f = 7 := (Option.some.inj (named.symm.trans hf)).symm
  obtain rfl : fn = Tryz.f7 := (Option.some.inj (Tryz.func7.symm.trans hfn)).symm
  refine ⟨by kernel_rfl, fun j t ht => ?_⟩
  rw [Tryz.params7] at ht
  obtain rfl : t = 9 := by simpa using Array.mem_of_getElem? ht
  exact (show Tryz.prog.wantsStandIn 9 = false by kernel_rfl)

/-- The card. -/
theorem card : Rows.ServerUnknownCardSaid :=
  Claim7.holds_tied_plain_at .later [] _ _ _ _ said (fun _ h => by cases h) wft (fun _ h => by cases h) serverUnknown_row_tie rfl ⟨rfl, rfl⟩ main rfl plain goes
end Go.Proofs.YtkicilglbphohaaGreatDoor.serverUnknown
end


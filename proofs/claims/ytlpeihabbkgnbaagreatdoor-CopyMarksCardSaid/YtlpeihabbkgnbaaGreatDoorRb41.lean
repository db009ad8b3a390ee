/-
  Proved: the card of CopyMarks: a mark is taken back by its own key, another key turns its kind: the law rotuluslaw20.CopyMarks returns true at every run, its arguments read as before. Conditions: none beyond the given statement.
-/
import Derived.Test.YtlpeihabbkgnbaaGreatDoorRb37
import Derived.Test.YtlpeihabbkgnbaaGreatDoorRb38
import Derived.Test.YtlpeihabbkgnbaaGreatDoorRb39
import Derived.Test.YtlpeihabbkgnbaaGreatDoorRb40
section
namespace Go.Proofs.YtlpeihabbkgnbaaGreatDoor.copyMarks
open Go.ChangeShapes Go.WideShapes Go.ChangeAt Go.RowKit
set_option maxRecDepth 100000
theorem said : Rows.CopyMarksSaid :=
  OpenClaim.holds_of_cond 12 Tryz.f12 rfl rfl rfl rfl rfl rfl rfl ⟨rfl, rfl, rfl, rfl, rfl⟩ rfl rfl rfl rfl rfl named Tryz.func12 facts inst wrap
    (fun os started H enc _ F => by rw [OpenClaim.pre_eq_preRow]; exact lifted os started H enc F)

/-- No parameter wants a stand-in; the program's own looks are off: what the card asks. -/
theorem plain (f : FuncId) (fn : Func) (hf : Tryz.pinned.checked.prog.funcNamed Rows.copyMarksRow.func = some f) (hfn : Tryz.pinned.checked.prog.funcs[f]? = some fn) :
    false = Tryz.pinned.checked.prog.looks [] ∧ ∀ (j : Nat) t, fn.params[j]? = some t → Tryz.pinned.checked.prog.wantsStandIn t = false := by
  obtain rfl : f = 12 := (Option.some.inj (named.symm.trans hf)).symm
  obtain rfl : fn = Tryz.f12 := (Option.some.inj (Tryz.func12.symm.trans hfn)).symm
  refine ⟨by kernel_rfl, fun j t ht => ?_⟩
  rw [Tryz.params12] at ht
  have ht := Array.mem_of_getElem? ht
  simp at ht
  rcases ht with rfl | rfl
  · exact (show Tryz.prog.wantsStandIn 23 = false by kernel_rfl)
  · exact (show Tryz.prog.wantsStandIn 55 = false by kernel_rfl)

/-- The card. -/
theorem card : Rows.CopyMarksCardSaid :=
  Claim7.holds_tied_plain_at .later [] _ _ _ _ said (fun _ h => by cases h) wft (fun _ h => by cases h) copyMarks_row_tie rfl ⟨rfl, rfl⟩ main rfl plain goes
end Go.Proofs.YtlpeihabbkgnbaaGreatDoor.copyMarks
end


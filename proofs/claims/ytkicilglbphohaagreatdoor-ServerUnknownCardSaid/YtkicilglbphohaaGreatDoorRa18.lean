/-
  A part of the proof (RaC8f): an evaluator of the model's code with its proof, or facts of this program that it reckons. No condition.
-/
import Derived.Test.YtkicilglbphohaaGreatDoorRows
import Derived.JoinedCond
import Derived.WalkKit
import Derived.ProofKit
section
namespace Go.Proofs.YtkicilglbphohaaGreatDoor.serverNone
open Go.ChangeShapes Go.WideShapes Go.ChangeAt Go.RowKit
set_option maxRecDepth 100000
theorem and_mk {a b : Bool} (h1 : a = true) (h2 : b = true) : (a && b) = true := by rw [h1, h2]; rfl
theorem and_get {a b : Bool} (h : (a && b) = true) : a = true ∧ b = true := by simpa using h
theorem rowFacts : ((Rows.serverNoneRow.inPlace == Tryz.pinned.checked.prog.inPlace 8) && (Rows.serverNoneRow.unfollowed == Tryz.pinned.checked.prog.unfollowed 8) &&
    (Rows.serverNoneRow.recurses == Tryz.pinned.checked.prog.recurses 8) && (Rows.serverNoneRow.named == Tryz.pinned.checked.prog.varsNamed 8)) = true := by kernel_rfl
set_option maxHeartbeats 0 in
theorem facts : joinedFacts Tryz.pinned.checked.prog 8 Tryz.f8 (OpenSpec.ofChange Rows.serverNoneSpec).bare Rows.serverNoneRow = true := by
  obtain ⟨r123, r4⟩ := and_get rowFacts
  obtain ⟨r12, r3⟩ := and_get r123
  obtain ⟨r1, r2⟩ := and_get r12
  unfold joinedFacts
  with_reducible repeat' refine and_mk ?_ ?_
  all_goals first | with_reducible assumption | as_aux_lemma => kernel_rfl
theorem named : Tryz.pinned.checked.prog.funcNamed Rows.serverNoneRow.func = some 8 := by kernel_rfl
theorem inst : Tryz.f8.isInstance Tryz.pinned.checked.prog Rows.serverNoneRow.origin Rows.serverNoneRow.targs := of_decide_eq_true (by kernel_rfl)
theorem wrap : Tryz.f8.isWrapper Tryz.pinned.checked.prog Rows.serverNoneRow.wrapper Rows.serverNoneRow.mainSum := by
  unfold Func.isWrapper; first | (rw [if_pos (by decide +kernel)]; kernel_rfl) | (rw [if_neg (by decide +kernel)]; exact ⟨rfl, rfl⟩)
end Go.Proofs.YtkicilglbphohaaGreatDoor.serverNone
end


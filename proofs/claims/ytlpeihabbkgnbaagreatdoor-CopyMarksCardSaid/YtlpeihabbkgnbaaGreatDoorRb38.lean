/-
  A part of the proof (RaC12f): an evaluator of the model's code with its proof, or facts of this program that it reckons. No condition.
-/
import Derived.Test.YtlpeihabbkgnbaaGreatDoorRb36
section
namespace Go.Proofs.YtlpeihabbkgnbaaGreatDoor.copyMarks
open Go.ChangeShapes Go.WideShapes Go.ChangeAt Go.RowKit
set_option maxRecDepth 100000
theorem and_mk {a b : Bool} (h1 : a = true) (h2 : b = true) : (a && b) = true := by rw [h1, h2]; rfl
theorem and_get {a b : Bool} (h : (a && b) = true) : a = true ∧ b = true := by simpa using h
theorem rowFacts : ((Rows.copyMarksRow.inPlace == Tryz.pinned.checked.prog.inPlace 12) && (Rows.copyMarksRow.unfollowed == Tryz.pinned.checked.prog.unfollowed 12) &&
    (Rows.copyMarksRow.recurses == Tryz.pinned.checked.prog.recurses 12) && (Rows.copyMarksRow.named == Tryz.pinned.checked.prog.varsNamed 12)) = true := by kernel_rfl
theorem progFacts : laidOutB Tryz.pinned.checked.prog = true ∧ mapsRowed Tryz.pinned.checked.prog = true ∧ (Tryz.pinned.checked.prog.stops == []) = true ∧ (Tryz.pinned.checked.prog.stopKnobs == []) = true ∧
    (Rows.copyNoneRow.plainKeys == Tryz.pinned.checked.prog.plainKeys) = true ∧ Tryz.pinned.checked.prog.stopsHeard = true ∧ Tryz.pinned.checked.prog.mayEnter = true ∧
    (Rows.copyNoneRow.lifted == Tryz.pinned.checked.prog.liftsFinal) = true ∧ (Tryz.pinned.checked.prog.make == some Rows.copyNoneRow.make) = true := by
  have h := copyNone.facts
  unfold joinedFacts at h
  generalize hP : Tryz.pinned.checked.prog = P at h ⊢
  simp only [Bool.and_eq_true] at h
  refine ⟨?_, ?_, ?_, ?_, ?_, ?_, ?_, ?_, ?_⟩
  all_goals simp only [h]
set_option maxHeartbeats 0 in
theorem facts : joinedFacts Tryz.pinned.checked.prog 12 Tryz.f12 (OpenSpec.ofChange Rows.copyMarksSpec).bare Rows.copyMarksRow = true := by
  obtain ⟨p1, p2, p3, p4, p5, p6, p7, p8, p9⟩ := progFacts
  have q5 : (Rows.copyMarksRow.plainKeys == Tryz.pinned.checked.prog.plainKeys) = true := p5
  have q8 : (Rows.copyMarksRow.lifted == Tryz.pinned.checked.prog.liftsFinal) = true := p8
  have q9 : (Tryz.pinned.checked.prog.make == some Rows.copyMarksRow.make) = true := p9
  obtain ⟨r123, r4⟩ := and_get rowFacts
  obtain ⟨r12, r3⟩ := and_get r123
  obtain ⟨r1, r2⟩ := and_get r12
  unfold joinedFacts
  with_reducible repeat' refine and_mk ?_ ?_
  all_goals first | with_reducible assumption | as_aux_lemma => kernel_rfl
theorem named : Tryz.pinned.checked.prog.funcNamed Rows.copyMarksRow.func = some 12 := by kernel_rfl
theorem inst : Tryz.f12.isInstance Tryz.pinned.checked.prog Rows.copyMarksRow.origin Rows.copyMarksRow.targs := of_decide_eq_true (by kernel_rfl)
theorem wrap : Tryz.f12.isWrapper Tryz.pinned.checked.prog Rows.copyMarksRow.wrapper Rows.copyMarksRow.mainSum := by
  unfold Func.isWrapper; first | (rw [if_pos (by decide +kernel)]; kernel_rfl) | (rw [if_neg (by decide +kernel)]; exact ⟨rfl, rfl⟩)
end Go.Proofs.YtlpeihabbkgnbaaGreatDoor.copyMarks
end


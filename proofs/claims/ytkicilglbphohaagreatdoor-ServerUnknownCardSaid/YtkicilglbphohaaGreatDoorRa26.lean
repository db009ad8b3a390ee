/-
  A part of the proof (RaC7f): an evaluator of the model's code with its proof, or facts of this program that it reckons. No condition.
-/
import Derived.Test.YtkicilglbphohaaGreatDoorRa18
section
namespace Go.Proofs.YtkicilglbphohaaGreatDoor.serverUnknown
open Go.ChangeShapes Go.WideShapes Go.ChangeAt Go.RowKit
set_option maxRecDepth 100000
theorem and_mk {a b : Bool} (h1 : a = true) (h2 : b = true) : (a && b) = true := by rw [h1, h2]; rfl
theorem and_get {a b : Bool} (h : (a && b) = true) : a = true ∧ b = true := by simpa using h
theorem rowFacts : ((Rows.serverUnknownRow.inPlace == Tryz.pinned.checked.prog.inPlace 7) && (Rows.serverUnknownRow.unfollowed == Tryz.pinned.checked.prog.unfollowed 7) &&
    (Rows.serverUnknownRow.recurses == Tryz.pinned.checked.prog.recurses 7) && (Rows.serverUnknownRow.named == Tryz.pinned.checked.prog.varsNamed 7)) = true := by kernel_rfl
theorem progFacts : laidOutB Tryz.pinned.checked.prog = true ∧ mapsRowed Tryz.pinned.checked.prog = true ∧ (Tryz.pinned.checked.prog.stops == []) = true ∧ (Tryz.pinned.checked.prog.stopKnobs == []) = true ∧
    (Rows.serverNoneRow.plainKeys == Tryz.pinned.checked.prog.plainKeys) = true ∧ Tryz.pinned.checked.prog.stopsHeard = true ∧ Tryz.pinned.checked.prog.mayEnter = true ∧
    (Rows.serverNoneRow.lifted == Tryz.pinned.checked.prog.liftsFinal) = true ∧ (Tryz.pinned.checked.prog.make == some Rows.serverNoneRow.make) = true := by
  have h := serverNone.facts
  unfold joinedFacts at h
  generalize hP : Tryz.pinned.checked.prog = P at h ⊢
  simp only [Bool.and_eq_true] at h
  refine ⟨?_, ?_, ?_, ?_, ?_, ?_, ?_, ?_, ?_⟩
  all_goals simp only [h]
set_option maxHeartbeats 0 in
theorem facts : joinedFacts Tryz.pinned.checked.prog 7 Tryz.f7 (OpenSpec.ofChange Rows.serverUnknownSpec).bare Rows.serverUnknownRow = true := by
  obtain ⟨p1, p2, p3, p4, p5, p6, p7, p8, p9⟩ := progFacts
  have q5 : (Rows.serverUnknownRow.plainKeys == Tryz.pinned.checked.prog.plainKeys) = true := p5
  have q8 : (Rows.serverUnknownRow.lifted == Tryz.pinned.checked.prog.liftsFinal) = true := p8
  have q9 : (Tryz.pinned.checked.prog.make == some Rows.serverUnknownRow.make) = true := p9
  obtain ⟨r123, r4⟩ := and_get rowFacts
  obtain ⟨r12, r3⟩ := and_get r123
  obtain ⟨r1, r2⟩ := and_get r12
  unfold joinedFacts
  with_reducible repeat' refine and_mk ?_ ?_
  all_goals first | with_reducible assumption | as_aux_lemma => kernel_rfl
theorem named : Tryz.pinned.checked.prog.funcNamed Rows.serverUnknownRow.func = some 7 := by kernel_rfl
theorem inst : Tryz.f7.isInstance Tryz.pinned.checked.prog Rows.serverUnknownRow.origin Rows.serverUnknownRow.targs := of_decide_eq_true (by kernel_rfl)
theorem wrap : Tryz.f7.isWrapper Tryz.pinned.checked.prog Rows.serverUnknownRow.wrapper Rows.serverUnknownRow.mainSum := by
  unfold Func.isWrapper; first | (rw [if_pos (by decide +kernel)]; kernel_rfl) | (rw [if_neg (by decide +kernel)]; exact ⟨rfl, rfl⟩)
end Go.Proofs.YtkicilglbphohaaGreatDoor.serverUnknown
end


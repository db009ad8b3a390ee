/-
  A part of the proof (RaC12gx, RaC12gy, RaGoes): an evaluator of the model's code with its proof, or facts of this program that it reckons. No condition.
-/
import Derived.Test.YtlpeihabbkgnbaaGreatDoorRows
import Derived.SevenTiedAt
import Derived.Test.YtlpeihabbkgnbaaGreatDoorCards
import Derived.WalkKit
import Derived.ProofKit
import GoSem.ClaimGoes
section
namespace Go.Proofs.YtlpeihabbkgnbaaGreatDoor.copyMarks
open Go.ChangeShapes Go.WideShapes Go.ChangeAt Go.RowKit
set_option maxRecDepth 100000
theorem wft : Rows.copyMarksRow.wfByText (OpenSpec.ofChange Rows.copyMarksSpec) = true := by kernel_rfl
end Go.Proofs.YtlpeihabbkgnbaaGreatDoor.copyMarks
end

section
namespace Go.Proofs.YtlpeihabbkgnbaaGreatDoor.copyMarks
open Go.ChangeShapes Go.WideShapes Go.ChangeAt Go.RowKit
set_option maxRecDepth 100000
theorem main : Tryz.pinned.checked.prog.mainIs = some (true, "369de9e1f21f4223392028be866f93c7b7e28470e51f0b83d32a2292575a60b2".toList) := by kernel_rfl
end Go.Proofs.YtlpeihabbkgnbaaGreatDoor.copyMarks
end

section
namespace Go.Ra
/-- no body of the whole translation starts a goroutine: so none that the call comes to does -/
theorem goes_no {P : Program} {func : String} (h : P.funcs.any Func.goes = false) : false = P.goesAt .entering func := by
  have h1 : ∀ g : Nat, (P.funcs[g]?).any Func.goes = false := fun g => by
    cases hg : P.funcs[g]? with
    | none => rfl
    | some fn =>
      have hm : fn ∈ P.funcs := Array.mem_of_getElem? hg
      cases hf : fn.goes with
      | false => simpa using hf
      | true =>
        have : P.funcs.any Func.goes = true := Array.any_eq_true'.2 ⟨fn, hm, hf⟩
        rw [h] at this; cases this
  have h2 : ∀ f, P.goes f = false := fun f => by
    unfold Program.goes
    rw [h, Bool.and_false, Bool.or_false]
    cases ha : (P.closure f).any (fun g => (P.funcs[g]?).any Func.goes) with
    | false => rfl
    | true =>
      obtain ⟨g, _, hg⟩ := List.any_eq_true.1 ha
      rw [h1 g] at hg; cases hg
  unfold Program.goesAt Program.goesFrom
  cases P.funcNamed func with
  | none => rfl
  | some f => simp [h2 f]
end Go.Ra
end


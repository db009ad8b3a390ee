/-
  A part of the proof (RaC12a): an evaluator of the model's code with its proof, or facts of this program that it reckons. No condition.
-/
import Derived.Test.YtlpeihabbkgnbaaGreatDoorRb14
import Derived.Test.YtlpeihabbkgnbaaGreatDoorRb35
import Derived.Test.YtlpeihabbkgnbaaGreatDoorRb36
import Derived.Carry
import Derived.ChangeSlices
import Derived.Test.YtlpeihabbkgnbaaGreatDoorRb17
import Derived.Test.YtlpeihabbkgnbaaGreatDoorCards
import Derived.Test.YtlpeihabbkgnbaaGreatDoorTie
import Derived.WalkKit
import Derived.ProofKit
import Derived.OpenShut
import Derived.Deep.DeepHandedRow
import Derived.Lib.LaidTab
section
namespace Go.Proofs.YtlpeihabbkgnbaaGreatDoor.copyMarks
open Go.ChangeShapes Go.WideShapes Go.ChangeAt Go.RowKit Go.Ra Go.Lib
set_option maxRecDepth 100000
theorem own : ownKnob Tryz.prog.godebug = none := by kernel_rfl

theorem accept_eq : (Rows.laid_unicode_utf8_acceptRanges : DataW Unit) = acceptData := by kernel_rfl
theorem first_eq : Rows.laid_unicode_utf8_first = firstData := by kernel_rfl
theorem laid {W : World} (h : laidMetH Tryz.prog Rows.copyMarksRow.laid W) : Laid E0 H0 W := by
  have h : laidMet Tryz.prog Rows.copyMarksRow.laid W := h
  have hf := Lib.laidMet.reads h (n := "unicode/utf8.first") (d := Rows.laid_unicode_utf8_first) (.tail _ (.tail _ (.tail _ (.tail _ (.head _)))))
  have ha := Lib.laidMet.reads h (n := "unicode/utf8.acceptRanges") (d := Rows.laid_unicode_utf8_acceptRanges) (.tail _ (.tail _ (.tail _ (.head _))))
  rw [first_eq] at hf
  rw [accept_eq] at ha
  exact laid_of hf ha

theorem laidOut : laidOutB Tryz.prog = true := by
  have h := copyNone.facts
  unfold joinedFacts at h
  show laidOutB Tryz.pinned.checked.prog = true
  generalize hP : Tryz.pinned.checked.prog = P at h ⊢
  simp only [Bool.and_eq_true] at h
  simp only [h]
theorem cells3 : Tryz.prog.cellsOf 3 = 1 := by kernel_rfl
theorem cells23 : Tryz.prog.cellsOf 23 = 2 := by kernel_rfl
theorem read23 : Tryz.prog.readableRec 23 = true := by kernel_rfl
theorem read55 : Tryz.prog.readableRec 55 = true := by kernel_rfl
theorem lt23 : 23 < Tryz.prog.types.size := of_decide_eq_true (by kernel_rfl)
theorem lt55 : 55 < Tryz.prog.types.size := of_decide_eq_true (by kernel_rfl)
theorem contract (H : Type) (enc : TypeId × Value → H) (W : World) (base : Nat) (args : Array Value) (ds gs : List (DataW H)) (before : List MemPlace)
    (hval : ∀ (j : Nat) t v, Tryz.f12.params[j]? = some t → args[j]? = some v → Value.okWide Tryz.prog W .any base t v)
    (hW : DataW.Whole enc Tryz.prog Tryz.f12.params.toList Rows.copyMarksSpec.vars false W args.toList ds gs before) (hL : laidMetH Tryz.prog Rows.copyMarksRow.laid W) :
    Calls Tryz.prog 12 args W fun e W' => ∃ v, e = .returned v ∧ Rows.copyMarksSpec.post enc Tryz.prog Tryz.f12 false true false false W args v W' := by
  have hW' := hW
  have hlt := hW.lt
  obtain ⟨p, q, hA0, hV, rfl, hfz, hnd⟩ := hW
  have hA : DataW.TrodAll enc Tryz.prog W 0 (fun _ => true) true Tryz.f12.params.toList args.toList ds p := hA0
  rw [Tryz.params12] at hA hval
  obtain ⟨v0, vs0, d0, ds0, p0, q0, hargs, rfl, rfl, h0, r0⟩ := trodAll_cons hA
  obtain ⟨v1, vs1, d1, ds1, p1, q1, rfl, rfl, rfl, h1, r1⟩ := trodAll_cons r0
  obtain ⟨rfl, rfl, rfl⟩ := trodAll_nil r1
  obtain rfl : args = #[v0, v1] := Array.ext' hargs
  obtain ⟨rfl, rfl⟩ := trodVars_none hV
  clear hA0 hA
  have h0' := h0
  have h1' := h1
  obtain ⟨cs, rfl, hcs⟩ := okWide_struct Tryz.underlying23 (hval 0 23 v0 rfl rfl)
  obtain ⟨fuel, hf⟩ := h0
  obtain ⟨y0, y1, n, -, -, e0, e1⟩ := trod_struct2 Tryz.underlying23 hf
  obtain ⟨z0, c0, -, -⟩ := DataW.trod_int Tryz.underlying3 e0
  obtain ⟨z1, c1, -, -⟩ := DataW.trod_int Tryz.underlying3 e1
  rw [cells23] at hcs
  have hpl : cs = #[.int .i64 z0, .int .i64 z1] := by
    simp only [cells3, Value.cells] at c0 c1
    obtain ⟨l⟩ := cs
    match l, hcs with
    | [a, b], _ =>
      simp at c0 c1
      rw [c0, c1]
  subst hpl
  obtain ⟨a0, len, cap, rfl⟩ := okWide_slice Tryz.underlying55 (hval 1 55 v1 rfl rfl)
  obtain ⟨fuel1, hf1⟩ := h1
  have key : Calls Tryz.prog 12 #[.agg #[.int .i64 z0, .int .i64 z1], .slice a0 len cap] W fun e W' => e = .returned (.bool true) ∧ Below W.heap.size W W' := by
    rcases open_ints Tryz.underlying55 Tryz.underlying3 cells3 hf1 with ⟨hcs1, -⟩ | ⟨a, len', cap', zs, hcs1, -, hl1, -, hz1, -, hcell1, -⟩
    · simp [Value.cells] at hcs1
      obtain ⟨rfl, rfl, rfl⟩ := hcs1
      exact marks_calls0 (laid hL) z0 z1
    · simp [Value.cells] at hcs1
      obtain ⟨rfl, rfl, rfl⟩ := hcs1
      have hz : zs.length = cap := by simpa using hz1
      refine marks_calls (laid hL) z0 z1 a len cap (fun j => zs.getD j 0) (fun j hj => hcell1 j (by omega)) ?_
      rcases Nat.eq_zero_or_pos len with h | h
      · exact .inl h
      · right
        have hc := hcell1 0 (by omega)
        simp only [Addr.add, if_true, World.cell?] at hc
        rcases Nat.lt_or_ge a.block W.heap.size with h' | h'
        · exact h'
        · rw [Array.getElem?_eq_none h'] at hc; cases hc
  refine key.mono fun e W' ⟨he, hb⟩ => ?_
  subst he
  refine ⟨_, rfl, _, _, _, [], p0 ++ (p1 ++ []), [], hW', trodAll_cons_mk (shut_bool Tryz.underlying4 _) trodAll_mk0, ?_, rfl, hb.frame _, fun h => by cases h⟩
  exact trodAll_cons_mk (Below.trod laidOut read23 lt23 h0' hb (fun x hx => hlt x (by simp [hx]))) (trodAll_cons_mk (Below.trod laidOut read55 lt55 h1' hb (fun x hx => hlt x (by simp [hx]))) trodAll_mk0)

/-- A world for the witness: the settled one, the five tables as they are laid. -/
def flat0 : DataW Unit → List Value
  | .lit (.int k z) => [.int k z]
  | _ => []
def flat1 : DataW Unit → List Value
  | .agg ds => ds.flatMap flat0
  | d => flat0 d
def flat2 : DataW Unit → List Value
  | .agg ds => ds.flatMap flat1
  | d => flat0 d
def putD (w : World) (i : Nat) (d : DataW Unit) : World :=
  { w with heap := w.heap.modify i fun
      | .cells _ t frozen => .cells (flat2 d).toArray t frozen
      | o => o }
noncomputable def laidWorld (os : Os) : World :=
  putD (putD (putD (putD (putD (World.holding Tryz.prog os ⟨#[], #[], []⟩) 0 Rows.laid_unicode_utf8_first) 1 Rows.laid_unicode_utf8_acceptRanges) 3 Rows.laid_internal_strconv_uint64pow10) 4 Rows.laid_math_bits_deBruijn32tab) 5 Rows.laid_math_bits_deBruijn64tab
theorem laid_met (os : Os) : laidMet Tryz.prog Rows.copyMarksRow.laid ((laidWorld os).forCall (fun _ _ => 0) ⟨#[], #[.agg #[.int .i64 0, .int .i64 0], .slice none 0 0], []⟩).memory :=
  laidMet_of_run' 8 (by kernel_rfl) (by kernel_rfl)
theorem reads (os : Os) {H : Type} (enc : TypeId × Value → H) : ∃ places, DataW.whole enc Tryz.prog ((laidWorld os).forCall (fun _ _ => 0) ⟨#[], #[.agg #[.int .i64 0, .int .i64 0], .slice none 0 0], []⟩).memory Tryz.f12.params.toList Rows.copyMarksSpec.vars false (#[.agg #[.int .i64 0, .int .i64 0], .slice none 0 0] : Array Value).toList 8 = some ([.agg [.lit (.int .i64 0), .lit (.int .i64 0)], .nil], [], places) :=
  ⟨[], by kernel_rfl⟩

theorem lifted (os : Os) (started : os.Started) (H : Type) (enc : TypeId × Value → H) (F : Stop.Interp) :
    ReturnsInHanded {} Tryz.checked os 12 .any ((OpenSpec.ofChange Rows.copyMarksSpec).preRow enc Tryz.prog Tryz.f12 Rows.copyMarksRow.domain false Rows.copyMarksRow.laid) (((OpenSpec.ofChange Rows.copyMarksSpec).at F).post enc Tryz.prog Tryz.f12 false true false false) := by
  obtain ⟨places, hx⟩ := reads os enc
  refine returnsInHanded_of_row (C := Tryz.checked) (s := OpenSpec.ofChange Rows.copyMarksSpec) own started (by kernel_rfl) Tryz.func12
    (witness_row_at (enc := enc) (C := Tryz.checked) false (laidWorld os) #[.agg #[.int .i64 0, .int .i64 0], .slice none 0 0] rfl (by kernel_rfl) (by kernel_rfl) (by kernel_rfl)
      (OpenSpec.preRow_of_cond 8 hx (by kernel_rfl) (fun k hk => by cases hk) (by kernel_rfl) (laid_met os))) ?_
  intro W base args ds gs before hval hW _ _ _ hL _ _
  exact contract H enc W base args ds gs before hval hW hL

end Go.Proofs.YtlpeihabbkgnbaaGreatDoor.copyMarks
end


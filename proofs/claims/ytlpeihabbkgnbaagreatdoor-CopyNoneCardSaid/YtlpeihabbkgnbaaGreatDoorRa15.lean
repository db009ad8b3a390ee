/-
  A part of the proof (RaC5a): an evaluator of the model's code with its proof, or facts of this program that it reckons. No condition.
-/
import Derived.Test.YtlpeihabbkgnbaaGreatDoorRa14
import Derived.Test.YtlpeihabbkgnbaaGreatDoorCards
import Derived.Test.YtlpeihabbkgnbaaGreatDoorTie
import Derived.WalkKit
import Derived.ProofKit
import Derived.OpenShut
import Derived.Deep.DeepHandedRow
import Derived.Lib.LaidTab
section
namespace Go.Proofs.YtlpeihabbkgnbaaGreatDoor.copyNone
open Go.ChangeShapes Go.WideShapes Go.ChangeAt Go.RowKit Go.Ra Go.Lib
set_option maxRecDepth 100000
theorem own : ownKnob Tryz.prog.godebug = none := by kernel_rfl

theorem accept_eq : (Rows.laid_unicode_utf8_acceptRanges : DataW Unit) = acceptData := by kernel_rfl
theorem first_eq : Rows.laid_unicode_utf8_first = firstData := by kernel_rfl
theorem laid {W : World} (h : laidMetH Tryz.prog Rows.copyNoneRow.laid W) : Laid E0 H0 W := by
  have h : laidMet Tryz.prog Rows.copyNoneRow.laid W := h
  have hf := Lib.laidMet.reads h (n := "unicode/utf8.first") (d := Rows.laid_unicode_utf8_first) (.tail _ (.tail _ (.tail _ (.tail _ (.head _)))))
  have ha := Lib.laidMet.reads h (n := "unicode/utf8.acceptRanges") (d := Rows.laid_unicode_utf8_acceptRanges) (.tail _ (.tail _ (.tail _ (.head _))))
  rw [first_eq] at hf
  rw [accept_eq] at ha
  exact laid_of hf ha

theorem walk {W : World} (hl : Laid E0 H0 W) : Calls Tryz.prog 7 #[] W fun e w' => e = .returned (.bool true) ∧ Below W.heap.size W w' := by
  refine closed_calls hl (oT_ok ?_) noneK
  intro p hp
  rcases List.mem_cons.1 hp with rfl | hp
  · exact k20
  · exact ok0 p hp

theorem contract (H : Type) (enc : TypeId × Value → H) (W : World) (args : Array Value) (ds gs : List (DataW H)) (before : List MemPlace)
    (hW : DataW.Whole enc Tryz.prog Tryz.f7.params.toList Rows.copyNoneSpec.vars false W args.toList ds gs before) (hL : laidMetH Tryz.prog Rows.copyNoneRow.laid W) :
    Calls Tryz.prog 7 args W fun e W' => ∃ v, e = .returned v ∧ Rows.copyNoneSpec.post enc Tryz.prog Tryz.f7 false true false false W args v W' := by
  have hW' := hW
  obtain ⟨p, q, hA0, hV, rfl, hfz, hnd⟩ := hW
  have hA : DataW.TrodAll enc Tryz.prog W 0 (fun _ => true) true Tryz.f7.params.toList args.toList ds p := hA0
  rw [show Tryz.f7.params = #[] from Tryz.params7] at hA
  obtain ⟨ha, rfl, rfl⟩ := trodAll_nil hA
  obtain rfl : args = #[] := Array.ext' ha
  obtain ⟨rfl, rfl⟩ := trodVars_none hV
  clear hA0
  refine (walk (laid hL)).mono fun e W' ⟨he, hb⟩ => ?_
  subst he
  exact ⟨_, rfl, post_of_below (pa := []) (pv := []) hW' (fun _ _ _ => trodAll_cons_mk (shut_bool Tryz.underlying4 _) trodAll_mk0) (fun _ _ => trodAll_mk0) (fun _ _ => rfl) rfl hb
    (ok_one (by kernel_rfl) rfl (okWide_bool_mk Tryz.underlying4 _))⟩

/-- A world for the witness: the settled one, the five tables as they are laid. -/
def flat0 : DataW Unit → List Value
  | .lit (.int k z) => [.int k z]
  | _ => []
def flat1 : DataW Unit → List Value
  | .agg ds => ds.flatMap flat0
  | d => flat0 d
def flat2 : DataW Unit → List Value
  | .agg ds => ds.flatMap flat1
  | d => flat0 d
def putD (w : World) (i : Nat) (d : DataW Unit) : World :=
  { w with heap := w.heap.modify i fun
      | .cells _ t frozen => .cells (flat2 d).toArray t frozen
      | o => o }
noncomputable def laidWorld (os : Os) : World :=
  putD (putD (putD (putD (putD (World.holding Tryz.prog os ⟨#[], #[], []⟩) 0 Rows.laid_unicode_utf8_first) 1 Rows.laid_unicode_utf8_acceptRanges) 3 Rows.laid_internal_strconv_uint64pow10) 4 Rows.laid_math_bits_deBruijn32tab) 5 Rows.laid_math_bits_deBruijn64tab
theorem laid_met (os : Os) : laidMet Tryz.prog Rows.copyNoneRow.laid ((laidWorld os).forCall (fun _ _ => 0) ⟨#[], #[], []⟩).memory :=
  laidMet_of_run' 8 (by kernel_rfl) (by kernel_rfl)
theorem reads (os : Os) {H : Type} (enc : TypeId × Value → H) : ∃ places, DataW.whole enc Tryz.prog ((laidWorld os).forCall (fun _ _ => 0) ⟨#[], #[], []⟩).memory Tryz.f7.params.toList Rows.copyNoneSpec.vars false (#[] : Array Value).toList 8 = some ([], [], places) :=
  ⟨[], by kernel_rfl⟩

theorem lifted (os : Os) (started : os.Started) (H : Type) (enc : TypeId × Value → H) (F : Stop.Interp) :
    ReturnsInHanded {} Tryz.checked os 7 .any ((OpenSpec.ofChange Rows.copyNoneSpec).preRow enc Tryz.prog Tryz.f7 Rows.copyNoneRow.domain false Rows.copyNoneRow.laid) (((OpenSpec.ofChange Rows.copyNoneSpec).at F).post enc Tryz.prog Tryz.f7 false true false false) := by
  obtain ⟨places, hx⟩ := reads os enc
  refine returnsInHanded_of_row (C := Tryz.checked) (s := OpenSpec.ofChange Rows.copyNoneSpec) own started (by kernel_rfl) Tryz.func7
    (witness_row_at (enc := enc) (C := Tryz.checked) false (laidWorld os) #[] rfl (by kernel_rfl) (by kernel_rfl) (by kernel_rfl)
      (OpenSpec.preRow_of_cond 8 hx (by kernel_rfl) (fun k hk => by cases hk) (by kernel_rfl) (laid_met os))) ?_
  intro W base args ds gs before hval hW _ _ _ hL _ _
  exact contract H enc W args ds gs before hW hL

end Go.Proofs.YtlpeihabbkgnbaaGreatDoor.copyNone
end


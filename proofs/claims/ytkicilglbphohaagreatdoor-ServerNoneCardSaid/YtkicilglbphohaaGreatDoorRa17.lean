/-
  A part of the proof (RaC8a): an evaluator of the model's code with its proof, or facts of this program that it reckons. No condition.
-/
import Derived.Test.YtkicilglbphohaaGreatDoorRa16
import Derived.Test.YtkicilglbphohaaGreatDoorCards
import Derived.Test.YtkicilglbphohaaGreatDoorTie
import Derived.WalkKit
import Derived.ProofKit
import Derived.OpenShut
import Derived.Deep.DeepHandedRow
import Derived.Lib.LaidTab
import Derived.Deep.DeepWitnessRowRef
section
namespace Go.Proofs.YtkicilglbphohaaGreatDoor.serverNone
open Go.ChangeShapes Go.WideShapes Go.ChangeAt Go.RowKit Go.Ra Go.Lib
set_option maxRecDepth 100000
theorem own : ownKnob Tryz.prog.godebug = none := by kernel_rfl
theorem accept_eq : (Rows.laid_unicode_utf8_acceptRanges : DataW Unit) = acceptData := by kernel_rfl
theorem first_eq : Rows.laid_unicode_utf8_first = firstData := by kernel_rfl
theorem laid {W : World} (h : laidMetH Tryz.prog Rows.serverNoneRow.laid W) (hs : W.ShapedOpen Tryz.prog) : ∃ i : Coe Bool Int, Laid (@E0 i) (@H0 i) W := by
  have h : laidMet Tryz.prog Rows.serverNoneRow.laid W := h
  have hf := Lib.laidMet.reads h (n := "unicode/utf8.first") (d := Rows.laid_unicode_utf8_first) (.tail _ (.tail _ (.tail _ (.tail _ (.tail _ (.tail _ (.head _)))))))
  have ha := Lib.laidMet.reads h (n := "unicode/utf8.acceptRanges") (d := Rows.laid_unicode_utf8_acceptRanges) (.tail _ (.tail _ (.tail _ (.head _))))
  rw [first_eq] at hf
  rw [accept_eq] at ha
  obtain ⟨m, hm⟩ := maxlen_of_shape hs
  exact ⟨⟨fun _ => m⟩, @laid_of ⟨fun _ => m⟩ _ hm hf ha⟩

theorem walk [Coe Bool Int] {W : World} (hl : Laid E0 H0 W) : Calls Tryz.prog 8 #[] W fun e w' => e = .returned (.bool true) ∧ Below W.heap.size W w' := by
  refine closed_calls hl (oT_ok ?_) noneK
  intro p hp
  rcases List.mem_cons.1 hp with rfl | hp
  · exact k24
  · exact lib2_ok p hp

theorem contract (H : Type) (enc : TypeId × Value → H) (W : World) (args : Array Value) (ds gs : List (DataW H)) (before : List MemPlace)
    (hW : DataW.Whole enc Tryz.prog Tryz.f8.params.toList Rows.serverNoneSpec.vars false W args.toList ds gs before) (hL : laidMetH Tryz.prog Rows.serverNoneRow.laid W) (hs : W.ShapedOpen Tryz.prog) :
    Calls Tryz.prog 8 args W fun e W' => ∃ v, e = .returned v ∧ Rows.serverNoneSpec.post enc Tryz.prog Tryz.f8 false true false false W args v W' := by
  have hW' := hW
  obtain ⟨p, q, hA0, hV, rfl, hfz, hnd⟩ := hW
  have hA : DataW.TrodAll enc Tryz.prog W 0 (fun _ => true) true Tryz.f8.params.toList args.toList ds p := hA0
  rw [show Tryz.f8.params = #[] from Tryz.params8] at hA
  obtain ⟨ha, rfl, rfl⟩ := trodAll_nil hA
  obtain rfl : args = #[] := Array.ext' ha
  obtain ⟨rfl, rfl⟩ := trodVars_none hV
  clear hA0
  obtain ⟨i, hl⟩ := laid hL hs
  refine (walk hl).mono fun e W' ⟨he, hb⟩ => ?_
  subst he
  exact ⟨_, rfl, post_of_below (pa := []) (pv := []) hW' (fun _ _ _ => trodAll_cons_mk (shut_bool Tryz.underlying4 _) trodAll_mk0) (fun _ _ => trodAll_mk0) (fun _ _ => rfl) rfl hb
    (ok_one (by kernel_rfl) rfl (okWide_bool_mk Tryz.underlying4 _))⟩

/-- A world for the witness: the settled one with two blocks more (the two errors' structs), the seven variables as they are laid. -/
def flat0 : DataW Unit → List Value
  | .lit (.int k z) => [.int k z]
  | _ => []
def flat1 : DataW Unit → List Value
  | .agg ds => ds.flatMap flat0
  | d => flat0 d
def flat2 : DataW Unit → List Value
  | .agg ds => ds.flatMap flat1
  | d => flat0 d
def putV (w : World) (i : Nat) (vs : Array Value) : World :=
  { w with heap := w.heap.modify i fun
      | .cells _ t frozen => .cells vs t frozen
      | o => o }
def putD (w : World) (i : Nat) (d : DataW Unit) : World := putV w i (flat2 d).toArray
noncomputable def laidWorld (os : Os) : World :=
  let N := (World.settled Tryz.prog os).heap.size
  let w0 := World.holding Tryz.prog os ⟨#[.cells #[.string ⟨#[118, 97, 108, 117, 101, 32, 111, 117, 116, 32, 111, 102, 32, 114, 97, 110, 103, 101]⟩] 379, .cells #[.string ⟨#[105, 110, 118, 97, 108, 105, 100, 32, 115, 121, 110, 116, 97, 120]⟩] 379], #[], []⟩
  let w1 := putV (putV w0 2 #[.iface 377 (.pointer (some ⟨N, 0, none⟩))]) 1 #[.iface 377 (.pointer (some ⟨N + 1, 0, none⟩))]
  putD (putD (putD (putD (putD w1 3 Rows.laid_unicode_utf8_first) 4 Rows.laid_unicode_utf8_acceptRanges) 5 Rows.laid_internal_strconv_uint64pow10) 6 Rows.laid_math_bits_deBruijn32tab) 7 Rows.laid_math_bits_deBruijn64tab
theorem laid_met (os : Os) : laidMet Tryz.prog Rows.serverNoneRow.laid ((laidWorld os).forCall (fun _ _ => 0) ⟨#[], #[], []⟩).memory :=
  laidMet_of_run' 8 (by as_aux_lemma => kernel_rfl) (by as_aux_lemma => kernel_rfl)
theorem reads (os : Os) {H : Type} (enc : TypeId × Value → H) : ∃ places, DataW.whole enc Tryz.prog ((laidWorld os).forCall (fun _ _ => 0) ⟨#[], #[], []⟩).memory Tryz.f8.params.toList Rows.serverNoneSpec.vars false (#[] : Array Value).toList 8 = some ([], [], places) :=
  ⟨[], by kernel_rfl⟩

theorem lifted (os : Os) (started : os.Started) (H : Type) (enc : TypeId × Value → H) (F : Stop.Interp) :
    ReturnsInHanded {} Tryz.checked os 8 .any ((OpenSpec.ofChange Rows.serverNoneSpec).preRow enc Tryz.prog Tryz.f8 Rows.serverNoneRow.domain false Rows.serverNoneRow.laid) (((OpenSpec.ofChange Rows.serverNoneSpec).at F).post enc Tryz.prog Tryz.f8 false true false false) := by
  obtain ⟨places, hx⟩ := reads os enc
  refine returnsInHanded_of_row (C := Tryz.checked) (s := OpenSpec.ofChange Rows.serverNoneSpec) own started (by as_aux_lemma => kernel_rfl) Tryz.func8
    (witness_row_atRef (enc := enc) (C := Tryz.checked) false (laidWorld os) #[] rfl (by as_aux_lemma => kernel_rfl) (by as_aux_lemma => kernel_rfl) (by as_aux_lemma => kernel_rfl)
      (OpenSpec.preRow_of_cond 8 hx (by kernel_rfl) (fun k hk => by cases hk) (by kernel_rfl) (laid_met os))) ?_
  intro W base args ds gs before hval hW _ _ _ hL hs _
  exact contract H enc W args ds gs before hW hL hs
end Go.Proofs.YtkicilglbphohaaGreatDoor.serverNone
end


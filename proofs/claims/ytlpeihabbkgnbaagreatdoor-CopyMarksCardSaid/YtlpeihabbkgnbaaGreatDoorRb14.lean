/-
  A part of the proof (RaBeg): an evaluator of the model's code with its proof, or facts of this program that it reckons. No condition.
-/
import Derived.Test.YtlpeihabbkgnbaaGreatDoorRb6
import Derived.Test.YtlpeihabbkgnbaaGreatDoorRb7
import Derived.Test.YtlpeihabbkgnbaaGreatDoorRb8
import Derived.Test.YtlpeihabbkgnbaaGreatDoorRb9
import Derived.Test.YtlpeihabbkgnbaaGreatDoorRb10
import Derived.Test.YtlpeihabbkgnbaaGreatDoorRb11
import Derived.Test.YtlpeihabbkgnbaaGreatDoorRb12
import Derived.Test.YtlpeihabbkgnbaaGreatDoorRb13
section
namespace Go.Proofs
open Go Go.Ra Go.RowKit
theorem okB {f : Nat} {fn : Func} (h : Tryz.prog.funcs[f]? = some fn) (h1 : (fn.name == "runtime.NumGoroutine") = false) (h2 : fn.body.isNone = false) (h3 : OrcOk Tryz.prog E0 f gTrue) : (∃ fn, FtOk Tryz.prog f fn) ∧ OrcOk Tryz.prog E0 f gTrue := ⟨ft_of h h1 h2, h3⟩
theorem names_ok : (∃ fn, FtOk Tryz.prog 129 fn) ∧ OrcOk Tryz.prog E0 129 gNames := ⟨ft_of Tryz.func129 (by kernel_rfl) (by kernel_rfl), orc_names⟩
theorem begs_ok {bs : List Nat} (h : ∀ b ∈ bs, (∃ fn, FtOk Tryz.prog b fn) ∧ OrcOk Tryz.prog E0 b gTrue) : OrcsOk Tryz.prog E0 (begs bs) := by
  refine oT_ok ?_
  induction bs with
  | nil => exact ok0
  | cons b bs ih =>
    intro p hp
    rcases List.mem_cons.1 hp with rfl | hp
    · exact h b List.mem_cons_self
    · exact ih (fun b hb => h b (List.mem_cons_of_mem _ hb)) p hp
theorem k1 : (∃ fn, FtOk Tryz.prog 205 fn) ∧ OrcOk Tryz.prog E0 205 gTrue := okB Tryz.func205 (by kernel_rfl) (by kernel_rfl) (orc_beg (begs_ok (bs := []) (fun _ h => by cases h)) beg1)
theorem k4 : (∃ fn, FtOk Tryz.prog 292 fn) ∧ OrcOk Tryz.prog E0 292 gTrue := okB Tryz.func292 (by kernel_rfl) (by kernel_rfl) (orc_beg (begs_ok (bs := [205]) (by simp [k1])) beg4)
theorem k7 : (∃ fn, FtOk Tryz.prog 199 fn) ∧ OrcOk Tryz.prog E0 199 gTrue := okB Tryz.func199 (by kernel_rfl) (by kernel_rfl) (orc_beg (begs_ok (bs := [292, 205]) (by simp [k1, k4])) beg7)
theorem k10 : (∃ fn, FtOk Tryz.prog 119 fn) ∧ OrcOk Tryz.prog E0 119 gTrue := okB Tryz.func119 (by kernel_rfl) (by kernel_rfl) (orc_beg (begs_ok (bs := [199, 292, 205]) (by simp [k1, k4, k7])) beg10)
theorem k14 : (∃ fn, FtOk Tryz.prog 120 fn) ∧ OrcOk Tryz.prog E0 120 gTrue := okB Tryz.func120 (by kernel_rfl) (by kernel_rfl) (orc_beg (begs_ok (bs := [205]) (by simp [k1])) beg14)
theorem k16 : (∃ fn, FtOk Tryz.prog 40 fn) ∧ OrcOk Tryz.prog E0 40 gTrue := okB Tryz.func40 (by kernel_rfl) (by kernel_rfl) (orc_beg (begs_ok (bs := [119, 120, 205]) (by simp [k1, k10, k14])) beg16)
theorem k18 : (∃ fn, FtOk Tryz.prog 41 fn) ∧ OrcOk Tryz.prog E0 41 gTrue := by
  refine okB Tryz.func41 (by kernel_rfl) (by kernel_rfl) (orc_beg (oT_ok ?_) beg18)
  intro p hp
  rcases List.mem_append.1 hp with hp | hp
  · simp only [List.mem_cons, List.not_mem_nil, or_false] at hp
    rcases hp with rfl | rfl
    · exact k10
    · exact names_ok
  · exact ok0 p hp
theorem o13_ok : OrcsOk Tryz.prog E0 o13 := by
  refine oT_ok ?_
  intro p hp
  rcases List.mem_append.1 hp with hp | hp
  · simp only [lib13, List.mem_cons, List.not_mem_nil, or_false] at hp
    rcases hp with rfl | rfl | rfl | rfl
    · exact ⟨ft_of Tryz.func95 (by kernel_rfl) (by kernel_rfl), orc_tbl tMay_ok⟩
    · exact ⟨ft_of Tryz.func138 (by kernel_rfl) (by kernel_rfl), orc_tbl tWidth_ok⟩
    · exact k16
    · exact k18
  · exact ok0 p hp
/-- begun holds, wherever the tables are laid -/
theorem k20 : (∃ fn, FtOk Tryz.prog 13 fn) ∧ OrcOk Tryz.prog E0 13 gTrue := okB Tryz.func13 (by kernel_rfl) (by kernel_rfl) (orc_beg o13_ok beg20)
end Go.Proofs
end


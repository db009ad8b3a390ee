/-
  A part of the proof (RaBeg, RaNoneK, RaLaid): an evaluator of the model's code with its proof, or facts of this program that it reckons. No condition.
-/
import Derived.Test.YtlpeihabbkgnbaaGreatDoorRa6
import Derived.Test.YtlpeihabbkgnbaaGreatDoorRa7
import Derived.Test.YtlpeihabbkgnbaaGreatDoorRa8
import Derived.Test.YtlpeihabbkgnbaaGreatDoorRa9
import Derived.Test.YtlpeihabbkgnbaaGreatDoorRa10
import Derived.Test.YtlpeihabbkgnbaaGreatDoorRa11
import Derived.Test.YtlpeihabbkgnbaaGreatDoorRa12
import Derived.Test.YtlpeihabbkgnbaaGreatDoorRa13
import Derived.Lib.LaidU8T
import Derived.ProofKit
import Derived.ChangeSame
section
namespace Go.Proofs
open Go Go.Ra Go.RowKit
theorem okB {f : Nat} {fn : Func} (h : Tryz.prog.funcs[f]? = some fn) (h1 : (fn.name == "runtime.NumGoroutine") = false) (h2 : fn.body.isNone = false) (h3 : OrcOk Tryz.prog E0 f gTrue) : (∃ fn, FtOk Tryz.prog f fn) ∧ OrcOk Tryz.prog E0 f gTrue := ⟨ft_of h h1 h2, h3⟩
theorem names_ok : (∃ fn, FtOk Tryz.prog 129 fn) ∧ OrcOk Tryz.prog E0 129 gNames := ⟨ft_of Tryz.func129 (by kernel_rfl) (by kernel_rfl), orc_names⟩
theorem begs_ok {bs : List Nat} (h : ∀ b ∈ bs, (∃ fn, FtOk Tryz.prog b fn) ∧ OrcOk Tryz.prog E0 b gTrue) : OrcsOk Tryz.prog E0 (begs bs) := by
  refine oT_ok ?_
  induction bs with
  | nil => exact ok0
  | cons b bs ih =>
    intro p hp
    rcases List.mem_cons.1 hp with rfl | hp
    · exact h b List.mem_cons_self
    · exact ih (fun b hb => h b (List.mem_cons_of_mem _ hb)) p hp
theorem k1 : (∃ fn, FtOk Tryz.prog 205 fn) ∧ OrcOk Tryz.prog E0 205 gTrue := okB Tryz.func205 (by kernel_rfl) (by kernel_rfl) (orc_beg (begs_ok (bs := []) (fun _ h => by cases h)) beg1)
theorem k4 : (∃ fn, FtOk Tryz.prog 292 fn) ∧ OrcOk Tryz.prog E0 292 gTrue := okB Tryz.func292 (by kernel_rfl) (by kernel_rfl) (orc_beg (begs_ok (bs := [205]) (by simp [k1])) beg4)
theorem k7 : (∃ fn, FtOk Tryz.prog 199 fn) ∧ OrcOk Tryz.prog E0 199 gTrue := okB Tryz.func199 (by kernel_rfl) (by kernel_rfl) (orc_beg (begs_ok (bs := [292, 205]) (by simp [k1, k4])) beg7)
theorem k10 : (∃ fn, FtOk Tryz.prog 119 fn) ∧ OrcOk Tryz.prog E0 119 gTrue := okB Tryz.func119 (by kernel_rfl) (by kernel_rfl) (orc_beg (begs_ok (bs := [199, 292, 205]) (by simp [k1, k4, k7])) beg10)
theorem k14 : (∃ fn, FtOk Tryz.prog 120 fn) ∧ OrcOk Tryz.prog E0 120 gTrue := okB Tryz.func120 (by kernel_rfl) (by kernel_rfl) (orc_beg (begs_ok (bs := [205]) (by simp [k1])) beg14)
theorem k16 : (∃ fn, FtOk Tryz.prog 40 fn) ∧ OrcOk Tryz.prog E0 40 gTrue := okB Tryz.func40 (by kernel_rfl) (by kernel_rfl) (orc_beg (begs_ok (bs := [119, 120, 205]) (by simp [k1, k10, k14])) beg16)
theorem k18 : (∃ fn, FtOk Tryz.prog 41 fn) ∧ OrcOk Tryz.prog E0 41 gTrue := by
  refine okB Tryz.func41 (by kernel_rfl) (by kernel_rfl) (orc_beg (oT_ok ?_) beg18)
  intro p hp
  rcases List.mem_append.1 hp with hp | hp
  · simp only [List.mem_cons, List.not_mem_nil, or_false] at hp
    rcases hp with rfl | rfl
    · exact k10
    · exact names_ok
  · exact ok0 p hp
theorem o13_ok : OrcsOk Tryz.prog E0 o13 := by
  refine oT_ok ?_
  intro p hp
  rcases List.mem_append.1 hp with hp | hp
  · simp only [lib13, List.mem_cons, List.not_mem_nil, or_false] at hp
    rcases hp with rfl | rfl | rfl | rfl
    · exact ⟨ft_of Tryz.func95 (by kernel_rfl) (by kernel_rfl), orc_tbl tMay_ok⟩
    · exact ⟨ft_of Tryz.func138 (by kernel_rfl) (by kernel_rfl), orc_tbl tWidth_ok⟩
    · exact k16
    · exact k18
  · exact ok0 p hp
/-- begun holds, wherever the tables are laid -/
theorem k20 : (∃ fn, FtOk Tryz.prog 13 fn) ∧ OrcOk Tryz.prog E0 13 gTrue := okB Tryz.func13 (by kernel_rfl) (by kernel_rfl) (orc_beg o13_ok beg20)
end Go.Proofs
end

section
namespace Go.Proofs
open Go Go.Ra
set_option maxRecDepth 100000
theorem noneK : okT (acall (EO E0 (oT ((13, gTrue) :: lib0))) (arun (EO E0 (oT ((13, gTrue) :: lib0))) 100000) 7 [] H0) = true := by kernel_rfl
end Go.Proofs
end

section
namespace Go.Proofs
open Go Go.Ra Go.RowKit Go.Lib Go.Shelf Go.ChangeShapes Go.WideShapes Go.ChangeAt
set_option maxRecDepth 100000
def renU8 : Ren := ⟨id, fun x => if x = 119 then 204 else if x = 138 then 206 else if x = 139 then 207 else x, fun x => x - 3⟩
theorem u8Types : U8Types Tryz.prog renU8 := ⟨by kernel_rfl, by kernel_rfl, by kernel_rfl, by kernel_rfl⟩
theorem u8Extra : U8Extra Tryz.prog renU8 := ⟨by kernel_rfl, by kernel_rfl, by kernel_rfl, by kernel_rfl, by kernel_rfl, by kernel_rfl, by kernel_rfl⟩
theorem g0_eq : gcells_0 = (List.range 256).map (fun c => Value.int .u8 (firstT c)) := by kernel_rfl
theorem g1_eq : gcells_1 = (List.range 32).map (fun j => Value.int .u8 (if j % 2 = 0 then (accLo (j / 2) : Int) else (accHi (j / 2) : Int))) := by kernel_rfl
theorem laid_cells {w : World} {g : Nat} {b : Blk} (hg : gT.get g = some (.blk b)) (h1 : b.ro = true) (h2 : b.fam = g) (h3 : ones b.cells = true) (h4 : b.esz = 0) (h5 : b.cells ≠ []) (h6 : b.cells.all constOk = true)
    (hc : ∀ i (h : i < b.cells.length), w.cell? ⟨g, i, none⟩ = some b.cells[i]) :
    ∃ b cs el fr, H0.objs.get g = some (.blk b) ∧ b.ro = true ∧ b.fam = g ∧ ones b.cells = true ∧ w.heap[g]? = some (.cells cs el fr) ∧
      b.cells.length + b.esz * 0 ≤ cs.size ∧ ∀ i (h : i < b.cells.length), cs[i]? = some b.cells[i] ∧ constOk b.cells[i] = true := by
  have h0 := hc 0 (by cases hc : b.cells with | nil => exact absurd hc h5 | cons x l => simp)
  simp only [World.cell?] at h0
  cases hh : w.heap[g]? with
  | none => rw [hh] at h0; cases h0
  | some o =>
    cases o with
    | cells cs el fr =>
      have cell' : ∀ i (hi : i < b.cells.length), cs[i]? = some b.cells[i] := fun i hi => by
        have := hc i hi
        simp only [World.cell?, hh] at this
        simpa using this
      refine ⟨b, cs, el, fr, hg, h1, h2, h3, rfl, ?_, fun i hi => ⟨cell' i hi, List.all_eq_true.1 h6 _ (List.getElem_mem hi)⟩⟩
      rw [Nat.mul_zero, Nat.add_zero]
      rcases Nat.lt_or_ge cs.size b.cells.length with h' | h'
      · have := cell' cs.size h'
        simp at this
      · exact h'
    | _ => rw [hh] at h0; cases h0
theorem laid_of_tabs {w : World} (h : Lib.Utf8Tabs 0 1 w) : Laid E0 H0 w := by
  intro g hg
  have hg : isG0 g = true := hg
  simp only [isG0, Bool.or_eq_true] at hg
  rcases hg with hg | hg
  · obtain rfl := Nat.eq_of_beq_eq_true hg
    refine laid_cells (b := gblk_0) rfl rfl rfl (by kernel_rfl) rfl (fun h => by cases h) (by kernel_rfl) fun i hi => ?_
    have hi : i < gcells_0.length := hi
    have hl : gcells_0.length = 256 := by rw [g0_eq]; simp
    rw [h.1 i (by omega)]
    show _ = some gcells_0[i]
    congr 1
    simp only [g0_eq, List.getElem_map, List.getElem_range]
  · obtain rfl := Nat.eq_of_beq_eq_true hg
    refine laid_cells (b := gblk_1) rfl rfl rfl (by kernel_rfl) rfl (fun h => by cases h) (by kernel_rfl) fun i hi => ?_
    have hi : i < gcells_1.length := hi
    have hl : gcells_1.length = 32 := by rw [g1_eq]; simp
    show _ = some gcells_1[i]
    have e : gcells_1[i] = Value.int .u8 (if i % 2 = 0 then (accLo (i / 2) : Int) else (accHi (i / 2) : Int)) := by
      simp only [g1_eq, List.getElem_map, List.getElem_range]
    rw [e]
    obtain ⟨a, b⟩ := h.2 (i / 2) (by omega)
    by_cases hm : i % 2 = 0
    · rw [if_pos hm, ← a, show 2 * (i / 2) = i by omega]
    · rw [if_neg hm, ← b, show 2 * (i / 2) + 1 = i by omega]
theorem laid_of {w : World} (h3 : VarReads Tryz.prog w "unicode/utf8.first" firstData) (h4 : VarReads Tryz.prog w "unicode/utf8.acceptRanges" acceptData) : Laid E0 H0 w :=
  laid_of_tabs (utf8Tabs_of_readsT u8Types u8Extra h3 h4)

/-- a closed call -/
theorem closed_calls {W : World} (hl : Laid E0 H0 W) {o : Orc} (ho : OrcsOk Tryz.prog E0 o) {f : Nat} (h : okT (acall (EO E0 o) (arun (EO E0 o) 100000) f [] H0) = true) :
    Calls Tryz.prog f #[] W fun e w' => e = .returned (.bool true) ∧ Below W.heap.size W w' := by
  obtain ⟨H', h⟩ := okT_some h
  refine callsIn_wide.1 ((acall_with mixed envOk orc0 ho h (rep0 first0 hl) (us := #[]) .nil).mono fun e w' he => ?_)
  obtain ⟨u, ψ, g1, g2, g3, g4, g5⟩ := he
  have hu : u = .bool true := by cases g4; rfl
  subst hu
  exact ⟨g1, g5.os, g5.tape, g5.out, g5.size, fun k hk => g5.keep k hk⟩

/-- A listed place holds what it held; so what is laid down as read is read behind. -/
theorem post_of_below {H : Type} {enc : TypeId × Value → H} {P : Program} {f : Func} {s : ChangeSpec} {apart fresh handsOn again : Bool} {W W' : World} {args : Array Value} {v : Value} {ds gs : List (DataW H)} {before pa pv : List MemPlace}
    (hW : DataW.Whole enc P f.params.toList s.vars apart W args.toList ds gs before)
    (hres : ∀ (b : Nat) (sp : Nat → Bool) (hd : Bool), DataW.TrodAll enc P W' b sp hd f.resultTypes.toList (v.resultList f.resultTypes.size) (s.fn H (ds ++ gs)).results [])
    (hargs : ∀ sp : Nat → Bool, (∀ p ∈ before, sp p.block = true) → DataW.TrodAll enc P W' 0 sp true f.params.toList args.toList (s.fn H (ds ++ gs)).args pa)
    (hvars : ∀ sp : Nat → Bool, (∀ p ∈ before, sp p.block = true) → DataW.TrodVars enc P W' sp s.vars (s.fn H (ds ++ gs)).vars pv)
    (hps : before = pa ++ pv) (hb : Below W.heap.size W W')
    (hok : ∀ (j : Nat) (t : TypeId) (r : Value), f.resultTypes[j]? = some t → (v.resultList f.resultTypes.size)[j]? = some r → Value.okWide P W' .any 0 t r) :
    s.post enc P f apart fresh handsOn again W args v W' := by
  have hold : ∀ p ∈ before, (fun b => decide (b < W.heap.size)) p.block = true := fun p hp => by simpa using hW.lt p hp
  refine ⟨ds, gs, before, [], pa, pv, hW, hres _ _ _, hargs _ hold, hvars _ hold, World.keptBut_mono (fun p hp => ⟨hp, ?_⟩) (hb.frame (· ∈ before)), fun _ => ?_⟩
  · rw [hps, List.mem_append] at hp
    exact Or.inr hp
  · have hlt := hW.lt
    obtain ⟨_, _, _, _, _, hz, hn⟩ := hW
    refine ⟨hok, _, _, ([] ++ pa) ++ pv, ⟨[] ++ pa, pv, trodAll_append (hargs _ (fun _ _ => rfl)) (hres _ _ _), hvars _ (fun _ _ => rfl), rfl, ?_, ?_⟩, ?_⟩
    · intro b off hp
      have hp' : MemPlace.cell b off ∈ before := by rw [hps]; simpa using hp
      have h1 := hlt _ hp'
      have : W'.frozen? ⟨b, off, none⟩ = W.frozen? ⟨b, off, none⟩ := by simp only [World.frozen?]; rw [hb.block b h1]
      rw [this]
      exact hz b off hp'
    · intro ha
      have := hn ha
      rw [hps] at this
      simpa using this
    · intro p hp _
      rw [hps]
      simpa using hp
end Go.Proofs
end


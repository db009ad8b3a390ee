/-
  A part of the proof (RaBeg, RaNoneK, RaLaid, RaShape): an evaluator of the model's code with its proof, or facts of this program that it reckons. No condition.
-/
import Derived.Test.YtkicilglbphohaaGreatDoorRa6
import Derived.Test.YtkicilglbphohaaGreatDoorRa7
import Derived.Test.YtkicilglbphohaaGreatDoorRa8
import Derived.Test.YtkicilglbphohaaGreatDoorRa9
import Derived.Test.YtkicilglbphohaaGreatDoorRa10
import Derived.Test.YtkicilglbphohaaGreatDoorRa11
import Derived.Test.YtkicilglbphohaaGreatDoorRa12
import Derived.Test.YtkicilglbphohaaGreatDoorRa13
import Derived.Test.YtkicilglbphohaaGreatDoorRa14
import Derived.Test.YtkicilglbphohaaGreatDoorRa15
import Derived.Lib.LaidU8T
import Derived.ProofKit
import Derived.ChangeSame
section
namespace Go.Proofs
open Go Go.Ra Go.RowKit
theorem okB [Coe Bool Int] {f : Nat} {fn : Func} (h : Tryz.prog.funcs[f]? = some fn) (h1 : (fn.name == "runtime.NumGoroutine") = false) (h2 : fn.body.isNone = false) (h3 : OrcOk Tryz.prog E0 f gTrue) : (∃ fn, FtOk Tryz.prog f fn) ∧ OrcOk Tryz.prog E0 f gTrue := ⟨ft_of h h1 h2, h3⟩
theorem names_ok [Coe Bool Int] : (∃ fn, FtOk Tryz.prog 266 fn) ∧ OrcOk Tryz.prog E0 266 gNames := ⟨ft_of Tryz.func266 (by kernel_rfl) (by kernel_rfl), orc_names⟩
theorem begs_ok [Coe Bool Int] {bs : List Nat} (h : ∀ b ∈ bs, (∃ fn, FtOk Tryz.prog b fn) ∧ OrcOk Tryz.prog E0 b gTrue) : OrcsOk Tryz.prog E0 (begs bs) := by
  refine oT_ok ?_
  induction bs with
  | nil => exact ok0
  | cons b bs ih =>
    intro p hp
    rcases List.mem_cons.1 hp with rfl | hp
    · exact h b List.mem_cons_self
    · exact ih (fun b hb => h b (List.mem_cons_of_mem _ hb)) p hp
theorem k1 [Coe Bool Int] : (∃ fn, FtOk Tryz.prog 276 fn) ∧ OrcOk Tryz.prog E0 276 gTrue := okB Tryz.func276 (by kernel_rfl) (by kernel_rfl) (orc_beg (begs_ok (bs := []) (fun _ h => by cases h)) beg1)
theorem k4 [Coe Bool Int] : (∃ fn, FtOk Tryz.prog 369 fn) ∧ OrcOk Tryz.prog E0 369 gTrue := okB Tryz.func369 (by kernel_rfl) (by kernel_rfl) (orc_beg (begs_ok (bs := [276]) (by simp [k1])) beg4)
theorem k7 [Coe Bool Int] : (∃ fn, FtOk Tryz.prog 269 fn) ∧ OrcOk Tryz.prog E0 269 gTrue := okB Tryz.func269 (by kernel_rfl) (by kernel_rfl) (orc_beg (begs_ok (bs := [369, 276]) (by simp [k4, k1])) beg7)
theorem k10 [Coe Bool Int] : (∃ fn, FtOk Tryz.prog 124 fn) ∧ OrcOk Tryz.prog E0 124 gTrue := okB Tryz.func124 (by kernel_rfl) (by kernel_rfl) (orc_beg (begs_ok (bs := [269, 369, 276]) (by simp [k7, k4, k1])) beg10)
theorem k14 [Coe Bool Int] : (∃ fn, FtOk Tryz.prog 125 fn) ∧ OrcOk Tryz.prog E0 125 gTrue := okB Tryz.func125 (by kernel_rfl) (by kernel_rfl) (orc_beg (begs_ok (bs := [276]) (by simp [k1])) beg14)
theorem k16 [Coe Bool Int] : (∃ fn, FtOk Tryz.prog 120 fn) ∧ OrcOk Tryz.prog E0 120 gTrue := okB Tryz.func120 (by kernel_rfl) (by kernel_rfl) (orc_beg (begs_ok (bs := [124, 125, 276]) (by simp [k10, k14, k1])) beg16)
theorem cat_ok [Coe Bool Int] {a b : List (Nat × (List Value → AH → Option (Value × AH)))} (ha : ∀ p ∈ a, (∃ fn, FtOk Tryz.prog p.1 fn) ∧ OrcOk Tryz.prog E0 p.1 p.2) (hb : ∀ p ∈ b, (∃ fn, FtOk Tryz.prog p.1 fn) ∧ OrcOk Tryz.prog E0 p.1 p.2) :
    ∀ p ∈ a ++ b, (∃ fn, FtOk Tryz.prog p.1 fn) ∧ OrcOk Tryz.prog E0 p.1 p.2 := fun p hp => (List.mem_append.1 hp).elim (ha p) (hb p)
theorem two_ok [Coe Bool Int] {f g : Nat} {a b : List Value → AH → Option (Value × AH)} (h1 : (∃ fn, FtOk Tryz.prog f fn) ∧ OrcOk Tryz.prog E0 f a) (h2 : (∃ fn, FtOk Tryz.prog g fn) ∧ OrcOk Tryz.prog E0 g b) :
    ∀ p ∈ [(f, a), (g, b)], (∃ fn, FtOk Tryz.prog p.1 fn) ∧ OrcOk Tryz.prog E0 p.1 p.2 := by
  intro p hp
  simp only [List.mem_cons, List.not_mem_nil, or_false] at hp
  rcases hp with rfl | rfl
  · exact h1
  · exact h2
theorem memos_ok [Coe Bool Int] : ∀ p ∈ memos, (∃ fn, FtOk Tryz.prog p.1 fn) ∧ OrcOk Tryz.prog E0 p.1 p.2 :=
  two_ok ⟨ft_of Tryz.func113 (by kernel_rfl) (by kernel_rfl), orc_tbl tMay_ok⟩ ⟨ft_of Tryz.func382 (by kernel_rfl) (by kernel_rfl), orc_tbl tWidth_ok⟩
theorem maxlen [Coe Bool Int] : E0.pin 0 0 = some (.int .i64 (Coe.coe true)) := rfl
theorem lib2_ok [Coe Bool Int] : ∀ p ∈ lib2, (∃ fn, FtOk Tryz.prog p.1 fn) ∧ OrcOk Tryz.prog E0 p.1 p.2 := by
  refine cat_ok ?_ (cat_ok memos_ok ok0)
  intro p hp
  simp only [List.mem_cons, List.not_mem_nil, or_false] at hp
  rcases hp with rfl | rfl | rfl | rfl
  · exact ⟨ft_of Tryz.func129 (by kernel_rfl) (by kernel_rfl), orc_count1 fun s c w => Tryz.strings_Count_one s c w⟩
  · exact ⟨ft_of Tryz.func130 (by kernel_rfl) (by kernel_rfl), orc_index1 fun s c w => Tryz.strings_Index_one s c w⟩
  · exact ⟨ft_of Tryz.func74 (by kernel_rfl) (by kernel_rfl), orc_itoa fun i hi w => Tryz.strconv_Itoa_small i hi w⟩
  · exact ⟨ft_of Tryz.func199 (by kernel_rfl) (by kernel_rfl), orc_replace maxlen fun s old new w h1 h2 h3 h4 => Tryz.strings_ReplaceAll s old new _ w h1 h2 h3 h4⟩
theorem k18 [Coe Bool Int] : (∃ fn, FtOk Tryz.prog 121 fn) ∧ OrcOk Tryz.prog E0 121 gTrue := okB Tryz.func121 (by kernel_rfl) (by kernel_rfl) (orc_beg (oT_ok (cat_ok (two_ok k10 names_ok) ok0)) beg18)
theorem k20 [Coe Bool Int] : (∃ fn, FtOk Tryz.prog 29 fn) ∧ OrcOk Tryz.prog E0 29 gTrue := okB Tryz.func29 (by kernel_rfl) (by kernel_rfl) (orc_beg (oT_ok (cat_ok (two_ok k16 k18) (cat_ok memos_ok ok0))) beg20)
theorem k22 [Coe Bool Int] : (∃ fn, FtOk Tryz.prog 30 fn) ∧ OrcOk Tryz.prog E0 30 gTrue := okB Tryz.func30 (by kernel_rfl) (by kernel_rfl) (orc_beg (oT_ok (cat_ok (two_ok k10 k14) lib2_ok)) beg22)
/-- begun holds, wherever the tables are laid -/
theorem k24 [Coe Bool Int] : (∃ fn, FtOk Tryz.prog 9 fn) ∧ OrcOk Tryz.prog E0 9 gTrue := okB Tryz.func9 (by kernel_rfl) (by kernel_rfl) (orc_beg (oT_ok (cat_ok (two_ok k20 k22) lib2_ok)) beg24)
end Go.Proofs
end

section
namespace Go.Proofs
open Go Go.Ra
set_option maxRecDepth 100000
noncomputable def oNone : Orc := oT ((9, gTrue) :: lib2)
theorem noneK [Coe Bool Int] : okT (acall (EO E0 oNone) (arun (EO E0 oNone) 100000) 8 [] H0) = true := by kernel_rfl
end Go.Proofs
end

section
namespace Go.Proofs
open Go Go.Ra Go.RowKit Go.Lib Go.Shelf Go.ChangeShapes Go.WideShapes Go.ChangeAt
set_option maxRecDepth 100000
def renU8 : Ren := ⟨id, fun x => if x = 119 then 351 else if x = 138 then 353 else if x = 139 then 354 else x, fun x => if x = 3 then 3 else if x = 4 then 4 else x⟩
theorem u8Types : U8Types Tryz.prog renU8 := ⟨by kernel_rfl, by kernel_rfl, by kernel_rfl, by kernel_rfl⟩
theorem u8Extra : U8Extra Tryz.prog renU8 := ⟨by kernel_rfl, by kernel_rfl, by kernel_rfl, by kernel_rfl, by kernel_rfl, by kernel_rfl, by kernel_rfl⟩
theorem g0_eq [Coe Bool Int] : gcells_3 = (List.range 256).map (fun c => Value.int .u8 (firstT c)) := by kernel_rfl
theorem g1_eq [Coe Bool Int] : gcells_4 = (List.range 32).map (fun j => Value.int .u8 (if j % 2 = 0 then (accLo (j / 2) : Int) else (accHi (j / 2) : Int))) := by kernel_rfl
theorem laid_cells [Coe Bool Int] {w : World} {g : Nat} {b : Blk} (hg : gT.get g = some (.blk b)) (h1 : b.ro = true) (h2 : b.fam = g) (h3 : ones b.cells = true) (_h4 : b.esz = 0) (h5 : b.cells ≠ []) (h6 : b.cells.all constOk = true)
    (hc : ∀ i (h : i < b.cells.length), w.cell? ⟨g, i, none⟩ = some b.cells[i]) :
    ∃ b cs el fr, H0.objs.get g = some (.blk b) ∧ b.ro = true ∧ b.fam = g ∧ ones b.cells = true ∧ w.heap[g]? = some (.cells cs el fr) ∧
      b.cells.length + b.esz * 0 ≤ cs.size ∧ ∀ i (h : i < b.cells.length), cs[i]? = some b.cells[i] ∧ constOk b.cells[i] = true := by
  have h0 := hc 0 (by cases hc : b.cells with | nil => exact absurd hc h5 | cons x l => simp)
  simp only [World.cell?] at h0
  cases hh : w.heap[g]? with
  | none => rw [hh] at h0; cases h0
  | some o =>
    cases o with
    | cells cs el fr =>
      have cell' : ∀ i (hi : i < b.cells.length), cs[i]? = some b.cells[i] := fun i hi => by
        have := hc i hi
        simp only [World.cell?, hh] at this
        simpa using this
      refine ⟨b, cs, el, fr, hg, h1, h2, h3, rfl, ?_, fun i hi => ⟨cell' i hi, List.all_eq_true.1 h6 _ (List.getElem_mem hi)⟩⟩
      rw [Nat.mul_zero, Nat.add_zero]
      rcases Nat.lt_or_ge cs.size b.cells.length with h' | h'
      · have := cell' cs.size h'
        simp at this
      · exact h'
    | _ => rw [hh] at h0; cases h0
theorem laid_of_tabs [Coe Bool Int] {w : World} (hm : w.cell? ⟨0, 0, none⟩ = some (.int .i64 (Coe.coe true))) (h : Lib.Utf8Tabs 3 4 w) : Laid E0 H0 w := by
  intro g hg
  have hg : isG0 g = true := hg
  simp only [isG0, Bool.or_eq_true] at hg
  rcases hg with hg | hg | hg
  · obtain rfl := Nat.eq_of_beq_eq_true hg
    refine laid_cells (b := gblk_0) rfl rfl rfl (by kernel_rfl) rfl (fun h => by cases h) (by kernel_rfl) fun i hi => ?_
    have hi : i < 1 := hi
    obtain rfl : i = 0 := by omega
    exact hm
  · obtain rfl := Nat.eq_of_beq_eq_true hg
    refine laid_cells (b := gblk_3) rfl rfl rfl (by kernel_rfl) rfl (fun h => by cases h) (by kernel_rfl) fun i hi => ?_
    have hi : i < gcells_3.length := hi
    have hl : gcells_3.length = 256 := by rw [g0_eq]; simp
    rw [h.1 i (by omega)]
    show _ = some gcells_3[i]
    congr 1
    simp only [g0_eq, List.getElem_map, List.getElem_range]
  · obtain rfl := Nat.eq_of_beq_eq_true hg
    refine laid_cells (b := gblk_4) rfl rfl rfl (by kernel_rfl) rfl (fun h => by cases h) (by kernel_rfl) fun i hi => ?_
    have hi : i < gcells_4.length := hi
    have hl : gcells_4.length = 32 := by rw [g1_eq]; simp
    show _ = some gcells_4[i]
    have e : gcells_4[i] = Value.int .u8 (if i % 2 = 0 then (accLo (i / 2) : Int) else (accHi (i / 2) : Int)) := by
      simp only [g1_eq, List.getElem_map, List.getElem_range]
    rw [e]
    obtain ⟨a, b⟩ := h.2 (i / 2) (by omega)
    by_cases hm : i % 2 = 0
    · rw [if_pos hm, ← a, show 2 * (i / 2) = i by omega]
    · rw [if_neg hm, ← b, show 2 * (i / 2) + 1 = i by omega]
theorem laid_of [Coe Bool Int] {w : World} (hm : w.cell? ⟨0, 0, none⟩ = some (.int .i64 (Coe.coe true))) (h3 : VarReads Tryz.prog w "unicode/utf8.first" firstData) (h4 : VarReads Tryz.prog w "unicode/utf8.acceptRanges" acceptData) : Laid E0 H0 w :=
  laid_of_tabs hm (utf8Tabs_of_readsT u8Types u8Extra h3 h4)

/-- a closed call -/
theorem closed_calls [Coe Bool Int] {W : World} (hl : Laid E0 H0 W) {o : Orc} (ho : OrcsOk Tryz.prog E0 o) {f : Nat} (h : okT (acall (EO E0 o) (arun (EO E0 o) 100000) f [] H0) = true) :
    Calls Tryz.prog f #[] W fun e w' => e = .returned (.bool true) ∧ Below W.heap.size W w' := by
  obtain ⟨H', h⟩ := okT_some h
  refine callsIn_wide.1 ((acall_with mixed envOk orc0 ho h (rep0 first0 hl) (us := #[]) .nil).mono fun e w' he => ?_)
  obtain ⟨u, ψ, g1, g2, g3, g4, g5⟩ := he
  have hu : u = .bool true := by cases g4; rfl
  subst hu
  exact ⟨g1, g5.os, g5.tape, g5.out, g5.size, fun k hk => g5.keep k hk⟩

/-- A listed place holds what it held; so what is laid down as read is read behind. -/
theorem post_of_below {H : Type} {enc : TypeId × Value → H} {P : Program} {f : Func} {s : ChangeSpec} {apart fresh handsOn again : Bool} {W W' : World} {args : Array Value} {v : Value} {ds gs : List (DataW H)} {before pa pv : List MemPlace}
    (hW : DataW.Whole enc P f.params.toList s.vars apart W args.toList ds gs before)
    (hres : ∀ (b : Nat) (sp : Nat → Bool) (hd : Bool), DataW.TrodAll enc P W' b sp hd f.resultTypes.toList (v.resultList f.resultTypes.size) (s.fn H (ds ++ gs)).results [])
    (hargs : ∀ sp : Nat → Bool, (∀ p ∈ before, sp p.block = true) → DataW.TrodAll enc P W' 0 sp true f.params.toList args.toList (s.fn H (ds ++ gs)).args pa)
    (hvars : ∀ sp : Nat → Bool, (∀ p ∈ before, sp p.block = true) → DataW.TrodVars enc P W' sp s.vars (s.fn H (ds ++ gs)).vars pv)
    (hps : before = pa ++ pv) (hb : Below W.heap.size W W')
    (hok : ∀ (j : Nat) (t : TypeId) (r : Value), f.resultTypes[j]? = some t → (v.resultList f.resultTypes.size)[j]? = some r → Value.okWide P W' .any 0 t r) :
    s.post enc P f apart fresh handsOn again W args v W' := by
  have hold : ∀ p ∈ before, (fun b => decide (b < W.heap.size)) p.block = true := fun p hp => by simpa using hW.lt p hp
  refine ⟨ds, gs, before, [], pa, pv, hW, hres _ _ _, hargs _ hold, hvars _ hold, World.keptBut_mono (fun p hp => ⟨hp, ?_⟩) (hb.frame (· ∈ before)), fun _ => ?_⟩
  · rw [hps, List.mem_append] at hp
    exact Or.inr hp
  · have hlt := hW.lt
    obtain ⟨_, _, _, _, _, hz, hn⟩ := hW
    refine ⟨hok, _, _, ([] ++ pa) ++ pv, ⟨[] ++ pa, pv, trodAll_append (hargs _ (fun _ _ => rfl)) (hres _ _ _), hvars _ (fun _ _ => rfl), rfl, ?_, ?_⟩, ?_⟩
    · intro b off hp
      have hp' : MemPlace.cell b off ∈ before := by rw [hps]; simpa using hp
      have h1 := hlt _ hp'
      have : W'.frozen? ⟨b, off, none⟩ = W.frozen? ⟨b, off, none⟩ := by simp only [World.frozen?]; rw [hb.block b h1]
      rw [this]
      exact hz b off hp'
    · intro ha
      have := hn ha
      rw [hps] at this
      simpa using this
    · intro p hp _
      rw [hps]
      simpa using hp
end Go.Proofs
end

section
namespace Go.Proofs
open Go Go.Ra
/-- A variable of an integer's type holds some integer of its kind. -/
theorem int_of_shape {P : Program} {w : World} {g : Nat} {t : TypeId} {k : IntKind} {zero : Array Value} (h : w.ShapedOpen P) (hg : g < P.globals.size)
    (h0 : ((begin P (fun _ _ => 0) default).world.heap[g]?).bind Obj.row? = some (zero, t)) (hz : zero.size = 1)
    (hb : P.buildable t = true) (hc : P.cellTypes P.depth t = some [t]) (hu : P.underlying t = some (.int k)) : ∃ m, w.cell? ⟨g, 0, none⟩ = some (.int k m) := by
  obtain ⟨cs, hh, hs, hr⟩ := h.1 g zero t hg h0
  obtain ⟨ts, hts, _, hall⟩ := hr hb
  rw [hc] at hts
  cases hts
  have h1 : 0 < cs.size := by omega
  obtain ⟨u, hu', hok⟩ := hall 0 cs[0] (by simp [h1])
  have : u = t := by simpa using hu'.symm
  subst this
  have hcell : w.cell? ⟨g, 0, none⟩ = some cs[0] := by simp [World.cell?, hh, h1]
  rw [hcell]
  unfold Cell.ok at hok
  rw [hu] at hok
  cases hv : cs[0] with
  | int k' n =>
    rw [hv] at hok
    simp only [IntKind.has] at hok
    obtain ⟨rfl, _⟩ := hok
    exact ⟨_, rfl⟩
  | _ => rw [hv] at hok; simp at hok
theorem maxlen_of_shape {w : World} (h : w.ShapedOpen Tryz.prog) : ∃ m, w.cell? ⟨0, 0, none⟩ = some (.int .i64 m) :=
  int_of_shape (t := 3) (zero := #[.int .i64 0]) h (of_decide_eq_true (by kernel_rfl)) (by kernel_rfl) rfl (by kernel_rfl) (by kernel_rfl) (by kernel_rfl)
end Go.Proofs
end


/-
  A part of the proof (RaLaid, RaMarkX): an evaluator of the model's code with its proof, or facts of this program that it reckons. No condition.
-/
import Derived.Test.YtlpeihabbkgnbaaGreatDoorRb6
import Derived.Lib.LaidU8T
import Derived.ProofKit
import Derived.ChangeSame
import Derived.Test.YtlpeihabbkgnbaaGreatDoorRb16
import Derived.Test.YtlpeihabbkgnbaaGreatDoorRb14
section
namespace Go.Proofs
open Go Go.Ra Go.RowKit Go.Lib Go.Shelf Go.ChangeShapes Go.WideShapes Go.ChangeAt
set_option maxRecDepth 100000
def renU8 : Ren := ⟨id, fun x => if x = 119 then 204 else if x = 138 then 206 else if x = 139 then 207 else x, fun x => x - 3⟩
theorem u8Types : U8Types Tryz.prog renU8 := ⟨by kernel_rfl, by kernel_rfl, by kernel_rfl, by kernel_rfl⟩
theorem u8Extra : U8Extra Tryz.prog renU8 := ⟨by kernel_rfl, by kernel_rfl, by kernel_rfl, by kernel_rfl, by kernel_rfl, by kernel_rfl, by kernel_rfl⟩
theorem g0_eq : gcells_0 = (List.range 256).map (fun c => Value.int .u8 (firstT c)) := by kernel_rfl
theorem g1_eq : gcells_1 = (List.range 32).map (fun j => Value.int .u8 (if j % 2 = 0 then (accLo (j / 2) : Int) else (accHi (j / 2) : Int))) := by kernel_rfl
theorem laid_cells {w : World} {g : Nat} {b : Blk} (hg : gT.get g = some (.blk b)) (h1 : b.ro = true) (h2 : b.fam = g) (h3 : ones b.cells = true) (_h4 : b.esz = 0) (h5 : b.cells ≠ []) (h6 : b.cells.all constOk = true)
    (hc : ∀ i (h : i < b.cells.length), w.cell? ⟨g, i, none⟩ = some b.cells[i]) :
    ∃ b cs el fr, H0.objs.get g = some (.blk b) ∧ b.ro = true ∧ b.fam = g ∧ ones b.cells = true ∧ w.heap[g]? = some (.cells cs el fr) ∧
      b.cells.length + b.esz * 0 ≤ cs.size ∧ ∀ i (h : i < b.cells.length), cs[i]? = some b.cells[i] ∧ constOk b.cells[i] = true := by
  have h0 := hc 0 (by cases hc : b.cells with | nil => exact absurd hc h5 | cons x l => simp)
  simp only [World.cell?] at h0
  cases hh : w.heap[g]? with
  | none => rw [hh] at h0; cases h0
  | some o =>
    cases o with
    | cells cs el fr =>
      have cell' : ∀ i (hi : i < b.cells.length), cs[i]? = some b.cells[i] := fun i hi => by
        have := hc i hi
        simp only [World.cell?, hh] at this
        simpa using this
      refine ⟨b, cs, el, fr, hg, h1, h2, h3, rfl, ?_, fun i hi => ⟨cell' i hi, List.all_eq_true.1 h6 _ (List.getElem_mem hi)⟩⟩
      rw [Nat.mul_zero, Nat.add_zero]
      rcases Nat.lt_or_ge cs.size b.cells.length with h' | h'
      · have := cell' cs.size h'
        simp at this
      · exact h'
    | _ => rw [hh] at h0; cases h0
theorem laid_of_tabs {w : World} (h : Lib.Utf8Tabs 0 1 w) : Laid E0 H0 w := by
  intro g hg
  have hg : isG0 g = true := hg
  simp only [isG0, Bool.or_eq_true] at hg
  rcases hg with hg | hg
  · obtain rfl := Nat.eq_of_beq_eq_true hg
    refine laid_cells (b := gblk_0) rfl rfl rfl (by kernel_rfl) rfl (fun h => by cases h) (by kernel_rfl) fun i hi => ?_
    have hi : i < gcells_0.length := hi
    have hl : gcells_0.length = 256 := by rw [g0_eq]; simp
    rw [h.1 i (by omega)]
    show _ = some gcells_0[i]
    congr 1
    simp only [g0_eq, List.getElem_map, List.getElem_range]
  · obtain rfl := Nat.eq_of_beq_eq_true hg
    refine laid_cells (b := gblk_1) rfl rfl rfl (by kernel_rfl) rfl (fun h => by cases h) (by kernel_rfl) fun i hi => ?_
    have hi : i < gcells_1.length := hi
    have hl : gcells_1.length = 32 := by rw [g1_eq]; simp
    show _ = some gcells_1[i]
    have e : gcells_1[i] = Value.int .u8 (if i % 2 = 0 then (accLo (i / 2) : Int) else (accHi (i / 2) : Int)) := by
      simp only [g1_eq, List.getElem_map, List.getElem_range]
    rw [e]
    obtain ⟨a, b⟩ := h.2 (i / 2) (by omega)
    by_cases hm : i % 2 = 0
    · rw [if_pos hm, ← a, show 2 * (i / 2) = i by omega]
    · rw [if_neg hm, ← b, show 2 * (i / 2) + 1 = i by omega]
theorem laid_of {w : World} (h3 : VarReads Tryz.prog w "unicode/utf8.first" firstData) (h4 : VarReads Tryz.prog w "unicode/utf8.acceptRanges" acceptData) : Laid E0 H0 w :=
  laid_of_tabs (utf8Tabs_of_readsT u8Types u8Extra h3 h4)

/-- a closed call -/
theorem closed_calls {W : World} (hl : Laid E0 H0 W) {o : Orc} (ho : OrcsOk Tryz.prog E0 o) {f : Nat} (h : okT (acall (EO E0 o) (arun (EO E0 o) 100000) f [] H0) = true) :
    Calls Tryz.prog f #[] W fun e w' => e = .returned (.bool true) ∧ Below W.heap.size W w' := by
  obtain ⟨H', h⟩ := okT_some h
  refine callsIn_wide.1 ((acall_with mixed envOk orc0 ho h (rep0 first0 hl) (us := #[]) .nil).mono fun e w' he => ?_)
  obtain ⟨u, ψ, g1, g2, g3, g4, g5⟩ := he
  have hu : u = .bool true := by cases g4; rfl
  subst hu
  exact ⟨g1, g5.os, g5.tape, g5.out, g5.size, fun k hk => g5.keep k hk⟩

/-- A listed place holds what it held; so what is laid down as read is read behind. -/
theorem post_of_below {H : Type} {enc : TypeId × Value → H} {P : Program} {f : Func} {s : ChangeSpec} {apart fresh handsOn again : Bool} {W W' : World} {args : Array Value} {v : Value} {ds gs : List (DataW H)} {before pa pv : List MemPlace}
    (hW : DataW.Whole enc P f.params.toList s.vars apart W args.toList ds gs before)
    (hres : ∀ (b : Nat) (sp : Nat → Bool) (hd : Bool), DataW.TrodAll enc P W' b sp hd f.resultTypes.toList (v.resultList f.resultTypes.size) (s.fn H (ds ++ gs)).results [])
    (hargs : ∀ sp : Nat → Bool, (∀ p ∈ before, sp p.block = true) → DataW.TrodAll enc P W' 0 sp true f.params.toList args.toList (s.fn H (ds ++ gs)).args pa)
    (hvars : ∀ sp : Nat → Bool, (∀ p ∈ before, sp p.block = true) → DataW.TrodVars enc P W' sp s.vars (s.fn H (ds ++ gs)).vars pv)
    (hps : before = pa ++ pv) (hb : Below W.heap.size W W')
    (hok : ∀ (j : Nat) (t : TypeId) (r : Value), f.resultTypes[j]? = some t → (v.resultList f.resultTypes.size)[j]? = some r → Value.okWide P W' .any 0 t r) :
    s.post enc P f apart fresh handsOn again W args v W' := by
  have hold : ∀ p ∈ before, (fun b => decide (b < W.heap.size)) p.block = true := fun p hp => by simpa using hW.lt p hp
  refine ⟨ds, gs, before, [], pa, pv, hW, hres _ _ _, hargs _ hold, hvars _ hold, World.keptBut_mono (fun p hp => ⟨hp, ?_⟩) (hb.frame (· ∈ before)), fun _ => ?_⟩
  · rw [hps, List.mem_append] at hp
    exact Or.inr hp
  · have hlt := hW.lt
    obtain ⟨_, _, _, _, _, hz, hn⟩ := hW
    refine ⟨hok, _, _, ([] ++ pa) ++ pv, ⟨[] ++ pa, pv, trodAll_append (hargs _ (fun _ _ => rfl)) (hres _ _ _), hvars _ (fun _ _ => rfl), rfl, ?_, ?_⟩, ?_⟩
    · intro b off hp
      have hp' : MemPlace.cell b off ∈ before := by rw [hps]; simpa using hp
      have h1 := hlt _ hp'
      have : W'.frozen? ⟨b, off, none⟩ = W.frozen? ⟨b, off, none⟩ := by simp only [World.frozen?]; rw [hb.block b h1]
      rw [this]
      exact hz b off hp'
    · intro ha
      have := hn ha
      rw [hps] at this
      simpa using this
    · intro p hp _
      rw [hps]
      simpa using hp
end Go.Proofs
end

section
namespace Go.Proofs
open Go Go.Ra Go.RowKit
set_option maxRecDepth 100000
theorem oMk_ok : OrcsOk Tryz.prog E0 oMk := by
  refine oT_ok ?_
  intro p hp
  rcases List.mem_append.1 hp with hp | hp
  · simp only [List.mem_cons, List.not_mem_nil, or_false] at hp
    rcases hp with rfl | rfl
    · exact ⟨ft_of Tryz.func95 (by kernel_rfl) (by kernel_rfl), orc_tbl tMay2_ok⟩
    · exact ⟨ft_of Tryz.func138 (by kernel_rfl) (by kernel_rfl), orc_tbl tWidth2_ok⟩
  · exact ok0 p hp
/-- the abstract heap stands for the world (from W on), the abstract value for the value -/
def At (W : World) (H : AH) (v u : Value) (w : World) : Prop := ∃ φ, Rep (POE E0) E0 (fun b => b < W.heap.size) W φ H w ∧ VR φ v u
theorem At.below {W w w' : World} {H : AH} {v u : Value} (h : At W H v u w) (hb : Below w.heap.size w w') : At W H v u w' := by
  obtain ⟨φ, hR, hv⟩ := h
  exact ⟨φ, hR.agree (fun X l e => hb.block _ (hR.inHeap e)) (fun b hS => hb.block b (Nat.lt_of_lt_of_le hS hR.size)) hb.size hb.os hb.output hb.tape, hv⟩
theorem At.call {W w : World} {H H' : AH} {v v' u : Value} {f : Nat} {l : List Value} {us : Array Value} (h : At W H v u w) (hc : ev f (v :: l) H = some (v', H')) (hus : ∀ φ : Emb, VRl φ l us.toList) :
    Calls Tryz.prog f ⟨u :: us.toList⟩ w fun e w' => ∃ u', e = .returned u' ∧ At W H' v' u' w' ∧ At W H' v u w' := by
  obtain ⟨φ, hR, hv⟩ := h
  refine callsIn_wide.1 ((acall_with mixed envOk orc0 oMk_ok hc hR.here (us := ⟨u :: us.toList⟩) (.cons hv (hus φ))).mono fun e w' he => ?_)
  obtain ⟨u', ψ, g1, g2, g3, g4, g5⟩ := he
  exact ⟨u', g1, ⟨ψ, hR.unbase g5 (fun _ hb => hb), g4⟩, ⟨ψ, hR.unbase g5 (fun _ hb => hb), hv.mono (Ext.le hR g2)⟩⟩

theorem nameOf_some {m : List (Nat × Nat)} {k : Nat} (h : k ∈ m.map (·.1)) : nameOf m k ≠ none := by
  induction m with
  | nil => cases h
  | cons p l ih =>
    unfold nameOf
    cases hb : Nat.beq p.1 k with
    | true => intro e; cases e
    | false =>
      rw [List.map_cons, List.mem_cons] at h
      rcases h with rfl | h
      · rw [Nat.beq_refl] at hb; cases hb
      · exact ih h
theorem At.pick {W w : World} {H HR : AH} {v v' u : Value} {l : List (Nat × Nat)} {K : List Nat} (h : At W H v u w) (hp : pickB E0 ((0, 0) :: (1, 1) :: l) H HR = true) (hr : renB ((0, 0) :: (1, 1) :: l) v' v = true)
    (hK : ((0, 0) :: (1, 1) :: l).map (·.1) = K) (hT : trAll (fun k _ => K.any (Nat.beq k)) HR.objs id = true) (hf : HR.fams = .nil) : At W HR v' u w := by
  obtain ⟨φ, hR, hv⟩ := h
  refine ⟨_, hR.pick hp (fun k hk => ?_) (fun f => by rw [hf]; exact Tr.get_nil f) (fun g hg => ?_), renB_VR hr hv⟩
  · cases ho : HR.objs.get k with
    | none => rfl
    | some o =>
      exfalso
      have h1 := (trAll_ok (Q := fun k _ => K.any (Nat.beq k) = true) (fun _ _ h => h) hT).get k o ho
      obtain ⟨j, hj, hkj⟩ := List.any_eq_true.1 h1
      have : k = j := Nat.eq_of_beq_eq_true hkj
      subst this
      exact nameOf_some (by rw [hK]; exact hj) hk
  · have hg : isG0 g = true := hg
    simp only [isG0, Bool.or_eq_true] at hg
    rcases hg with hg | hg
    · obtain rfl := Nat.eq_of_beq_eq_true hg; rfl
    · obtain rfl := Nat.eq_of_beq_eq_true hg; rfl
def K1 : List Nat := [0, 1, 10, 11, 12, 13, 14]
def K2 : List Nat := [0, 1, 20, 21, 22, 23, 24, 25]
theorem keys1 (v : Value) (H : AH) : (m1 v H).map (·.1) = K1 := rfl
theorem keys2 (v : Value) (H : AH) : (m2 v H).map (·.1) = K2 := rfl
theorem tr1 : trAll (fun k _ => K1.any (Nat.beq k)) HR1.objs id = true := by kernel_rfl
theorem tr2 (r c mr mc k : Int) : trAll (fun k _ => K2.any (Nat.beq k)) (HS r c mr mc k).objs id = true := by kernel_rfl
theorem takeB_get {r : Option (Value × AH)} {mk : Value → AH → List (Nat × Nat)} {v' : Value} {HR : AH} (h : takeB r mk v' HR = true) : ∃ v H, r = some (v, H) ∧ pickB E0 (mk v H) H HR = true ∧ renB (mk v H) v' v = true := by
  unfold takeB at h
  split at h
  · rename_i v H
    rw [Bool.and_eq_true] at h
    exact ⟨v, H, rfl, h.1, h.2⟩
  · cases h
end Go.Proofs
end


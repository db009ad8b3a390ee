/-
  A part of the proof (RaPick): an evaluator of the model's code with its proof, or facts of this program that it reckons. No condition.
-/
import Derived.Test.YtlpeihabbkgnbaaGreatDoorRb6
section
/-! What an evaluation has left behind, taken over into a small heap that is written out. -/
namespace Go.Ra
open Go.RowKit
section
variable {PO : PlanOk} {E : Env} {S : Nat → Prop} {w0 w w' : World} {φ : Emb} {H HR : AH}

/-- the new name of an old block -/
noncomputable def nameOf : List (Nat × Nat) → Nat → Option Nat
  | [], _ => none
  | p :: l, k => bif Nat.beq p.1 k then some p.2 else nameOf l k
noncomputable def oeq (o : Option Nat) (X : Nat) : Bool := match o with | some Y => Nat.beq Y X | none => false
/-- the new value is the old one, its pointers renamed -/
noncomputable def renB (m : List (Nat × Nat)) (v' v : Value) : Bool := match v', v with
  | .pointer (some ⟨k, i, none⟩), .pointer (some ⟨X, j, none⟩) => oeq (nameOf m k) X && Nat.beq i j
  | .slice (some ⟨k, i, none⟩) n c, .slice (some ⟨X, j, none⟩) n' c' => oeq (nameOf m k) X && Nat.beq i j && Nat.beq n n' && Nat.beq c c' && Nat.ble 1 n
  | .pointer none, .pointer none => true
  | .slice none 0 0, .slice none 0 0 => true
  | .nilFunc, .nilFunc => true
  | .nilIface, .nilIface => true
  | .map none, .map none => true
  | a, b => argEq a b
noncomputable def rens (m : List (Nat × Nat)) : List Value → List Value → Bool
  | [], [] => true
  | a :: l, b :: k => renB m a b && rens m l k
  | _, _ => false
noncomputable def embOf (m : List (Nat × Nat)) (φ : Emb) : Emb := fun k => (nameOf m k).bind φ

theorem oeq_eq {o : Option Nat} {X : Nat} (h : oeq o X = true) : o = some X := by
  unfold oeq at h
  split at h
  · rw [Nat.eq_of_beq_eq_true h]
  · cases h
theorem renB_VR {m : List (Nat × Nat)} {v' v u : Value} (h : renB m v' v = true) (hv : VR φ v u) : VR (embOf m φ) v' u := by
  unfold renB at h
  split at h
  · rename_i k i X j
    simp only [Bool.and_eq_true] at h
    obtain ⟨h1, h2⟩ := h
    have hk := oeq_eq h1
    have := Nat.eq_of_beq_eq_true h2
    subst this
    cases hv with
    | ptr hX => exact .ptr (by unfold embOf; rw [hk]; exact hX)
  · rename_i k i n c X j n' c'
    simp only [Bool.and_eq_true] at h
    obtain ⟨⟨⟨⟨h1, h2⟩, h3⟩, h4⟩, h5⟩ := h
    have h5 := Nat.le_of_ble_eq_true h5
    have hk := oeq_eq h1
    have := Nat.eq_of_beq_eq_true h2
    subst this
    have := Nat.eq_of_beq_eq_true h3
    subst this
    have := Nat.eq_of_beq_eq_true h4
    subst this
    have he : ∀ {Y : Nat} {l : Loc}, φ Y = some l → Y = X → embOf m φ k = some l := fun e e' => by unfold embOf; rw [hk, ← e']; exact e
    generalize hs : Value.slice (some ⟨X, i, none⟩) n c = s at hv
    cases hv with
    | sexact hX hc => cases hs; exact .sexact (he hX rfl) hc
    | sopen hX hc => cases hs; exact .sopen (he hX rfl) hc
    | svoid a c' =>
      injection hs with e1 e2 e3
      omega
    | _ => cases hs
  · cases hv; exact .pnil
  · cases hv; exact .snil
  · cases hv; exact .nilFunc
  · cases hv; exact .nilIface
  · cases hv; exact .mapnil
  · obtain ⟨rfl, hp⟩ := argEq_eq h
    rw [plainV_inv hp hv]
    exact plainV_VR hp
theorem rens_get {m : List (Nat × Nat)} : ∀ {l k : List Value}, rens m l k = true → l.length = k.length ∧ ∀ i (h1 : i < l.length) (h2 : i < k.length), renB m l[i] k[i] = true
  | [], [], _ => ⟨rfl, fun i h => absurd h (Nat.not_lt_zero i)⟩
  | [], _ :: _, h => by simp [rens] at h
  | _ :: _, [], h => by simp [rens] at h
  | a :: l, b :: k, h => by
    simp only [rens, Bool.and_eq_true] at h
    obtain ⟨e, hr⟩ := rens_get h.2
    refine ⟨by simp [e], fun i h1 h2 => ?_⟩
    cases i with
    | zero => exact h.1
    | succ i => exact hr i (by simpa using h1) (by simpa using h2)

/-- is an old cell readable? -/
noncomputable def rdbB (H : AH) (X : Nat) (b : Blk) : Bool := match H.fams.get b.fam with
  | none => true
  | some p => Nat.beq p.1 X || Nat.ble (b.cells.length + b.sh) p.2
/-- one block: the new one is the old one, renamed -/
noncomputable def pick1 (m : List (Nat × Nat)) (H HR : AH) (p : Nat × Nat) : Bool := match HR.objs.get p.1, H.objs.get p.2 with
  | some (.blk b'), some (.blk b) => rens m b'.cells b.cells && Nat.beq b'.esz b.esz && (b'.ro == b.ro) && Nat.beq b'.fam p.1 && ones b'.cells && Nat.blt p.1 HR.next && rdbB H p.2 b
  | _, _ => false
/-- no two of one family -/
noncomputable def famOf (H : AH) (X : Nat) : Option Nat := match H.objs.get X with | some (.blk b) => some b.fam | _ => none
noncomputable def apartB (H : AH) (m : List (Nat × Nat)) : List (Nat × Nat) → Bool
  | [] => true
  | p :: l => l.all (fun q => !(Nat.beq p.2 q.2) && (match famOf H p.2, famOf H q.2 with | some a, some b => !(Nat.beq a b) | _, _ => false)) && apartB H m l
/-- the whole check -/
noncomputable def pickB (_E : Env) (m : List (Nat × Nat)) (H HR : AH) : Bool :=
  m.all (pick1 m H HR) && apartB H m m && m.all (fun p => match nameOf m p.1 with | some X => Nat.beq X p.2 | none => false)

theorem nameOf_mem {m : List (Nat × Nat)} {k X : Nat} (h : nameOf m k = some X) : (k, X) ∈ m := by
  induction m with
  | nil => cases h
  | cons p l ih =>
    unfold nameOf at h
    cases hb : Nat.beq p.1 k with
    | true =>
      rw [hb] at h
      cases h
      have := Nat.eq_of_beq_eq_true hb
      subst this
      exact List.mem_cons_self
    | false => rw [hb] at h; exact List.mem_cons_of_mem _ (ih h)
theorem apartB_ok {m0 : List (Nat × Nat)} : ∀ {m : List (Nat × Nat)}, apartB H m0 m = true → m.Pairwise fun p q => p.2 ≠ q.2 ∧ ∀ b c, H.objs.get p.2 = some (.blk b) → H.objs.get q.2 = some (.blk c) → b.fam ≠ c.fam
  | [], _ => .nil
  | p :: l, h => by
    simp only [apartB, Bool.and_eq_true, List.all_eq_true] at h
    refine .cons (fun q hq => ?_) (apartB_ok h.2)
    have h0 := h.1 q hq
    obtain ⟨h1, h2⟩ := h0
    refine ⟨fun e => (by rw [e, Nat.beq_refl] at h1; cases h1), fun b c hb hc e => ?_⟩
    simp only [famOf, hb, hc, e, Nat.beq_refl] at h2
    cases h2

theorem Rep.pick (h : Rep PO E S w0 φ H w) {m : List (Nat × Nat)} (hB : pickB E m H HR = true) (hall : ∀ k, nameOf m k = none → HR.objs.get k = none) (hff : ∀ f, HR.fams.get f = none) (hg : ∀ g, E.isG g = true → nameOf m g = some g) :
    Rep PO E S w0 (embOf m φ) HR w := by
  simp only [pickB, Bool.and_eq_true, List.all_eq_true] at hB
  obtain ⟨⟨h1, h2⟩, _⟩ := hB
  have hap := apartB_ok h2
  have one : ∀ {k X : Nat}, nameOf m k = some X → ∃ b' b, HR.objs.get k = some (.blk b') ∧ H.objs.get X = some (.blk b) ∧ rens m b'.cells b.cells = true ∧ b'.esz = b.esz ∧ b'.ro = b.ro ∧ b'.fam = k ∧ ones b'.cells = true ∧ k < HR.next ∧ rdbB H X b = true := fun {k X} e => by
    have hp := h1 _ (nameOf_mem e)
    unfold pick1 at hp
    split at hp
    · rename_i b' b e1 e2
      simp only [Bool.and_eq_true] at hp
      obtain ⟨⟨⟨⟨⟨⟨a1, a2⟩, a3⟩, a4⟩, a5⟩, a6⟩, a7⟩ := hp
      exact ⟨b', b, e1, e2, a1, Nat.eq_of_beq_eq_true a2, by simpa using a3, Nat.eq_of_beq_eq_true a4, a5, Nat.le_of_ble_eq_true a6, a7⟩
    · cases hp
  have un : ∀ {k : Nat} {l : Loc}, embOf m φ k = some l → ∃ X, nameOf m k = some X ∧ φ X = some l := fun {k l} e => by
    unfold embOf at e
    cases hn : nameOf m k with
    | none => rw [hn] at e; cases e
    | some X => rw [hn] at e; exact ⟨X, rfl, e⟩
  have obj : ∀ {k : Nat} {o : AObj}, HR.objs.get k = some o → ∃ X, nameOf m k = some X := fun {k o} e => by
    cases hn : nameOf m k with
    | none => rw [hall k hn] at e; cases e
    | some X => exact ⟨X, rfl⟩
  exact
    { dom := fun k l e => by obtain ⟨X, e1, _⟩ := un e; obtain ⟨b', _, e2, _⟩ := one e1; exact ⟨_, e2⟩
      fresh := fun k hk => by
        cases hn : nameOf m k with
        | none => exact hall k hn
        | some X => obtain ⟨_, _, _, _, _, _, _, _, _, hlt, _⟩ := one hn; omega
      ffresh := fun f _ => hff f
      flt := fun k b e => by
        obtain ⟨X, e1⟩ := obj e
        obtain ⟨b', _, e2, _, _, _, _, e3, _, hlt, _⟩ := one e1
        rw [e2] at e; cases e
        rw [e3]; exact hlt
      fam1 := fun k b e _ => by
        obtain ⟨X, e1⟩ := obj e
        obtain ⟨b', _, e2, _, _, _, _, e3, _⟩ := one e1
        rw [e2] at e; cases e
        exact e3
      one := fun k b e => by
        obtain ⟨X, e1⟩ := obj e
        obtain ⟨b', _, e2, _, _, _, _, _, e3, _⟩ := one e1
        rw [e2] at e; cases e
        exact e3
      blk := fun k l b' e ho => by
        obtain ⟨X, e1, e2⟩ := un e
        obtain ⟨c', b, e3, e4, a1, a2, a3, a4, a5, a6, a7⟩ := one e1
        rw [e3] at ho; cases ho
        obtain ⟨cs, el, fr, hb⟩ := h.blk X l b e2 e4
        obtain ⟨hl, hr⟩ := rens_get a1
        refine ⟨cs, el, fr, ⟨hb.here, by rw [hl, a2]; exact hb.room, fun hro => hb.free (by rw [← a3]; exact hro), fun i hi _ => ?_⟩⟩
        have hi2 : i < b.cells.length := by omega
        have hrd : Rdb H X b i := by
          unfold Rdb
          unfold rdbB at a7
          split at a7
          · rename_i hf; rw [hf]; trivial
          · rename_i p hf
            rw [hf]
            rw [Bool.or_eq_true] at a7
            rcases a7 with a7 | a7
            · exact .inl (Nat.eq_of_beq_eq_true a7)
            · have := Nat.le_of_ble_eq_true a7
              exact .inr (by omega)
        obtain ⟨u, hu, hv⟩ := hb.cell i hi2 hrd
        exact ⟨u, hu, renB_VR (hr i hi hi2) hv⟩
      loop := fun k l r e ho => by
        obtain ⟨X, e1, _⟩ := un e
        obtain ⟨c', b, e3, _⟩ := one e1
        rw [e3] at ho; cases ho
      iter := fun k l s p e ho => by
        obtain ⟨X, e1, _⟩ := un e
        obtain ⟨c', b, e3, _⟩ := one e1
        rw [e3] at ho; cases ho
      share := fun k j l n e f hln => by
        obtain ⟨X, e1, e2⟩ := un e
        obtain ⟨Y, f1, f2⟩ := un f
        by_cases hkj : k = j
        · exact .inl hkj
        exfalso
        obtain ⟨_, b, _, e4, _⟩ := one e1
        obtain ⟨_, c, _, f4, _⟩ := one f1
        have hne : X ≠ Y ∧ b.fam ≠ c.fam := by
          have key : ∀ {m' : List (Nat × Nat)}, m'.Pairwise (fun p q => p.2 ≠ q.2 ∧ ∀ b c, H.objs.get p.2 = some (.blk b) → H.objs.get q.2 = some (.blk c) → b.fam ≠ c.fam) → (k, X) ∈ m' → (j, Y) ∈ m' → X ≠ Y ∧ b.fam ≠ c.fam := by
            intro m' hp
            induction hp with
            | nil => intro h'; cases h'
            | cons hx _ ih =>
              intro ha hb
              rcases List.mem_cons.1 ha with ha' | ha' <;> rcases List.mem_cons.1 hb with hb' | hb'
              · exact absurd (congrArg Prod.fst (ha'.trans hb'.symm)) hkj
              · have := hx _ hb'; rw [← ha'] at this; exact ⟨this.1, this.2 b c e4 f4⟩
              · have := hx _ ha'; rw [← hb'] at this; exact ⟨this.1.symm, (this.2 c b f4 e4).symm⟩
              · exact ih ha' hb'
          exact key hap (nameOf_mem e1) (nameOf_mem f1)
        rcases h.share X Y l n e2 f2 hln with h' | ⟨b2, c2, g1, g2, g3, _⟩
        · exact hne.1 h'
        · rw [e4] at g1; cases g1
          rw [f4] at g2; cases g2
          exact hne.2 g3
      size := h.size, keep := h.keep, sdom := h.sdom
      safe := fun k l e hs => by
        obtain ⟨X, e1, e2⟩ := un e
        obtain ⟨c', b, e3, e4, _, _, a3, _⟩ := one e1
        obtain ⟨b2, g1, g2⟩ := h.safe X l e2 hs
        rw [e4] at g1; cases g1
        exact ⟨c', e3, a3.trans g2⟩
      os := h.os, out := h.out, tape := h.tape
      gl := fun g hgg => by unfold embOf; rw [hg g hgg]; exact h.gl g hgg
      pin := h.pin }
end
end Go.Ra
end


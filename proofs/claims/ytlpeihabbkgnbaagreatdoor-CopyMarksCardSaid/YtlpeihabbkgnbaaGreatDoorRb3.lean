/-
  A part of the proof (RaLate, RaLate2, RaDraw, RaDraw2, RaDraw3, RaCmp, RaEnv, RaOrc, RaLib): an evaluator of the model's code with its proof, or facts of this program that it reckons. No condition.
-/
import Derived.Test.YtlpeihabbkgnbaaGreatDoorRb2
import Derived.Laws.StructEq
import Derived.Lib.Join
import Derived.Lib.TrimByte
import Derived.Lib.Bytealg
import Derived.Below
section
/-! Operations that may run late. -/
namespace Go.Ra
section
variable {E : Env} {F F' : AF} {H H' : AH} {rec : Rec} {v : Value}

theorem ev_congr {x : Operand} (h : ∀ t, tmpOf x = some t → F.T.get t = F'.T.get t) : F.ev x = F'.ev x := by
  cases x with
  | tmp t => simp only [AF.ev, h t rfl]
  | const v => rfl
  | global g => rfl
  | func f => rfl
theorem evs_congr : ∀ {l : List Operand}, (∀ x ∈ l, F.ev x = F'.ev x) → evs F l = evs F' l := by
  intro l
  induction l with
  | nil => intro _; rfl
  | cons x l ih => intro h; simp only [evs, h x List.mem_cons_self, ih fun y hy => h y (List.mem_cons_of_mem _ hy)]
theorem evps_congr : ∀ {l : List (Nat × Operand)}, (∀ x ∈ l, F.ev x.2 = F'.ev x.2) → evps F l = evps F' l := by
  intro l
  induction l with
  | nil => intro _; rfl
  | cons x l ih =>
    intro h
    obtain ⟨i, x⟩ := x
    have := h (i, x) List.mem_cons_self
    simp only at this
    simp only [evps, this, ih fun y hy => h y (List.mem_cons_of_mem _ hy)]
theorem optV_congr {x : Option Operand} (h : ∀ y, x = some y → F.ev y = F'.ev y) : optV F x = optV F' x := by
  cases x with
  | none => rfl
  | some y => simp only [optV, h y rfl]

theorem aop_congr {op : Op} (h : ∀ x ∈ op.operands.toList, F.ev x = F'.ev x) : aop op E rec F H = aop op E rec F' H := by
  cases op <;> simp only [Op.operands] at h <;> simp only [aop]
  case move x => simp only [op_move, h x (by simp)]
  case assign x => simp only [op_move, h x (by simp)]
  case pick c x y => simp only [op_pick, h c (by simp), h x (by simp), h y (by simp)]
  case alloc t => rfl
  case box t x => simp only [op_box, h x (by simp)]
  case build t ps => simp only [op_build]; rw [evps_congr fun p hp => h _ (by simp; exact ⟨p.1, Array.mem_toList_iff.1 hp⟩)]
  case buildSlice t n ps => simp only [op_buildSlice]; rw [evps_congr fun p hp => h _ (by simp; exact ⟨p.1, Array.mem_toList_iff.1 hp⟩)]
  case load t x => simp only [op_load, h x (by simp)]
  case store t x y => simp only [op_store, h x (by simp), h y (by simp)]
  case nilCheck x => simp only [op_nilCheck, h x (by simp)]
  case binOp op t x y yt => simp only [op_binOp, h x (by simp), h y (by simp)]
  case unOp op t x => simp only [op_unOp, h x (by simp)]
  case convert s t x => simp only [op_convert, h x (by simp)]
  case makeFunc fn xs ys => simp only [op_makeFunc]; rw [evs_congr fun x hx => h x (by simp; exact .inl (by simpa using hx)), evs_congr (l := ys.toList) fun x hx => h x (by simp; exact .inr (by simpa using hx))]
  case makeSlice t x y => simp only [op_makeSlice, h x (by simp), h y (by simp)]
  case slice t x lo hi mx =>
    simp only [op_slice, h x (by simp)]
    rw [optV_congr (x := lo) fun y hy => h y (by subst hy; simp), optV_congr (x := hi) fun y hy => h y (by subst hy; simp), optV_congr (x := mx) fun y hy => h y (by subst hy; simp)]
  case fieldAddr s x f => simp only [op_fieldAddr, h x (by simp)]
  case field s x f => simp only [op_field, h x (by simp)]
  case indexAddr t x y => simp only [op_indexAddr, h x (by simp), h y (by simp)]
  case index t x y => simp only [op_index, h x (by simp), h y (by simp)]
  case range t x => simp only [op_range, h x (by simp)]
  case next x b => simp only [op_next, h x (by simp)]
  case extract x i => simp only [op_extract, h x (by simp)]
  case call c =>
    simp only [Call.operands] at h
    simp only [op_call]
    rw [evs_congr (l := c.args.toList) fun x hx => h x (by simp; exact .inr (by simpa using hx))]
    cases hc : c.callee with
    | builtin b => rfl
    | value f => rw [hc] at h; simp only [h f (by simp)]
    | invoke r m => rfl
  all_goals rfl

/-- what neither reads nor writes answers the same in any heap -/
theorem pure_op {op : Op} (hc : cls E op = 3) (h : aop op E rec F H = some (v, H')) : H' = H ∧ ∀ (rec' : Rec) (H2 : AH), aop op E rec' F H2 = some (v, H2) := by
  cases op <;> simp only [cls] at hc <;> first | (cases hc; done) | skip
  case move x => simp only [aop, op_move] at h ⊢; cases he : F.ev x <;> rw [he] at h <;> simp only at h <;> first | (cases h; done) | (cases h; simp)
  case assign x => simp only [aop, op_move] at h ⊢; cases he : F.ev x <;> rw [he] at h <;> simp only at h <;> first | (cases h; done) | (cases h; simp)
  case pick c x y =>
    simp only [aop, op_pick] at h ⊢
    split at h
    · rename_i hc'
      cases he : F.ev x <;> rw [he] at h <;> simp only at h <;> first | (cases h; done) | (cases h; simp)
    · rename_i hc'
      cases he : F.ev y <;> rw [he] at h <;> simp only at h <;> first | (cases h; done) | (cases h; simp)
    · cases h
  case build t ps =>
    simp only [aop, op_build] at h ⊢
    split at h
    · rename_i vs ti h1 h2
      split at h
      · rename_i fs hk
        split at h
        · rename_i cs hcs; cases h; simp
        · cases h
      · rename_i n e hk
        split at h
        · rename_i te hte
          split at h
          · rename_i cs hcs; cases h; simp
          · cases h
        · cases h
      · cases h
    · cases h
  case nilCheck x =>
    simp only [aop, op_nilCheck] at h ⊢
    split at h
    · rename_i p hp; cases h; simp
    · rename_i f a b hp
      split at h
      · cases h; simp
      · cases h; simp
      · cases h
    · cases h
  case binOp op t x y yt =>
    simp only [aop, op_binOp] at h ⊢
    split at h
    · rename_i a b ha hb
      split at h
      · rename_i r hr; cases h; simp
      · cases h
    · cases h
  case unOp op t x =>
    simp only [aop, op_unOp] at h ⊢
    split at h
    · rename_i a ha
      split at h
      · rename_i r hr; cases h; simp
      · cases h
    · cases h
  case convert s t x =>
    split at hc
    · rename_i k1 s1 b1 c1 z1 k2 s2 b2 c2 z2 hs ht
      simp only [aop, op_convert, hs, ht] at h ⊢
      split at h
      · rename_i u _ _ hv e1 e2
        cases e1; cases e2
        cases u <;> simp only at h <;> first | (cases h; done) | skip
        cases h
        simp
      · cases h
    · cases hc
  case makeFunc fn xs ys =>
    simp only [aop, op_makeFunc] at h ⊢
    split at h
    · rename_i a b ha hb
      split at h
      · cases h; simp
      · cases h
    · cases h
  case slice t x lo hi mx =>
    simp only [aop, op_slice] at h ⊢
    split at h
    · rename_i a b c d ha hb hc' hd
      split at h
      · rename_i r hr; cases h; simp
      · cases h
    · cases h
  case fieldAddr s x f =>
    simp only [aop, op_fieldAddr] at h ⊢
    split at h
    · rename_i p fs _ _ _ _ h1 h2
      split at h
      · rename_i r hr; cases h; simp
      · cases h
    · cases h
  case field s x f =>
    simp only [aop, op_field] at h ⊢
    split at h
    · rename_i p fs _ _ _ _ h1 h2
      split at h
      · rename_i r hr
        split at h
        · rename_i ti hti
          split at h
          · rename_i q hq
            split at h
            · rename_i u hu; cases h; simp
            · cases h
          · cases h
        · cases h
      · cases h
    · cases h
  case indexAddr t x y =>
    simp only [aop, op_indexAddr] at h ⊢
    split at h
    · rename_i h1 h2 h3
      split at h
      · rename_i te hte
        split at h
        · rename_i hb; cases h; simp [hb]
        · cases h
      · cases h
    · rename_i h1 h2 h3
      split at h
      · rename_i te hte
        split at h
        · rename_i hb; cases h; simp [hb]
        · cases h
      · cases h
    · cases h
  case index t x y =>
    simp only [aop, op_index] at h ⊢
    split at h
    · rename_i h1 h2 h3
      split at h
      · rename_i hb
        split at h
        · rename_i r hr; cases h; simp [hb]
        · cases h
      · cases h
    · cases h
  case extract x i =>
    simp only [aop, op_extract] at h ⊢
    split at h
    · rename_i vs h1
      split at h
      · rename_i r hr; cases h; simp
      · cases h
    · cases h
  case call c =>
    simp only [aop, op_call] at h ⊢
    split at h
    · rename_i args ha
      cases hcal : c.callee with
      | value f => rw [hcal] at hc; cases hc
      | invoke r m => rw [hcal] at hc; cases hc
      | builtin b =>
        rw [hcal] at hc h
        simp only at hc h
        generalize c.argTypes.toList = tys at h ⊢
        cases b <;> simp only at hc <;> first | (cases hc; done) | skip
        case len =>
          simp only [abuiltin, bLen] at h
          split at h
          · rename_i t _ x
            split at h
            · rename_i ti hti
              split at h
              · rename_i hk; cases h; exact ⟨rfl, fun rec' H2 => by simp [abuiltin, bLen, hti, hk]⟩
              · rename_i hk; cases h; exact ⟨rfl, fun rec' H2 => by simp [abuiltin, bLen, hti, hk]⟩
              · cases h
            · cases h
          · cases h
        case cap =>
          simp only [abuiltin, bCap] at h
          split at h
          · split at h
            · rename_i hti
              rename_i cc _ _ _ _ _ _
              cases hI : Nat.ble INEX cc with
              | true => rw [hI] at h; cases h
              | false => rw [hI] at h; cases h; exact ⟨rfl, fun rec' H2 => by simp [abuiltin, bCap, hti, hI]⟩
            · cases h
          · cases h
        case min =>
          simp only [abuiltin] at h
          split at h
          · cases h; exact ⟨rfl, fun rec' H2 => by simp [abuiltin]⟩
          · cases h
        case max =>
          simp only [abuiltin] at h
          split at h
          · cases h; exact ⟨rfl, fun rec' H2 => by simp [abuiltin]⟩
          · cases h
    · cases h
end
end Go.Ra
end

section
/-! New blocks and loads that run late. -/
namespace Go.Ra
section
variable {PO : PlanOk} {E : Env} {S : Nat → Prop} {w0 : World} {φ ψ : Emb} {H H' : AH} {w w' : World} {P : Program} {F F' : AF} {rec : Rec} {v : Value}

/-- every cell stands for something -/
def VD (φ : Emb) (l : List Value) : Prop := ∀ (i : Nat) (v : Value), l[i]? = some v → ∃ u, VR φ v u
theorem VRl.vd {xs ys : List Value} (h : VRl φ xs ys) : VD φ xs := fun i v hi => by
  have hl : i < xs.length := by
    rcases Nat.lt_or_ge i xs.length with h' | h'
    · exact h'
    · rw [List.getElem?_eq_none h'] at hi; cases hi
  rw [List.getElem?_eq_getElem hl] at hi
  cases hi
  exact ⟨_, h.2 i hl (by rw [← h.1]; exact hl)⟩

theorem putX_vd {i : Nat} {vs l r : List Value} (h : putX i vs l = some r) (hv : VD φ vs) (hl : VD φ l) : VD φ r := by
  intro j x hx
  have := (putX_some i vs l r h).2.2 j
  rw [hx] at this
  split at this
  · exact hv _ _ this.symm
  · exact hl _ _ this.symm

theorem fillX_vd {place : Nat → Option (Nat × Nat)} : ∀ {ps : List (Nat × Value)} {cs r : List Value}, (∀ p ∈ ps, ∃ u, VR φ p.2 u) → VD φ cs → fillX place ps cs = some r → VD φ r := by
  intro ps
  induction ps with
  | nil => intro cs r _ hc h; simp only [fillX] at h; cases h; exact hc
  | cons p ps ih =>
    intro cs r hp hc h
    obtain ⟨i, v⟩ := p
    simp only [fillX] at h
    split at h
    · cases h
    · rename_i o z hpl
      split at h
      · cases h
      · rename_i vs hvs
        cases hb : (lenEq z vs && Nat.blt 0 z) with
        | false => rw [hb] at h; cases h
        | true =>
          rw [hb] at h
          simp only [cond_true] at h
          split at h
          · rename_i cs' hcs'
            obtain ⟨u, hu⟩ := hp (i, v) List.mem_cons_self
            exact ih (fun q hq => hp q (List.mem_cons_of_mem _ hq)) (putX_vd hcs' (cells1_some hu hvs).1.vd hc) h
          · cases h

theorem VR.restrict {c u1 : Value} (h : VR φ c u1) (hle : φ.le ψ) : ∀ {u : Value}, VR ψ c u → VR φ c u := by
  induction h with
  | bool b => intro u h; cases h; exact .bool b
  | int k n => intro u h; cases h; exact .int k n
  | string s => intro u h; cases h; exact .string s
  | pnil => intro u h; cases h; exact .pnil
  | ptr e => intro u h; cases h with | ptr e' => rw [hle _ _ e] at e'; cases e'; exact .ptr e
  | snil => intro u h; cases h; exact .snil
  | @sexact X i n c l e hc =>
    intro u h
    cases h with
    | sexact e' _ => rw [hle _ _ e] at e'; cases e'; exact .sexact e hc
    | @sopen _ _ _ c' _ e' hc' => omega
    | svoid a c => rw [VOID_eq] at hc; omega
  | @sopen X i n c l e hc =>
    intro u h
    generalize hq : INEX + c = q at h
    cases h with
    | sexact e' hc' => omega
    | @sopen _ _ _ c' _ e' hc' =>
      have : c = c' := by omega
      subst this
      rw [hle _ _ e] at e'; cases e'; exact .sopen e hc
    | svoid a c => rw [VOID_eq] at hq; omega
  | svoid a c =>
    intro u h
    generalize hq : VOID = q at h
    cases h with
    | sexact e' hc' => rw [← hq, VOID_eq] at hc'; omega
    | @sopen _ _ _ c' _ e' hc' => rw [VOID_eq] at hq; omega
    | svoid a c => rw [← hq]; exact .svoid a c
  | nilFunc => intro u h; cases h; exact .nilFunc
  | nilIface => intro u h; cases h; exact .nilIface
  | mapnil => intro u h; cases h; exact .mapnil
  | func f h1 _ h3 _ i2 i4 =>
    intro u h
    cases h with
    | func _ g1 g2 g3 g4 => exact .func f g1 (fun i a b => i2 i a (by omega) (g2 i a b)) g3 (fun i a b => i4 i a (by omega) (g4 i a b))
  | yield e => intro u h; cases h with | yield e' => rw [hle _ _ e] at e'; cases e'; exact .yield e
  | agg h1 _ i2 => intro u h; cases h with | agg g1 g2 => exact .agg g1 (fun i a b => i2 i a (by omega) (g2 i a b))
  | tuple h1 _ i2 => intro u h; cases h with | tuple g1 g2 => exact .tuple g1 (fun i a b => i2 i a (by omega) (g2 i a b))

/-- what a new block is told by -/
inductive Mk : (Nat → Value) → Prop
  | ptr : Mk fun X => .pointer (some ⟨X, 0, none⟩)
  | slice (n c : Nat) (hc : c < VOID) : Mk fun X => .slice (some ⟨X, 0, none⟩) n c

theorem Mk.base {mk : Nat → Value} (h : Mk mk) (X : Nat) : baseOf (mk X) = some X := by cases h <;> rfl

theorem Mk.move {mk : Nat → Value} (h : Mk mk) {N X : Nat} {l : Loc} {u : Value} (hv : VR ψ (mk N) u) (hN : ψ N = some l) (hX : φ X = some l) : VR φ (mk X) u := by
  cases h with
  | ptr =>
    cases hv with
    | ptr e => rw [hN] at e; cases e; exact .ptr hX
  | slice n c hc =>
    generalize hq : c = q at hv
    cases hv with
    | sexact e hc' => rw [hN] at e; cases e; subst hq; exact .sexact hX hc'
    | sopen e hc' => rw [hN] at e; cases e; subst hq; exact .sopen hX hc'
    | svoid a c => omega

theorem evps_mem : ∀ {l : List (Nat × Operand)} {vs : List (Nat × Value)}, evps F l = some vs → ∀ p ∈ vs, ∃ q ∈ l, F.ev q.2 = some p.2 := by
  intro l
  induction l with
  | nil => intro vs h p hp; simp only [evps] at h; cases h; cases hp
  | cons x l ih =>
    intro vs h p hp
    obtain ⟨i, x⟩ := x
    simp only [evps] at h
    split at h
    · rename_i v r hv hr
      cases h
      rcases List.mem_cons.1 hp with rfl | hp
      · exact ⟨_, List.mem_cons_self, hv⟩
      · obtain ⟨q, h1, h2⟩ := ih hr p hp
        exact ⟨q, List.mem_cons_of_mem _ h1, h2⟩
    · cases h
theorem alloc_shape (hE : TiAll P E) {op : Op} (hc : cls E op = 1) (h : aop op E rec F H = some (v, H')) : ∃ (cs : List Value) (esz : Nat) (mk : Nat → Value), Mk mk ∧ v = mk H.next ∧ H' = H.new cs esz ∧ ones cs = true ∧
    (∀ (rec' : Rec) (H2 : AH), aop op E rec' F H2 = some (mk H2.next, H2.new cs esz)) ∧
    ∀ (φ : Emb), (∀ x ∈ op.operands.toList, ∀ v, F.ev x = some v → ∃ u, VR φ v u) → VD φ cs := by
  cases op <;> simp only [cls] at hc <;> first | (cases hc; done) | skip
  case alloc t =>
    simp only [aop, op_alloc] at h ⊢
    split at h
    · rename_i ti hti
      cases h
      exact ⟨_, _, _, .ptr, rfl, rfl, (hE t ti hti).zone, fun _ _ => by simp, fun φ _ => (hE t ti hti).zVR.vd⟩
    · cases h
  case box t x =>
    simp only [aop, op_box] at h ⊢
    split at h
    · rename_i u ti hu hti
      split at h
      · rename_i cs hcs
        cases h
        have ho : ones cs = true := by
          unfold cells1 at hcs
          split at hcs
          · rename_i xs
            cases hx : ones xs.toList with
            | false => rw [hx] at hcs; cases hcs
            | true => rw [hx] at hcs; cases hcs; exact hx
          · cases hcs
          · rename_i h1 h2; cases hcs; rw [ones_cons]; cases u <;> first | rfl | exact absurd rfl (h1 _) | exact absurd rfl (h2 _)
        refine ⟨_, _, _, .ptr, rfl, rfl, ho, fun _ _ => by simp, fun φ hok => ?_⟩
        obtain ⟨u', hu'⟩ := hok x (by simp [Op.operands]) u hu
        exact (cells1_some hu' hcs).1.vd
      · cases h
    · cases h
  case buildSlice t n ps =>
    simp only [aop, op_buildSlice] at h ⊢
    split at h
    · rename_i vs e _ _ _ _ hvs hti
      split at h
      · rename_i te hte
        split at h
        · rename_i cs hcs
          cases hb : (Nat.ble (n * te.size) 16777216 && Nat.blt n INEX) with
          | false => rw [hb] at h; cases h
          | true =>
            rw [hb] at h
            simp only [cond_true] at h
            cases h
            rw [Bool.and_eq_true, blt_eq, decide_eq_true_eq] at hb
            have hz := repX_VR (φ := fun _ => none) (hE e te hte).zVR n
            have hn : n < VOID := by rw [VOID_eq]; omega
            -- ones
            have ho : ones cs = true := by
              have key : ∀ {ps : List (Nat × Value)} {place : Nat → Option (Nat × Nat)} {l r : List Value}, ones l = true → fillX place ps l = some r → ones r = true := by
                intro ps place
                induction ps with
                | nil => intro l r hl h; simp only [fillX] at h; cases h; exact hl
                | cons p ps ih =>
                  intro l r hl h
                  obtain ⟨i, v⟩ := p
                  simp only [fillX] at h
                  split at h
                  · cases h
                  · split at h
                    · cases h
                    · rename_i o z _ _ vs hvs
                      cases hb : (lenEq z vs && Nat.blt 0 z) with
                      | false => rw [hb] at h; cases h
                      | true =>
                        rw [hb] at h
                        simp only [cond_true] at h
                        split at h
                        · rename_i cs' hcs'
                          refine ih (ones_of fun j x hx => ?_) h
                          have := (putX_some _ _ _ _ hcs').2.2 j
                          rw [hx] at this
                          split at this
                          · have hov : ones vs = true := by
                              unfold cells1 at hvs
                              split at hvs
                              · rename_i xs
                                cases hx : ones xs.toList with
                                | false => rw [hx] at hvs; cases hvs
                                | true => rw [hx] at hvs; cases hvs; exact hx
                              · cases hvs
                              · rename_i h1 h2; cases hvs; rw [ones_cons]; cases v <;> first | rfl | exact absurd rfl (h1 _) | exact absurd rfl (h2 _)
                            exact ones_getElem? hov this.symm
                          · exact ones_getElem? hl this.symm
                        · cases h
              exact key (repX_ones (hE e te hte).zone n) hcs
            refine ⟨_, _, _, .slice n n hn, rfl, rfl, ho, fun _ _ => ?_, fun φ hok => ?_⟩
            · have hb' : (Nat.ble (n * te.size) 16777216 && Nat.blt n INEX) = true := by rw [Bool.and_eq_true, blt_eq, decide_eq_true_eq]; exact hb
              simp only [cond_true]
            · refine fillX_vd (fun p hp => ?_) (repX_VR (hE e te hte).zVR n).vd hcs
              obtain ⟨q, hq, he⟩ := evps_mem hvs p hp
              exact hok q.2 (by simp only [Op.operands]; simp; exact ⟨q.1, Array.mem_toList_iff.1 hq⟩) _ he
        · cases h
      · cases h
    · cases h
  case makeSlice t x y =>
    simp only [aop, op_makeSlice] at h ⊢
    split at h
    · rename_i k l k' c e _ _ _ _ hl hc' hti
      split at h
      · rename_i te hte
        split at h
        · rename_i hb
          cases h
          have hn : c.toNat < VOID := by rw [VOID_eq]; unfold INEX; omega
          exact ⟨_, _, _, .slice _ _ hn, rfl, rfl, repX_ones (hE e te hte).zone _, fun _ _ => by simp [hb], fun φ _ => (repX_VR (hE e te hte).zVR _).vd⟩
        · cases h
      · cases h
    · cases h
  case convert s t x => split at hc <;> cases hc
  case call c => split at hc <;> cases hc
end
end Go.Ra
end

section
/-! Regions that draw their order: in front. -/
namespace Go.Ra
section
variable {PO : PlanOk} {E : Env} {S : Nat → Prop} {w0 : World} {φ ψ : Emb} {H H' : AH} {w w' : World} {P : Program} {F F' : AF} {rec : Rec} {v : Value}

/-- a block that was laid as the latest stands for one that was laid before -/
theorem Rep.swapNew (h : Rep PO E S w0 φ H w) {X : Nat} {l : Loc} {cs : List Value} {esz : Nat} (h1 : Rep PO E S w0 (upd φ H.next l) (H.new cs esz) w')
    (hX : φ X = none) (hb : H.objs.get X = some (.blk ⟨cs, esz, false, X, 0⟩)) (hvd : VD φ cs) : Rep PO E S w0 (upd φ X l) H w' := by
  have hn := h.none_next
  have hleX : φ.le (upd φ X l) := fun Y m e => by rw [upd_ne φ l (fun h' => by rw [h', hX] at e; cases e)]; exact e
  have hleN : φ.le (upd φ H.next l) := fun Y m e => by rw [upd_ne φ l (fun h' => by rw [h', hn] at e; cases e)]; exact e
  have split : ∀ {Y : Nat} {m : Loc}, upd φ X l Y = some m → (Y = X ∧ m = l) ∨ (Y ≠ X ∧ φ Y = some m) := fun {Y m} e => by
    by_cases hY : Y = X
    · rw [hY, upd_same] at e; cases e; exact .inl ⟨hY, rfl⟩
    · rw [upd_ne φ l hY] at e; exact .inr ⟨hY, e⟩
  have up : ∀ {Y : Nat} {m : Loc}, φ Y = some m → upd φ H.next l Y = some m := fun e => hleN _ _ e
  have get : ∀ {Y : Nat} {m : Loc}, φ Y = some m → (H.new cs esz).objs.get Y = H.objs.get Y := fun {Y m} e => Tr.get_set_ne _ _ (fun h' => by rw [h', hn] at e; cases e)
  have getN : (H.new cs esz).objs.get H.next = some (.blk ⟨cs, esz, false, H.next, 0⟩) := Tr.get_set_same _ _ _
  refine { dom := ?_, fresh := h.fresh, ffresh := h.ffresh, flt := h.flt, fam1 := h.fam1, one := h.one, blk := ?_, loop := ?_, iter := ?_, share := ?_, size := h1.size, keep := h1.keep, sdom := h1.sdom, safe := ?_, os := h1.os, out := h1.out, tape := h1.tape, gl := h.gl_upd hX, pin := h1.pin }
  · intro Y m e
    rcases split e with ⟨rfl, _⟩ | ⟨_, e⟩
    · exact ⟨_, hb⟩
    · exact h.dom Y m e
  · intro Y m b e hc
    rcases split e with ⟨rfl, rfl⟩ | ⟨_, e⟩
    · rw [hb] at hc; cases hc
      obtain ⟨cs', el, fr, hB⟩ := h1.blk H.next m _ (upd_same _ _ _) getN
      refine ⟨cs', el, fr, ⟨hB.here, hB.room, hB.free, fun i hi _ => ?_⟩⟩
      have hr : Rdb (H.new cs esz) H.next ⟨cs, esz, false, H.next, 0⟩ i := by
        unfold Rdb
        have : (H.new cs esz).fams.get H.next = none := h.ffresh H.next (Nat.le_refl _)
        simp only [this]
      obtain ⟨u, hu, hv⟩ := hB.cell i hi hr
      obtain ⟨u1, hu1⟩ := hvd i cs[i] (List.getElem?_eq_getElem hi)
      exact ⟨u, hu, (hu1.restrict hleN hv).mono hleX⟩
    · obtain ⟨cs', el, fr, hB⟩ := h1.blk Y m b (up e) (by rw [get e]; exact hc)
      obtain ⟨cs2, el2, fr2, hB2⟩ := h.blk Y m b e hc
      refine ⟨cs', el, fr, ⟨hB.here, hB.room, hB.free, fun i hi hr => ?_⟩⟩
      obtain ⟨u, hu, hv⟩ := hB.cell i hi hr
      obtain ⟨u1, _, hv1⟩ := hB2.cell i hi hr
      exact ⟨u, hu, (hv1.restrict hleN hv).mono hleX⟩
  · intro Y m r e hc
    rcases split e with ⟨rfl, rfl⟩ | ⟨_, e⟩
    · rw [hb] at hc; cases hc
    · obtain ⟨L, hL⟩ := h1.loop Y m r (up e) (by rw [get e]; exact hc)
      obtain ⟨L2, hL2⟩ := h.loop Y m r e hc
      exact ⟨L, ⟨hL.here, hL.ready, hL.busy, hL.pend, hL.params, hL.asg, hL.bod, fun t => ((hL2.tm t).restrict hleN (hL.tm t)).mono hleX, hL.ok⟩⟩
  · intro Y m s p e hc
    rcases split e with ⟨rfl, rfl⟩ | ⟨_, e⟩
    · rw [hb] at hc; cases hc
    · exact h1.iter Y m s p (up e) (by rw [get e]; exact hc)
  · intro Y Z m k e f hmk
    have no : ∀ {Z : Nat} {k : Loc}, φ Z = some k → l.blk = k.blk → False := fun {Z k} f hk => by
      rcases h1.share H.next Z l k (upd_same _ _ _) (up f) hk with h2 | ⟨b, c, h2, h3, h4, _⟩
      · rw [← h2, hn] at f; cases f
      · rw [getN] at h2; cases h2
        rw [get f] at h3
        have := h.flt Z c h3
        simp only at h4; omega
    rcases split e with ⟨hY, hm⟩ | ⟨hY, e1⟩ <;> rcases split f with ⟨hZ, hk⟩ | ⟨hZ, f1⟩
    · exact .inl (hY.trans hZ.symm)
    · exact (no f1 (by rw [← hm]; exact hmk)).elim
    · exact (no e1 (by rw [← hk]; exact hmk.symm)).elim
    · exact h.share Y Z m k e1 f1 hmk
  · intro Y m e hS
    rcases split e with ⟨rfl, rfl⟩ | ⟨_, e⟩
    · obtain ⟨b, h2, h3⟩ := h1.safe H.next m (upd_same _ _ _) hS
      rw [getN] at h2; cases h2; cases h3
    · exact h.safe Y m e hS

theorem Mk.loc {mk : Nat → Value} (h : Mk mk) {N : Nat} {u : Value} (hv : VR ψ (mk N) u) : ∃ l, ψ N = some l := by
  cases h with
  | ptr => cases hv with | ptr e => exact ⟨_, e⟩
  | slice n c hc =>
    generalize hq : c = q at hv
    cases hv with
    | sexact e _ => exact ⟨_, e⟩
    | sopen e _ => exact ⟨_, e⟩
    | svoid a c => omega

theorem rd_new (h : Rep PO E S w0 φ H w) {cs : List Value} {esz X i k : Nat} {r : List Value} (hr : H.rd X i k = some r) : (H.new cs esz).rd X i k = some r := by
  unfold AH.rd at hr ⊢
  cases k with
  | zero => exact hr
  | succ k =>
    simp only at hr ⊢
    have hX : X ≠ H.next := fun hX => by rw [hX, h.fresh H.next (Nat.le_refl _)] at hr; cases hr
    have : (H.new cs esz).objs.get X = H.objs.get X := Tr.get_set_ne _ _ hX
    rw [this]
    exact hr

theorem load_new (h : Rep PO E S w0 φ H w) {cs : List Value} {esz : Nat} {t : Nat} {x : Operand} {v : Value} {H1 : AH} (hr : op_load t x E rec F H = some (v, H1)) : op_load t x E rec F (H.new cs esz) = some (v, H.new cs esz) := by
  unfold op_load at hr ⊢
  split at hr
  · rename_i p ti hp hti
    split at hr
    · rename_i cs' hcs'
      split at hr
      · rename_i u hu
        cases hr
        simp only [rd_new h hcs', hu]
      · cases hr
    · cases hr
  · cases hr

theorem load_same {t : Nat} {x : Operand} {v : Value} {H1 : AH} (hr : op_load t x E rec F H = some (v, H1)) : H1 = H := by
  unfold op_load at hr
  split at hr
  · split at hr
    · split at hr
      · cases hr; rfl
      · cases hr
    · cases hr
  · cases hr

theorem ikeq_ok {j k : IntKind} (h : ikeq j k = true) : j = k := by
  unfold ikeq at h
  have := Nat.eq_of_beq_eq_true h
  cases j <;> cases k <;> first | rfl | (simp [ikn] at this)
theorem ieq_ok {a b : Int} (h : ieq a b = true) : a = b := by
  unfold ieq at h
  split at h
  · rw [Nat.eq_of_beq_eq_true h]
  · rw [Nat.eq_of_beq_eq_true h]
  · cases h
theorem bytesEq_ok : ∀ {l m : List UInt8}, bytesEq l m = true → l = m := by
  intro l
  induction l with
  | nil => intro m h; cases m with
    | nil => rfl
    | cons b m => simp [bytesEq] at h
  | cons a l ih => intro m h; cases m with
    | nil => simp [bytesEq] at h
    | cons b m =>
      simp only [bytesEq, Bool.and_eq_true] at h
      have := Nat.eq_of_beq_eq_true h.1
      rw [UInt8.toNat_inj.1 this, ih h.2]
theorem addr_eq {a b : Addr} (h1 : Nat.beq a.block b.block = true) (h2 : Nat.beq a.off b.off = true) (h3 : a.spot.isNone = true) (h4 : b.spot.isNone = true) : a = b := by
  obtain ⟨a1, a2, a3⟩ := a
  obtain ⟨b1, b2, b3⟩ := b
  simp only [Option.isNone_iff_eq_none] at h3 h4
  have e1 := Nat.eq_of_beq_eq_true h1
  have e2 := Nat.eq_of_beq_eq_true h2
  simp only at e1 e2
  subst e1 e2 h3 h4
  rfl
theorem veq_eq {a b : Value} (h : veq a b = true) : a = b := by
  unfold veq at h
  split at h
  · rw [Bool.and_eq_true] at h; rw [ikeq_ok h.1, ieq_ok h.2]
  · rw [eq_of_beq h]
  · have := bytesEq_ok h
    rename_i a b
    obtain ⟨⟨a⟩⟩ := a; obtain ⟨⟨b⟩⟩ := b
    have this : a = b := this
    rw [this]
  · rfl
  · simp only [Bool.and_eq_true] at h; rw [addr_eq h.1.1.1 h.1.1.2 h.1.2 h.2]
  · simp only [Bool.and_eq_true] at h; rw [Nat.eq_of_beq_eq_true h.1, Nat.eq_of_beq_eq_true h.2]
  · simp only [Bool.and_eq_true] at h; rw [addr_eq h.1.1.1.1.1 h.1.1.1.1.2 h.1.1.1.2 h.1.1.2, Nat.eq_of_beq_eq_true h.1.2, Nat.eq_of_beq_eq_true h.2]
  · rfl
  · rfl
  · cases h
theorem veqs_eq : ∀ {l m : List Value}, veqs l m = true → l = m := by
  intro l
  induction l with
  | nil => intro m h; cases m with
    | nil => rfl
    | cons b m => simp [veqs] at h
  | cons a l ih => intro m h; cases m with
    | nil => simp [veqs] at h
    | cons b m => simp only [veqs, Bool.and_eq_true] at h; rw [veq_eq h.1, ih h.2]
theorem veqa_eq {a b : Value} (h : veqa a b = true) : a = b := by
  unfold veqa at h
  split at h
  · rename_i a b
    obtain ⟨a⟩ := a; obtain ⟨b⟩ := b
    rw [show a = b from veqs_eq h]
  · exact veq_eq h

theorem allX_mem {α : Type} {p : α → Bool} : ∀ {l : List α}, allX p l = true → ∀ x ∈ l, p x = true := by
  intro l
  induction l with
  | nil => intro _ x hx; cases hx
  | cons y l ih =>
    intro h x hx
    have h' : Bool.rec (motive := fun _ => Bool) false (allX p l) (p y) = true := h
    cases hp : p y with
    | false => rw [hp] at h'; cases h'
    | true =>
      rw [hp] at h'
      rcases List.mem_cons.1 hx with rfl | h1
      · exact hp
      · exact ih h' x h1

/-- a step of a plan -/
def StepA (E : Env) (rec : Rec) (all : List Oper) (o : Oper) (x : AF × AH) (v : Value) (y : AF × AH) : Prop :=
  (awant all x.1 o = some false ∧ v = undf ∧ y = (x.1.put o.dst undf, x.2)) ∨ (awant all x.1 o = some true ∧ aop o.op E rec x.1 x.2 = some (v, y.2) ∧ y.1 = x.1.put o.dst v)

theorem adraw_trace {all : List Oper} : ∀ {l : List PS} {F : AF} {H : AH} {F' : AF} {H' : AH}, adraw E rec all l F H = some (F', H') → ∃ (st : Nat → AF × AH) (val : Nat → Value), st 0 = (F, H) ∧ st l.length = (F', H') ∧
    ∀ k s, l[k]? = some s → ∃ o, all[s.i]? = some o ∧ StepA E rec all o (st k) (val k) (st (k + 1)) ∧ allX (ldOk E all (st (k + 1)).1 (st (k + 1)).2) s.lds = true ∧ allX (alOk all (st (k + 1)).1 (st k).2 (st (k + 1)).2) s.als = true := by
  intro l
  induction l with
  | nil =>
    intro F H F' H' h
    have h' : some (F, H) = some (F', H') := h
    cases h'
    exact ⟨fun _ => (F, H), fun _ => undf, rfl, rfl, fun k s h => by simp at h⟩
  | cons s l ih =>
    intro F H F' H' h
    have h' : (match nthOp all s.i with
      | some o => aopStep E rec all o (fun F' H' => Bool.rec (motive := fun _ => Option (AF × AH)) none (adraw E rec all l F' H') (allX (ldOk E all F' H') s.lds && allX (alOk all F' H H') s.als)) F H
      | none => none) = some (F', H') := h
    split at h'
    · rename_i o ho
      rw [nthOp_eq] at ho
      unfold aopStep at h'
      have fin : ∀ (F1 : AF) (H1 : AH) (v : Value), StepA E rec all o (F, H) v (F1, H1) → Bool.rec (motive := fun _ => Option (AF × AH)) none (adraw E rec all l F1 H1) (allX (ldOk E all F1 H1) s.lds && allX (alOk all F1 H H1) s.als) = some (F', H') →
          ∃ (st : Nat → AF × AH) (val : Nat → Value), st 0 = (F, H) ∧ st (s :: l).length = (F', H') ∧
            ∀ k s', (s :: l)[k]? = some s' → ∃ o, all[s'.i]? = some o ∧ StepA E rec all o (st k) (val k) (st (k + 1)) ∧ allX (ldOk E all (st (k + 1)).1 (st (k + 1)).2) s'.lds = true ∧ allX (alOk all (st (k + 1)).1 (st k).2 (st (k + 1)).2) s'.als = true := by
        intro F1 H1 v hst hb
        cases hc : (allX (ldOk E all F1 H1) s.lds && allX (alOk all F1 H H1) s.als) with
        | false => rw [hc] at hb; cases hb
        | true =>
          rw [hc] at hb
          rw [Bool.and_eq_true] at hc
          obtain ⟨st, val, h0, hn, hk⟩ := ih (show adraw E rec all l F1 H1 = some (F', H') from hb)
          refine ⟨fun k => match k with | 0 => (F, H) | k + 1 => st k, fun k => match k with | 0 => v | k + 1 => val k, rfl, hn, fun k s' hs => ?_⟩
          cases k with
          | zero =>
            simp at hs; subst hs
            exact ⟨o, ho, by simp only [h0]; exact hst, by simp only [h0]; exact hc.1, by simp only [h0]; exact hc.2⟩
          | succ k => exact hk k s' (by simpa using hs)
      cases hw : awant all F o with
      | none => rw [hw] at h'; cases h'
      | some b =>
        rw [hw] at h'
        cases b with
        | false => exact fin _ _ _ (.inl ⟨hw, rfl, rfl⟩) h'
        | true =>
          simp only at h'
          cases hop : aop o.op E rec F H with
          | none => rw [hop] at h'; cases h'
          | some r =>
            rw [hop] at h'
            obtain ⟨v, H1⟩ := r
            exact fin _ _ _ (.inr ⟨hw, hop, rfl⟩) h'
    · cases h'

/-! ### What has been done, and the temporaries -/
noncomputable def putT (T : Tr Value) (d : Option Nat) (v : Value) : Tr Value := match d with
  | some d => T.set d v
  | none => T
theorem put_T (F : AF) (d : Option Nat) (v : Value) : (F.put d v).T = putT F.T d v := by cases d <;> rfl

def Pre (l : List PS) (k : Nat) (i : Nat) : Prop := ∃ j s, j < k ∧ l[j]? = some s ∧ s.i = i

structure Mix (ops : List Oper) (l : List PS) (val : Nat → Value) (T0 : Tr Value) (D : Nat → Prop) (T : Tr Value) : Prop where
  done : ∀ (k : Nat) (s : PS) (o : Oper) (d : Nat), l[k]? = some s → ops[s.i]? = some o → o.dst = some d → D s.i → T.get d = some (val k)
  rest : ∀ t, (∀ (i : Nat) (o : Oper), ops[i]? = some o → D i → o.dst ≠ some t) → T.get t = T0.get t

variable {ops : List Oper} {l : List PS} {val : Nat → Value} {T0 T T' : Tr Value} {D D' : Nat → Prop}

theorem Mix.put (hP : PlanP E ops l) (h : Mix ops l val T0 D T) {k : Nat} {s : PS} {o : Oper} (hk : l[k]? = some s) (ho : ops[s.i]? = some o) : Mix ops l val T0 (fun i => D i ∨ i = s.i) (putT T o.dst (val k)) := by
  refine ⟨fun k' s' o' d hk' ho' hd hD => ?_, fun t ht => ?_⟩
  · by_cases hs : s'.i = s.i
    · have := hP.inj k' k s' s hk' hk hs
      subst this
      rw [hs, ho] at ho'; cases ho'
      simp only [putT, hd]
      exact Tr.get_set_same _ _ _
    · have hDs : D s'.i := hD.resolve_right hs
      have := h.done k' s' o' d hk' ho' hd hDs
      cases ho2 : o.dst with
      | none => simpa [putT] using this
      | some d2 =>
        simp only [putT]
        rw [Tr.get_set_ne _ _ (fun he => hs (hP.dst s'.i s.i o' o d ho' ho hd (by rw [ho2, he])))]
        exact this
  · have := h.rest t fun i o' ho' hD => ht i o' ho' (.inl hD)
    cases ho2 : o.dst with
    | none => simpa [putT] using this
    | some d2 =>
      simp only [putT]
      rw [Tr.get_set_ne _ _ (fun he => ht s.i o ho (.inr rfl) (by rw [ho2, he]))]
      exact this

theorem lt_of_some {α : Type} {l : List α} {i : Nat} {x : α} (h : l[i]? = some x) : i < l.length := by
  rcases Nat.lt_or_ge i l.length with h' | h'
  · exact h'
  · rw [List.getElem?_eq_none h'] at h; cases h

theorem Mix.agree (hP : PlanP E ops l) (h : Mix ops l val T0 D T) (h' : Mix ops l val T0 D' T') {t : Nat} (hd : ∀ (j : Nat) (oj : Oper), ops[j]? = some oj → oj.dst = some t → (D j ↔ D' j)) : T.get t = T'.get t := by
  by_cases hex : ∃ (j : Nat) (oj : Oper), ops[j]? = some oj ∧ oj.dst = some t ∧ D j
  · obtain ⟨j, oj, h1, h2, h3⟩ := hex
    obtain ⟨k, s, hk, rfl⟩ := hP.sur j (lt_of_some h1)
    rw [h.done k s oj t hk h1 h2 h3, h'.done k s oj t hk h1 h2 ((hd _ oj h1 h2).1 h3)]
  · rw [h.rest t fun i o ho hD he => hex ⟨i, o, ho, he, hD⟩, h'.rest t fun i o ho hD he => hex ⟨i, o, ho, he, (hd i o ho he).2 hD⟩]

theorem Mix.congr (h : Mix ops l val T0 D T) (hd : ∀ i, D i ↔ D' i) : Mix ops l val T0 D' T :=
  ⟨fun k s o d hk ho hdd hD => h.done k s o d hk ho hdd ((hd _).2 hD), fun t ht => h.rest t fun i o ho hD => ht i o ho ((hd i).1 hD)⟩

theorem pre_succ {k : Nat} {s : PS} (hk : l[k]? = some s) (i : Nat) : Pre l (k + 1) i ↔ (Pre l k i ∨ i = s.i) := by
  constructor
  · rintro ⟨j, s', hj, hs', rfl⟩
    by_cases he : j = k
    · subst he; rw [hk] at hs'; cases hs'; exact .inr rfl
    · exact .inl ⟨j, s', by omega, hs', rfl⟩
  · rintro (⟨j, s', hj, hs', rfl⟩ | rfl)
    · exact ⟨j, s', by omega, hs', rfl⟩
    · exact ⟨k, s, by omega, hk, rfl⟩

theorem closed_pre (hP : PlanP E ops l) (k : Nat) : Closed ops (Pre l k) := by
  rintro i o ho ⟨j, s, hj, hs, rfl⟩ e he hb
  obtain ⟨j', s', h1, h2, h3⟩ := hP.edge j s o hs ho e he hb
  exact ⟨j', s', by omega, h2, h3⟩

theorem mix_pre (hP : PlanP E ops l) {st : Nat → AF × AH} (hT : ∀ k s, l[k]? = some s → ∃ o, ops[s.i]? = some o ∧ StepA E rec ops o (st k) (val k) (st (k + 1))) :
    ∀ k, k ≤ l.length → Mix ops l val (st 0).1.T (Pre l k) (st k).1.T := by
  intro k
  induction k with
  | zero => intro _; exact ⟨fun k s o d _ _ _ h => by obtain ⟨j, _, hj, _⟩ := h; omega, fun t _ => rfl⟩
  | succ k ih =>
    intro hk
    obtain ⟨s, hs⟩ : ∃ s, l[k]? = some s := ⟨_, List.getElem?_eq_getElem (by omega)⟩
    obtain ⟨o, ho, hst⟩ := hT k s hs
    have := ((ih (by omega)).put hP hs ho).congr (D' := Pre l (k + 1)) fun i => (pre_succ hs i).symm
    have he : (st (k + 1)).1.T = putT (st k).1.T o.dst (val k) := by
      rcases hst with ⟨_, h2, h3⟩ | ⟨_, _, h3⟩
      · rw [h3, h2, put_T]
      · rw [h3, put_T]
    rw [he]
    exact this

/-- what an operation reads is, when its turn comes, what it is in the plan -/
theorem reads_stable (hP : PlanP E ops l) {k : Nat} {s : PS} {o : Oper} (hk : l[k]? = some s) (ho : ops[s.i]? = some o) (hD : Closed ops D) (hdep : ∀ e ∈ o.after.toList, Region.binds .any e = true → D e.on) (hn : ¬ D s.i)
    (hm : Mix ops l val T0 D T) (hm' : Mix ops l val T0 (Pre l k) T') {t : Nat} (ht : t ∈ rdT ops o) : T.get t = T'.get t := by
  refine hm.agree hP hm' fun j oj hj hdj => ?_
  have hc1 : Closed ops (fun i => D i ∨ i = s.i) := by
    rintro i o' ho' hi e he hb
    rcases hi with hi | rfl
    · exact .inl (hD i o' ho' hi e he hb)
    · rw [ho] at ho'; cases ho'; exact .inl (hdep e he hb)
  have hns : ¬ Pre l k s.i := by
    rintro ⟨j', s', h1, h2, h3⟩
    have := hP.inj j' k s' s h2 hk h3
    omega
  rcases hP.rd s.i o t ho ht j oj hj hdj with ⟨h1, h2⟩ | ⟨_, h1⟩
  · have e1 : D j := (h1 _ hc1 (.inr rfl)).resolve_right (fun h => h2 h.symm)
    have e2 : Pre l k j := by
      have := h1 _ (closed_pre hP (k + 1)) ((pre_succ hk _).2 (.inr rfl))
      exact ((pre_succ hk _).1 this).resolve_right (fun h => h2 h.symm)
    exact ⟨fun _ => e2, fun _ => e1⟩
  · have e1 : ¬ D j := fun h => by
      rcases h1 with h1 | h1
      · exact hn (h1 D hD h)
      · exact hn (h1 ▸ h)
    have e2 : ¬ Pre l k j := fun h => by
      rcases h1 with h1 | h1
      · exact hns (h1 _ (closed_pre hP k) h)
      · exact hns (h1 ▸ h)
    exact ⟨fun h => absurd h e1, fun h => absurd h e2⟩

/-- what a load reads stands also later -/
theorem reads_later (hP : PlanP E ops l) {k k' : Nat} {s : PS} {o : Oper} (hk : l[k]? = some s) (ho : ops[s.i]? = some o) (hlt : k < k') (hc : cls E o.op = 2)
    (hm : Mix ops l val T0 (Pre l k') T) (hm' : Mix ops l val T0 (Pre l k) T') {t : Nat} (ht : t ∈ rdT ops o) : T.get t = T'.get t := by
  refine hm.agree hP hm' fun j oj hj hdj => ?_
  rcases hP.rd s.i o t ho ht j oj hj hdj with ⟨h1, h2⟩ | ⟨h1, _⟩
  · have e2 : Pre l k j := by
      have := h1 _ (closed_pre hP (k + 1)) ((pre_succ hk _).2 (.inr rfl))
      exact ((pre_succ hk _).1 this).resolve_right (fun h => h2 h.symm)
    obtain ⟨j', s', g1, g2, g3⟩ := e2
    exact ⟨fun _ => ⟨j', s', g1, g2, g3⟩, fun _ => ⟨j', s', by omega, g2, g3⟩⟩
  · exact absurd hc h1

theorem reads_op {G G' : AF} {o : Oper} (h : ∀ t ∈ rdT ops o, G.T.get t = G'.T.get t) : (∀ (E : Env) (rec : Rec) (H : AH), aop o.op E rec G H = aop o.op E rec G' H) ∧ awant ops G o = awant ops G' o := by
  constructor
  · intro E rec H
    refine aop_congr fun x hx => ev_congr fun t ht => h t ?_
    unfold rdT
    exact List.mem_append_right _ (List.mem_filterMap.2 ⟨x, hx, ht⟩)
  · unfold awant
    cases hg : o.guard with
    | none => rfl
    | some p =>
      obtain ⟨j, want⟩ := p
      simp only [nthOp_eq]
      cases hj : ops[j]? with
      | none => rfl
      | some o' =>
        obtain ⟨dst, op, ty, pos, af, gd⟩ := o'
        cases dst with
        | none => rfl
        | some d =>
          simp only
          rw [h d]
          unfold rdT
          rw [hg]
          simp only [hj, Option.toList_some]
          exact List.mem_append_left _ (List.mem_singleton.2 rfl)
end
end Go.Ra
end

section
/-! Regions that draw their order: every order. -/
namespace Go.Ra
section
variable {PO : PlanOk} {E : Env} {S : Nat → Prop} {w0 : World} {φ ψ : Emb} {w w' : World} {P : Program} {rec : Rec}

/-- an operation that the plan has passed and that has not run yet -/
structure Late (E : Env) (rec : Rec) (ops : List Oper) (st : Nat → AF × AH) (val : Nat → Value) (H0 : AH) (k p : Nat) (o : Oper) (φ : Emb) : Prop where
  ld : cls E o.op = 2 → awant ops (st k).1 o = some true → aop o.op E rec (st k).1 (st p).2 = some (val k, (st p).2)
  al : cls E o.op = 1 → awant ops (st k).1 o = some true → ∃ cs esz, (st (k + 1)).2 = (st k).2.new cs esz ∧ φ (st k).2.next = none ∧ H0.next ≤ (st k).2.next ∧
    (st p).2.objs.get (st k).2.next = some (.blk ⟨cs, esz, false, (st k).2.next, 0⟩)

structure Inv (PO : PlanOk) (E : Env) (rec : Rec) (S : Nat → Prop) (ops : List Oper) (l : List PS) (st : Nat → AF × AH) (val : Nat → Value) (φ0 : Emb) (a0 : Act) (w0 : World) (D : Nat → Prop) (p : Nat) (φ : Emb) (G : AF) (a : Act) (w : World) : Prop where
  pn : p ≤ l.length
  low : ∀ i, D i → Pre l p i
  eff : ∀ (k : Nat) (s : PS) (o : Oper), k < p → l[k]? = some s → ops[s.i]? = some o → cls E o.op = 0 → D s.i
  closed : Closed ops D
  post : Post PO E S φ0 (st 0).2 (st 0).1 a0 w0 φ (st p).2 G a w
  mix : Mix ops l val (st 0).1.T D G.T
  late : ∀ (k : Nat) (s : PS) (o : Oper), k < p → l[k]? = some s → ops[s.i]? = some o → ¬ D s.i → Late E rec ops st val (st 0).2 k p o φ
  mono : ∀ j, j < p → (st j).2.next ≤ (st (j + 1)).2.next

variable {ops : Array Oper} {l : List PS} {st : Nat → AF × AH} {val : Nat → Value} {φ0 : Emb} {a0 a : Act} {D : Nat → Prop} {p : Nat} {G : AF} {N : Nat}

abbrev TraceP (E : Env) (rec : Rec) (ops : List Oper) (l : List PS) (st : Nat → AF × AH) (val : Nat → Value) : Prop :=
  ∀ k s, l[k]? = some s → ∃ o, ops[s.i]? = some o ∧ StepA E rec ops o (st k) (val k) (st (k + 1)) ∧ allX (ldOk E ops (st (k + 1)).1 (st (k + 1)).2) s.lds = true ∧ allX (alOk ops (st (k + 1)).1 (st k).2 (st (k + 1)).2) s.als = true

theorem trace_step (hT : TraceP E rec ops.toList l st val) {k : Nat} {s : PS} {o : Oper} (hk : l[k]? = some s) (ho : ops.toList[s.i]? = some o) : StepA E rec ops.toList o (st k) (val k) (st (k + 1)) := by
  obtain ⟨o', h1, h2, _⟩ := hT k s hk
  rw [ho] at h1; cases h1; exact h2

theorem put_fn (F : AF) (d : Option Nat) (v : Value) : (F.put d v).fn = F.fn := by cases d <;> rfl
theorem put_inr (F : AF) (d : Option Nat) (v : Value) : (F.put d v).inr = F.inr := by cases d <;> rfl

theorem load_op {op : Op} (hc : cls E op = 2) : ∃ t x, op = .load t x := by
  cases op <;> simp only [cls] at hc <;> first | (cases hc; done) | skip
  case load t x => exact ⟨t, x, rfl⟩
  case convert s t x => split at hc <;> cases hc
  case call c => split at hc <;> cases hc

theorem cls_le (E : Env) (op : Op) : cls E op ≤ 3 := by
  cases op <;> simp only [cls] <;> first | decide | (split <;> decide)

/-- what a step that is no effect does to the heap -/
theorem step_float (hE : TiAll P E) {o : Oper} {k : Nat} (hc : cls E o.op ≠ 0) (h : StepA E rec ops.toList o (st k) (val k) (st (k + 1))) :
    (st (k + 1)).2 = (st k).2 ∨ (cls E o.op = 1 ∧ ∃ cs esz, (st (k + 1)).2 = (st k).2.new cs esz ∧ ones cs = true) := by
  rcases h with ⟨_, _, h3⟩ | ⟨_, h2, _⟩
  · left; rw [h3]
  · have hle := cls_le E o.op
    rcases (show cls E o.op = 1 ∨ cls E o.op = 2 ∨ cls E o.op = 3 by omega) with h1 | h1 | h1
    · obtain ⟨cs, esz, mk, _, _, h4, h5, _⟩ := alloc_shape hE h1 h2
      exact .inr ⟨h1, cs, esz, h4, h5⟩
    · obtain ⟨t, x, ht⟩ := load_op h1
      rw [ht] at h2
      exact .inl (load_same (rec := rec) h2)
    · exact .inl (pure_op h1 h2).1

theorem Rep.lt_of_get {PO : PlanOk} {E : Env} {S : Nat → Prop} {w0 w : World} {φ : Emb} {H : AH} (h : Rep PO E S w0 φ H w) {X : Nat} {o : AObj} (e : H.objs.get X = some o) : X < H.next := by
  rcases Nat.lt_or_ge X H.next with h' | h'
  · exact h'
  · rw [h.fresh X h'] at e; cases e

theorem Inv.advance (hE : TiAll P E) (_hP : PlanP E ops.toList l) (hT : TraceP E rec ops.toList l st val) (h : Inv PO E rec S ops.toList l st val φ0 a0 w0 D p φ G a w) {s : PS} {o : Oper} (hk : l[p]? = some s) (ho : ops.toList[s.i]? = some o)
    (hc : cls E o.op ≠ 0) : Inv PO E rec S ops.toList l st val φ0 a0 w0 D (p + 1) φ G a w := by
  have hst := trace_step hT hk ho
  have hR := h.post.rep
  have hfl := step_float hE hc hst
  have hfr : ∀ X, X < (st p).2.next → (st (p + 1)).2.objs.get X = (st p).2.objs.get X := fun X hX => by
    rcases hfl with h1 | ⟨_, cs, esz, h1, _⟩
    · rw [h1]
    · rw [h1]; exact Tr.get_set_ne _ _ (by omega)
  refine ⟨lt_of_some hk, fun i hi => ?_, fun k s' o' hlt hk' ho' hc' => ?_, h.closed, ?_, h.mix, fun k s' o' hlt hk' ho' hn => ?_, fun j hj => ?_⟩
  · obtain ⟨j, s', h1, h2, h3⟩ := h.low i hi
    exact ⟨j, s', by omega, h2, h3⟩
  · by_cases he : k = p
    · subst he; rw [hk] at hk'; cases hk'; rw [ho] at ho'; cases ho'; exact absurd hc' hc
    · exact h.eff k s' o' (by omega) hk' ho' hc'
  · rcases hfl with h1 | ⟨_, cs, esz, h1, h2⟩
    · rw [h1]; exact h.post
    · rw [h1]
      have hh := hR.hide (o := .blk ⟨cs, esz, false, (st p).2.next, 0⟩) (fun b hb => by cases hb; exact ⟨rfl, h2⟩)
      exact ⟨h.post.ext, Nat.le_succ_of_le h.post.next, hh, h.post.tmps, h.post.size, h.post.fn, h.post.inr, h.post.marks⟩
  · by_cases he : k = p
    · subst he; rw [hk] at hk'; cases hk'; rw [ho] at ho'; cases ho'
      rcases hst with ⟨h1, _, _⟩ | ⟨h1, h2, _⟩
      · exact ⟨fun _ hw => by (rw [h1] at hw; cases hw), fun _ hw => by (rw [h1] at hw; cases hw)⟩
      · refine ⟨fun hc2 _ => ?_, fun hc1 _ => ?_⟩
        · obtain ⟨t, x, ht⟩ := load_op hc2
          rw [ht] at h2 ⊢
          have := load_same (rec := rec) h2
          rw [this] at h2 ⊢
          exact h2
        · obtain ⟨cs, esz, mk, _, _, h4, _, _⟩ := alloc_shape hE hc1 h2
          refine ⟨cs, esz, h4, hR.none_next, h.post.next, ?_⟩
          rw [h4]; exact Tr.get_set_same _ _ _
    · have hL := h.late k s' o' (by omega) hk' ho' hn
      refine ⟨fun hc2 hw => ?_, fun hc1 hw => ?_⟩
      · have := hL.ld hc2 hw
        rcases hfl with h1 | ⟨_, cs, esz, h1, _⟩
        · rw [h1]; exact this
        · obtain ⟨t, x, ht⟩ := load_op hc2
          rw [ht] at this ⊢
          rw [h1]
          exact load_new (rec := rec) hR this
      · obtain ⟨cs, esz, g1, g2, g3, g4⟩ := hL.al hc1 hw
        exact ⟨cs, esz, g1, g2, g3, by rw [hfr _ (hR.lt_of_get g4)]; exact g4⟩
  · by_cases he : j = p
    · subst he
      rcases hfl with h1 | ⟨_, cs, esz, h1, _⟩
      · rw [h1]; exact Nat.le_refl _
      · rw [h1]; exact Nat.le_succ _
    · exact h.mono j (by omega)

/-- an operation that the plan has passed runs -/
theorem Inv.float (hEnv : EnvOk P PO E) (hS : SRec P PO E rec) {ro : Option Nat} (hok : ∀ o ∈ ops.toList, okOper E N o = true) (hP : PlanP E ops.toList l) (hT : TraceP E rec ops.toList l st val) (h : Inv PO E rec S ops.toList l st val φ0 a0 w0 D p φ G a w) (hN : N ≤ a0.tmps.size)
    {k : Nat} {s : PS} {o : Oper} (hlt : k < p) (hk : l[k]? = some s) (ho : ops.toList[s.i]? = some o) (hc : cls E o.op ≠ 0) (hn : ¬ D s.i) (hdep : ∀ e ∈ o.after.toList, Region.binds .any e = true → D e.on)
    {K : Act → World → Prop} {Q : Exit → Act → World → Prop} (hK : ∀ φ' G' a' w', Inv PO E rec S ops.toList l st val φ0 a0 w0 (fun i => D i ∨ i = s.i) p φ' G' a' w' → K a' w') : wpOpIn (Fr ro) 0 P ops Q s.i K a w := by
  have hst := trace_step hT hk ho
  have hmp := mix_pre hP (fun k s hk => by obtain ⟨o, h1, h2, _⟩ := hT k s hk; exact ⟨o, h1, h2⟩) k (Nat.le_of_lt (Nat.lt_of_lt_of_le hlt h.pn))
  obtain ⟨hop, hwant⟩ := reads_op (G := G) (G' := (st k).1) (ops := ops.toList) (o := o) fun t ht => reads_stable hP hk ho h.closed hdep hn h.mix hmp ht
  have hR := h.post.rep
  obtain ⟨S1, hR1, htr⟩ := h.post.trans
  have hokO := hok o (List.mem_of_getElem? ho)
  have hNa : N ≤ a.tmps.size := by rw [h.post.size]; exact hN
  have ho' : ops[s.i]? = some o := by simpa using ho
  have hL := h.late k s o hlt hk ho hn
  have hcl : Closed ops.toList (fun i => D i ∨ i = s.i) := by
    rintro i o' ho2 hi e he hb
    rcases hi with hi | rfl
    · exact .inl (h.closed i o' ho2 hi e he hb)
    · rw [ho] at ho2; cases ho2; exact .inl (hdep e he hb)
  have hlow : ∀ i, (D i ∨ i = s.i) → Pre l p i := fun i hi => by
    rcases hi with hi | rfl
    · exact h.low i hi
    · exact ⟨k, s, hlt, hk, rfl⟩
  -- the heap stays
  have same : ∀ (b : Bool) (u : Value), awant ops.toList G o = some b → (b = false → u = undf) → (b = true → aop o.op E rec G (st p).2 = some (u, (st p).2)) → u = val k → wpOpIn (Fr ro) 0 P ops Q s.i K a w := by
    intro b u hb h0 h1 hu
    have hstep : aopStep E rec ops.toList o (fun F H => some (F, H)) G (st p).2 = some (G.put o.dst u, (st p).2) := by
      unfold aopStep
      rw [hb]
      cases b with
      | false => rw [h0 rfl]
      | true => simp only [h1 rfl]
    refine aopStep_ok hEnv hS ho' hokO hstep hNa hR1 h.post.tmps fun F1 H1 ψ a1 w1 he hp => ?_
    cases he
    refine hK ψ _ a1 w1 ⟨h.pn, hlow, fun k' s' o2 g1 g2 g3 g4 => .inl (h.eff k' s' o2 g1 g2 g3 g4), hcl, htr hp, ?_, fun k' s' o2 g1 g2 g3 g4 => ?_, h.mono⟩
    · rw [put_T, hu]; exact h.mix.put hP hk ho
    · have hL' := h.late k' s' o2 g1 g2 g3 (fun hD => g4 (.inl hD))
      refine ⟨hL'.ld, fun q1 q2 => ?_⟩
      obtain ⟨cs, esz, q3, q4, q5, q6⟩ := hL'.al q1 q2
      exact ⟨cs, esz, q3, by rw [hp.ext _ (hR.lt_of_get q6)]; exact q4, q5, q6⟩
  rcases hst with ⟨h1, h2, h3⟩ | ⟨h1, h2, h3⟩
  · exact same false undf (by rw [hwant]; exact h1) (fun _ => rfl) (fun h => by cases h) h2.symm
  · have hle := cls_le E o.op
    rcases (show cls E o.op = 1 ∨ cls E o.op = 2 ∨ cls E o.op = 3 by omega) with hc1 | hc1 | hc1
    · -- a new block
      obtain ⟨cs, esz, mk, hmk, hv, hH, hone, hall, hvd⟩ := alloc_shape hEnv.ti hc1 h2
      obtain ⟨cs', esz', q3, q4, q5, q6⟩ := hL.al hc1 h1
      have hcs : cs = cs' ∧ esz = esz' := by
        have e1 : ((st k).2.new cs esz).objs.get (st k).2.next = some (.blk ⟨cs, esz, false, (st k).2.next, 0⟩) := Tr.get_set_same _ _ _
        have e2 : ((st k).2.new cs' esz').objs.get (st k).2.next = some (.blk ⟨cs', esz', false, (st k).2.next, 0⟩) := Tr.get_set_same _ _ _
        rw [← hH, q3, e2] at e1
        cases e1; exact ⟨rfl, rfl⟩
      obtain ⟨rfl, rfl⟩ := hcs
      obtain ⟨d, hd⟩ := hP.ad k s o hk ho hc1
      have hG : aop o.op E rec G (st p).2 = some (mk (st p).2.next, (st p).2.new cs esz) := by rw [hop]; exact hall rec _
      have hstep : aopStep E rec ops.toList o (fun F H => some (F, H)) G (st p).2 = some (G.put o.dst (mk (st p).2.next), (st p).2.new cs esz) := by
        unfold aopStep
        rw [hwant, h1]
        simp only [hG]
      refine aopStep_ok hEnv hS ho' hokO hstep hNa hR1 h.post.tmps fun F1 H1 ψ a1 w1 he hp => ?_
      cases he
      have hp0 := htr hp
      -- where it lies
      have hN' := hp.tmps d
      rw [put_T, hd] at hN'
      simp only [putT, Tr.get_set_same, Option.getD_some] at hN'
      obtain ⟨lc, hlc⟩ : ∃ lc, ψ (st p).2.next = some lc := by
        exact hmk.loc hN'
      have hψ : ψ = upd φ (st p).2.next lc := by
        funext Y
        by_cases hY : Y = (st p).2.next
        · rw [hY, upd_same]; exact hlc
        · rw [upd_ne _ _ hY]
          rcases Nat.lt_or_ge Y (st p).2.next with h' | h'
          · exact hp.ext Y h'
          · have e1 : ψ Y = none := by
              cases e : ψ Y with
              | none => rfl
              | some m => have := hp0.rep.lt e; simp only [AH.new] at this; omega
            have e2 : φ Y = none := by
              cases e : φ Y with
              | none => rfl
              | some m => have := hR.lt e; omega
            rw [e1, e2]
      subst hψ
      have hvd' : VD φ cs := hvd φ fun x hx u hu => by
        rw [← ev_congr (F := G) fun t ht => reads_stable hP hk ho h.closed hdep hn h.mix hmp (List.mem_append_right _ (List.mem_filterMap.2 ⟨x, hx, ht⟩))] at hu
        exact ⟨_, ev_ok h.post.rep.gl h.post.tmps ((okOper_spec hokO).2 x hx) hu⟩
      have hsw := hR.swapNew hp0.rep q4 q6 hvd'
      have hleN : φ.le (upd φ (st p).2.next lc) := fun Y m e => by rw [hp.ext Y (hR.lt e)]; exact e
      have hleX : φ.le (upd φ (st k).2.next lc) := fun Y m e => by rw [upd_ne φ lc (fun h' => by rw [h', q4] at e; cases e)]; exact e
      refine hK (upd φ (st k).2.next lc) (G.put o.dst (val k)) a1 w1 ⟨h.pn, hlow, fun k' s' o2 g1 g2 g3 g4 => .inl (h.eff k' s' o2 g1 g2 g3 g4), hcl, ?_, ?_, fun k' s' o2 g1 g2 g3 g4 => ?_, h.mono⟩
      · refine ⟨fun Y hY => ?_, h.post.next, hsw, fun t => ?_, hp0.size, ?_, ?_, hp0.marks⟩
        · rw [upd_ne _ _ (by omega)]; exact h.post.ext Y hY
        · have h4 := hp.tmps t
          rw [put_T, hd] at h4 ⊢
          simp only [putT] at h4 ⊢
          by_cases ht : t = d
          · subst ht
            rw [Tr.get_set_same] at h4 ⊢
            simp only [Option.getD_some] at h4 ⊢
            rw [hv]
            exact hmk.move h4 (upd_same _ _ _) (upd_same _ _ _)
          · rw [Tr.get_set_ne _ _ ht] at h4 ⊢
            exact ((h.post.tmps t).restrict hleN h4).mono hleX
        · exact (put_fn _ _ _).trans ((put_fn _ _ _).symm.trans hp0.fn)
        · exact (put_inr _ _ _).trans ((put_inr _ _ _).symm.trans hp0.inr)
      · rw [put_T]; exact h.mix.put hP hk ho
      · have hL' := h.late k' s' o2 g1 g2 g3 (fun hD => g4 (.inl hD))
        refine ⟨hL'.ld, fun r1 r2 => ?_⟩
        obtain ⟨ds, dsz, r3, r4, r5, r6⟩ := hL'.al r1 r2
        refine ⟨ds, dsz, r3, ?_, r5, r6⟩
        rw [upd_ne _ _ ?_]
        · exact r4
        · have hne : k' ≠ k := fun he => by subst he; rw [hk] at g2; cases g2; exact g4 (.inr rfl)
          have mono : ∀ i j, i ≤ j → j ≤ p → (st i).2.next ≤ (st j).2.next := fun i j hij => by
            induction hij with
            | refl => intro _; exact Nat.le_refl _
            | step _ ih => intro hj; exact Nat.le_trans (ih (by omega)) (h.mono _ (by omega))
          have e1 : (st (k' + 1)).2.next = (st k').2.next + 1 := by rw [r3]; rfl
          have e2 : (st (k + 1)).2.next = (st k).2.next + 1 := by rw [q3]; rfl
          rcases Nat.lt_or_ge k' k with h' | h'
          · have := mono (k' + 1) k (by omega) (by omega); omega
          · have := mono (k + 1) k' (by omega) (by omega); omega
    · -- a load
      refine same true (val k) (by rw [hwant]; exact h1) (fun h => by cases h) (fun _ => ?_) rfl
      rw [hop]; exact hL.ld hc1 h1
    · refine same true (val k) (by rw [hwant]; exact h1) (fun h => by cases h) (fun _ => ?_) rfl
      rw [hop]; exact (pure_op hc1 h2).2 rec _
end
end Go.Ra
end

section
/-! Regions that draw their order: every order, the end. -/
namespace Go.Ra
section
variable {PO : PlanOk} {E : Env} {S : Nat → Prop} {w0 : World} {φ ψ : Emb} {w w' : World} {P : Program} {rec : Rec}
variable {ops : Array Oper} {l : List PS} {st : Nat → AF × AH} {val : Nat → Value} {φ0 : Emb} {a0 a : Act} {D : Nat → Prop} {p : Nat} {G : AF} {N : Nat}

theorem baseOf_mk {mk : Nat → Value} (h : Mk mk) (X : Nat) : baseOf (mk X) = some X := h.base X

theorem opEq_ok {a b : Option (Nat × Nat)} (h : opEq a b = true) : a = b := by
  unfold opEq at h
  split at h
  · rfl
  · rename_i a b
    rw [Bool.and_eq_true] at h
    obtain ⟨a1, a2⟩ := a; obtain ⟨b1, b2⟩ := b
    rw [show a1 = b1 from Nat.eq_of_beq_eq_true h.1, show a2 = b2 from Nat.eq_of_beq_eq_true h.2]
  · cases h

theorem Inv.effect (hEnv : EnvOk P PO E) (hS : SRec P PO E rec) {ro : Option Nat} (hok : ∀ o ∈ ops.toList, okOper E N o = true) (hP : PlanP E ops.toList l) (hT : TraceP E rec ops.toList l st val) (h : Inv PO E rec S ops.toList l st val φ0 a0 w0 D p φ G a w) (hN : N ≤ a0.tmps.size)
    {s : PS} {o : Oper} (hk : l[p]? = some s) (ho : ops.toList[s.i]? = some o) (hc : cls E o.op = 0) (hn : ¬ D s.i) (hdep : ∀ e ∈ o.after.toList, Region.binds .any e = true → D e.on)
    {K : Act → World → Prop} {Q : Exit → Act → World → Prop} (hK : ∀ φ' G' a' w', Inv PO E rec S ops.toList l st val φ0 a0 w0 (fun i => D i ∨ i = s.i) (p + 1) φ' G' a' w' → K a' w') : wpOpIn (Fr ro) 0 P ops Q s.i K a w := by
  have hst := trace_step hT hk ho
  have hmp : ∀ k, k ≤ l.length → Mix ops.toList l val (st 0).1.T (Pre l k) (st k).1.T := mix_pre hP (fun k s hk => by obtain ⟨o, h1, h2, _⟩ := hT k s hk; exact ⟨o, h1, h2⟩)
  obtain ⟨hop, hwant⟩ := reads_op (G := G) (G' := (st p).1) (ops := ops.toList) (o := o) fun t ht => reads_stable hP hk ho h.closed hdep hn h.mix (hmp p h.pn) ht
  have hR := h.post.rep
  obtain ⟨S1, hR1, htr⟩ := h.post.trans
  have hokO := hok o (List.mem_of_getElem? ho)
  have hNa : N ≤ a.tmps.size := by rw [h.post.size]; exact hN
  have ho' : ops[s.i]? = some o := by simpa using ho
  have hcl : Closed ops.toList (fun i => D i ∨ i = s.i) := by
    rintro i o' ho2 hi e he hb
    rcases hi with hi | rfl
    · exact .inl (h.closed i o' ho2 hi e he hb)
    · rw [ho] at ho2; cases ho2; exact .inl (hdep e he hb)
  have hstep : aopStep E rec ops.toList o (fun F H => some (F, H)) G (st p).2 = some (G.put o.dst (val p), (st (p + 1)).2) := by
    unfold aopStep
    rw [hwant]
    rcases hst with ⟨h1, h2, h3⟩ | ⟨h1, h2, h3⟩
    · rw [h1, h2, h3]
    · rw [h1]; simp only [hop, h2]
  obtain ⟨o3, ho3, _, hlds, hals⟩ := hT p s hk
  refine aopStep_ok hEnv hS ho' hokO hstep hNa hR1 h.post.tmps fun F1 H1 ψ a1 w1 he hp => ?_
  cases he
  refine hK ψ _ a1 w1 ⟨lt_of_some hk, fun i hi => ?_, fun k' s' o2 g1 g2 g3 g4 => ?_, hcl, htr hp, ?_, fun k' s' o2 g1 g2 g3 g4 => ?_, fun j hj => ?_⟩
  · rcases hi with hi | rfl
    · obtain ⟨j, s', h1, h2, h3⟩ := h.low i hi
      exact ⟨j, s', by omega, h2, h3⟩
    · exact ⟨p, s, by omega, hk, rfl⟩
  · by_cases he : k' = p
    · subst he; rw [hk] at g2; cases g2; exact .inr rfl
    · exact .inl (h.eff k' s' o2 (by omega) g2 g3 g4)
  · rw [put_T]; exact h.mix.put hP hk ho
  · have hne : k' ≠ p := fun he => by subst he; rw [hk] at g2; cases g2; exact g4 (.inr rfl)
    have hlt : k' < p := by omega
    have hL := h.late k' s' o2 hlt g2 g3 (fun hD => g4 (.inl hD))
    have hno : ¬ Dep ops.toList s.i s'.i := fun hd => g4 (hd _ hcl (.inr rfl))
    have hst2 := trace_step hT g2 g3
    have hdone := (hmp (p + 1) (lt_of_some hk)).done k' s' o2
    refine ⟨fun hc2 hw => ?_, fun hc1 hw => ?_⟩
    · have hmem := (hP.ld p k' s s' o o2 hlt hk g2 ho g3 hc hc2).resolve_left hno
      have hld := allX_mem hlds _ hmem
      obtain ⟨hop2, hw2⟩ := reads_op (G := (st (p + 1)).1) (G' := (st k').1) (ops := ops.toList) (o := o2) fun t ht => reads_later hP g2 g3 (by omega : k' < p + 1) hc2 (hmp (p + 1) (lt_of_some hk)) (hmp k' (by have := lt_of_some g2; omega)) ht
      unfold ldOk at hld
      rw [nthOp_eq, g3] at hld
      obtain ⟨t, x, htx⟩ := load_op hc2
      simp only [htx] at hld
      cases hd : o2.dst with
      | none => rw [hd] at hld; cases hld
      | some d =>
        rw [hd] at hld
        simp only [hw2, hw] at hld
        rw [hdone d g2 g3 hd ⟨k', s', by omega, g2, rfl⟩] at hld
        cases hq : op_load t x E (fun _ _ _ => none) (st (p + 1)).1 (st (p + 1)).2 with
        | none => rw [hq] at hld; cases hld
        | some r =>
          obtain ⟨v, H2⟩ := r
          rw [hq] at hld
          simp only at hld
          have hv := veqa_eq hld
          have hH := load_same (rec := fun _ _ _ => none) hq
          rw [← hop2 E rec, htx]
          show op_load t x E (fun _ _ _ => none) (st (p + 1)).1 (st (p + 1)).2 = _
          rw [hq, hv, hH]
    · have hmem := (hP.al p k' s s' o o2 hlt hk g2 ho g3 hc hc1).resolve_left hno
      have hal := allX_mem hals _ hmem
      obtain ⟨cs, esz, q3, q4, q5, q6⟩ := hL.al hc1 hw
      refine ⟨cs, esz, q3, by rw [hp.ext _ (hR.lt_of_get q6)]; exact q4, q5, ?_⟩
      have hval : ∃ mk, Mk mk ∧ val k' = mk (st k').2.next := by
        rcases hst2 with ⟨h1, _, _⟩ | ⟨_, h2, _⟩
        · rw [h1] at hw; cases hw
        · obtain ⟨_, _, mk, hmk, hv, _⟩ := alloc_shape hEnv.ti hc1 h2
          exact ⟨mk, hmk, hv⟩
      obtain ⟨mk, hmk, hv⟩ := hval
      obtain ⟨d, hd⟩ := hP.ad k' s' o2 g2 g3 hc1
      unfold alOk at hal
      rw [nthOp_eq, g3] at hal
      obtain ⟨dst, op, ty, pos, af, gd⟩ := o2
      simp only at hd
      subst hd
      simp only at hal
      rw [hdone d g2 g3 rfl ⟨k', s', by omega, g2, rfl⟩] at hal
      simp only [hv, hmk.base, q6] at hal
      cases hX : (st (p + 1)).2.objs.get (st k').2.next with
      | none => rw [hX] at hal; cases hal
      | some ob =>
        rw [hX] at hal
        cases ob with
        | blk c =>
          simp only [Bool.and_eq_true] at hal
          obtain ⟨⟨⟨⟨⟨e1, e2⟩, e3⟩, e4⟩, e5⟩, _⟩ := hal
          obtain ⟨c1, c2, c3, c4, c5⟩ := c
          simp only at e1 e2 e3 e4 e5
          rw [← veqs_eq e1, ← Nat.eq_of_beq_eq_true e2, ← Nat.eq_of_beq_eq_true e3, ← Nat.eq_of_beq_eq_true e4, ← eq_of_beq e5]
        | loop r => cases hal
        | iter s p => cases hal
  · by_cases he : j = p
    · subst he; exact hp.next
    · exact h.mono j (by omega)

theorem Inv.advances (hE : TiAll P E) (hP : PlanP E ops.toList l) (hT : TraceP E rec ops.toList l st val) (h : Inv PO E rec S ops.toList l st val φ0 a0 w0 D p φ G a w) : ∀ k, p ≤ k → k ≤ l.length →
    (∀ j s o, p ≤ j → j < k → l[j]? = some s → ops.toList[s.i]? = some o → cls E o.op ≠ 0) → Inv PO E rec S ops.toList l st val φ0 a0 w0 D k φ G a w := by
  intro k hpk
  induction hpk with
  | refl => intro _ _; exact h
  | @step k hpk ih =>
    have hpk : p ≤ k := hpk
    intro hkl hf
    have hI := ih (by omega) fun j s o h1 h2 => hf j s o h1 (by omega)
    obtain ⟨s, hs⟩ : ∃ s, l[k]? = some s := ⟨_, List.getElem?_eq_getElem (by omega)⟩
    obtain ⟨o, ho⟩ := hP.op k s hs
    exact hI.advance hE hP hT hs ho (hf k s o hpk (by omega) hs ho)

theorem st_fn (hT : TraceP E rec ops.toList l st val) : ∀ k, k ≤ l.length → (st k).1.fn = (st 0).1.fn ∧ (st k).1.inr = (st 0).1.inr := by
  intro k
  induction k with
  | zero => intro _; exact ⟨rfl, rfl⟩
  | succ k ih =>
    intro hk
    obtain ⟨s, hs⟩ : ∃ s, l[k]? = some s := ⟨_, List.getElem?_eq_getElem (by omega)⟩
    obtain ⟨o, _, hst, _⟩ := hT k s hs
    have := ih (by omega)
    rcases hst with ⟨_, _, h3⟩ | ⟨_, _, h3⟩
    · rw [h3]; exact ⟨(put_fn _ _ _).trans this.1, (put_inr _ _ _).trans this.2⟩
    · rw [h3]; exact ⟨(put_fn _ _ _).trans this.1, (put_inr _ _ _).trans this.2⟩

theorem Inv.done (hP : PlanP E ops.toList l) (hT : TraceP E rec ops.toList l st val) (h : Inv PO E rec S ops.toList l st val φ0 a0 w0 D p φ G a w) (hall : ∀ (k : Nat) (s : PS), l[k]? = some s → D s.i) :
    Post PO E S φ0 (st 0).2 (st 0).1 a0 w0 φ (st l.length).2 (st l.length).1 a w := by
  have hp : p = l.length := by
    rcases Nat.lt_or_ge p l.length with h' | h'
    · obtain ⟨s, hs⟩ : ∃ s, l[p]? = some s := ⟨_, List.getElem?_eq_getElem h'⟩
      obtain ⟨j, s', h1, h2, h3⟩ := h.low _ (hall p s hs)
      have := hP.inj j p s' s h2 hs h3
      omega
    · exact Nat.le_antisymm h.pn h'
  subst hp
  have hmp := mix_pre hP (fun k s hk => by obtain ⟨o, h1, h2, _⟩ := hT k s hk; exact ⟨o, h1, h2⟩) l.length (Nat.le_refl _)
  obtain ⟨f1, f2⟩ := st_fn hT l.length (Nat.le_refl _)
  refine ⟨h.post.ext, h.post.next, h.post.rep, fun t => ?_, h.post.size, f1, f2, h.post.marks⟩
  have := h.post.tmps t
  rw [h.mix.agree hP hmp (t := t) fun j oj hj _ => ?_] at this
  · exact this
  · obtain ⟨k, s, hk, rfl⟩ := hP.sur j (lt_of_some hj)
    exact ⟨fun _ => ⟨k, s, lt_of_some hk, hk, rfl⟩, fun _ => hall k s hk⟩

theorem draw_rounds (hEnv : EnvOk P PO E) (hS : SRec P PO E rec) {ro : Option Nat} (hok : ∀ o ∈ ops.toList, okOper E N o = true) (hP : PlanP E ops.toList l) (hT : TraceP E rec ops.toList l st val) (hN : N ≤ a0.tmps.size)
    {Q : Exit → Act → World → Prop} (hQ : ∀ φ a w, Post PO E S φ0 (st 0).2 (st 0).1 a0 w0 φ (st l.length).2 (st l.length).1 a w → Q .normal a w) :
    ∀ (fuel : Nat) (listed : Array Bool) (p : Nat) (φ : Emb) (G : AF) (a : Act) (w : World), listed.size = ops.size → listed.toList.count false ≤ fuel →
      Inv PO E rec S ops.toList l st val φ0 a0 w0 (fun i => listed[i]? = some true) p φ G a w → wpAnyIn (Fr ro) 0 P .any ops Q fuel listed a w := by
  intro fuel
  induction fuel with
  | zero =>
    intro listed p φ G a w hsz hcnt h
    have hall : ∀ i, i < ops.size → listed[i]? = some true := fun i hi => by
      have hi' : i < listed.toList.length := by simp; omega
      have : listed[i]? = some (listed[i]'(by omega)) := Array.getElem?_eq_getElem _
      rw [this]
      cases hb : listed[i]'(by omega) with
      | true => rfl
      | false =>
        have hm : false ∈ listed.toList := by
          have := Array.getElem_mem (xs := listed) (i := i) (by omega)
          rw [hb] at this
          exact Array.mem_toList_iff.2 this
        have := List.count_pos_iff.2 hm
        omega
    refine ⟨?_, hQ φ a w (h.done hP hT fun k s hk => ?_)⟩
    · cases hr : Region.ready .any ops listed with
      | nil => rfl
      | cons i rs =>
        have hi : i ∈ Region.ready .any ops listed := by rw [hr]; exact List.mem_cons_self
        obtain ⟨h1, o, ho, _⟩ := mem_ready.1 hi
        have := hall i (Array.getElem?_eq_some_iff.1 ho).1
        rw [Array.getD_eq_getD_getElem?, this] at h1
        cases h1
    · obtain ⟨o, ho⟩ := hP.op k s hk
      exact hall s.i (by have := lt_of_some ho; simpa using this)
  | succ fuel ih =>
    intro listed p φ G a w hsz hcnt h
    refine ⟨fun hr => hQ φ a w (h.done hP hT fun k s hk => ?_), fun i hi => ?_⟩
    · -- all are done
      have key : ∀ (n k : Nat) (s : PS), k < n → l[k]? = some s → listed[s.i]? = some true := by
        intro n
        induction n with
        | zero => intro k s hk; omega
        | succ n ihn =>
          intro k s hlt hk
          obtain ⟨o, ho⟩ := hP.op k s hk
          have hlo := lt_of_some ho
          simp only [Array.length_toList] at hlo
          have hg : listed[s.i]? = some (listed[s.i]'(by omega)) := Array.getElem?_eq_getElem _
          cases hb : listed[s.i]'(by omega) with
          | true => rw [hg, hb]
          | false =>
            have : s.i ∈ Region.ready .any ops listed := by
              refine mem_ready.2 ⟨by rw [Array.getD_eq_getD_getElem?, hg, hb]; rfl, o, by simpa using ho, fun e he hbe => ?_⟩
              obtain ⟨j, s', h1, h2, h3⟩ := hP.edge k s o hk ho e (Array.mem_toList_iff.2 he) hbe
              have := ihn j s' (by omega) h2
              rw [h3] at this
              rw [Array.getD_eq_getD_getElem?, this]; rfl
            rw [hr] at this; cases this
      exact key (k + 1) k s (by omega) hk
    · obtain ⟨h1, o, ho, hed⟩ := mem_ready.1 hi
      have hlo := (Array.getElem?_eq_some_iff.1 ho).1
      have ho2 : ops.toList[i]? = some o := by simpa using ho
      have hn : ¬ listed[i]? = some true := fun he => by rw [Array.getD_eq_getD_getElem?, he] at h1; cases h1
      have hfalse : listed[i]'(by omega) = false := by
        rw [Array.getD_eq_getD_getElem?, Array.getElem?_eq_getElem (by omega)] at h1; exact h1
      have hdep : ∀ e ∈ o.after.toList, Region.binds .any e = true → listed[e.on]? = some true := fun e he hb => by
        have := hed e (Array.mem_toList_iff.1 he) hb
        rw [Array.getD_eq_getD_getElem?] at this
        cases hx : listed[e.on]? with
        | none => rw [hx] at this; cases this
        | some b => rw [hx] at this; simp only [Option.getD_some] at this; rw [this]
      obtain ⟨k, s, hk, rfl⟩ := hP.sur i (lt_of_some ho2)
      have hnext : ∀ (p' : Nat) (φ' : Emb) (G' : AF) (a' : Act) (w' : World), Inv PO E rec S ops.toList l st val φ0 a0 w0 (fun i => listed[i]? = some true ∨ i = s.i) p' φ' G' a' w' → wpAnyIn (Fr ro) 0 P .any ops Q fuel (listed.setIfInBounds s.i true) a' w' := by
        intro p' φ' G' a' w' hI
        have hc : (listed.setIfInBounds s.i true).toList.count false ≤ fuel := by
          rw [Array.toList_setIfInBounds, List.count_set (by simp; omega)]
          simp only [Array.getElem_toList, hfalse]
          have : 0 < listed.toList.count false := List.count_pos_iff.2 (by
            have := Array.getElem_mem (xs := listed) (i := s.i) (by omega)
            rw [hfalse] at this
            exact Array.mem_toList_iff.2 this)
          have e2 : ((true : Bool) == false) = false := rfl
          simp only [BEq.rfl, if_true, e2, Bool.false_eq_true, if_false]
          omega
        have hDD : ∀ i, ((listed.setIfInBounds s.i true)[i]? = some true) ↔ (listed[i]? = some true ∨ i = s.i) := fun i => by
          rw [Array.getElem?_setIfInBounds]
          by_cases he : s.i = i
          · subst he; simp; omega
          · rw [if_neg he]
            exact ⟨fun h => .inl h, fun h => h.resolve_right (fun h => he h.symm)⟩
        refine ih _ p' φ' G' a' w' (by simpa using hsz) hc ?_
        have : (fun i => (listed.setIfInBounds s.i true)[i]? = some true) = (fun i => listed[i]? = some true ∨ i = s.i) := funext fun i => propext (hDD i)
        rw [this]
        exact hI
      have hcl : Closed ops.toList (fun i => listed[i]? = some true ∨ i = s.i) := by
        rintro i o' ho3 hi e he hb
        rcases hi with hi | rfl
        · exact .inl (h.closed i o' ho3 hi e he hb)
        · rw [ho2] at ho3; cases ho3; exact .inl (hdep e he hb)
      have hfl : ∀ j s' o', p ≤ j → j < k → l[j]? = some s' → ops.toList[s'.i]? = some o' → cls E o'.op ≠ 0 := by
        intro j s' o' hpj hjk hs' ho' hc
        have hd := hP.lev k j s s' o' hjk hk hs' ho' hc _ hcl (.inr rfl)
        rcases hd with hd | hd
        · obtain ⟨j2, s2, g1, g2, g3⟩ := h.low _ hd
          have := hP.inj j2 j s2 s' g2 hs' g3
          omega
        · have := hP.inj j k s' s hs' hk hd
          omega
      have hkl := lt_of_some hk
      by_cases hc : cls E o.op = 0
      · have hpk : p ≤ k := by
          rcases Nat.lt_or_ge k p with h' | h'
          · exact absurd (h.eff k s o h' hk ho2 hc) hn
          · exact h'
        exact (h.advances hEnv.ti hP hT k hpk (by omega) hfl).effect hEnv hS hok hP hT hN hk ho2 hc hn hdep fun φ' G' a' w' hI => hnext _ φ' G' a' w' hI
      · rcases Nat.lt_or_ge k p with h' | h'
        · exact h.float hEnv hS hok hP hT hN h' hk ho2 hc hn hdep fun φ' G' a' w' hI => hnext _ φ' G' a' w' hI
        · have hI := (h.advances hEnv.ti hP hT k h' (by omega) hfl).advance hEnv.ti hP hT hk ho2 hc
          exact hI.float hEnv hS hok hP hT hN (by omega : k < k + 1) hk ho2 hc hn hdep fun φ' G' a' w' hI => hnext _ φ' G' a' w' hI

/-- the plans are right -/
def POE (E : Env) : PlanOk := fun ops l => planB E ops l = true

theorem sone_draw (hm : P.follows .mixedOrders = true) (hEnv : EnvOk P (POE E) E) (hS : SRec P (POE E) E rec) (id : Nat) (ops : Array Oper) : SOne P (POE E) E (.region id ops true) (cDraw id ops E rec) := by
  intro F H x F' H' h N hok S φ a w r hr hN hR hF Q hQ
  unfold cDraw at h
  split at h
  · rename_i t ht
    split at h
    · rename_i l hl
      cases hd : adraw E rec ops.toList l F H with
      | none => rw [hd] at h; cases h
      | some q =>
        rw [hd] at h
        obtain ⟨F1, H1⟩ := q
        cases h
        obtain ⟨st, val, h0, hn, hT⟩ := adraw_trace hd
        have hP := planB_ok (hok.2 rfl t l ht hl)
        apply wpIn_region_any hm
        refine draw_rounds (st := st) (val := val) (φ0 := φ) (a0 := a) (w0 := w) (S := S) hEnv hS hok.1 hP hT hN (fun ψ a' w' hp => hQ ψ a' w' ?_) ops.size (Array.replicate ops.size false) 0 φ F a _ (by simp) (by simp) ?_
        · rw [h0, hn] at hp; exact hp
        · have hD : ∀ i, ¬ (Array.replicate ops.size false)[i]? = some true := fun i he => by
            rw [Array.getElem?_replicate] at he
            split at he <;> cases he
          refine ⟨Nat.zero_le _, fun i hi => absurd hi (hD i), fun k s o hk => by omega, fun i o _ hi => absurd hi (hD i), ?_, ⟨fun k s o d _ _ _ hi => absurd hi (hD _), fun t _ => by rw [h0]⟩, fun k s o hk => by omega, fun j hj => by omega⟩
          rw [h0]
          exact ⟨Ext.refl _ _, Nat.le_refl _, hR.drew _, hF, rfl, rfl, rfl, [], rfl, .nil⟩
    · cases h
  · cases h

/-- **the evaluator is right** -/
theorem srec_of (hm : P.follows .mixedOrders = true) (hEnv : EnvOk P (POE E) E) (n : Nat) : SRec P (POE E) E (arun E n) := srec_all hEnv (fun _ hS id ops => sone_draw hm hEnv hS id ops) n

theorem acall_sound (hm : P.follows .mixedOrders = true) (hEnv : EnvOk P (POE E) E) {n f : Nat} {args : List Value} {us : Array Value} {v : Value} {S : Nat → Prop} {φ : Emb} {H H' : AH} {w : World}
    (h : acall E (arun E n) f args H = some (v, H')) (hR : Rep (POE E) E S w φ H w) (hv : VRl φ args us.toList) : CallsIn (Fr none) 0 P f us w (CallR (POE E) E S φ H w v H') :=
  acall_all hEnv (fun _ hS id ops => sone_draw hm hEnv hS id ops) h hR hv
end
end Go.Ra
end

section
/-! The tables of a seat: checkers. -/
namespace Go.Ra
noncomputable section
variable {P : Program}

/-! ### '==' of flat structs and arrays -/
def flatT (P : Program) (t : Nat) (c : Value) : Bool :=
  match P.underlying t, c with
  | some (.int j), .int k _ => ikn j == ikn k
  | some .bool, .bool _ => true
  | some .string, .string _ => true
  | _, _ => false
def flatFs (P : Program) : List Field → Nat → List Value → Bool
  | [], _, [] => true
  | f :: fs, i, c :: z => f.name != "_" && f.offset == i && flatT P f.type c && flatFs P fs (i + 1) z
  | _, _, _ => false
def flatAs (P : Program) (e : Nat) : List Value → Bool
  | [] => true
  | c :: z => flatT P e c && flatAs P e z
def cmpB (P : Program) (t : Nat) (z : List Value) : Bool :=
  match P.underlying t with
  | some (.struct fs) => !P.stoodInHeld t && !P.eqGuardType P.depth t && flatFs P fs.toList 0 z
  | some (.array n e) => !P.eqGuardType P.depth t && flatAs P e z && n == z.length && (match P.info? e with | some i => i.size == 1 | none => false)
  | _ => false

theorem ikn_eq {j k : IntKind} (h : (ikn j == ikn k) = true) : j = k := by
  cases j <;> cases k <;> first | rfl | (simp [ikn] at h)

theorem beq_bytes {a b : ByteArray} : (a == b) = bytesEq a.data.toList b.data.toList := by
  rw [bytesEq_eq]
  obtain ⟨⟨x⟩⟩ := a
  obtain ⟨⟨y⟩⟩ := b
  show ((⟨x⟩ : Array UInt8) == ⟨y⟩) = (x == y)
  simp

theorem run_isAgg_flat {t : Nat} {c : Value} (h : flatT P t c = true) (w : World) : (isAgg t).run P w = .ok false w := by
  unfold flatT at h
  split at h <;> first | (cases h; done) | skip
  all_goals (rename_i hu; simp [isAgg, run_underlying' hu])

theorem flat_eq {t : Nat} {c x y : Value} {b : Bool} (h : flatT P t c = true) (hl : likeZ [c] [x] = true) (he : aeqv x y = some b) (d : Nat) (w : World) : (Op.equalIn (d + 1) t x y).run P w = .ok b w := by
  unfold flatT at h
  unfold aeqv at he
  split at h <;> first | (cases h; done) | skip
  all_goals
    rename_i hu
    split at he <;> first | (cases he; done) | skip
  all_goals first | (simp only [likeZ] at hl; cases hl; done) | skip
  · rename_i j k n _ _ j' a k' b'
    cases hk : ikeq j' k' with
    | false => rw [hk] at he; cases he
    | true =>
      rw [hk] at he
      cases he
      rw [ikeq_ok hk]
      rw [run_equalIn_int w d t k' j a b' hu, ieq_eq]
      simp only [Result.ok.injEq, and_true]
      rw [Bool.eq_iff_iff]; simp
  · cases he
    exact run_equalIn_bool' w d t _ _ hu
  · cases he
    simp [Op.equalIn, run_underlying' hu, beq_bytes]

theorem part_flat {t : Nat} {c : Value} (h : flatT P t c = true) {xs : Array Value} {i : Nat} {x : Value} (hx : xs[i]? = some x) (w : World) : (part t xs i).run P w = .ok x w := by
  simp only [part, Sem.run_bind, run_isAgg_flat h, Result.andThen_ok, Bool.false_eq_true, if_false, hx, Sem.run_pure]

theorem likeZ_cons {c : Value} {z l : List Value} (h : likeZ (c :: z) l = true) : ∃ x xs, l = x :: xs ∧ likeZ [c] [x] = true ∧ likeZ z xs = true := by
  cases l with
  | nil => cases c <;> simp [likeZ] at h
  | cons x xs =>
    refine ⟨x, xs, rfl, ?_⟩
    cases c <;> cases x <;> simp only [likeZ] at h <;> first | (cases h; done) | skip
    · exact ⟨rfl, h⟩
    · rw [Bool.and_eq_true] at h; exact ⟨by simp only [likeZ, h.1, Bool.and_self], h.2⟩
    · exact ⟨rfl, h⟩

theorem eqFields_flat {d : Nat} {w : World} {b : Bool} : ∀ {fs : List Field} {i : Nat} {z xl yl : List Value} {xs ys : Array Value}, flatFs P fs i z = true → likeZ z xl = true → aeql xl yl = some b →
    xs.toList.drop i = xl → ys.toList.drop i = yl → (Op.eqFields (d + 1) xs ys fs).run P w = .ok b w := by
  intro fs
  induction fs with
  | nil =>
    intro i z xl yl xs ys hf hl he _ _
    cases z with
    | nil =>
      cases xl with
      | nil => cases yl with
        | nil => simp only [aeql] at he; cases he; rfl
        | cons y yl => simp [aeql] at he
      | cons x xl => simp [likeZ] at hl
    | cons c z => simp [flatFs] at hf
  | cons f fs ih =>
    intro i z xl yl xs ys hf hl he hx hy
    cases z with
    | nil => simp [flatFs] at hf
    | cons c z =>
      simp only [flatFs, Bool.and_eq_true] at hf
      obtain ⟨⟨⟨h1, h2⟩, h3⟩, h4⟩ := hf
      obtain ⟨x, xl', rfl, hl1, hl2⟩ := likeZ_cons hl
      cases yl with
      | nil => simp [aeql] at he
      | cons y yl =>
        have h2 : f.offset = i := eq_of_beq h2
        have hn : f.name ≠ "_" := by simpa using h1
        have gx : xs[i]? = some x := by
          have : xs.toList[i]? = some x := by
            have := congrArg (·[0]?) hx
            simpa using this
          simpa using this
        have gy : ys[i]? = some y := by
          have : ys.toList[i]? = some y := by
            have := congrArg (·[0]?) hy
            simpa using this
          simpa using this
        have dx : xs.toList.drop (i + 1) = xl' := by
          have := congrArg List.tail hx
          simpa using this
        have dy : ys.toList.drop (i + 1) = yl := by
          have := congrArg List.tail hy
          simpa using this
        simp only [aeql] at he
        cases hv : aeqv x y with
        | none => rw [hv] at he; cases he
        | some r =>
          rw [hv] at he
          simp only [Op.eqFields, if_pos hn, h2, Sem.run_bind, part_flat h3 gx, part_flat h3 gy, flat_eq h3 hl1 hv, Result.andThen_ok]
          cases r with
          | true => simp only [Bool.not_true, Bool.false_eq_true, if_false]; exact ih h4 hl2 he dx dy
          | false => cases he; simp only [Bool.not_false, if_true, Sem.run_pure]

theorem flatAs_get {e : Nat} : ∀ {z : List Value} {i : Nat} {c : Value}, flatAs P e z = true → z[i]? = some c → flatT P e c = true := by
  intro z
  induction z with
  | nil => intro i c _ h; simp at h
  | cons x z ih =>
    intro i c hf h
    simp only [flatAs, Bool.and_eq_true] at hf
    cases i with
    | zero => simp at h; subst h; exact hf.1
    | succ i => exact ih hf.2 (by simpa using h)

theorem cmpB_ok {t : Nat} {z : List Value} (h : cmpB P t z = true) : CmpOk P t z := by
  unfold cmpB at h
  intro xs ys b w hl he
  split at h
  · rename_i fs hu
    simp only [Bool.and_eq_true, Bool.not_eq_true'] at h
    refine ⟨?_, h.1.2⟩
    show (Op.equalIn (9999 + 1) t _ _).run P w = _
    have hfo : P.fieldsOf t = fs := by simp only [Program.fieldsOf, hu]
    rw [run_equalIn_struct w 9999 t ⟨xs⟩ ⟨ys⟩ (by rw [hfo]; exact hu) h.1.1, hfo]
    show (Op.eqFields (9998 + 1) _ _ _).run P w = _
    exact eqFields_flat h.2 hl he rfl rfl
  · rename_i n e hu
    simp only [Bool.and_eq_true, Bool.not_eq_true'] at h
    obtain ⟨⟨⟨h1, h2⟩, h3⟩, h4⟩ := h
    refine ⟨?_, h1⟩
    split at h4
    · rename_i inf hinf
      have hsz : (sizeOf e).run P w = .ok 1 w := by
        simp only [sizeOf, Sem.run_bind, run_typeInfo' hinf, Result.andThen_ok, Sem.run_pure]
        rw [eq_of_beq h4]
      have h3 : n = z.length := eq_of_beq h3
      show (Op.equalIn ((9998 + 1) + 1) t _ _).run P w = _
      generalize (9998 : Nat) = d
      rw [Op.equalIn]
      simp only [Sem.run_bind, run_underlying' hu, Result.andThen_ok, hsz, Nat.mul_one]
      simp only [Std.Legacy.Range.forIn_eq_forIn_range', Std.Legacy.Range.size, Nat.sub_zero, Nat.add_sub_cancel, Nat.div_one]
      subst h3
      have key : ∀ (k i : Nat) (z' xl yl : List Value), k = z'.length → flatAs P e z' = true → likeZ z' xl = true → aeql xl yl = some b → xs.drop i = xl → ys.drop i = yl →
          ∃ r : (Option Bool × Unit), (forIn (List.range' i k) ((none, ()) : (Option Bool × Unit)) (fun i r => do
            let a ← part e ⟨xs⟩ i
            let c ← part e ⟨ys⟩ i
            let q ← Op.equalIn (d + 1) e a c
            if (!q) = true then pure (ForInStep.done (some false, ())) else pure (ForInStep.yield (none, ()))) : Sem _).run P w = .ok r w ∧ (match r.fst with | none => true | some a => a) = b := by
        intro k
        induction k with
        | zero =>
          intro i z' xl yl hk hf hl he hx hy
          cases z' with
          | nil =>
            cases xl with
            | nil => cases yl with
              | nil => simp only [aeql] at he; cases he; exact ⟨(none, ()), by simp [Sem.run_pure], rfl⟩
              | cons y yl => simp [aeql] at he
            | cons x xl => simp [likeZ] at hl
          | cons c z' => simp at hk
        | succ k ih =>
          intro i z' xl yl hk hf hl he hx hy
          cases z' with
          | nil => simp at hk
          | cons c z' =>
            obtain ⟨x, xl', rfl, hl1, hl2⟩ := likeZ_cons hl
            cases yl with
            | nil => simp [aeql] at he
            | cons y yl =>
              simp only [flatAs, Bool.and_eq_true] at hf
              have gx : (⟨xs⟩ : Array Value)[i]? = some x := by
                have : xs[i]? = some x := by
                  have := congrArg (·[0]?) hx
                  simpa using this
                simpa using this
              have gy : (⟨ys⟩ : Array Value)[i]? = some y := by
                have : ys[i]? = some y := by
                  have := congrArg (·[0]?) hy
                  simpa using this
                simpa using this
              have dx : xs.drop (i + 1) = xl' := by
                have := congrArg List.tail hx
                simpa using this
              have dy : ys.drop (i + 1) = yl := by
                have := congrArg List.tail hy
                simpa using this
              simp only [aeql] at he
              cases hv : aeqv x y with
              | none => rw [hv] at he; cases he
              | some r =>
                rw [hv] at he
                simp only [List.range'_succ, List.forIn_cons, Sem.run_bind, part_flat hf.1 gx, part_flat hf.1 gy, Result.andThen_ok]
                have hfe : (Op.equalIn (d + 1) e x y).run P w = .ok r w := flat_eq hf.1 hl1 hv d w
                rw [hfe]
                simp only [Result.andThen_ok]
                cases r with
                | true =>
                  simp only [Bool.not_true, Bool.false_eq_true, if_false, Sem.run_pure, Result.andThen_ok]
                  exact ih (i + 1) z' xl' yl (by simpa using hk) hf.2 hl2 he dx dy
                | false =>
                  cases he
                  simp only [Bool.not_false, if_true, Sem.run_pure, Result.andThen_ok]
                  exact ⟨_, rfl, rfl⟩
      obtain ⟨r, hr, hb⟩ := key z.length 0 z xs ys rfl h2 hl he rfl rfl
      rw [hr]
      simp only [Result.andThen_ok]
      obtain ⟨r1, r2⟩ := r
      cases r1 with
      | none => simp only at hb ⊢; rw [Sem.run_pure, hb]
      | some q => simp only at hb ⊢; rw [Sem.run_pure, hb]
    · cases h4
  · cases h
end
end Go.Ra
end

section
/-! The tables of a seat: checkers, whole. -/
namespace Go.Ra
noncomputable section
variable {P : Program}

def zeq : Value → Value → Bool
  | .int j a, .int k b => ikeq j k && ieq a b
  | .bool a, .bool b => a == b
  | .string a, .string b => bytesEq a.data.toList b.data.toList
  | .pointer none, .pointer none => true
  | .slice none 0 0, .slice none 0 0 => true
  | .nilFunc, .nilFunc => true
  | .nilIface, .nilIface => true
  | .map none, .map none => true
  | _, _ => false
def zeqs : List Value → List Value → Bool
  | [], [] => true
  | a :: l, b :: m => zeq a b && zeqs l m
  | _, _ => false
theorem zeq_ok {a b : Value} (h : zeq a b = true) : a = b := by
  unfold zeq at h
  split at h
  · rw [Bool.and_eq_true] at h; rw [ikeq_ok h.1, ieq_ok h.2]
  · rw [eq_of_beq h]
  · have := bytesEq_ok h
    rename_i a b
    obtain ⟨⟨a⟩⟩ := a; obtain ⟨⟨b⟩⟩ := b
    have this : a = b := this
    rw [this]
  all_goals first | rfl | cases h
theorem zeqs_ok : ∀ {l m : List Value}, zeqs l m = true → l = m := by
  intro l
  induction l with
  | nil => intro m h; cases m with
    | nil => rfl
    | cons b m => simp [zeqs] at h
  | cons a l ih => intro m h; cases m with
    | nil => simp [zeqs] at h
    | cons b m => simp only [zeqs, Bool.and_eq_true] at h; rw [zeq_ok h.1, ih h.2]

def fldsB : List Field → List FI → Bool
  | [], [] => true
  | f :: l, g :: m => Nat.beq f.offset g.off && Nat.beq f.type g.ty && fldsB l m
  | _, _ => false
theorem fldsB_ok : ∀ {l : List Field} {m : List FI}, fldsB l m = true → l.map (fun f => (f.offset, f.type)) = m.map (fun f => (f.off, f.ty)) := by
  intro l
  induction l with
  | nil => intro m h; cases m with
    | nil => rfl
    | cons b m => simp [fldsB] at h
  | cons a l ih => intro m h; cases m with
    | nil => simp [fldsB] at h
    | cons b m =>
      simp only [fldsB, Bool.and_eq_true] at h
      simp only [List.map_cons, ih h.2, Nat.eq_of_beq_eq_true h.1.1, Nat.eq_of_beq_eq_true h.1.2]

def szB (P : Program) (f : FI) : Bool := !(Nat.beq f.sz 0) && (match P.info? f.ty with | some i => Nat.beq i.size f.sz | none => false)

def kB (P : Program) (t : Nat) (k : AK) : Bool :=
  match k, P.underlying t with
  | .int k, some (.int j) => ikeq k j
  | .bool, some .bool => true
  | .str, some .string => true
  | .ptr e, some (.pointer e') => Nat.beq e e'
  | .slice e, some (.slice e') => Nat.beq e e'
  | .array n e, some (.array n' e') => Nat.beq n n' && Nat.beq e e'
  | .struct fs, some (.struct flds) => fldsB flds.toList fs && fs.all (szB P)
  | .func, some (.func _ _ _) => true
  | .other, some (.map _ _) => true
  | .other, some (.interface _) => true
  | _, _ => false
theorem kB_ok {t : Nat} {k : AK} (h : kB P t k = true) : KOk P t k := by
  unfold kB at h
  split at h <;> simp only [KOk] <;> first | (cases h; done) | skip
  · rename_i hu; rw [ikeq_ok h]; exact hu
  · assumption
  · assumption
  · rename_i hu; rw [Nat.eq_of_beq_eq_true h]; exact hu
  · rename_i hu; rw [Nat.eq_of_beq_eq_true h]; exact hu
  · rename_i hu; rw [Bool.and_eq_true] at h; rw [Nat.eq_of_beq_eq_true h.1, Nat.eq_of_beq_eq_true h.2]; exact hu
  · rename_i hu
    rw [Bool.and_eq_true, List.all_eq_true] at h
    refine ⟨_, hu, fldsB_ok h.1, fun f hf => ?_⟩
    have := h.2 f hf
    simp only [szB, Bool.and_eq_true, Bool.not_eq_true'] at this
    refine ⟨fun h0 => by rw [h0] at this; simp at this, ?_⟩
    have h2 := this.2
    split at h2
    · rename_i i hi; exact ⟨i, hi, Nat.eq_of_beq_eq_true h2⟩
    · cases h2
  · rename_i hu; exact ⟨_, _, _, hu⟩
  · rename_i hu; exact ⟨_, hu, fun _ h => (by cases h), fun _ _ h => (by cases h)⟩
  · rename_i hu; exact ⟨_, hu, fun _ h => (by cases h), fun _ _ h => (by cases h)⟩

def infoB (P : Program) (t : Nat) (i : TI) : Bool :=
  match P.info? t with
  | some f => Nat.beq f.size i.size && Nat.beq f.bytes i.bytes && (match f.zero with | some z => zeqs z.cells.toList i.zero | none => false)
  | none => false

def tiB (P : Program) (t : Nat) (i : TI) : Bool :=
  infoB P t i && kB P t i.k && i.zero.all constOk && Nat.beq i.zero.length i.size && Nat.ble i.bytes 4096 && (bif i.cmp then cmpB P t i.zero else true)

theorem tiB_ok {t : Nat} {i : TI} (h : tiB P t i = true) : TiOk P t i := by
  unfold tiB at h
  simp only [Bool.and_eq_true] at h
  obtain ⟨⟨⟨⟨⟨h1, h2⟩, h3⟩, h4⟩, h5⟩, h6⟩ := h
  refine ⟨?_, kB_ok h2, h3, Nat.eq_of_beq_eq_true h4, Nat.le_of_ble_eq_true h5, fun hc => ?_⟩
  · unfold infoB at h1
    split at h1
    · rename_i f hf
      simp only [Bool.and_eq_true] at h1
      obtain ⟨⟨g1, g2⟩, g3⟩ := h1
      split at g3
      · rename_i z hz
        exact ⟨f, hf, Nat.eq_of_beq_eq_true g1, Nat.eq_of_beq_eq_true g2, z, hz, zeqs_ok g3⟩
      · cases g3
    · cases h1
  · rw [hc] at h6; exact cmpB_ok h6

/-! ### All of a trie -/
def trAll {α : Type} (p : Nat → α → Bool) : Tr α → (Nat → Nat) → Bool
  | .nil, _ => true
  | .node l v r, f => (match v with | some x => p (f 0) x | none => true) && trAll p l (fun m => f (2 * m + 1)) && trAll p r (fun m => f (2 * m + 2))
def TrAll {α : Type} (Q : Nat → α → Prop) : Tr α → (Nat → Nat) → Prop
  | .nil, _ => True
  | .node l v r, f => (match v with | some x => Q (f 0) x | none => True) ∧ TrAll Q l (fun m => f (2 * m + 1)) ∧ TrAll Q r (fun m => f (2 * m + 2))

theorem Tr.get_node' {α : Type} (l : Tr α) (v : Option α) (r : Tr α) (n : Nat) : (Tr.node l v r).get n = if n = 0 then v else if n % 2 = 1 then l.get (n / 2) else r.get (n / 2 - 1) := by
  show Bool.rec (motive := fun _ => Option α) (Bool.rec (motive := fun _ => Option α) (r.get (Nat.sub (Nat.div n 2) 1)) (l.get (Nat.div n 2)) (Nat.beq (Nat.mod n 2) 1)) v (Nat.beq n 0) = _
  by_cases h0 : n = 0
  · subst h0; rfl
  · rw [if_neg h0]
    have e0 : Nat.beq n 0 = false := by cases h : Nat.beq n 0 with
      | false => rfl
      | true => exact absurd (Nat.eq_of_beq_eq_true h) h0
    rw [e0]
    by_cases h1 : n % 2 = 1
    · rw [if_pos h1]
      have e1 : Nat.beq (Nat.mod n 2) 1 = true := by
        show Nat.beq (n % 2) 1 = true
        rw [h1]; rfl
      rw [e1]; rfl
    · rw [if_neg h1]
      have e1 : Nat.beq (Nat.mod n 2) 1 = false := by cases h : Nat.beq (Nat.mod n 2) 1 with
        | false => rfl
        | true => exact absurd (Nat.eq_of_beq_eq_true h) h1
      rw [e1]; rfl

theorem TrAll.get {α : Type} {Q : Nat → α → Prop} : ∀ {t : Tr α} {f : Nat → Nat}, TrAll Q t f → ∀ n x, t.get n = some x → Q (f n) x := by
  intro t
  induction t with
  | nil => intro f _ n x h; rw [Tr.get_nil] at h; cases h
  | node l v r ihl ihr =>
    intro f h n x hx
    obtain ⟨h1, h2, h3⟩ := h
    rw [Tr.get_node'] at hx
    split at hx
    · rename_i h0; subst h0; subst hx; exact h1
    · split at hx
      · rename_i h0 h1'
        have := ihl h2 (n / 2) x hx
        rw [show 2 * (n / 2) + 1 = n by omega] at this
        exact this
      · rename_i h0 h1'
        have := ihr h3 (n / 2 - 1) x hx
        rw [show 2 * (n / 2 - 1) + 2 = n by omega] at this
        exact this

theorem trAll_ok {α : Type} {p : Nat → α → Bool} {Q : Nat → α → Prop} (hp : ∀ n x, p n x = true → Q n x) : ∀ {t : Tr α} {f : Nat → Nat}, trAll p t f = true → TrAll Q t f := by
  intro t
  induction t with
  | nil => intro f _; trivial
  | node l v r ihl ihr =>
    intro f h
    simp only [trAll, Bool.and_eq_true] at h
    refine ⟨?_, ihl h.1.2, ihr h.2⟩
    cases v with
    | none => trivial
    | some x => exact hp _ _ h.1.1
theorem TrAll.and {α : Type} {Q R : Nat → α → Prop} : ∀ {t : Tr α} {f : Nat → Nat}, TrAll Q t f → TrAll R t f → TrAll (fun n x => Q n x ∧ R n x) t f := by
  intro t
  induction t with
  | nil => intro f _ _; trivial
  | node l v r ihl ihr =>
    intro f h h'
    refine ⟨?_, ihl h.2.1 h'.2.1, ihr h.2.2 h'.2.2⟩
    cases v with
    | none => trivial
    | some x => exact ⟨h.1, h'.1⟩

/-! ### Code -/
def okCodeB (E : Env) (fn N : Nat) : Code → Bool
  | .region id ops d => ops.toList.all (okOper E N) && (bif d then (match E.plan.get fn with
    | some t => match t.get id with
      | some l => planB E ops.toList l
      | none => true
    | none => true) else true)
  | .seq a b => okCodeB E fn N a && okCodeB E fn N b
  | .cond c a b => okOpd E c && okCodeB E fn N a && okCodeB E fn N b
  | .block _ c => okCodeB E fn N c
  | .loop c => okCodeB E fn N c
  | .scope c => okCodeB E fn N c
  | .rangeFunc f ps a b => okOpd E f && ps.toList.all (fun p => Nat.blt p N) && okCodeB E fn N a && okCodeB E fn N b
  | _ => true

theorem okCodeB_ok {E : Env} {fn N : Nat} : ∀ {c : Code}, okCodeB E fn N c = true → okCode (POE E) E fn N c := by
  intro c
  induction c with
  | region id ops d =>
    intro h
    simp only [okCodeB, Bool.and_eq_true, List.all_eq_true] at h
    refine ⟨h.1, fun hd t l ht hl => ?_⟩
    have := h.2
    rw [hd] at this
    simp only [cond_true, ht, hl] at this
    exact this
  | seq a b iha ihb => intro h; simp only [okCodeB, Bool.and_eq_true] at h; exact ⟨iha h.1, ihb h.2⟩
  | cond c a b iha ihb => intro h; simp only [okCodeB, Bool.and_eq_true] at h; exact ⟨h.1.1, iha h.1.2, ihb h.2⟩
  | block _ c ih => intro h; exact ih h
  | loop c ih => intro h; exact ih h
  | scope c ih => intro h; exact ih h
  | rangeFunc f ps a b iha ihb =>
    intro h
    simp only [okCodeB, Bool.and_eq_true, List.all_eq_true] at h
    exact ⟨h.1.1.1, fun p hp => Nat.le_of_ble_eq_true (h.1.1.2 p hp), iha h.1.2, ihb h.2⟩
  | _ => intro _; trivial

def fnB (E : Env) (f : Nat) (fn : Func) : Bool := !(fn.name == "runtime.NumGoroutine") && (match fn.body with
  | some c => okCodeB E f fn.ntmps c
  | none => false)

/-- the tables of a seat are right -/
theorem envOk_of {E : Env} (hti : trAll (tiB P) E.ti id = true) (hft : TrAll (fun f fn => P.funcs[f]? = some fn ∧ fnB E f fn = true) E.ft id) (horc : ∀ f, E.orc f = none) : EnvOk P (POE E) E := by
  refine ⟨fun t i h => ?_, fun f g h => (by rw [horc] at h; cases h), fun f fn _ h => ?_⟩
  · exact (trAll_ok (Q := fun t i => TiOk P t i) (fun _ _ => tiB_ok) hti).get t i h
  · obtain ⟨h1, h2⟩ := hft.get f fn h
    simp only [id] at h1 h2
    unfold fnB at h2
    simp only [Bool.and_eq_true, Bool.not_eq_true'] at h2
    cases hb : fn.body with
    | none => rw [hb] at h2; exact absurd h2.2 (by simp)
    | some c =>
      rw [hb] at h2
      exact ⟨⟨h1, h2.1, by rw [hb]; rfl⟩, fun c' hc' => by cases hc'; exact okCodeB_ok h2.2⟩
end
end Go.Ra
end

section
/-! Functions that are not entered: what they answer has been proved. -/
namespace Go.Ra
noncomputable section
variable {P : Program} {E : Env} {S : Nat → Prop} {w0 w w' : World} {φ ψ : Emb} {H H' : AH}

abbrev Orc := Nat → Option (List Value → AH → Option (Value × AH))
def EO (E : Env) (o : Orc) : Env := { E with orc := o }

theorem cls_EO (E : Env) (o : Orc) : cls (EO E o) = cls E := by
  funext op
  cases op <;> first | rfl | skip
theorem okOpd_EO (E : Env) (o : Orc) : okOpd (EO E o) = okOpd E := by funext x; cases x <;> rfl
theorem okOper_EO (E : Env) (o : Orc) (N : Nat) : okOper (EO E o) N = okOper E N := by
  funext x
  unfold okOper
  rw [okOpd_EO]
theorem planB_EO (E : Env) (o : Orc) : planB (EO E o) = planB E := by
  have h1 : clsAt (EO E o) = clsAt E := by funext l i; unfold clsAt; rw [cls_EO]
  have h2 : stepB (EO E o) = stepB E := by funext a b c d; unfold stepB; rw [cls_EO, h1]
  have h3 : readB (EO E o) = readB E := by funext a b c; unfold readB; rw [cls_EO]
  funext a b
  unfold planB
  rw [h2, h3]

theorem okCode_EO {o : Orc} {f N : Nat} : ∀ {c : Code}, okCode (POE (EO E o)) (EO E o) f N c ↔ okCode (POE E) E f N c := by
  intro c
  induction c with
  | region id ops d =>
    simp only [okCode, okOper_EO, POE, planB_EO]
    exact Iff.rfl
  | seq a b iha ihb => exact and_congr iha ihb
  | cond c a b iha ihb => simp only [okCode, okOpd_EO]; exact and_congr Iff.rfl (and_congr iha ihb)
  | block _ c ih => exact ih
  | loop c ih => exact ih
  | scope c ih => exact ih
  | rangeFunc f ps a b iha ihb => simp only [okCode, okOpd_EO]; exact and_congr Iff.rfl (and_congr Iff.rfl (and_congr iha ihb))
  | _ => exact Iff.rfl

theorem Rep.toEO (o : Orc) (h : Rep (POE E) E S w0 φ H w) : Rep (POE (EO E o)) (EO E o) S w0 φ H w :=
  { dom := h.dom, fresh := h.fresh, ffresh := h.ffresh, flt := h.flt, fam1 := h.fam1, one := h.one, blk := h.blk
    loop := fun X l r e hr => by
      obtain ⟨L, hL⟩ := h.loop X l r e hr
      obtain ⟨N, h1, h2, h3, h4⟩ := hL.ok
      exact ⟨L, ⟨hL.here, hL.ready, hL.busy, hL.pend, hL.params, hL.asg, hL.bod, hL.tm, N, h1, h2, okCode_EO.2 h3, okCode_EO.2 h4⟩⟩
    iter := h.iter, share := h.share, size := h.size, keep := h.keep, sdom := h.sdom, safe := h.safe, os := h.os, out := h.out, tape := h.tape, gl := h.gl, pin := h.pin }
theorem Rep.ofEO {o : Orc} (h : Rep (POE (EO E o)) (EO E o) S w0 φ H w) : Rep (POE E) E S w0 φ H w :=
  { dom := h.dom, fresh := h.fresh, ffresh := h.ffresh, flt := h.flt, fam1 := h.fam1, one := h.one, blk := h.blk
    loop := fun X l r e hr => by
      obtain ⟨L, hL⟩ := h.loop X l r e hr
      obtain ⟨N, h1, h2, h3, h4⟩ := hL.ok
      exact ⟨L, ⟨hL.here, hL.ready, hL.busy, hL.pend, hL.params, hL.asg, hL.bod, hL.tm, N, h1, h2, okCode_EO.1 h3, okCode_EO.1 h4⟩⟩
    iter := h.iter, share := h.share, size := h.size, keep := h.keep, sdom := h.sdom, safe := h.safe, os := h.os, out := h.out, tape := h.tape, gl := h.gl, pin := h.pin }

/-- a function's answers, told -/
def OrcOk (P : Program) (E : Env) (f : Nat) (g : List Value → AH → Option (Value × AH)) : Prop :=
  ∀ (args : List Value) (us : Array Value) (H : AH) (v : Value) (H' : AH) (S : Nat → Prop) (φ : Emb) (w : World),
    g args H = some (v, H') → Rep (POE E) E S w φ H w → VRl φ args us.toList → CallsIn (Fr none) 0 P f us w (CallR (POE E) E S φ H w v H')

/-- what stands behind a table of such functions -/
def OrcsOk (P : Program) (E : Env) (o : Orc) : Prop := ∀ f g, o f = some g → (∃ fn, FtOk P f fn) ∧ OrcOk P E f g

theorem envOk_with (h : EnvOk P (POE E) E) (h0 : ∀ f, E.orc f = none) {o : Orc} (ho : OrcsOk P E o) : EnvOk P (POE (EO E o)) (EO E o) := by
  refine ⟨h.ti, fun f g hg => ⟨(ho f g hg).1, fun args us H v H' S φ w h1 h2 h3 => ?_⟩, fun f fn _ h2 => ?_⟩
  · refine ((ho f g hg).2 args us H v H' S φ w h1 h2.ofEO h3).mono fun e w' he => ?_
    obtain ⟨u, ψ, g1, g2, g3, g4, g5⟩ := he
    exact ⟨u, ψ, g1, g2, g3, g4, g5.toEO o⟩
  · obtain ⟨h3, h4⟩ := h.ft f fn (h0 f) h2
    exact ⟨h3, fun c hc => okCode_EO.2 (h4 c hc)⟩

/-- a call, evaluated -/
theorem acall_with (hm : P.follows .mixedOrders = true) (h : EnvOk P (POE E) E) (h0 : ∀ f, E.orc f = none) {o : Orc} (ho : OrcsOk P E o) {n f : Nat} {args : List Value} {us : Array Value} {v : Value} {H' : AH}
    (hc : acall (EO E o) (arun (EO E o) n) f args H = some (v, H')) (hR : Rep (POE E) E S w φ H w) (hv : VRl φ args us.toList) : CallsIn (Fr none) 0 P f us w (CallR (POE E) E S φ H w v H') := by
  refine (acall_sound hm (envOk_with h h0 ho) hc (hR.toEO o) hv).mono fun e w' he => ?_
  obtain ⟨u, ψ, g1, g2, g3, g4, g5⟩ := he
  exact ⟨u, ψ, g1, g2, g3, g4, g5.ofEO⟩

/-- so it is an answer that may be told -/
theorem orc_of_eval (hm : P.follows .mixedOrders = true) (h : EnvOk P (POE E) E) (h0 : ∀ f, E.orc f = none) {o : Orc} (ho : OrcsOk P E o) {f : Nat} {g : List Value → AH → Option (Value × AH)}
    (hg : ∀ args H v H', g args H = some (v, H') → ∃ n, acall (EO E o) (arun (EO E o) n) f args H = some (v, H')) : OrcOk P E f g := by
  intro args us H v H' S φ w h1 h2 h3
  obtain ⟨n, hn⟩ := hg args H v H' h1
  exact acall_with hm h h0 ho hn h2 h3

/-! ### The tables that are laid -/
/-- the world holds the listed tables -/
def Laid (E : Env) (H0 : AH) (w : World) : Prop := ∀ g, E.isG g = true → ∃ b cs el fr, H0.objs.get g = some (.blk b) ∧ b.ro = true ∧ b.fam = g ∧ ones b.cells = true ∧ w.heap[g]? = some (.cells cs el fr) ∧
  b.cells.length + b.esz * 0 ≤ cs.size ∧ ∀ i (h : i < b.cells.length), cs[i]? = some b.cells[i] ∧ constOk b.cells[i] = true

def φ0 (E : Env) : Emb := fun g => bif E.isG g then some ⟨g, 0, 0⟩ else none

/-- how the first heap looks -/
structure First (E : Env) (H0 : AH) : Prop where
  lt : ∀ g, E.isG g = true → g < H0.next
  all : ∀ X, E.isG X = false → H0.objs.get X = none
  fams : ∀ f, H0.fams.get f = none
  pin : ∀ b i v, E.pin b i = some v → E.isG b = true ∧ ∃ bk, H0.objs.get b = some (.blk bk) ∧ bk.cells[i]? = some v

theorem rep0 {H0 : AH} (hF : First E H0) (hl : Laid E H0 w) : Rep (POE E) E (fun b => b < w.heap.size) w (φ0 E) H0 w := by
  have un : ∀ {X : Nat} {l : Loc}, φ0 E X = some l → E.isG X = true ∧ l = ⟨X, 0, 0⟩ := fun {X l} e => by
    unfold φ0 at e
    cases h : E.isG X with
    | true => rw [h] at e; cases e; exact ⟨rfl, rfl⟩
    | false => rw [h] at e; cases e
  have obj : ∀ {X : Nat} {o : AObj}, H0.objs.get X = some o → ∃ b, o = .blk b ∧ b.ro = true ∧ b.fam = X ∧ ones b.cells = true ∧ E.isG X = true := fun {X o} e => by
    cases h : E.isG X with
    | false => rw [hF.all X h] at e; cases e
    | true =>
      obtain ⟨b, cs, el, fr, h1, h2, h3, h4, _⟩ := hl X h
      rw [h1] at e; cases e
      exact ⟨b, rfl, h2, h3, h4, rfl⟩
  refine { dom := ?_, fresh := ?_, ffresh := fun f _ => hF.fams f, flt := ?_, fam1 := ?_, one := ?_, blk := ?_, loop := ?_, iter := ?_, share := ?_, size := Nat.le_refl _, keep := fun _ _ => rfl, sdom := fun _ h => h, safe := ?_, os := rfl, out := rfl, tape := rfl, gl := ?_, pin := ?_ }
  · intro X l e
    obtain ⟨h1, _⟩ := un e
    obtain ⟨b, cs, el, fr, h2, _⟩ := hl X h1
    exact ⟨_, h2⟩
  · intro X hX
    cases h : E.isG X with
    | false => exact hF.all X h
    | true => have := hF.lt X h; omega
  · intro X b hb
    obtain ⟨b', h1, _, h3, _, h5⟩ := obj hb
    cases h1
    rw [h3]; exact hF.lt X h5
  · intro X b hb _
    obtain ⟨b', h1, _, h3, _⟩ := obj hb
    cases h1; exact h3
  · intro X b hb
    obtain ⟨b', h1, _, _, h4, _⟩ := obj hb
    cases h1; exact h4
  · intro X l b e hb
    obtain ⟨h1, rfl⟩ := un e
    obtain ⟨b', cs, el, fr, h2, h3, _, _, h4, h5, h6⟩ := hl X h1
    rw [hb] at h2; cases h2
    refine ⟨cs, el, fr, ⟨h4, by simpa using h5, fun h => (by rw [h3] at h; cases h), fun i hi _ => ?_⟩⟩
    obtain ⟨g1, g2⟩ := h6 i hi
    exact ⟨_, by simpa using g1, constOk_VR g2⟩
  · intro X l r e hr
    obtain ⟨b, h1, _⟩ := obj hr
    cases h1
  · intro X l s p e hr
    obtain ⟨b, h1, _⟩ := obj hr
    cases h1
  · intro X Y l m e f hlm
    obtain ⟨_, rfl⟩ := un e
    obtain ⟨_, rfl⟩ := un f
    exact .inl hlm
  · intro X l e _
    obtain ⟨h1, rfl⟩ := un e
    obtain ⟨b, cs, el, fr, h2, h3, _⟩ := hl X h1
    exact ⟨b, h2, h3⟩
  · intro g hg
    unfold φ0
    rw [hg]; rfl
  · intro b i v e
    obtain ⟨h1, bk, h2, h3⟩ := hF.pin b i v e
    obtain ⟨b', cs, el, fr, g1, _, _, _, g4, _, g6⟩ := hl b h1
    rw [h2] at g1; cases g1
    have hi := lt_of_some h3
    obtain ⟨k1, _⟩ := g6 i hi
    refine ⟨?_, ?_⟩
    · simp only [World.cell?, g4, k1]
      rw [List.getElem?_eq_getElem hi] at h3
      exact h3
    · rcases Nat.lt_or_ge b w.heap.size with h' | h'
      · exact h'
      · rw [Array.getElem?_eq_none h'] at g4; cases g4

/-- the tables stand wherever the pins do -/
def Pins (E : Env) (H0 : AH) : Prop := ∀ g, E.isG g = true → ∃ b, H0.objs.get g = some (.blk b) ∧ b.ro = true ∧ b.fam = g ∧ b.esz = 0 ∧ ones b.cells = true ∧ b.cells ≠ [] ∧ ∀ i (h : i < b.cells.length), E.pin g i = some b.cells[i] ∧ constOk b.cells[i] = true

theorem Rep.laid {H0 : AH} (hp : Pins E H0) (h : Rep (POE E) E S w0 φ H w) : Laid E H0 w := by
  intro g hg
  obtain ⟨b, h1, h2, h3, h4, h5, h6, h7⟩ := hp g hg
  have cell : ∀ i (hi : i < b.cells.length), w.cell? ⟨g, i, none⟩ = some b.cells[i] := fun i hi => by
    obtain ⟨k1, _⟩ := h7 i hi
    obtain ⟨q1, q2⟩ := h.pin g i _ k1
    rw [← q1]
    simp only [World.cell?, h.keep g q2]
  have h0 := cell 0 (by cases hc : b.cells with | nil => exact absurd hc h6 | cons x l => simp)
  simp only [World.cell?] at h0
  cases hh : w.heap[g]? with
  | none => rw [hh] at h0; cases h0
  | some o =>
    cases o with
    | cells cs el fr =>
      have cell' : ∀ i (hi : i < b.cells.length), cs[i]? = some b.cells[i] := fun i hi => by
        have := cell i hi
        simp only [World.cell?, hh] at this
        simpa using this
      refine ⟨b, cs, el, fr, h1, h2, h3, h5, rfl, ?_, fun i hi => ⟨cell' i hi, (h7 i hi).2⟩⟩
      rw [Nat.mul_zero, Nat.add_zero]
      rcases Nat.lt_or_ge cs.size b.cells.length with h' | h'
      · have := cell' cs.size h'
        simp at this
      · exact h'
    | _ => rw [hh] at h0; cases h0

/-- **a closed call**: evaluated at the first heap, it may be told anywhere -/
theorem orc_closed (hm : P.follows .mixedOrders = true) (h : EnvOk P (POE E) E) (h0 : ∀ f, E.orc f = none) {H0 : AH} (hF : First E H0) (hp : Pins E H0) {o : Orc} (ho : OrcsOk P E o) {f n : Nat} {v : Value} (hv : constOk v = true)
    (he : ∃ H', acall (EO E o) (arun (EO E o) n) f [] H0 = some (v, H')) : OrcOk P E f (fun args H => match args with | [] => some (v, H) | _ => none) := by
  intro args us H v' H' S φ w h1 h2 h3
  cases args with
  | cons a l => cases h1
  | nil =>
    cases h1
    obtain ⟨H'', he⟩ := he
    have hus : us.toList = [] := h3.nil_inv
    refine (acall_with hm h h0 ho he (rep0 hF (h2.laid hp)) (us := us) (by rw [hus]; exact .nil)).mono fun e w' hq => ?_
    obtain ⟨u, ψ, g1, g2, g3, g4, g5⟩ := hq
    have hu : u = v := by
      unfold constOk at hv
      split at hv <;> first | (cases hv; done) | (cases g4; rfl)
    subst hu
    refine ⟨u, φ, g1, Ext.refl _ _, Nat.le_refl _, constOk_VR hv, h2.agree (fun X l e => g5.keep _ (h2.inHeap e)) (fun b hb => g5.keep _ (h2.sdom b hb)) g5.size g5.os g5.out g5.tape⟩
end
end Go.Ra
end

section
/-! Functions of Go's library, told by their contracts. -/
namespace Go.Ra
open Go.RowKit
noncomputable section
variable {P : Program} {E : Env} {S : Nat → Prop} {w0 w w' : World} {φ ψ : Emb} {H H' : AH}

theorem callR_same {v u : Value} {e : Ending} (hR : Rep (POE E) E S w φ H w) (he : e = .returned u) (hv : VR φ v u) : CallR (POE E) E S φ H w v H e w :=
  ⟨u, φ, he, Ext.refl _ _, Nat.le_refl _, hv, hR⟩

/-- the world has grown beyond its end -/
theorem callR_below {v u : Value} {e : Ending} (hR : Rep (POE E) E S w φ H w) (he : e = .returned u) (hv : VR φ v u) (hb : Below w.heap.size w w') : CallR (POE E) E S φ H w v H e w' :=
  ⟨u, φ, he, Ext.refl _ _, Nat.le_refl _, hv, hR.agree (fun _X _l e => hb.block _ (hR.inHeap e)) (fun b hS => hb.block b (hR.sdom b hS)) hb.size hb.os hb.output hb.tape⟩

theorem VRl.two {a b : Value} {us : Array Value} (h : VRl φ [a, b] us.toList) : ∃ u v, us = #[u, v] ∧ VR φ a u ∧ VR φ b v := by
  obtain ⟨u, l, h1, h2, h3⟩ := h.cons_inv
  obtain ⟨v, l', h4, h5, h6⟩ := h3.cons_inv
  have := h6.nil_inv
  subst this
  subst h4
  exact ⟨u, v, Array.ext' h1, h2, h5⟩

def gTrimRight : List Value → AH → Option (Value × AH) := fun args H =>
  match args with
  | [.string s, .string ⟨⟨[b]⟩⟩] => bif Nat.blt b.toNat 128 && Nat.ble s.size 1000000 then some (.string ⟨⟨Lib.trimRightB s.data.toList b⟩⟩, H) else none
  | _ => none
theorem orc_trimRight {f : Nat} (hc : ∀ (s : ByteArray) (c : UInt8), c.toNat < 128 → ∀ w : World, s.size ≤ 9223372036854775807 → Calls P f #[.string s, .string ⟨#[c]⟩] w fun e w' => e = .returned (.string ⟨(Lib.trimRightB s.data.toList c).toArray⟩) ∧ w' = w) :
    OrcOk P E f gTrimRight := by
  intro args us H v H' S φ w h1 h2 h3
  unfold gTrimRight at h1
  split at h1
  · rename_i s b
    cases hb : (Nat.blt b.toNat 128 && Nat.ble s.size 1000000) with
    | false => rw [hb] at h1; cases h1
    | true =>
      rw [hb] at h1
      cases h1
      rw [Bool.and_eq_true] at hb
      have hb1 := Nat.le_of_ble_eq_true hb.1
      have hb2 := Nat.le_of_ble_eq_true hb.2
      obtain ⟨u, x, rfl, hu, hx⟩ := h3.two
      rw [hu.str_inv, hx.str_inv]
      refine callsIn_wide.2 ((hc s b (by omega) w (by omega)).mono fun e w' he => ?_)
      obtain ⟨he, rfl⟩ := he
      exact callR_same h2 he (.string _)
  · cases h1

def gContainsRune : List Value → AH → Option (Value × AH) := fun args H =>
  match args with
  | [.string s, .int .i32 (.ofNat r)] => bif Nat.blt r 128 then some (.bool (decide (0 ≤ Lib.indexByte s.data.toList r.toUInt8)), H) else none
  | _ => none
theorem orc_containsRune {f : Nat} (hc : ∀ (s : ByteArray) (r : Int) (w : World), 0 ≤ r → r < 128 → Calls P f #[.string s, .int .i32 r] w fun e w' => e = .returned (.bool (decide (0 ≤ Lib.indexByte s.data.toList r.toNat.toUInt8))) ∧ w' = w) :
    OrcOk P E f gContainsRune := by
  intro args us H v H' S φ w h1 h2 h3
  unfold gContainsRune at h1
  split at h1
  · rename_i s r
    cases hb : Nat.blt r 128 with
    | false => rw [hb] at h1; cases h1
    | true =>
      rw [hb] at h1
      cases h1
      have hb1 := Nat.le_of_ble_eq_true hb
      obtain ⟨u, x, rfl, hu, hx⟩ := h3.two
      rw [hu.str_inv, hx.int_inv]
      refine callsIn_wide.2 ((hc s (.ofNat r) w (by simp) (by simp; omega)).mono fun e w' he => ?_)
      obtain ⟨he, rfl⟩ := he
      exact callR_same h2 he (.bool _)
  · cases h1

def strsOf : List Value → Option (List ByteArray)
  | [] => some []
  | .string s :: l => match strsOf l with
    | some r => some (s :: r)
    | none => none
  | _ => none
theorem strsOf_get : ∀ {l : List Value} {r : List ByteArray}, strsOf l = some r → l = r.map Value.string := by
  intro l
  induction l with
  | nil => intro r h; cases h; rfl
  | cons x l ih =>
    intro r h
    cases x <;> simp only [strsOf] at h <;> first | (cases h; done) | skip
    split at h
    · rename_i r' hr'
      cases h
      rw [ih hr']; rfl
    · cases h

theorem VRl.strs : ∀ {xs : List ByteArray} {us : List Value}, VRl φ (xs.map Value.string) us → us = xs.map Value.string := by
  intro xs
  induction xs with
  | nil => intro us h; exact h.nil_inv
  | cons x xs ih =>
    intro us h
    obtain ⟨u, l, rfl, h1, h2⟩ := h.cons_inv
    rw [h1.str_inv, ih h2]; rfl

theorem slice_room {a : Addr} {n c : Nat} {u : Value} (h : VR φ (.slice (some a) n c) u) : ∃ X i l c', φ X = some l ∧ a = ⟨X, i, none⟩ ∧ u = .slice (some ⟨l.blk, l.off + i, none⟩) n c' ∧ (n ≠ 0 → (bif Nat.ble INEX c then c - INEX else c) ≤ c') ∨ n = 0 := by
  cases h with
  | sexact e hc => exact ⟨_, _, _, _, .inl ⟨e, rfl, rfl, fun _ => by rw [ble_neg (by omega)]; exact Nat.le_refl _⟩⟩
  | sopen e hc => exact ⟨_, _, _, _, .inl ⟨e, rfl, rfl, fun _ => by rw [ble_pos (Nat.le_add_right _ _), Nat.add_sub_cancel_left]; exact Nat.le_add_right _ _⟩⟩
  | svoid a c => exact ⟨0, 0, ⟨0, 0, 0⟩, 0, .inr rfl⟩

def gJoin : List Value → AH → Option (Value × AH) := fun args H =>
  match args with
  | [.slice a n c, .string sep] =>
    match n with
    | 0 => some (.string ⟨⟨[]⟩⟩, H)
    | n + 1 => match a with
      | none => none
      | some a => bif Nat.ble (n + 1) (bif Nat.ble INEX c then c - INEX else c) && Nat.ble n 10000 then
          match H.rd a.block a.off (n + 1) with
          | some cs => match strsOf cs with
            | some xs => let r := Lib.join (xs.map (·.data.toList)) sep.data.toList
              bif Nat.ble r.length 1000000 then some (.string ⟨⟨r⟩⟩, H) else none
            | none => none
          | none => none
        else none
  | _ => none
theorem orc_join {f : Nat} (h0 : ∀ (a : Option Addr) (c : Nat) (sep : ByteArray) (w : World), Calls P f #[.slice a 0 c, .string sep] w fun e w' => e = .returned (.string ⟨#[]⟩) ∧ w' = w)
    (hc : ∀ (bk o c : Nat) (xs : List ByteArray) (sep : ByteArray) (w : World), (∀ (j : Nat) x, xs[j]? = some x → w.cell? ⟨bk, o + j, none⟩ = some (.string x)) → bk < w.heap.size → xs.length ≤ 140737488355328 → xs.length ≤ c →
      (Lib.join (xs.map (·.data.toList)) sep.data.toList).length ≤ 140737488355328 →
      Calls P f #[.slice (some ⟨bk, o, none⟩) xs.length c, .string sep] w fun e w' => e = .returned (.string ⟨(Lib.join (xs.map (·.data.toList)) sep.data.toList).toArray⟩) ∧ Below w.heap.size w w') :
    OrcOk P E f gJoin := by
  intro args us H v H' S φ w h1 h2 h3
  unfold gJoin at h1
  split at h1
  · rename_i a n c sep
    obtain ⟨u, x, rfl, hu, hx⟩ := h3.two
    rw [hx.str_inv]
    split at h1
    · cases h1
      have : ∃ a' c', u = .slice a' 0 c' := by cases hu <;> exact ⟨_, _, rfl⟩
      obtain ⟨a', c', rfl⟩ := this
      refine callsIn_wide.2 ((h0 a' c' sep w).mono fun e w' he => ?_)
      obtain ⟨he, rfl⟩ := he
      exact callR_same h2 he (.string _)
    · rename_i n
      split at h1
      · cases h1
      · rename_i a
        cases hb : (Nat.ble (n + 1) (bif Nat.ble INEX c then c - INEX else c) && Nat.ble n 10000) with
        | false => rw [hb] at h1; cases h1
        | true =>
          rw [hb] at h1
          simp only [cond_true] at h1
          rw [Bool.and_eq_true] at hb
          have hb1 := Nat.le_of_ble_eq_true hb.1
          have hb2 := Nat.le_of_ble_eq_true hb.2
          split at h1
          · rename_i cs hcs
            split at h1
            · rename_i xs hxs
              cases hl : Nat.ble (Lib.join (xs.map (·.data.toList)) sep.data.toList).length 1000000 with
              | false => rw [hl] at h1; cases h1
              | true =>
                rw [hl] at h1
                cases h1
                have hl1 := Nat.le_of_ble_eq_true hl
                have key : ∀ (X i : Nat) (l : Loc) (c' : Nat), φ X = some l → a = ⟨X, i, none⟩ → u = .slice (some ⟨l.blk, l.off + i, none⟩) (n + 1) c' → n + 1 ≤ c' →
                    CallsIn (Fr none) 0 P f #[u, .string sep] w (CallR (POE E) E S φ H w (.string ⟨⟨Lib.join (xs.map (·.data.toList)) sep.data.toList⟩⟩) H) := by
                  intro X i l c' hX ha hu' hc'
                  subst ha
                  obtain ⟨us, g1, g2, g3, g4⟩ := h2.rd hX hcs
                  have hcs' := strsOf_get hxs
                  have hlen : xs.length = n + 1 := by rw [← g2, hcs']; simp
                  have hus : us = xs.map Value.string := VRl.strs (hcs' ▸ g1)
                  rw [hu', ← hlen]
                  refine callsIn_wide.2 ((hc l.blk (l.off + i) c' xs sep w (fun j x hx => ?_) (h2.inHeap hX) (by omega) (by omega) (by omega)).mono fun e w' he => ?_)
                  · have hj : j < us.length := by rw [hus]; simp; exact lt_of_some hx
                    have := g4 j hj
                    rw [this]
                    rw [← List.getElem?_eq_getElem hj, hus, List.getElem?_map, hx]; rfl
                  · exact callR_below h2 he.1 (.string _) he.2
                obtain ⟨X, i, l, c', hq | hq⟩ := slice_room hu
                · obtain ⟨hX, ha, hu', hc'⟩ := hq
                  exact key X i l c' hX ha hu' (Nat.le_trans hb1 (hc' (Nat.succ_ne_zero n)))
                · exact absurd hq (Nat.succ_ne_zero n)
            · cases h1
          · cases h1
  · cases h1
end
end Go.Ra
end


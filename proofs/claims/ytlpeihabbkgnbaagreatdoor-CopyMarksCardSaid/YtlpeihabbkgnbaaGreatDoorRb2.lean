/-
  A part of the proof (RaOp8, RaOpA, RaOpB, RaFrame, RaCall, RaRound, RaYield, RaStep, RaOrd, RaCode, RaRange, RaScope, RaAll, RaHide, RaPlan): an evaluator of the model's code with its proof, or facts of this program that it reckons. No condition.
-/
import Derived.Test.YtlpeihabbkgnbaaGreatDoorRb1
import Derived.LoopNIn
import Derived.Scope
section
namespace Go.Ra
section
variable {PO : PlanOk} {E : Env} {S : Nat → Prop} {w0 : World} {φ : Emb} {H H' : AH} {w : World} {P : Program} {F : AF} {a : Act} {o : Oper} {v : Value} {rec : Rec}

/-- the cells behind a slice that is read whole -/
theorem slice_cells (hR : Rep PO E S w0 φ H w) {p : Addr} {n c k : Nat} {u : Value} {r : List Value} (hv : VR φ (.slice (some p) n c) u) (hr : H.rd p.block p.off k = some r) (hk : n = 0 → k = 0) :
    ∃ (q : Addr) (c' : Nat) (us : List Value), u = .slice (some q) n c' ∧ VRl φ r us ∧ ones r = true ∧ us.length = k ∧ ∀ d, (loadCells q k).run P { w with drawn := d } = .ok ⟨us⟩ { w with drawn := d } := by
  by_cases h0 : k = 0
  · subst h0
    simp only [AH.rd] at hr
    cases hr
    cases hv with
    | sexact h hc => exact ⟨_, _, [], rfl, .nil, rfl, rfl, fun _ => rfl⟩
    | sopen h hc => exact ⟨_, _, [], rfl, .nil, rfl, rfl, fun _ => rfl⟩
    | svoid q c' => exact ⟨_, _, [], rfl, .nil, rfl, rfl, fun _ => rfl⟩
  · have hn : 0 < n := by
      rcases Nat.eq_zero_or_pos n with h | h
      · exact absurd (hk h) h0
      · exact h
    obtain ⟨_, l, c', hl, hpu⟩ := hv.slice_idx hn
    obtain ⟨us, h1, h2, h3, h4⟩ := hR.rd hl hr
    have hlen : us.length = k := by rw [← h1.1]; exact h2
    refine ⟨_, c', us, hpu, h1, h3, hlen, fun d => ?_⟩
    have := run_loadCells' (P := P) (w := { w with drawn := d }) us (fun j hj => h4 j hj)
    rw [hlen] at this
    exact this

theorem appArg_run (hR : Rep PO E S w0 φ H w) {e xt : Nat} {te tx : TI} (hTe : TiOk P e te) (hTx : TiOk P xt tx) {tys : Array Nat} (h1 : tys[1]? = some xt) {x u : Value} {new : List Value} {m : Nat}
    (hv : VR φ x u) (h : appArg te H tx.k x = some (new, m)) : ∃ us, VRl φ new us ∧ ones new = true ∧ us.length = m * te.size ∧ ArgRun P e te tys u w us m := by
  unfold appArg at h
  split at h
  · rename_i e' n c hk
    cases h
    have : u = .slice none 0 0 := by cases hv; rfl
    subst this
    exact ⟨[], .nil, rfl, by simp, ⟨xt, _, h1, KOk.slice hTx hk, .inr ⟨fun k hk' => (by cases hk'), fun w => rfl, fun k => rfl⟩⟩⟩
  · rename_i e' p n c hk
    split at h
    · rename_i r hr
      cases h
      obtain ⟨q, c', us, rfl, g1, g2, g3, g4⟩ := slice_cells (P := P) hR hv hr (fun h => by rw [h, Nat.zero_mul])
      exact ⟨us, g1, g2, g3, ⟨xt, _, h1, KOk.slice hTx hk, .inr ⟨fun k hk' => (by cases hk'), fun w => rfl, fun k => g4 k⟩⟩⟩
    · cases h
  · rename_i t hk
    cases hb : Nat.beq te.size 1 with
    | false => rw [hb] at h; cases h
    | true =>
      rw [hb] at h
      simp only [cond_true] at h
      cases h
      have hs1 := Nat.eq_of_beq_eq_true hb
      have := hv.str_inv
      subst this
      refine ⟨_, bytes_VR _, bytes_ones _, by simp [hs1], ⟨xt, _, h1, KOk.str hTx hk, .inr ⟨fun k hk' => (by cases hk'), fun w => rfl, fun k => ?_⟩⟩⟩
      simp only [Builtin.firstCells, Sem.run_pure]
      congr 1
      apply Array.ext'
      have : (t.extract 0 t.size) = t := by simp
      simp [this]
  · rename_i k j n hk
    cases hb : (ile 0 n && ile n 100000) with
    | false => rw [hb] at h; cases h
    | true =>
      rw [hb] at h
      simp only [cond_true] at h
      cases h
      simp only [Bool.and_eq_true, ile_eq, decide_eq_true_eq] at hb
      have := hv.int_inv
      subst this
      exact ⟨_, repX_VR hTe.zVR _, repX_ones hTe.zone _, by rw [repX_len, hTe.zl], ⟨xt, _, h1, KOk.int hTx hk, .inl ⟨_, _, _, rfl, rfl, hb.1, hb.2, rfl, rfl⟩⟩⟩
  · cases h

theorem exec_builtin {b : Builtin} {args : Array Operand} {tys : Array Nat} (ho : o.op = .call { callee := .builtin b, args := args, argTypes := tys }) :
    (execOp a.eval o).run P w = (builtin b tys o.type (args.map fun | .const _ => true | _ => false) (args.map a.eval)).run P w := by
  unfold execOp; rw [ho]
  simp only [resolve, invoke, Sem.run_bind, Sem.run_pure, Result.andThen_ok]
  rfl

theorem small_INEX {k : Nat} (h : k ≤ 1048576) : k < INEX := Nat.lt_of_le_of_lt h (by decide)

theorem list_get? {α : Type} {l : List α} {t : Array α} (h : t.toList = l) (i : Nat) : t[i]? = l[i]? := by rw [← h]; simp

theorem does_append (hE : TiAll P E) {args : Array Operand} {tys : Array Nat} (ho : o.op = .call { callee := .builtin .append, args := args, argTypes := tys }) (hx : ∀ x ∈ args.toList, okOpd E x = true)
    (hF : Tmps φ F.T a.tmps) (hR : Rep PO E S w0 φ H w) {vs : List Value} (hvs : evs F args.toList = some vs) (h : bAppend E H tys.toList vs = some (v, H')) : Does P PO E S w0 φ H o a w v H' := by
  have hargs := evs_ok hR.gl hF hx hvs
  unfold bAppend at h
  split at h
  · rename_i st xt rest base n c x htys
    have hb := exec_builtin (P := P) (a := a) (w := w) ho
    have ht0 : tys[0]? = some st := by rw [list_get? htys]; rfl
    have ht1 : tys[1]? = some xt := by rw [list_get? htys]; rfl
    obtain ⟨u, us1, hu1, hvu, hr1⟩ := hargs.cons_inv
    obtain ⟨ux, us2, hu2, hvx, hr2⟩ := hr1.cons_inv
    have hn := hr2.nil_inv
    subst hn
    subst hu2
    have hmap : args.map a.eval = #[u, ux] := Array.ext' (by rw [Array.toList_map, hu1])
    rw [hmap] at hb
    split at h
    · rename_i e sz by_ cm zz tx hst hxt
      split at h
      · rename_i te hte
        split at h
        · rename_i new m harg
          have hTs := KOk.slice (hE st _ hst) (e := e) rfl
          have hTe := hE e te hte
          obtain ⟨us, hvn, hon, hul, hrun⟩ := appArg_run hR hTe (hE xt tx hxt) ht1 hvx harg
          unfold aappend at h
          cases hg : (Nat.ble VOID c || !(Nat.ble (n + m) 1048576)) with
          | true => rw [hg] at h; cases h
          | false =>
            rw [hg] at h
            simp only [cond_false] at h
            rw [Bool.or_eq_false_iff] at hg
            have hc := ble_false hg.1
            have hsm : n + m ≤ 1048576 := by
              cases hq : Nat.ble (n + m) 1048576 with
              | true => exact ble_true hq
              | false => rw [hq] at hg; cases hg.2
            -- the call's value, as Next
            have fin : ∀ {z : Value} {w1 : World}, (Builtin.append_ tys o.type #[u, ux]).run P w = .ok z w1 → (execOp a.eval o).run P w = .ok (.value z) w1 := fun hz => by
              rw [hb]
              simp only [builtin, Sem.run_bind, hz, Result.andThen_ok, Sem.run_pure]
            cases hin : Nat.ble (n + m) (bif Nat.ble INEX c then c - INEX else c) with
            | true =>
              rw [hin] at h
              simp only [cond_true] at h
              have hin' := ble_true hin
              unfold appIn at h
              cases base with
              | none =>
                simp only at h
                cases h
                have : n = 0 ∧ c = 0 ∧ u = .slice none 0 0 := by cases hvu; exact ⟨rfl, rfl, rfl⟩
                obtain ⟨e1, e2, e3⟩ := this
                subst e1; subst e2
                rw [ble_neg (Nat.not_le_of_lt INEX_pos)] at hin'
                have hm0 : m = 0 := by omega
                subst hm0
                have hrr := run_append_room (_ts := te) hTs hTe (rt := o.type) ht0 hrun (base := none) (n := 0) (c := 0) (by omega)
                rw [← e3] at hrr
                exact Does.same hR (fin hrr) (by rw [e3]; exact .snil)
              | some p =>
                simp only at h
                split at h
                · rename_i H1 hw
                  cases h
                  obtain ⟨hps, l, c', hl, hpu, hcc⟩ := hvu.slice_some (by omega)
                  have hroom : n + m ≤ c' := by
                    rcases hcc with ⟨q1, q2⟩ | ⟨q1, q2⟩
                    · rw [ble_neg (Nat.not_le_of_lt q1)] at hin'; omega
                    · rw [ble_pos q1] at hin'; omega
                  obtain ⟨w', g1, g2, g3⟩ := hR.wr (P := P) hl hw hvn hon
                  have hrr := run_append_room (_ts := te) hTs hTe (rt := o.type) ht0 hrun (base := some ⟨l.blk, l.off + p.off, none⟩) (n := n) (c := c') hroom
                  simp only [addr_add] at hrr
                  rw [Nat.add_assoc] at hrr
                  rw [g1] at hrr
                  rw [← hpu] at hrr
                  have hpb : p = ⟨p.block, p.off, none⟩ := by rw [← hps]
                  refine ⟨φ, w', _, .inl (fin hrr), Ext.refl _ _, Nat.le_of_eq g3.symm, ?_, g2⟩
                  rw [hpb]
                  rcases hcc with ⟨q1, q2⟩ | ⟨q1, q2⟩
                  · subst q2; exact .sexact hl q1
                  · subst q2
                    have := VR.sopen (φ := φ) (i := p.off) (n := n + m) (c := c - INEX) hl (by have := VOID_eq; omega)
                    rw [show INEX + (c - INEX) = c by omega] at this
                    exact this
                · cases h
            | false =>
              rw [hin] at h
              simp only [cond_false] at h
              have hin' := ble_false hin
              split at h
              · cases h
              · rename_i old hold
                -- the old cells, and the slice in the world
                have hO : ∃ (q : Option Addr) (c' : Nat) (uold : List Value), u = .slice q n c' ∧ VRl φ old uold ∧ ones old = true ∧ (∀ k, (Builtin.firstCells te.size n (.slice q n c')).run P { w with drawn := k } = .ok ⟨uold⟩ { w with drawn := k }) ∧ uold.length = n * te.size := by
                  cases base with
                  | none =>
                    simp only at hold
                    cases hold
                    have : n = 0 ∧ u = .slice none 0 0 := by cases hvu; exact ⟨rfl, rfl⟩
                    obtain ⟨rfl, rfl⟩ := this
                    exact ⟨none, 0, [], rfl, .nil, rfl, fun k => rfl, by simp⟩
                  | some p =>
                    simp only at hold
                    obtain ⟨q, c', us0, g0, g1, g2, g3, g4⟩ := slice_cells (P := P) hR hvu hold (fun h => by rw [h, Nat.zero_mul])
                    exact ⟨some q, c', us0, g0, g1, g2, fun k => g4 k, g3⟩
                obtain ⟨q, c', uold, hq, hvo, hoo, hrd, hol⟩ := hO
                -- moved: a new row
                have moved : ¬ n + m ≤ c' → ∀ (b : Blk), b.cells = old ++ new → b.esz = te.size → ∀ (H1 : AH), Rep PO E S w0 φ H1 w → H1.next = H.next → (b.fam = H1.next ∨ (b.fam < H1.next ∧ H1.fams.get b.fam ≠ none)) →
                    ∃ ψ w' z, (execOp a.eval o).run P w = .ok (.value z) w' ∧ Ext φ H ψ ∧ VR ψ (.slice (some ⟨H.next, 0, none⟩) (n + m) (INEX + (n + m))) z ∧
                      Rep PO E S w0 ψ { next := H1.next + 1, objs := H1.objs.set H1.next (.blk b), fams := H1.fams } w' := by
                  intro hno b hbc hbe H1 hR1 hnx hfam
                  obtain ⟨cap, hcap, hrg⟩ := run_append_grow hTs hTe (rt := o.type) ht0 hrun hno hsm hrd
                  rw [← hq] at hrg
                  have hlen : (uold ++ us).length = (n + m) * te.size := by rw [List.length_append, hol, hul, Nat.add_mul]
                  have hp := hR1.push (o := .blk b) (c := .cells ⟨uold ++ us ++ repX te.zero (cap - (n + m))⟩ e (0, 0)) (l := ⟨w.heap.size, 0, cap - (n + m)⟩) (d := w.drawn + 1) rfl
                    (fun b' hb' => by
                      cases hb'
                      refine ⟨hfam, by rw [hbc]; exact ones_append hoo hon, _, _, _, rfl, ?_, fun j hj h => by simp only at h; omega, fun i hi => ?_⟩
                      · rw [hbc, hbe]
                        simp only [List.size_toArray, List.length_append, repX_len, hTe.zl]
                        have h1 := hvo.1
                        have h2 := hvn.1
                        omega
                      · have hva := hvo.append hvn
                        have hi' : i < (uold ++ us).length := by rw [← hva.1, ← hbc]; exact hi
                        refine ⟨(uold ++ us)[i], ?_, ?_⟩
                        · simp only [Nat.zero_add, List.getElem?_toArray]
                          rw [List.getElem?_append_left hi', List.getElem?_eq_getElem hi']
                        · have := hva.2 i (by rw [← hbc]; exact hi) hi'
                          simpa [hbc] using this)
                    (fun r hr => by cases hr) (fun s p hp => by cases hp)
                  refine ⟨_, _, _, fin hrg, ?_, ?_, hp⟩
                  · rw [hnx]; exact ext_upd φ H _
                  · have hX : upd φ H1.next ⟨w.heap.size, 0, cap - (n + m)⟩ H.next = some ⟨w.heap.size, 0, cap - (n + m)⟩ := by rw [← hnx]; exact upd_same _ _ _
                    have := VR.sopen (i := 0) (n := n + m) (c := n + m) hX (small_INEX hsm)
                    simp only [Nat.zero_add] at this
                    rw [show n + m + (cap - (n + m)) = cap by omega] at this
                    exact this
                cases hop : Nat.ble INEX c with
                | false =>
                  rw [hop] at h
                  simp only [cond_false] at h
                  cases h
                  have hci := ble_false hop
                  rw [ble_neg hci] at hin'
                  have hcc : c' = c := by
                    rw [hq] at hvu
                    cases hvu with
                    | snil => rfl
                    | sexact h hc => rfl
                    | sopen h hc => omega
                    | svoid a' c'' => exact absurd (Nat.le_refl _) hc
                  obtain ⟨ψ, w', z, g1, g2, g3, g4⟩ := moved (by rw [hcc]; exact hin') { cells := old ++ new, esz := te.size, ro := false, fam := H.next, sh := 0 } rfl rfl H hR rfl (.inl rfl)
                  exact ⟨ψ, w', z, .inl g1, g2, Nat.le_succ _, g3, g4⟩
                | true =>
                  rw [hop] at h
                  simp only [cond_true] at h
                  cases base with
                  | none => unfold appOpen at h; cases h
                  | some p =>
                    have hcI := ble_true hop
                    obtain ⟨ψ, w', z, g1, g2, g3, g4, g5⟩ := open_ok (P := P) (a := a) (o := o) hR h hcI (by omega) hvu hold hvn hon hul hsm
                      (fun q1 c1 e1 hf => by
                        have hrr := run_append_room (_ts := te) hTs hTe (rt := o.type) ht0 hrun (base := some q1) (n := n) (c := c1) hf
                        rw [← e1] at hrr
                        rw [hb]
                        simp only [builtin, Sem.run_bind, hrr]
                        cases hst : (storeCells (q1.add (n * te.size)) us).run P w <;> simp [Result.andThen])
                      (fun q1 c1 e1 hf b hbc hbe H1 hR1 hnx hfam => moved (by rw [hq] at e1; cases e1; exact hf) b hbc hbe H1 hR1 hnx hfam)
                    exact ⟨ψ, w', z, .inl g1, g2, g3, g4, g5⟩
        · cases h
      · cases h
    · cases h
  · cases h
end
end Go.Ra
end

section
namespace Go.Ra
section
variable {PO : PlanOk} {E : Env} {S : Nat → Prop} {w0 : World} {φ : Emb} {H H' : AH} {w : World} {P : Program} {F : AF} {a : Act} {o : Oper} {v : Value} {rec : Rec}

/-- a builtin that turns no heap -/
theorem does_bval {b : Builtin} {args : Array Operand} {tys : Array Nat} (ho : o.op = .call { callee := .builtin b, args := args, argTypes := tys }) (hR : Rep PO E S w0 φ H w) {z : Value}
    (hr : (builtin b tys o.type (args.map fun | .const _ => true | _ => false) (args.map a.eval)).run P w = .ok (.value z) w) (hv : VR φ v z) : Does P PO E S w0 φ H o a w v H :=
  Does.same hR (by rw [exec_builtin ho]; exact hr) hv

theorem does_len (hE : TiAll P E) {args : Array Operand} {tys : Array Nat} (ho : o.op = .call { callee := .builtin .len, args := args, argTypes := tys }) (hx : ∀ x ∈ args.toList, okOpd E x = true)
    (hF : Tmps φ F.T a.tmps) (hR : Rep PO E S w0 φ H w) {vs : List Value} (hvs : evs F args.toList = some vs) (h : bLen E H tys.toList vs = some (v, H')) : Does P PO E S w0 φ H o a w v H' := by
  have hargs := evs_ok hR.gl hF hx hvs
  unfold bLen at h
  split at h
  · rename_i t rest x htys
    have ht0 : tys[0]? = some t := by rw [list_get? htys]; rfl
    obtain ⟨u, us1, hu1, hvu, hr1⟩ := hargs.cons_inv
    have hn := hr1.nil_inv
    subst hn
    have hmap : args.map a.eval = #[u] := Array.ext' (by rw [Array.toList_map, hu1])
    have ha0 : (#[u] : Array Value)[0]? = some u := rfl
    split at h
    · rename_i ti hti
      split at h
      · rename_i s hk
        cases h
        have := hvu.str_inv
        subst this
        refine does_bval ho hR (z := .int .i64 s.size) ?_ (.int _ _)
        rw [hmap]
        simp only [builtin, Builtin.len_, ht0, ha0, Sem.run_bind, run_underlying' (KOk.str (hE t ti hti) hk), Result.andThen_ok, Sem.run_pure, goInt]
      · rename_i e base n c hk
        cases h
        obtain ⟨q, c', hq⟩ : ∃ q c', u = .slice q n c' := by cases hvu <;> exact ⟨_, _, rfl⟩
        subst hq
        refine does_bval ho hR (z := .int .i64 n) ?_ (.int _ _)
        rw [hmap]
        simp only [builtin, Builtin.len_, ht0, ha0, Sem.run_bind, run_underlying' (KOk.slice (hE t ti hti) hk), Result.andThen_ok, Sem.run_pure, goInt]
      · cases h
    · cases h
  · cases h

theorem does_cap (hE : TiAll P E) {args : Array Operand} {tys : Array Nat} (ho : o.op = .call { callee := .builtin .cap, args := args, argTypes := tys }) (hx : ∀ x ∈ args.toList, okOpd E x = true)
    (hF : Tmps φ F.T a.tmps) (hR : Rep PO E S w0 φ H w) {vs : List Value} (hvs : evs F args.toList = some vs) (h : bCap E H tys.toList vs = some (v, H')) : Does P PO E S w0 φ H o a w v H' := by
  have hargs := evs_ok hR.gl hF hx hvs
  unfold bCap at h
  split at h
  · rename_i t rest base n c htys
    have ht0 : tys[0]? = some t := by rw [list_get? htys]; rfl
    obtain ⟨u, us1, hu1, hvu, hr1⟩ := hargs.cons_inv
    have hn := hr1.nil_inv
    subst hn
    have hmap : args.map a.eval = #[u] := Array.ext' (by rw [Array.toList_map, hu1])
    have ha0 : (#[u] : Array Value)[0]? = some u := rfl
    split at h
    · rename_i e sz by_ cm zz hti
      cases hb : Nat.ble INEX c with
      | true => rw [hb] at h; cases h
      | false =>
        rw [hb] at h
        simp only [cond_false] at h
        cases h
        have hb' := ble_false hb
        obtain ⟨q, hq⟩ : ∃ q, u = .slice q n c := by
          cases hvu with
          | snil => exact ⟨_, rfl⟩
          | sexact h hc => exact ⟨_, rfl⟩
          | sopen h hc => omega
          | svoid a c => exact absurd (by have := VOID_eq; omega) hb'
        subst hq
        refine does_bval ho hR (z := .int .i64 c) ?_ (.int _ _)
        rw [hmap]
        simp only [builtin, Builtin.cap_, ht0, ha0, Sem.run_bind, run_underlying' (KOk.slice (hE t _ hti) rfl), Result.andThen_ok, Sem.run_pure, goInt]
    · cases h
  · cases h

theorem does_min {args : Array Operand} {tys : Array Nat} (ho : o.op = .call { callee := .builtin .min, args := args, argTypes := tys }) (hx : ∀ x ∈ args.toList, okOpd E x = true)
    (hF : Tmps φ F.T a.tmps) (hR : Rep PO E S w0 φ H w) {vs : List Value} (hvs : evs F args.toList = some vs) (h : abuiltin E H .min tys.toList vs = some (v, H')) : Does P PO E S w0 φ H o a w v H' := by
  have hargs := evs_ok hR.gl hF hx hvs
  unfold abuiltin at h
  simp only at h
  split at h
  · rename_i k x k2 y
    cases h
    obtain ⟨u, us1, hu1, hvu, hr1⟩ := hargs.cons_inv
    obtain ⟨u2, us2, hu2, hvu2, hr2⟩ := hr1.cons_inv
    have hn := hr2.nil_inv
    subst hn
    subst hu2
    have := hvu.int_inv
    subst this
    have := hvu2.int_inv
    subst this
    have hmap : args.map a.eval = #[.int k x, .int k2 y] := Array.ext' (by rw [Array.toList_map, hu1])
    refine does_bval ho hR (z := .int k (if y < x then y else x)) ?_ ?_
    · rw [hmap]
      simp only [builtin, Builtin.min_, Sem.run_bind, List.foldlM, Builtin.min2, Sem.run_pure, Result.andThen_ok]
    · rw [ilt_eq]
      by_cases h1 : y < x <;> simp [h1] <;> exact .int _ _
  · cases h

theorem does_max {args : Array Operand} {tys : Array Nat} (ho : o.op = .call { callee := .builtin .max, args := args, argTypes := tys }) (hx : ∀ x ∈ args.toList, okOpd E x = true)
    (hF : Tmps φ F.T a.tmps) (hR : Rep PO E S w0 φ H w) {vs : List Value} (hvs : evs F args.toList = some vs) (h : abuiltin E H .max tys.toList vs = some (v, H')) : Does P PO E S w0 φ H o a w v H' := by
  have hargs := evs_ok hR.gl hF hx hvs
  unfold abuiltin at h
  simp only at h
  split at h
  · rename_i k x k2 y
    cases h
    obtain ⟨u, us1, hu1, hvu, hr1⟩ := hargs.cons_inv
    obtain ⟨u2, us2, hu2, hvu2, hr2⟩ := hr1.cons_inv
    have hn := hr2.nil_inv
    subst hn
    subst hu2
    have := hvu.int_inv
    subst this
    have := hvu2.int_inv
    subst this
    have hmap : args.map a.eval = #[.int k x, .int k2 y] := Array.ext' (by rw [Array.toList_map, hu1])
    refine does_bval ho hR (z := .int k (if y > x then y else x)) ?_ ?_
    · rw [hmap]
      simp only [builtin, Builtin.max_, Sem.run_bind, List.foldlM, Builtin.max2, Sem.run_pure, Result.andThen_ok]
    · rw [ilt_eq]
      by_cases h1 : x < y <;> simp [h1] <;> exact .int _ _
  · cases h

theorem does_copy (hE : TiAll P E) {args : Array Operand} {tys : Array Nat} (ho : o.op = .call { callee := .builtin .copy, args := args, argTypes := tys }) (hx : ∀ x ∈ args.toList, okOpd E x = true)
    (hF : Tmps φ F.T a.tmps) (hR : Rep PO E S w0 φ H w) {vs : List Value} (hvs : evs F args.toList = some vs) (h : bCopy E H tys.toList vs = some (v, H')) : Does P PO E S w0 φ H o a w v H' := by
  have hargs := evs_ok hR.gl hF hx hvs
  unfold bCopy at h
  split at h
  · rename_i t rest d dn dc s n c htys
    have ht0 : tys[0]? = some t := by rw [list_get? htys]; rfl
    obtain ⟨u, us1, hu1, hvu, hr1⟩ := hargs.cons_inv
    obtain ⟨u2, us2, hu2, hvu2, hr2⟩ := hr1.cons_inv
    have hn := hr2.nil_inv
    subst hn
    subst hu2
    have hmap : args.map a.eval = #[u, u2] := Array.ext' (by rw [Array.toList_map, hu1])
    have ha0 : (#[u, u2] : Array Value)[0]? = some u := rfl
    have ha1 : (#[u, u2] : Array Value)[1]? = some u2 := rfl
    split at h
    · rename_i e sz by_ cm zz hti
      split at h
      · rename_i te hte
        split at h
        · rename_i r hrd
          split at h
          · rename_i H1 hwr
            cases h
            have hmin : (bif Nat.ble n dn then n else dn) = Nat.min n dn := by
              cases hb : Nat.ble n dn with
              | true => have := ble_true hb; simp only [cond_true]; exact (Nat.min_eq_left this).symm
              | false => have := ble_false hb; simp only [cond_false]; exact (Nat.min_eq_right (by omega)).symm
            have hk : (bif Nat.ble n dn then n * te.size else dn * te.size) = Nat.min n dn * te.size := by
              rw [← hmin]; cases Nat.ble n dn <;> rfl
            rw [hk] at hrd
            obtain ⟨q, c', us, rfl, g1, g2, g3, g4⟩ := slice_cells (P := P) hR hvu2 hrd (fun h => by rw [h]; simp)
            have hdst : ∃ q2 c2 w', u = .slice (some q2) dn c2 ∧ (storeCells q2 us).run P w = .ok () w' ∧ Rep PO E S w0 φ H' w' ∧ H'.next = H.next := by
              cases us with
              | nil =>
                have hr0 : r = [] := List.eq_nil_of_length_eq_zero g1.1
                rw [hr0] at hwr
                simp only [AH.wr] at hwr
                cases hwr
                cases hvu with
                | sexact h hc => exact ⟨_, _, w, rfl, rfl, hR, rfl⟩
                | sopen h hc => exact ⟨_, _, w, rfl, rfl, hR, rfl⟩
                | svoid q c' => exact ⟨_, _, w, rfl, rfl, hR, rfl⟩
              | cons x us =>
                have hdn : 0 < dn := by
                  rcases Nat.eq_zero_or_pos dn with h0 | h0
                  · rw [h0] at g3; simp at g3
                  · exact h0
                obtain ⟨_, l, c2, hl, rfl⟩ := hvu.slice_idx hdn
                obtain ⟨w', k1, k2, k3⟩ := hR.wr (P := P) hl hwr g1 g2
                exact ⟨_, _, w', rfl, k1, k2, k3⟩
            obtain ⟨q2, c2, w', rfl, k1, k2, k3⟩ := hdst
            have hld := g4 w.drawn
            have hw : ({ w with drawn := w.drawn } : World) = w := rfl
            rw [hw] at hld
            refine ⟨φ, w', .int .i64 ((Nat.min n dn : Nat) : Int), .inl ?_, Ext.refl _ _, Nat.le_of_eq k3.symm, by rw [hmin]; exact .int _ _, k2⟩
            rw [exec_builtin ho, hmap]
            simp only [builtin, Builtin.copy_, ht0, ha0, ha1, Sem.run_bind, run_underlying' (KOk.slice (hE t _ hti) rfl), Result.andThen_ok, Builtin.lenOf, Sem.run_pure, (hE e te hte).size, Builtin.firstCells, hld, k1, goInt]
          · cases h
        · cases h
      · cases h
    · cases h
  · cases h

theorem does_clear (hE : TiAll P E) {args : Array Operand} {tys : Array Nat} (ho : o.op = .call { callee := .builtin .clear, args := args, argTypes := tys }) (hx : ∀ x ∈ args.toList, okOpd E x = true)
    (hF : Tmps φ F.T a.tmps) (hR : Rep PO E S w0 φ H w) {vs : List Value} (hvs : evs F args.toList = some vs) (h : bClear E H tys.toList vs = some (v, H')) : Does P PO E S w0 φ H o a w v H' := by
  have hargs := evs_ok hR.gl hF hx hvs
  unfold bClear at h
  split at h
  · rename_i t rest d n dc htys
    have ht0 : tys[0]? = some t := by rw [list_get? htys]; rfl
    obtain ⟨u, us1, hu1, hvu, hr1⟩ := hargs.cons_inv
    have hn := hr1.nil_inv
    subst hn
    have hmap : args.map a.eval = #[u] := Array.ext' (by rw [Array.toList_map, hu1])
    have ha0 : (#[u] : Array Value)[0]? = some u := rfl
    split at h
    · rename_i e sz by_ cm zz hti
      split at h
      · rename_i te hte
        split at h
        · rename_i H1 hwr
          cases h
          have hT := hE e te hte
          have hun := KOk.slice (hE t _ hti) (e := e) rfl
          by_cases h0 : n = 0
          · subst h0
            have : H' = H := by
              have : repX te.zero 0 = [] := List.eq_nil_of_length_eq_zero (by rw [repX_len]; simp)
              rw [this] at hwr
              simp only [AH.wr] at hwr
              cases hwr; rfl
            subst this
            obtain ⟨q, c', hq⟩ : ∃ q c', u = .slice (some q) 0 c' := by cases hvu <;> exact ⟨_, _, rfl⟩
            subst hq
            refine does_bval ho hR (z := .tuple #[]) ?_ VR.undf
            rw [hmap]
            simp only [builtin, Builtin.clear_, ht0, ha0, Sem.run_bind, run_underlying' hun, Result.andThen_ok, Sem.run_pure]
          · obtain ⟨_, l, c2, hl, rfl⟩ := hvu.slice_idx (Nat.pos_of_ne_zero h0)
            obtain ⟨w', k1, k2, k3⟩ := hR.wr (P := P) hl hwr (repX_VR hT.zVR _) (repX_ones hT.zone _)
            obtain ⟨zv, hz, hzc⟩ := hT.zeroV w
            have hzc' : zv.cells = ⟨te.zero⟩ := Array.ext' hzc
            refine ⟨φ, w', .tuple #[], .inl ?_, Ext.refl _ _, Nat.le_of_eq k3.symm, VR.undf, k2⟩
            rw [exec_builtin ho, hmap]
            have hrep : (Builtin.zeroCells zv.cells n).toList = repX te.zero n := by
              unfold Builtin.zeroCells
              rw [hzc', rep_eq ⟨te.zero⟩ n]
            obtain ⟨k, rfl⟩ : ∃ k, n = k + 1 := ⟨n - 1, by omega⟩
            simp only [builtin, Builtin.clear_, ht0, ha0, Sem.run_bind, run_underlying' hun, Result.andThen_ok, hz, hrep, k1, Sem.run_pure]
        · cases h
      · cases h
    · cases h
  · cases h
end
end Go.Ra
end

section
/-! Every operation that calls nothing. -/
namespace Go.Ra
section
variable {PO : PlanOk} {E : Env} {S : Nat → Prop} {w0 : World} {φ : Emb} {H H' : AH} {w : World} {P : Program} {F : AF} {a : Act} {o : Oper} {v : Value} {rec : Rec}

theorem does_builtin (hE : TiAll P E) {b : Builtin} {args : Array Operand} {tys : Array Nat} (ho : o.op = .call { callee := .builtin b, args := args, argTypes := tys }) (hx : ∀ x ∈ args.toList, okOpd E x = true)
    (hF : Tmps φ F.T a.tmps) (hR : Rep PO E S w0 φ H w) {vs : List Value} (hvs : evs F args.toList = some vs) (h : abuiltin E H b tys.toList vs = some (v, H')) : Does P PO E S w0 φ H o a w v H' := by
  cases b
  case len => exact does_len hE ho hx hF hR hvs h
  case cap => exact does_cap hE ho hx hF hR hvs h
  case min => exact does_min ho hx hF hR hvs h
  case max => exact does_max ho hx hF hR hvs h
  case append => exact does_append hE ho hx hF hR hvs h
  case copy => exact does_copy hE ho hx hF hR hvs h
  case clear => exact does_clear hE ho hx hF hR hvs h
  all_goals cases h

theorem does_op (hE : TiAll P E) (hq : ∀ c, o.op = .call c → ∃ b, c.callee = .builtin b) (hok : ∀ x ∈ o.op.operands.toList, okOpd E x = true)
    (hF : Tmps φ F.T a.tmps) (hR : Rep PO E S w0 φ H w) (h : aop o.op E rec F H = some (v, H')) : Does P PO E S w0 φ H o a w v H' := by
  cases ho : o.op <;> rw [ho] at h hok <;> simp only [aop] at h <;> simp only [Op.operands] at hok
  case move x => exact does_move x (.inl ho) (hok _ (by simp)) hF hR h
  case assign x => exact does_move x (.inr ho) (hok _ (by simp)) hF hR h
  case pick c x y => exact does_pick c x y ho (hok _ (by simp)) (hok _ (by simp)) (hok _ (by simp)) hF hR h
  case alloc t => exact does_alloc hE t ho hR h
  case box t x => exact does_box hE t x ho (hok _ (by simp)) hF hR h
  case build t ps => exact does_build hE t ps ho (fun p hp => hok _ (by simp; exact ⟨p.1, Array.mem_toList_iff.1 hp⟩)) hF hR h
  case buildSlice t n ps => exact does_buildSlice hE t n ps ho (fun p hp => hok _ (by simp; exact ⟨p.1, Array.mem_toList_iff.1 hp⟩)) hF hR h
  case load t x => exact does_load hE t x ho (hok _ (by simp)) hF hR h
  case store t x y => exact does_store hE t x y ho (hok _ (by simp)) (hok _ (by simp)) hF hR h
  case nilCheck x => exact does_nilCheck x ho (hok _ (by simp)) hF hR h
  case binOp op t x y yt => exact does_binOp hE op t x y yt ho (hok _ (by simp)) (hok _ (by simp)) hF hR h
  case unOp op t x => exact does_unOp op t x ho (hok _ (by simp)) hF hR h
  case convert s t x => exact does_convert hE s t x ho (hok _ (by simp)) hF hR h
  case makeFunc fn xs ys => exact does_makeFunc fn xs ys ho (fun x hx => hok _ (by simp; exact .inl (by simpa using hx))) (fun x hx => hok _ (by simp; exact .inr (by simpa using hx))) hF hR h
  case makeSlice t x y => exact does_makeSlice hE t x y ho (hok _ (by simp)) (hok _ (by simp)) hF hR h
  case slice t x lo hi mx =>
    exact does_slice hE t x lo hi mx ho (hok _ (by simp)) (fun y hy => hok _ (by subst hy; simp)) (fun y hy => hok _ (by subst hy; simp)) (fun y hy => hok _ (by subst hy; simp)) hF hR h
  case fieldAddr s x f => exact does_fieldAddr hE s x f ho (hok _ (by simp)) hF hR h
  case field s x f => exact does_field hE s x f ho (hok _ (by simp)) hF hR h
  case indexAddr t x y => exact does_indexAddr hE t x y ho (hok _ (by simp)) (hok _ (by simp)) hF hR h
  case index t x y => exact does_index t hE x y ho (hok _ (by simp)) (hok _ (by simp)) hF hR h
  case range t x => exact does_range hE t x ho (hok _ (by simp)) hF hR h
  case next x b => exact does_next x b ho (hok _ (by simp)) hF hR h
  case extract x i => exact does_extract x i ho (hok _ (by simp)) hF hR h
  case call c =>
    obtain ⟨b, hb⟩ := hq c ho
    obtain ⟨callee, args, tys⟩ := c
    simp only at hb
    subst hb
    unfold op_call at h
    simp only at h
    split at h
    · rename_i vs hvs
      simp only [Call.operands] at hok
      exact does_builtin hE ho (fun x hx => hok _ (by simp; exact (by simpa using hx))) hF hR hvs h
    · cases h
  all_goals (cases h)
end
end Go.Ra
end

section
/-! Frames: marks, protected blocks, what is proved of a piece of code. -/
namespace Go.Ra
section
variable {PO : PlanOk} {E : Env} {S : Nat → Prop} {w0 : World} {φ ψ : Emb} {H H' : AH} {w w' : World} {P : Program}

/-- the world turns where nothing abstract lies -/
theorem Rep.agree (h : Rep PO E S w0 φ H w) (ha : ∀ X l, φ X = some l → w'.heap[l.blk]? = w.heap[l.blk]?) (hs : ∀ b, S b → w'.heap[b]? = w.heap[b]?) (hz : w.heap.size ≤ w'.heap.size)
    (ho : w'.os = w.os) (hu : w'.output = w.output) (ht : w'.tape = w.tape) : Rep PO E S w0 φ H w' :=
  { dom := h.dom, fresh := h.fresh, ffresh := h.ffresh, flt := h.flt, fam1 := h.fam1, one := h.one
    blk := fun X l b e o => let ⟨cs, el, fr, hb⟩ := h.blk X l b e o; ⟨cs, el, fr, ⟨by rw [ha X l e]; exact hb.here, hb.room, hb.free, hb.cell⟩⟩
    loop := fun X l r e o => let ⟨L, hL⟩ := h.loop X l r e o; ⟨L, hL.mono (Emb.le_refl _) (ha X l e)⟩
    iter := fun X l s p e o => let ⟨h1, h2⟩ := h.iter X l s p e o; ⟨h1, by rw [ha X l e]; exact h2⟩
    share := h.share, size := Nat.le_trans h.size hz, keep := fun b hb => (hs b hb).trans (h.keep b hb), sdom := h.sdom, safe := h.safe
    os := ho.trans h.os, out := hu.trans h.out, tape := ht.trans h.tape, gl := h.gl, pin := h.pin }

/-- the world is taken as the one that was first, more blocks are kept -/
theorem Rep.rebase (h : Rep PO E S w0 φ H w) (S' : Nat → Prop) (hS : ∀ b, S' b → S b ∨ (b < w.heap.size ∧ ∀ X l, φ X = some l → l.blk ≠ b)) (hS2 : ∀ b, S b → S' b) : Rep PO E S' w φ H w :=
  { dom := h.dom, fresh := h.fresh, ffresh := h.ffresh, flt := h.flt, fam1 := h.fam1, one := h.one, blk := h.blk, loop := h.loop, iter := h.iter, share := h.share
    size := Nat.le_refl _, keep := fun _ _ => rfl
    sdom := fun b hb => by
      rcases hS b hb with h1 | h1
      · exact Nat.lt_of_lt_of_le (h.sdom b h1) h.size
      · exact h1.1
    safe := fun X l e hb => by
      rcases hS _ hb with h1 | h1
      · exact h.safe X l e h1
      · exact absurd rfl (h1.2 X l e)
    os := rfl, out := rfl, tape := rfl, gl := h.gl
    pin := fun b i v e => by
      obtain ⟨h1, h2⟩ := h.pin b i v e
      refine ⟨?_, hS2 b h2⟩
      rw [← h1]
      simp only [World.cell?, h.keep b h2] }

/-- and back -/
theorem Rep.unbase {S' : Nat → Prop} {w1 : World} (h1 : Rep PO E S w0 φ H w1) (h : Rep PO E S' w1 ψ H' w) (hS : ∀ b, S b → S' b) : Rep PO E S w0 ψ H' w :=
  { dom := h.dom, fresh := h.fresh, ffresh := h.ffresh, flt := h.flt, fam1 := h.fam1, one := h.one, blk := h.blk, loop := h.loop, iter := h.iter, share := h.share
    size := Nat.le_trans h1.size h.size, keep := fun b hb => (h.keep b (hS b hb)).trans (h1.keep b hb), sdom := h1.sdom, safe := fun X l e hb => h.safe X l e (hS _ hb)
    os := h.os.trans h1.os, out := h.out.trans h1.out, tape := h.tape.trans h1.tape, gl := h.gl, pin := h1.pin }

/-- a block with another thing in it is none of the abstract ones -/
theorem Rep.notDeferred (h : Rep PO E S w0 φ H w) {r : Nat} {d : Option (List Deferred)} (hr : w.heap[r]? = some (.deferred d)) : ∀ X l, φ X = some l → l.blk ≠ r := by
  intro X l e hb
  obtain ⟨o, ho⟩ := h.dom X l e
  cases o with
  | blk b => obtain ⟨cs, el, fr, hB⟩ := h.blk X l b e ho; have := hB.here; rw [hb, hr] at this; cases this
  | loop r' => obtain ⟨L, hL⟩ := h.loop X l r' e ho; have := hL.here; rw [hb, hr] at this; cases this
  | iter s p => have := (h.iter X l s p e ho).2; rw [hb, hr] at this; cases this

/-- the marks that a function's ranges over functions have left -/
inductive Marks (k : Nat) (w : World) : List Deferred → Prop
  | nil : Marks k w []
  | cons {r : Nat} {m : Deferred} {ms : List Deferred} (hm : m.target = .collected r) (hk : k ≤ r) (hr : w.heap[r]? = some (.deferred (some []))) (hd : ∀ m' ∈ ms, m'.target ≠ .collected r) (h : Marks k w ms) : Marks k w (m :: ms)

theorem Marks.mem {k : Nat} {ms : List Deferred} (h : Marks k w ms) : ∀ m ∈ ms, ∃ r, m.target = .collected r ∧ k ≤ r ∧ w.heap[r]? = some (.deferred (some [])) := by
  induction h with
  | nil => intro m hm; cases hm
  | cons hm hk hr hd _ ih =>
    intro m' hm'
    rcases List.mem_cons.1 hm' with rfl | h1
    · exact ⟨_, hm, hk, hr⟩
    · exact ih m' h1

theorem Marks.keep {k : Nat} {ms : List Deferred} (h : Marks k w ms) (hw : ∀ m ∈ ms, ∀ r, m.target = .collected r → w'.heap[r]? = w.heap[r]?) : Marks k w' ms := by
  induction h with
  | nil => exact .nil
  | cons hm hk hr hd _ ih => exact .cons hm hk ((hw _ (List.mem_cons_self ..) _ hm).trans hr) hd (ih fun m hm' => hw m (List.mem_cons_of_mem _ hm'))

theorem Marks.le {k k' : Nat} {ms : List Deferred} (h : Marks k w ms) (hk : k' ≤ k) : Marks k' w ms := by
  induction h with
  | nil => exact .nil
  | cons hm hk' hr hd _ ih => exact .cons hm (Nat.le_trans hk hk') hr hd ih

theorem Marks.append {k j : Nat} {ms ms' : List Deferred} (h : Marks j w ms) (h' : Marks k w ms') (hj : ∀ m ∈ ms', ∀ r, m.target = .collected r → r < j) (hk : k ≤ j) : Marks k w (ms ++ ms') := by
  induction h with
  | nil => exact h'
  | cons hm hk' hr hd _ ih =>
    refine .cons hm (Nat.le_trans hk hk') hr (fun m' hm' => ?_) ih
    rcases List.mem_append.1 hm' with h1 | h1
    · exact hd m' h1
    · intro he
      have := hj m' h1 _ he
      omega

def refs (S : Nat → Prop) (ms : List Deferred) : Nat → Prop := fun b => S b ∨ ∃ m ∈ ms, m.target = .collected b

/-- the state behind a piece of code; the world in front of it is the first one -/
structure Post (PO : PlanOk) (E : Env) (S : Nat → Prop) (φ : Emb) (H : AH) (F : AF) (a : Act) (w : World) (ψ : Emb) (H' : AH) (F' : AF) (a' : Act) (w' : World) : Prop where
  ext : Ext φ H ψ
  next : H.next ≤ H'.next
  rep : Rep PO E S w ψ H' w'
  tmps : Tmps ψ F'.T a'.tmps
  size : a'.tmps.size = a.tmps.size
  fn : F'.fn = F.fn
  inr : F'.inr = F.inr
  marks : ∃ ms, a'.defers = ms ++ a.defers ∧ Marks w.heap.size w' ms

theorem Rep.here (h : Rep PO E S w0 φ H w) : Rep PO E S w φ H w := h.rebase S (fun _ hb => .inl hb) (fun _ hb => hb)

theorem Post.refl {F : AF} {a : Act} (hR : Rep PO E S w φ H w) (hF : Tmps φ F.T a.tmps) : Post PO E S φ H F a w φ H F a w :=
  ⟨Ext.refl _ _, Nat.le_refl _, hR, hF, rfl, rfl, rfl, [], rfl, .nil⟩

/-- one behind the other: what stands to be proved of the second -/
theorem Post.trans {F F1 : AF} {a a1 : Act} {H1 : AH} {w1 : World} (h : Post PO E S φ H F a w ψ H1 F1 a1 w1) :
    ∃ S1 : Nat → Prop, Rep PO E S1 w1 ψ H1 w1 ∧ ∀ {χ : Emb} {H2 : AH} {F2 : AF} {a2 : Act} {w2 : World}, Post PO E S1 ψ H1 F1 a1 w1 χ H2 F2 a2 w2 → Post PO E S φ H F a w χ H2 F2 a2 w2 := by
  obtain ⟨ms, hms, hM⟩ := h.marks
  refine ⟨refs S ms, h.rep.rebase _ (fun b hb => ?_) (fun b hb => .inl hb), fun {χ H2 F2 a2 w2} h2 => ?_⟩
  · rcases hb with hb | ⟨m, hm, hb⟩
    · exact .inl hb
    · obtain ⟨r, h1, h2, h3⟩ := hM.mem m hm
      rw [hb] at h1; cases h1
      refine .inr ⟨?_, h.rep.notDeferred h3⟩
      rcases Nat.lt_or_ge b w1.heap.size with h' | h'
      · exact h'
      · rw [Array.getElem?_eq_none h'] at h3; cases h3
  · obtain ⟨ms2, hms2, hM2⟩ := h2.marks
    refine ⟨h.ext.trans h2.ext h.next, Nat.le_trans h.next h2.next, h.rep.unbase h2.rep fun b hb => .inl hb, h2.tmps, h2.size.trans h.size, h2.fn.trans h.fn, h2.inr.trans h.inr, ms2 ++ ms, ?_, ?_⟩
    · rw [hms2, hms, List.append_assoc]
    · refine hM2.append (hM.keep fun m hm r hr => h2.rep.keep r (.inr ⟨m, hm, hr⟩)) (fun m hm r hr => ?_) h.rep.size
      obtain ⟨r', h1, h2', h3⟩ := hM.mem m hm
      rw [hr] at h1; cases h1
      rcases Nat.lt_or_ge r w1.heap.size with h' | h'
      · exact h'
      · rw [Array.getElem?_eq_none h'] at h3; cases h3

def AX.toExit : AX → Exit
  | .normal => .normal
  | .exit id => .exit id
  | .goto l => .goto l
  | .ret => .ret

def Fr (r : Option Nat) : Fence := { fn := fun _ => True, depth := none, alive := false, round := r }

/-- the evaluator's answers are right -/
def SRec (P : Program) (PO : PlanOk) (E : Env) (rec : Rec) : Prop :=
  ∀ (c : Code) (F : AF) (H : AH) (x : AX) (F' : AF) (H' : AH), rec c F H = some (x, F', H') → ∀ (N : Nat), okCode PO E F.fn N c →
    ∀ (S : Nat → Prop) (φ : Emb) (a : Act) (w : World) (r : Option Nat), F.inr = r.isSome → N ≤ a.tmps.size → Rep PO E S w φ H w → Tmps φ F.T a.tmps →
    ∀ Q : Exit → Act → World → Prop, (∀ ψ a' w', Post PO E S φ H F a w ψ H' F' a' w' → Q x.toExit a' w') → c.wpIn (Fr r) 0 P Q a w

/-- what a call brings -/
def CallR (PO : PlanOk) (E : Env) (S : Nat → Prop) (φ : Emb) (H : AH) (w : World) (v : Value) (H' : AH) (e : Ending) (w' : World) : Prop :=
  ∃ u ψ, e = .returned u ∧ Ext φ H ψ ∧ H.next ≤ H'.next ∧ VR ψ v u ∧ Rep PO E S w ψ H' w'

structure FtOk (P : Program) (f : Nat) (fn : Func) : Prop where
  is : P.funcs[f]? = some fn
  name : (fn.name == "runtime.NumGoroutine") = false
  body : fn.body.isNone = false

/-- what is asked of the tables -/
structure EnvOk (P : Program) (PO : PlanOk) (E : Env) : Prop where
  ti : TiAll P E
  orc : ∀ f g, E.orc f = some g → (∃ fn, FtOk P f fn) ∧ ∀ (args : List Value) (us : Array Value) (H : AH) (v : Value) (H' : AH) (S : Nat → Prop) (φ : Emb) (w : World),
    g args H = some (v, H') → Rep PO E S w φ H w → VRl φ args us.toList → CallsIn (Fr none) 0 P f us w (CallR PO E S φ H w v H')
  ft : ∀ f fn, E.orc f = none → E.ft.get f = some fn → FtOk P f fn ∧ ∀ c, fn.body = some c → okCode PO E f fn.ntmps c
end
end Go.Ra
end

section
/-! A call of a function of the program. -/
namespace Go.Ra
section
variable {PO : PlanOk} {E : Env} {S : Nat → Prop} {w0 : World} {φ ψ : Emb} {H H' : AH} {w w' : World} {P : Program} {rec : Rec}

def resV (tmps : Array Value) (r : ResultVar) : Sem Value :=
  match r with
  | .tmp t => pure (tmps.getD t undef)
  | .cell a t => do loadVar t (← asAddr (tmps.getD a undef))
theorem results_eq (fn : Func) (tmps : Array Value) : results fn tmps = (do let vs ← fn.results.mapM (resV tmps); pure (if h : vs.size = 1 then vs[0] else .tuple vs)) := by
  unfold results
  congr 1

theorem aresult_ok (hE : TiAll P E) {F : AF} {tmps : Array Value} (hF : Tmps φ F.T tmps) (hR : Rep PO E S w0 φ H w) {r : ResultVar} {v : Value} (h : aresult E F H r = some v) :
    ∃ u, (resV tmps r).run P w = .ok u w ∧ VR φ v u := by
  cases r with
  | tmp t =>
    have ht := hF t
    simp only [aresult] at h
    refine ⟨_, rfl, ?_⟩
    cases hg : F.T.get t with
    | none => rw [hg] at h ht; cases h; exact ht
    | some x => rw [hg] at h ht; cases h; exact ht
  | cell a t =>
    have ht := hF a
    simp only [aresult] at h
    split at h
    · rename_i p ti hp hti
      split at h
      · rename_i cs hcs
        rw [hp] at ht
        obtain ⟨_, l, hl, hpu⟩ := VR.ptr_inv ht
        obtain ⟨us, h1, h2, h3, h4⟩ := hR.rd hl hcs
        obtain ⟨u', h5, h6⟩ := (hE t ti hti).loadVar (P := P) h1 h2 h h4
        refine ⟨u', ?_, h6⟩
        simp only [resV, hpu, asAddr, Sem.run_bind, Sem.run_pure, Result.andThen_ok, h5]
      · cases h
    · cases h

theorem aresults_ok (hE : TiAll P E) {F : AF} {tmps : Array Value} (hF : Tmps φ F.T tmps) (hR : Rep PO E S w0 φ H w) : ∀ {l : List ResultVar} {vs : List Value}, aresults E F H l = some vs →
    ∃ us, (l.mapM (resV tmps)).run P w = .ok us w ∧ VRl φ vs us := by
  intro l
  induction l with
  | nil => intro vs h; cases h; exact ⟨[], by simp [List.mapM_nil, Sem.run_pure], .nil⟩
  | cons r l ih =>
    intro vs h
    simp only [aresults] at h
    split at h
    · rename_i v vs' hv hvs
      cases h
      obtain ⟨u, h1, h2⟩ := aresult_ok (P := P) hE hF hR hv
      obtain ⟨us, h3, h4⟩ := ih hvs
      refine ⟨u :: us, ?_, .cons h2 h4⟩
      rw [List.mapM_cons]
      simp only [Sem.run_bind, Sem.run_pure]
      rw [h1]
      simp only [Result.andThen_ok]
      rw [h3]
      simp only [Result.andThen_ok]
    · cases h

theorem results_ok (hE : TiAll P E) {fn : Func} {F : AF} {tmps : Array Value} (hF : Tmps φ F.T tmps) (hR : Rep PO E S w0 φ H w) {v : Value}
    (h : (match aresults E F H fn.results.toList with | some [v] => some (v, H) | some vs => some (.tuple ⟨vs⟩, H) | none => none) = some (v, H')) :
    H' = H ∧ ∃ u, (results fn tmps).run P w = .ok u w ∧ VR φ v u := by
  have key : ∀ vs, aresults E F H fn.results.toList = some vs → ∃ us, VRl φ vs us ∧ (results fn tmps).run P w = .ok (if h : us.toArray.size = 1 then us.toArray[0] else .tuple us.toArray) w := by
    intro vs hvs
    obtain ⟨us, h1, h2⟩ := aresults_ok (P := P) hE hF hR hvs
    refine ⟨us, h2, ?_⟩
    rw [results_eq, Array.mapM_eq_mapM_toList, bind_map_left]
    simp only [Sem.run_bind, h1, Result.andThen_ok, Sem.run_pure]
  split at h
  · rename_i x hvs
    cases h
    obtain ⟨us, h1, h2⟩ := key _ hvs
    obtain ⟨u, us', rfl, hv, hr⟩ := h1.cons_inv
    have := hr.nil_inv
    subst this
    exact ⟨rfl, u, h2, hv⟩
  · rename_i vs hne hvs
    cases h
    obtain ⟨us, h1, h2⟩ := key _ hvs
    have hl : us.length ≠ 1 := by
      rw [← h1.1]
      intro h1'
      match vs, h1' with
      | [x], _ => exact hne x rfl
    refine ⟨rfl, .tuple us.toArray, ?_, h1.tuple⟩
    rw [h2, dif_neg (by simpa using hl)]
  · cases h

theorem run_get {r : Nat} {ob : Obj} (h : w.heap[r]? = some ob) (hn : ∀ c e f, ob ≠ .cells c e f) : (getObj r).run P w = .ok ob w := by
  simp only [getObj, Sem.run, h]
theorem run_set {r : Nat} {ob o' : Obj} (h : w.heap[r]? = some ob) (hn : ∀ c e f, ob ≠ .cells c e f) : (setObj r o').run P w = .ok () { w with heap := w.heap.setIfInBounds r o' } := by
  simp only [setObj, Sem.run, h]

theorem run_take {r : Nat} (h : w.heap[r]? = some (.deferred (some []))) : (Instr.takeDeferred r).run P w = .ok [] { w with heap := w.heap.setIfInBounds r (.deferred none) } := by
  simp only [Instr.takeDeferred, Sem.run_bind, run_get h (fun _ _ _ h => by cases h), Result.andThen_ok, run_set h (fun _ _ _ h => by cases h), Sem.run_pure]

theorem leaves_marks {fn : Func} {tmps : Array Value} {R : Ending → World → Prop} {k : Nat} : ∀ {ms : List Deferred} {w : World}, Marks k w ms → (∀ b, S b → b < k) → Rep PO E S w0 φ H w →
    (∀ w', Rep PO E S w0 φ H w' → ∃ v, (results fn tmps).run P w' = .ok v w' ∧ R (.returned v) w') → LeavesInM (Fr none) 0 P fn tmps R ms .returning w := by
  intro ms
  induction ms with
  | nil => intro w _ _ hR h; exact h w hR
  | cons m ms ih =>
    intro w hM hS hR h
    cases hM with
    | @cons r _ _ hm hk hr hd hM =>
      refine ⟨by simp, .inl ⟨r, _, hm, run_take hr, ?_⟩⟩
      have hnd := hR.notDeferred hr
      refine ih (hM.keep fun m' hm' r' hr' => ?_) hS ?_ h
      · have : r ≠ r' := fun he => hd m' hm' (he ▸ hr')
        simp only [Array.getElem?_setIfInBounds, if_neg this]
      · refine hR.agree (fun X l e => ?_) (fun b hb => ?_) (by simp) rfl rfl rfl
        · simp only [Array.getElem?_setIfInBounds, if_neg (Ne.symm (hnd X l e))]
        · have := hS b hb
          simp only [Array.getElem?_setIfInBounds]
          rw [if_neg (by omega)]

theorem argsT_get : ∀ (vs : List Value) (T : Tr Value) (i t : Nat), (argsT T i vs).get t = if i ≤ t ∧ t < i + vs.length then vs[t - i]? else T.get t := by
  intro vs
  induction vs with
  | nil => intro T i t; simp only [argsT, List.length_nil]; rw [if_neg (by omega)]
  | cons v vs ih =>
    intro T i t
    simp only [argsT]
    rw [ih]
    by_cases h1 : t = i
    · subst h1
      rw [if_neg (by omega), if_pos (by simp), Tr.get_set_same]
      simp
    · by_cases h2 : i ≤ t ∧ t < i + (v :: vs).length
      · rw [if_pos h2, if_pos (by simp only [List.length_cons] at h2; omega)]
        have : t - i = t - (i + 1) + 1 := by omega
        rw [this, List.getElem?_cons_succ]
      · rw [if_neg h2, if_neg (by simp only [List.length_cons] at h2; omega), Tr.get_set_ne _ _ h1]

theorem argsT_ok {vs : List Value} {us : Array Value} (h : VRl φ vs us.toList) (k : Nat) : Tmps φ (argsT .nil 0 vs) (us ++ Array.replicate k undef) := by
  intro t
  rw [argsT_get]
  have hl : vs.length = us.size := by simpa using h.1
  by_cases ht : t < vs.length
  · rw [if_pos (by omega), Nat.sub_zero, List.getElem?_eq_getElem ht]
    have h2 := h.2 t ht (by simpa [hl] using ht)
    simp only [Option.getD_some]
    rw [Array.getD_eq_getD_getElem?, Array.getElem?_append_left (by omega), Array.getElem?_eq_getElem (by omega)]
    simpa using h2
  · rw [if_neg (by omega)]
    have : (Tr.nil : Tr Value).get t = none := Tr.get_nil t
    rw [this, Array.getD_eq_getD_getElem?]
    by_cases ht2 : t < us.size + k
    · rw [Array.getElem?_append_right (by omega), Array.getElem?_replicate, if_pos (by omega)]
      exact VR.undf
    · rw [Array.getElem?_eq_none (by simp; omega)]
      exact VR.undf

/-- a call of a function of the program -/
theorem acall_ok (hEnv : EnvOk P PO E) (hS : SRec P PO E rec) {f : Nat} {args : List Value} {us : Array Value} {v : Value} (h : acall E rec f args H = some (v, H')) (hR : Rep PO E S w φ H w)
    (hv : VRl φ args us.toList) : (∃ fn, FtOk P f fn) ∧ CallsIn (Fr none) 0 P f us w (CallR PO E S φ H w v H') := by
  unfold acall at h
  split at h
  · rename_i g hg
    obtain ⟨h1, h2⟩ := hEnv.orc f g hg
    exact ⟨h1, h2 args us H v H' S φ w h hR hv⟩
  · rename_i hg
    split at h
    · cases h
    · rename_i fn hfn
      obtain ⟨hft, hok⟩ := hEnv.ft f fn hg hfn
      refine ⟨⟨fn, hft⟩, ?_⟩
      split at h
      · cases h
      · rename_i c hc
        have hbody : ∀ (x : AX) (F' : AF) (H2 : AH), (x = .normal ∨ x = .ret) → rec c { fn := f, inr := false, T := argsT .nil 0 args } H = some (x, F', H2) →
            (match aresults E F' H2 fn.results.toList with | some [v] => some (v, H2) | some vs => some (.tuple ⟨vs⟩, H2) | none => none) = some (v, H') →
            CallsIn (Fr none) 0 P f us w (CallR PO E S φ H w v H') := by
          intro x F' H2 hx hrec hres
          refine callsIn_of_wp_marks hft.is hc trivial ?_
          refine hS c _ H x F' H2 hrec fn.ntmps (hok c hc) S φ _ w none rfl (by simp only [Array.size_append, Array.size_replicate]; omega) hR (argsT_ok hv _) _ fun ψ a' w' hp => ?_
          have key : LeavesInM (Fr none) 0 P fn a'.tmps (CallR PO E S φ H w v H') a'.defers .returning w' := by
            obtain ⟨ms, hms, hM⟩ := hp.marks
            simp only [List.append_nil] at hms
            rw [hms]
            refine leaves_marks hM hp.rep.sdom hp.rep fun w2 hR2 => ?_
            obtain ⟨rfl, u, h1, h2⟩ := results_ok (P := P) hEnv.ti hp.tmps hR2 hres
            exact ⟨u, h1, u, ψ, rfl, hp.ext, hp.next, h2, hR2⟩
          rcases hx with rfl | rfl <;> exact key
        split at h
        · rename_i F' H2 hrec
          exact hbody _ F' H2 (.inl rfl) hrec h
        · rename_i F' H2 hrec
          exact hbody _ F' H2 (.inr rfl) hrec h
        · cases h
end
end Go.Ra
end

section
/-! A round of a range over a function. -/
namespace Go.Ra
section
variable {PO : PlanOk} {E : Env} {S : Nat → Prop} {w0 : World} {φ ψ : Emb} {H H' : AH} {w w' : World} {P : Program} {rec : Rec}

theorem Rep.setLoop (h : Rep PO E S w0 φ H w) {X : Nat} {l : Loc} {r r' : ALoop} {L' : Loop} (e : φ X = some l) (ho : H.objs.get X = some (.loop r))
    (hL' : ∀ w2 : World, w2.heap[l.blk]? = some (.loop L') → LoopAt PO E φ w2 l r' L') :
    Rep PO E S w0 φ { H with objs := H.objs.set X (.loop r') } { w with heap := w.heap.setIfInBounds l.blk (.loop L') } := by
  have hblt := h.inHeap e
  obtain ⟨L0, hwh⟩ := h.loop X l r e ho
  have hheap : ∀ {B : Nat}, B ≠ l.blk → (w.heap.setIfInBounds l.blk (.loop L'))[B]? = w.heap[B]? := fun hne => by
    rw [Array.getElem?_setIfInBounds, if_neg (Ne.symm hne)]
  have hheapl : (w.heap.setIfInBounds l.blk (.loop L'))[l.blk]? = some (.loop L') := by
    rw [Array.getElem?_setIfInBounds, if_pos rfl, if_pos hblt]
  have other : ∀ {Y : Nat} {m : Loc}, φ Y = some m → Y ≠ X → m.blk ≠ l.blk := fun f hY hm => by
    rcases h.share _ X _ l f e hm with h1 | ⟨b, c, _, h2, _⟩
    · exact hY h1
    · rw [ho] at h2; cases h2
  have hSn : ¬ S l.blk := fun hS => by
    obtain ⟨b', hb', hr'⟩ := h.safe X l e hS
    rw [ho] at hb'; cases hb'
  have hN : ∀ {Y : Nat}, Y ≠ X → (H.objs.set X (.loop r')).get Y = H.objs.get Y := fun hY => Tr.get_set_ne _ _ hY
  have back : ∀ {Y : Nat} {o : AObj}, (H.objs.set X (.loop r')).get Y = some o → (Y = X ∧ o = .loop r') ∨ (Y ≠ X ∧ H.objs.get Y = some o) := fun {Y o} hY => by
    by_cases hX : Y = X
    · subst hX; rw [Tr.get_set_same] at hY; cases hY; exact .inl ⟨rfl, rfl⟩
    · rw [hN hX] at hY; exact .inr ⟨hX, hY⟩
  exact { dom := fun Y m f => by
            by_cases hY : Y = X
            · exact ⟨_, by rw [hY]; exact Tr.get_set_same _ _ _⟩
            · simp only []; rw [hN hY]; exact h.dom Y m f
          fresh := fun Y hY => by
            have : Y ≠ X := fun h' => by have := h.lt e; simp only at hY; omega
            simp only []; rw [hN this]; exact h.fresh Y hY
          ffresh := h.ffresh
          flt := fun Y b hb => by rcases back hb with ⟨_, h1⟩ | ⟨_, h1⟩; · cases h1
                                  · exact h.flt Y b h1
          fam1 := fun Y b hb => by rcases back hb with ⟨_, h1⟩ | ⟨_, h1⟩; · cases h1
                                   · exact h.fam1 Y b h1
          one := fun Y b hb => by rcases back hb with ⟨_, h1⟩ | ⟨_, h1⟩; · cases h1
                                  · exact h.one Y b h1
          blk := fun Y m b f hb => by
            rcases back hb with ⟨_, h1⟩ | ⟨hY, h1⟩
            · cases h1
            · obtain ⟨cs, el, fr, hB⟩ := h.blk Y m b f h1
              exact ⟨cs, el, fr, ⟨by simp only []; rw [hheap (other f hY)]; exact hB.here, hB.room, hB.free, hB.cell⟩⟩
          loop := fun Y m r2 f hb => by
            rcases back hb with ⟨hY, h1⟩ | ⟨hY, h1⟩
            · cases h1; subst hY; rw [e] at f; cases f; exact ⟨L', hL' _ hheapl⟩
            · obtain ⟨L, hL⟩ := h.loop Y m r2 f h1
              exact ⟨L, hL.mono (Emb.le_refl _) (hheap (other f hY))⟩
          iter := fun Y m s2 p2 f hb => by
            rcases back hb with ⟨_, h1⟩ | ⟨hY, h1⟩
            · cases h1
            · obtain ⟨h2, h3⟩ := h.iter Y m s2 p2 f h1
              exact ⟨h2, by simp only []; rw [hheap (other f hY)]; exact h3⟩
          share := fun Y Z m k f g hm => by
            rcases h.share Y Z m k f g hm with h1 | ⟨b, c, h1, h2, h3⟩
            · exact .inl h1
            · have hY : Y ≠ X := fun h' => by rw [h', ho] at h1; cases h1
              have hZ : Z ≠ X := fun h' => by rw [h', ho] at h2; cases h2
              exact .inr ⟨b, c, by simp only []; rw [hN hY]; exact h1, by simp only []; rw [hN hZ]; exact h2, h3⟩
          size := by simpa using h.size
          keep := fun B hS => by simp only []; rw [hheap fun hbe => hSn (hbe ▸ hS)]; exact h.keep B hS
          sdom := h.sdom
          safe := fun Y m f hS => by
            obtain ⟨b, hb, hr⟩ := h.safe Y m f hS
            have hY : Y ≠ X := fun h' => by rw [h', ho] at hb; cases hb
            exact ⟨b, by simp only []; rw [hN hY]; exact hb, hr⟩
          os := h.os, out := h.out, tape := h.tape, gl := h.gl, pin := h.pin }

theorem run_getLoop {l : Nat} {L : Loop} (h : w.heap[l]? = some (.loop L)) : (Instr.getLoop l).run P w = .ok L w := by
  simp only [Instr.getLoop, Sem.run_bind, run_get h (fun _ _ _ h => by cases h), Result.andThen_ok, Sem.run_pure]

theorem run_begin {l : Nat} {L : Loop} (h : w.heap[l]? = some (.loop L)) (hs : L.state = .ready) : (Instr.beginRound l).run P w = .ok () { w with heap := w.heap.setIfInBounds l (.loop { L with state := .busy }) } := by
  simp only [Instr.beginRound, Sem.run_bind, run_getLoop h, Result.andThen_ok, run_set h (fun _ _ _ h => by cases h), hs, Sem.run_pure]

theorem run_end {l : Nat} {L : Loop} {j : Option Code} (h : w.heap[l]? = some (.loop L)) :
    (Instr.endRound l j).run P w = .ok (.bool j.isNone) { w with heap := w.heap.setIfInBounds l (.loop { L with state := if j.isNone then .ready else .done, pending := j }) } := by
  simp only [Instr.endRound, Sem.run_bind, run_getLoop h, Result.andThen_ok, run_set h (fun _ _ _ h => by cases h), Sem.run_pure]

theorem setAll_ok : ∀ (ps : List Nat) (vs us : List Value) (T T' : Tr Value) (tmps : Array Value), VRl φ vs us → setAll T ps vs = some T' → (∀ p ∈ ps, p < tmps.size) → Tmps φ T tmps →
    ps.length = us.length ∧ Tmps φ T' ((ps.zip us).foldl (fun tmps (t, a) => tmps.setIfInBounds t a) tmps) ∧ ((ps.zip us).foldl (fun tmps (t, a) => tmps.setIfInBounds t a) tmps).size = tmps.size := by
  intro ps
  induction ps with
  | nil =>
    intro vs us T T' tmps hv h _ hT
    cases vs with
    | nil => cases h; have := hv.nil_inv; subst this; exact ⟨rfl, hT, rfl⟩
    | cons v vs => cases h
  | cons p ps ih =>
    intro vs us T T' tmps hv h hp hT
    cases vs with
    | nil => cases h
    | cons v vs =>
      obtain ⟨u, us', rfl, h1, h2⟩ := hv.cons_inv
      have hT1 : Tmps φ (T.set p v) (tmps.setIfInBounds p u) := by
        intro t
        rw [Tr.get_set]
        by_cases ht : t = p
        · subst ht
          rw [if_pos rfl, Array.getD_eq_getD_getElem?, Array.getElem?_setIfInBounds, if_pos rfl, if_pos (hp _ (List.mem_cons_self ..))]
          exact h1
        · rw [if_neg ht, Array.getD_eq_getD_getElem?, Array.getElem?_setIfInBounds, if_neg (Ne.symm ht), ← Array.getD_eq_getD_getElem?]
          exact hT t
      obtain ⟨g1, g2, g3⟩ := ih vs us' (T.set p v) T' (tmps.setIfInBounds p u) h2 h (fun q hq => by simpa using hp q (List.mem_cons_of_mem _ hq)) hT1
      exact ⟨by simp [g1], by simpa using g2, by simpa using g3⟩
end
end Go.Ra
end

section
namespace Go.Ra
section
variable {PO : PlanOk} {E : Env} {S : Nat → Prop} {w0 : World} {φ ψ : Emb} {H H' : AH} {w w' : World} {P : Program} {rec : Rec}

theorem LoopAt.state {l : Loc} {r : ALoop} {L : Loop} (h : LoopAt PO E φ w l r L) {b : Bool} {j : Option Code} {st : LoopState} (h1 : b = true → st = .ready) (h2 : b = false → j.isSome = true → st ≠ .busy) :
    ∀ w2 : World, w2.heap[l.blk]? = some (.loop { L with state := st, pending := j }) → LoopAt PO E φ w2 l { r with ready := b, pending := j } { L with state := st, pending := j } :=
  fun _ hh => { here := hh, ready := h1, busy := h2, pend := rfl, params := h.params, asg := h.asg, bod := h.bod, tm := h.tm, ok := h.ok }

theorem ayield_ok (hS : SRec P PO E rec) {X : Nat} {l : Loc} {args : List Value} {us : Array Value} {v : Value} (h : ayield rec X args H = some (v, H')) (hR : Rep PO E S w φ H w) (hφ : φ X = some l) (hv : VRl φ args us.toList) :
    ∃ L : Loop, w.heap[l.blk]? = some (.loop L) ∧ us.size = L.params.size ∧
      ∀ ro, RoundIn (Fr ro) 0 P l.blk L.fn ((L.params.zip us).foldl (fun tmps (t, a) => tmps.setIfInBounds t a) L.tmps) L.assign L.body w (CallR PO E S φ H w v H') := by
  unfold ayield at h
  split at h
  · rename_i r hobj
    split at h
    · cases h
    · rename_i T hT
      split at h
      · rename_i F1 H1 hrec1
        split at h
        · rename_i r1 hobj1
          cases hrd : (r1.ready && r1.pending.isNone) with
          | false => rw [hrd] at h; cases h
          | true =>
            rw [hrd] at h
            simp only [cond_true] at h
            rw [Bool.and_eq_true] at hrd
            split at h
            · rename_i x F2 H2 hrec2
              split at h
              · rename_i r2 hobj2
                obtain ⟨L, hL⟩ := hR.loop X l r hφ hobj
                obtain ⟨N, hN1, hN2, hokA, hokB⟩ := hL.ok
                obtain ⟨g1, g2, g3⟩ := setAll_ok r.params args us.toList r.T T L.tmps hv hT (fun p hp => Nat.lt_of_lt_of_le (hN2 p hp) hN1) hL.tm
                have hzip : (L.params.zip us).foldl (fun tmps (t, a) => tmps.setIfInBounds t a) L.tmps = (r.params.zip us.toList).foldl (fun tmps (t, a) => tmps.setIfInBounds t a) L.tmps := by
                  rw [← Array.foldl_toList, Array.toList_zip, hL.params]
                refine ⟨L, hL.here, ?_, fun ro => ?_⟩
                · have : L.params.size = r.params.length := by rw [← hL.params]; simp
                  rw [this, g1]; simp
                · refine roundIn_of_wpIn trivial ?_
                  rw [hzip, hL.asg, hL.bod]
                  show r.assign.wpIn (Fr (some l.blk)) 0 P _ _ w
                  refine hS r.assign _ H .normal F1 H1 hrec1 N hokA S φ _ w (some l.blk) rfl (by simp only []; rw [g3]; exact hN1) hR g2 _ fun ψ a1 w1 hp1 => ?_
                  have hψ : ψ X = some l := by rw [hp1.ext X (hR.lt hφ)]; exact hφ
                  obtain ⟨L1, hL1⟩ := hp1.rep.loop X l r1 hψ hobj1
                  refine ⟨_, run_begin hL1.here (hL1.ready hrd.1), ?_⟩
                  have hR2 := hp1.rep.setLoop (r' := { r1 with ready := false }) (L' := { L1 with state := .busy }) hψ hobj1
                    (fun w2 hh => { here := hh, ready := fun h => (by cases h), busy := fun _ hp => (by have := hrd.2; simp only at hp; cases hq : r1.pending <;> simp_all), pend := hL1.pend, params := hL1.params, asg := hL1.asg, bod := hL1.bod, tm := hL1.tm, ok := hL1.ok })
                  have hfn : F1.fn = r.fn := hp1.fn
                  have hinr : F1.inr = true := hp1.inr
                  refine hS r.body F1 _ x F2 H2 hrec2 N (by rw [hfn]; exact hokB) S ψ a1 _ (some l.blk) hinr (by rw [hp1.size]; simp only []; rw [g3]; exact hN1) hR2.here hp1.tmps _ fun χ a2 w3 hp2 => ?_
                  have hχ : χ X = some l := by rw [hp2.ext X (hp1.rep.lt hψ)]; exact hψ
                  obtain ⟨L2, hL2⟩ := hp2.rep.loop X l r2 hχ hobj2
                  have hrep := hR2.unbase hp2.rep fun b hb => hb
                  have hext : Ext φ H χ := hp1.ext.trans hp2.ext hp1.next
                  have hnext : H.next ≤ H2.next := Nat.le_trans hp1.next hp2.next
                  cases x with
                  | normal =>
                    cases h
                    exact ⟨_, _, run_end hL2.here, _, χ, rfl, hext, hnext, .bool _, hrep.setLoop hχ hobj2 (hL2.state (b := true) (j := none) (fun _ => rfl) (fun h => (by cases h)))⟩
                  | ret =>
                    cases h
                    exact ⟨_, _, run_end hL2.here, _, χ, rfl, hext, hnext, .bool _, hrep.setLoop hχ hobj2 (hL2.state (b := false) (j := some .ret) (fun h => by cases h) (fun _ _ => (by simp)))⟩
                  | exit id =>
                    cases h
                    exact ⟨_, _, run_end hL2.here, _, χ, rfl, hext, hnext, .bool _, hrep.setLoop hχ hobj2 (hL2.state (b := false) (j := some (.exit id)) (fun h => by cases h) (fun _ _ => (by simp)))⟩
                  | goto id =>
                    cases h
                    exact ⟨_, _, run_end hL2.here, _, χ, rfl, hext, hnext, .bool _, hrep.setLoop hχ hobj2 (hL2.state (b := false) (j := some (.goto id)) (fun h => by cases h) (fun _ _ => (by simp)))⟩
              · cases h
            · cases h
        · cases h
      · cases h
  · cases h
end
end Go.Ra
end

section
/-! One operation, in a frame. -/
namespace Go.Ra
section
variable {PO : PlanOk} {E : Env} {S : Nat → Prop} {w0 : World} {φ ψ : Emb} {H H' : AH} {w w' : World} {P : Program} {rec : Rec}

theorem run_callFunc {f : Nat} {fn : Func} (h : FtOk P f fn) (args : Array Value) : (callFunc f args).run P w = .ok (.enter f args) w := by
  simp only [callFunc, Sem.run_bind, run_program, Result.andThen_ok, h.is, h.name, h.body, Bool.false_eq_true, if_false, Sem.run_pure]

/-- a call of a value, in a frame: what the model does next -/
theorem callv_ok (hEnv : EnvOk P PO E) (hS : SRec P PO E rec) {fv u : Value} {args : List Value} {us : Array Value} {v : Value} (h : acallv E rec fv args H = some (v, H')) (hR : Rep PO E S w φ H w) (hf : VR φ fv u)
    (hv : VRl φ args us.toList) :
    ∃ d, (Deferred.ofValue u us).run P w = .ok d w ∧
      ((∃ f as, (invoke d.target d.args).run P w = .ok (.enter f as) w ∧ CallsIn (Fr none) 0 P f as w (CallR PO E S φ H w v H')) ∨
       (∃ l f tmps assign body, (invoke d.target d.args).run P w = .ok (.round l f tmps assign body) w ∧ ∀ ro, RoundIn (Fr ro) 0 P l f tmps assign body w (CallR PO E S φ H w v H'))) := by
  unfold acallv at h
  split at h
  · rename_i g first cap
    cases hf with
    | @func _ xs xs' ys ys' h1 h2 h3 h4 =>
      have hargs : VRl φ (first.toList ++ args ++ cap.toList) (xs' ++ us ++ ys').toList := by
        have e1 : VRl φ first.toList xs'.toList := ⟨by simpa using h1, fun i a b => by simpa using h2 i (by simpa using a) (by simpa using b)⟩
        have e2 : VRl φ cap.toList ys'.toList := ⟨by simpa using h3, fun i a b => by simpa using h4 i (by simpa using a) (by simpa using b)⟩
        have := (e1.append hv).append e2
        simpa using this
      obtain ⟨⟨fn, hft⟩, hc⟩ := acall_ok hEnv hS h hR hargs
      refine ⟨_, rfl, .inl ⟨g, _, ?_, hc⟩⟩
      simp only [invoke]
      exact run_callFunc hft _
  · rename_i X first cap
    cases hf with
    | @yield _ l hl =>
      obtain ⟨L, h1, h2, h3⟩ := ayield_ok hS h hR hl hv
      refine ⟨_, rfl, .inr ⟨l.blk, L.fn, _, L.assign, L.body, ?_, h3⟩⟩
      have hz : ¬ us.size ≠ L.params.size := fun hn => hn h2
      simp only [invoke, Array.empty_append, Instr.yield, Sem.run_bind, run_getLoop h1, Result.andThen_ok, Sem.run_ite, if_neg hz, Sem.run_pure]
  · cases h

theorem op_ok (hEnv : EnvOk P PO E) (hS : SRec P PO E rec) {ro : Option Nat} {F : AF} {a : Act} {o : Oper} {v : Value} (hok : ∀ x ∈ o.op.operands.toList, okOpd E x = true)
    (h : aop o.op E rec F H = some (v, H')) (hR : Rep PO E S w φ H w) (hF : Tmps φ F.T a.tmps) {K : Act → World → Prop} {Q : Exit → Act → World → Prop}
    (hK : ∀ ψ u w', Ext φ H ψ → H.next ≤ H'.next → VR ψ v u → Rep PO E S w ψ H' w' → K (a.put o.dst u) w') : o.wpIn (Fr ro) 0 P a w K Q := by
  refine ⟨fun _ _ => trivial, ?_⟩
  rw [Oper.semAt_eq _ _ _ (fun c hc => by rw [hc] at h; simp only [aop, opNo] at h; cases h)]
  by_cases hq : ∀ c, o.op = .call c → ∃ b, c.callee = .builtin b
  · obtain ⟨ψ, w', u, hr, h1, h2, h3, h4⟩ := does_op (P := P) hEnv.ti hq hok hF hR h
    rcases hr with hr | ⟨hr, rfl⟩
    · rw [hr]; exact hK ψ u w' h1 h2 h3 h4
    · rw [hr]; exact hK ψ undef w' h1 h2 h3 h4
  · have : ∃ c, o.op = .call c ∧ ∀ b, c.callee ≠ .builtin b := by
      refine Classical.byContradiction fun hn => hq fun c hc => Classical.byContradiction fun hb => hn ⟨c, hc, fun b hb' => hb ⟨b, hb'⟩⟩
    obtain ⟨c, hc, hb⟩ := this
    rw [hc] at h hok
    simp only [aop] at h
    simp only [Op.operands, Call.operands] at hok
    unfold op_call at h
    split at h
    · rename_i args hargs
      split at h
      · rename_i b hcb; exact absurd hcb (hb b)
      · rename_i f hcf
        rw [hcf] at hok
        split at h
        · rename_i fv hfv
          have hfu := ev_ok hR.gl hF (hok _ (by simp)) hfv
          have hau : VRl φ args (c.args.map a.eval).toList := by
            have := evs_ok hR.gl hF (fun x hx => hok x (by simp; exact .inr (by simpa using hx))) hargs
            simpa using this
          obtain ⟨d, hd, hcase⟩ := callv_ok hEnv hS h hR hfu hau
          have hex : (execOp a.eval o).run P w = (invoke d.target d.args).run P w := by
            unfold execOp; rw [hc]
            simp only [resolve, hcf, Sem.run_bind, hd, Result.andThen_ok]
          rw [hex]
          rcases hcase with ⟨g, as, h1, h2⟩ | ⟨l, g, tmps, as, body, h1, h2⟩
          · rw [h1]
            refine ⟨fun h => (by cases h), ?_⟩
            refine CallsIn.mono (F := Fr ro) (n := 0) (show CallsIn (Fr ro) 0 P g as w _ from h2) fun e w' he => ?_
            obtain ⟨u, ψ, rfl, g1, g2, g3, g4⟩ := he
            exact hK ψ u w' g1 g2 g3 g4
          · rw [h1]
            refine ⟨fun h => (by cases h), (h2 ro).mono fun e w' he => ?_⟩
            obtain ⟨u, ψ, rfl, g1, g2, g3, g4⟩ := he
            exact hK ψ u w' g1 g2 g3 g4
        · cases h
      · cases h
    · cases h
end
end Go.Ra
end

section
/-! A region whose order is written. -/
namespace Go.Ra
section
variable {PO : PlanOk} {E : Env} {S : Nat → Prop} {w0 : World} {φ ψ : Emb} {H H' : AH} {w w' : World} {P : Program} {rec : Rec}

theorem nthOp_eq : ∀ (l : List Oper) (n : Nat), nthOp l n = l[n]? := by
  intro l
  induction l with
  | nil => intro n; cases n <;> rfl
  | cons o l ih => intro n; cases n with
    | zero => rfl
    | succ n => simp only [nthOp, ih, List.getElem?_cons_succ]

theorem Tmps.put {T : Tr Value} {tmps : Array Value} {d : Nat} {v u : Value} (h : Tmps φ T tmps) (hv : VR φ v u) (hd : d < tmps.size) : Tmps φ (T.set d v) (tmps.setIfInBounds d u) := by
  intro t
  rw [Tr.get_set]
  by_cases ht : t = d
  · subst ht
    rw [if_pos rfl, Array.getD_eq_getD_getElem?, Array.getElem?_setIfInBounds, if_pos rfl, if_pos hd]
    exact hv
  · rw [if_neg ht, Array.getD_eq_getD_getElem?, Array.getElem?_setIfInBounds, if_neg (Ne.symm ht), ← Array.getD_eq_getD_getElem?]
    exact h t
theorem Tmps.mono {T : Tr Value} {tmps : Array Value} (h : Tmps φ T tmps) (hle : φ.le ψ) : Tmps ψ T tmps := fun t => (h t).mono hle

theorem awant_ok {ops : Array Oper} {F : AF} {tmps : Array Value} {o : Oper} {b : Bool} (h : awant ops.toList F o = some b) (hF : Tmps φ F.T tmps) : Region.wanted o (yielded ops tmps) = b := by
  unfold awant at h
  unfold Region.wanted
  split at h
  · rename_i hg
    cases h
    rw [hg]
  · rename_i j want hg
    rw [hg]
    simp only
    rw [nthOp_eq] at h
    have ho : ops.toList[j]? = ops[j]? := by simp
    rw [ho] at h
    split at h
    · rename_i _ ho2 _ _ _ _ _ hd
      have hy : yielded ops tmps j = (match tmps[ho2]? with | some (.bool b) => some b | _ => none) := by
        simp only [yielded, hd, Option.bind_some]
        cases tmps[ho2]? with
        | none => rfl
        | some x => cases x <;> rfl
      rw [hy]
      have ht := hF ho2
      rw [Array.getD_eq_getD_getElem?] at ht
      split at h
      · rename_i b' hb'
        cases h
        rw [hb'] at ht
        simp only [Option.getD_some] at ht
        cases hx : tmps[ho2]? with
        | none => rw [hx] at ht; cases ht
        | some x => rw [hx] at ht; simp only [Option.getD_some] at ht; cases ht; simp
      · rename_i hb'
        cases h
        cases hx : tmps[ho2]? with
        | none => simp
        | some x =>
          rw [hx] at ht
          simp only [Option.getD_some] at ht
          cases x <;> simp
          rename_i bb
          cases hT : F.T.get ho2 with
          | none => rw [hT] at ht; cases ht
          | some y => rw [hT] at ht; cases ht; exact absurd hT (hb' bb)
    · rename_i hno
      cases h
      have : yielded ops tmps j = none := by
        unfold yielded
        cases hj : ops[j]? with
        | none => rfl
        | some o' =>
          cases hd : o'.dst with
          | none => simp [hd]
          | some d => exact absurd hj (by obtain ⟨⟩ := o'; simp only at hd; subst hd; exact hno _ _ _ _ _ _)
      rw [this]; rfl

theorem okOper_spec {N : Nat} {o : Oper} (h : okOper E N o = true) : (∀ d, o.dst = some d → d < N) ∧ ∀ x ∈ o.op.operands.toList, okOpd E x = true := by
  unfold okOper at h
  rw [Bool.and_eq_true] at h
  refine ⟨fun d hd => ?_, fun x hx => ?_⟩
  · rw [hd] at h; simpa using h.1
  · exact Array.all_eq_true'.1 h.2 x (by simpa using hx)

theorem put_post {F : AF} {a : Act} {o : Oper} {N : Nat} (hd : ∀ d, o.dst = some d → d < N) (hN : N ≤ a.tmps.size) (hF : Tmps φ F.T a.tmps) {v u : Value} (hR0 : Rep PO E S w φ H w) (hx : Ext φ H ψ) (hn : H.next ≤ H'.next)
    (hv : VR ψ v u) (hR : Rep PO E S w ψ H' w') : Post PO E S φ H F a w ψ H' (F.put o.dst v) (a.put o.dst u) w' := by
  have hF' : Tmps ψ F.T a.tmps := hF.mono (hx.le hR0)
  cases ho : o.dst with
  | none => exact ⟨hx, hn, hR, hF', rfl, rfl, rfl, [], rfl, .nil⟩
  | some d => exact ⟨hx, hn, hR, hF'.put hv (Nat.lt_of_lt_of_le (hd d ho) hN), by simp [Act.put], rfl, rfl, [], rfl, .nil⟩

/-- one operation of a region, wanted or not -/
theorem aopStep_ok (hEnv : EnvOk P PO E) (hS : SRec P PO E rec) {ro : Option Nat} {ops : Array Oper} {N i : Nat} {o : Oper} (hi : ops[i]? = some o) (hok : okOper E N o = true) {k : AF → AH → Option (AF × AH)} {F F' : AF} {a : Act}
    (h : aopStep E rec ops.toList o k F H = some (F', H')) (hN : N ≤ a.tmps.size) (hR : Rep PO E S w φ H w) (hF : Tmps φ F.T a.tmps) {K : Act → World → Prop} {Q : Exit → Act → World → Prop}
    (hK : ∀ F1 H1 ψ a1 w1, k F1 H1 = some (F', H') → Post PO E S φ H F a w ψ H1 F1 a1 w1 → K a1 w1) : wpOpIn (Fr ro) 0 P ops Q i K a w := by
  obtain ⟨hd, hx⟩ := okOper_spec hok
  unfold wpOpIn
  rw [hi]
  simp only
  unfold aopStep at h
  cases hw : awant ops.toList F o with
  | none => rw [hw] at h; cases h
  | some b =>
    rw [hw] at h
    rw [awant_ok hw hF]
    cases b with
    | false =>
      simp only [Bool.false_eq_true, if_false]
      exact ⟨fun _ _ => trivial, hK _ _ φ _ w h (put_post hd hN hF hR (Ext.refl _ _) (Nat.le_refl _) VR.undf hR)⟩
    | true =>
      simp only [if_true]
      cases hop : aop o.op E rec F H with
      | none => simp only [hop] at h; cases h
      | some r =>
        simp only [hop] at h
        obtain ⟨v, H1⟩ := r
        exact op_ok hEnv hS hx hop hR hF fun ψ u w' g1 g2 g3 g4 => hK _ _ ψ _ w' h (put_post hd hN hF hR g1 g2 g3 g4)

theorem aops_ok (hEnv : EnvOk P PO E) (hS : SRec P PO E rec) {ro : Option Nat} {ops : Array Oper} {N : Nat} (hok : ∀ o ∈ ops.toList, okOper E N o = true) : ∀ (k i : Nat), i + k = ops.size →
    ∀ (F : AF) (H : AH) (F' : AF) (H' : AH), aops E rec ops.toList (ops.toList.drop i) F H = some (F', H') → ∀ (S : Nat → Prop) (φ : Emb) (a : Act) (w : World), N ≤ a.tmps.size → Rep PO E S w φ H w → Tmps φ F.T a.tmps →
    ∀ Q : Exit → Act → World → Prop, (∀ ψ a' w', Post PO E S φ H F a w ψ H' F' a' w' → Q .normal a' w') → wpOpsIn (Fr ro) 0 P ops Q (List.range' i k) a w := by
  intro k
  induction k with
  | zero =>
    intro i hi F H F' H' h S φ a w hN hR hF Q hQ
    have : ops.toList.drop i = [] := List.drop_eq_nil_of_le (by simp; omega)
    rw [this] at h
    cases h
    exact hQ φ a w (.refl hR hF)
  | succ k ih =>
    intro i hi F H F' H' h S φ a w hN hR hF Q hQ
    have hlt : i < ops.toList.length := by simp; omega
    have hd : ops.toList.drop i = ops.toList[i] :: ops.toList.drop (i + 1) := List.drop_eq_getElem_cons hlt
    rw [hd] at h
    rw [List.range'_succ, wpOpsIn_cons]
    refine aopStep_ok hEnv hS (o := ops.toList[i]) (by simp) (hok _ (List.getElem_mem hlt)) (k := aops E rec ops.toList (ops.toList.drop (i + 1))) h hN hR hF fun F1 H1 ψ a1 w1 h1 hp => ?_
    obtain ⟨S1, hR1, htr⟩ := hp.trans
    exact ih (i + 1) (by omega) F1 H1 F' H' h1 S1 ψ a1 w1 (by rw [hp.size]; exact hN) hR1 hp.tmps Q fun χ a' w' h2 => hQ χ a' w' (htr h2)
end
end Go.Ra
end

section
/-! Code, but for regions that draw, scopes, and ranges over functions. -/
namespace Go.Ra
section
variable {PO : PlanOk} {E : Env} {S : Nat → Prop} {w0 : World} {φ ψ : Emb} {H H' : AH} {w w' : World} {P : Program} {rec : Rec}

/-- what is claimed of one piece of code -/
def SOne (P : Program) (PO : PlanOk) (E : Env) (c : Code) (res : AF → AH → Ret) : Prop :=
  ∀ (F : AF) (H : AH) (x : AX) (F' : AF) (H' : AH), res F H = some (x, F', H') → ∀ (N : Nat), okCode PO E F.fn N c →
    ∀ (S : Nat → Prop) (φ : Emb) (a : Act) (w : World) (r : Option Nat), F.inr = r.isSome → N ≤ a.tmps.size → Rep PO E S w φ H w → Tmps φ F.T a.tmps →
    ∀ Q : Exit → Act → World → Prop, (∀ ψ a' w', Post PO E S φ H F a w ψ H' F' a' w' → Q x.toExit a' w') → c.wpIn (Fr r) 0 P Q a w

theorem sone_region (hEnv : EnvOk P PO E) (hS : SRec P PO E rec) (id : Nat) (ops : Array Oper) : SOne P PO E (.region id ops false) (cRegion ops E rec) := by
  intro F H x F' H' h N hok S φ a w r hr hN hR hF Q hQ
  unfold cRegion at h
  cases hops : aops E rec ops.toList ops.toList F H with
  | none => rw [hops] at h; cases h
  | some q =>
    rw [hops] at h
    obtain ⟨F1, H1⟩ := q
    cases h
    apply wpIn_region
    rw [List.range_eq_range']
    exact aops_ok hEnv hS hok.1 ops.size 0 (by omega) F H F1 H1 (by simpa using hops) S φ a w hN hR hF Q hQ

theorem sone_seq (hS : SRec P PO E rec) (c d : Code) : SOne P PO E (.seq c d) (cSeq c d rec) := by
  intro F H x F' H' h N hok S φ a w r hr hN hR hF Q hQ
  unfold cSeq at h
  apply wpIn_seq
  split at h
  · rename_i F1 H1 h1
    refine hS c F H .normal F1 H1 h1 N hok.1 S φ a w r hr hN hR hF _ fun ψ a1 w1 hp => ?_
    obtain ⟨S1, hR1, htr⟩ := hp.trans
    exact hS d F1 H1 x F' H' h N (by rw [hp.fn]; exact hok.2) S1 ψ a1 w1 r (by rw [hp.inr]; exact hr) (by rw [hp.size]; exact hN) hR1 hp.tmps Q fun χ a2 w2 hp2 => hQ χ a2 w2 (htr hp2)
  · rename_i hn
    refine hS c F H x F' H' h N hok.1 S φ a w r hr hN hR hF _ fun ψ a1 w1 hp => ?_
    have := hQ ψ a1 w1 hp
    cases x with
    | normal => exact absurd h (hn F' H')
    | exit id => exact this
    | goto l => exact this
    | ret => exact this

theorem sone_cond (hS : SRec P PO E rec) (o : Operand) (c d : Code) : SOne P PO E (.cond o c d) (cCond o c d rec) := by
  intro F H x F' H' h N hok S φ a w r hr hN hR hF Q hQ
  unfold cCond at h
  split at h
  · rename_i t ht
    have hv := ev_ok hR.gl hF hok.1 ht
    have he : a.eval o = .bool t := by generalize a.eval o = u at hv; cases hv; rfl
    refine wpIn_cond he ?_
    cases t with
    | true => exact hS c F H x F' H' h N hok.2.1 S φ a w r hr hN hR hF Q hQ
    | false => exact hS d F H x F' H' h N hok.2.2 S φ a w r hr hN hR hF Q hQ
  · cases h

theorem sone_block (hS : SRec P PO E rec) (id : Nat) (c : Code) : SOne P PO E (.block id c) (cBlock id c rec) := by
  intro F H x F' H' h N hok S φ a w r hr hN hR hF Q hQ
  unfold cBlock at h
  apply wpIn_block
  split at h
  · rename_i id' F1 H1 h1
    cases hb : Nat.beq id' id with
    | true =>
      rw [hb] at h
      cases h
      have := Nat.eq_of_beq_eq_true hb
      refine hS c F H _ F' H' h1 N hok S φ a w r hr hN hR hF _ fun ψ a1 w1 hp => ?_
      simp only [AX.toExit, Exit.inBlock, this, if_true]
      exact hQ ψ a1 w1 hp
    | false =>
      rw [hb] at h
      cases h
      have : ¬ id' = id := fun he => by rw [he, Nat.beq_refl] at hb; cases hb
      refine hS c F H _ F' H' h1 N hok S φ a w r hr hN hR hF _ fun ψ a1 w1 hp => ?_
      simp only [AX.toExit, Exit.inBlock, this, if_false]
      exact hQ ψ a1 w1 hp
  · rename_i hn
    refine hS c F H x F' H' h N hok S φ a w r hr hN hR hF _ fun ψ a1 w1 hp => ?_
    have := hQ ψ a1 w1 hp
    cases x with
    | exit id' => exact absurd h (hn id' F' H')
    | normal => exact this
    | goto l => exact this
    | ret => exact this

theorem loop_rounds {c : Code} : ∀ (m : Nat), (∀ j, j < m → SRec P PO E (arun E j)) → ∀ (F : AF) (H : AH) (x : AX) (F' : AF) (H' : AH), arun E m (.loop c) F H = some (x, F', H') → ∀ (N : Nat), okCode PO E F.fn N c →
    ∀ (S : Nat → Prop) (φ : Emb) (a : Act) (w : World) (r : Option Nat), F.inr = r.isSome → N ≤ a.tmps.size → Rep PO E S w φ H w → Tmps φ F.T a.tmps →
    ∀ Q : Exit → Act → World → Prop, (∀ ψ a' w', Post PO E S φ H F a w ψ H' F' a' w' → Q x.toExit a' w') → Code.roundsIn (Fr r) 0 P c Q m a w := by
  intro m
  induction m with
  | zero => intro _ F H x F' H' h; cases h
  | succ m ih =>
    intro hS F H x F' H' h N hok S φ a w r hr hN hR hF Q hQ
    have h : cLoop c (arun E m) F H = some (x, F', H') := h
    unfold cLoop at h
    rw [roundsIn_succ]
    split at h
    · rename_i F1 H1 h1
      refine hS m (by omega) c F H .normal F1 H1 h1 N hok S φ a w r hr hN hR hF _ fun ψ a1 w1 hp => ?_
      obtain ⟨S1, hR1, htr⟩ := hp.trans
      exact ih (fun j hj => hS j (by omega)) F1 H1 x F' H' h N (by rw [hp.fn]; exact hok) S1 ψ a1 w1 r (by rw [hp.inr]; exact hr) (by rw [hp.size]; exact hN) hR1 hp.tmps Q fun χ a2 w2 hp2 => hQ χ a2 w2 (htr hp2)
    · rename_i hn
      refine hS m (by omega) c F H x F' H' h N hok S φ a w r hr hN hR hF _ fun ψ a1 w1 hp => ?_
      have := hQ ψ a1 w1 hp
      cases x with
      | normal => exact absurd h (hn F' H')
      | exit id => exact this
      | goto l => exact this
      | ret => exact this

theorem srec_step (hEnv : EnvOk P PO E) (n : Nat) (hS : ∀ j, j < n → SRec P PO E (arun E j))
    (hDraw : ∀ m id ops, m < n → SOne P PO E (.region id ops true) (cDraw id ops E (arun E m)))
    (hRange : ∀ m f ps a b, m < n → SOne P PO E (.rangeFunc f ps a b) (cRange f ps a b E (arun E m)))
    (hScope : ∀ m c, m < n → SOne P PO E (.scope c) (fun F H => bif F.inr then none else ascope (arun E m) c m c F H)) : SRec P PO E (arun E n) := by
  intro c F H x F' H' h N hok S φ a w r hr hN hR hF Q hQ
  cases n with
  | zero => cases h
  | succ n =>
    have hSn := hS n (by omega)
    cases c with
    | skip => cases h; exact wpIn_skip (hQ φ a w (.refl hR hF))
    | region id ops d =>
      cases d with
      | false => exact sone_region hEnv hSn id ops F H x F' H' h N hok S φ a w r hr hN hR hF Q hQ
      | true => exact hDraw n id ops (by omega) F H x F' H' h N hok S φ a w r hr hN hR hF Q hQ
    | seq c d => exact sone_seq hSn c d F H x F' H' h N hok S φ a w r hr hN hR hF Q hQ
    | cond o c d => exact sone_cond hSn o c d F H x F' H' h N hok S φ a w r hr hN hR hF Q hQ
    | block id c => exact sone_block hSn id c F H x F' H' h N hok S φ a w r hr hN hR hF Q hQ
    | loop c => exact wpIn_loop_rounds (n + 1) (loop_rounds (n + 1) hS F H x F' H' h N hok S φ a w r hr hN hR hF Q hQ)
    | rangeFunc f ps b d => exact hRange n f ps b d (by omega) F H x F' H' h N hok S φ a w r hr hN hR hF Q hQ
    | exit id => cases h; exact wpIn_exit (hQ φ a w (.refl hR hF))
    | scope c => exact hScope n c (by omega) F H x F' H' h N hok S φ a w r hr hN hR hF Q hQ
    | label l => cases h; exact wpIn_label (hQ φ a w (.refl hR hF))
    | goto l => cases h; exact wpIn_goto (hQ φ a w (.refl hR hF))
    | ret => cases h; exact wpIn_ret (hQ φ a w (.refl hR hF))
    | _ => cases h
end
end Go.Ra
end

section
/-! A range over a function. -/
namespace Go.Ra
section
variable {PO : PlanOk} {E : Env} {S : Nat → Prop} {w0 : World} {φ ψ : Emb} {H H' : AH} {w w' : World} {P : Program} {rec : Rec}

theorem run_newObj' (w : World) (o : Obj) : (newObj o).run P w = .ok w.heap.size { w with heap := w.heap.push o } := run_newObj ..

theorem run_enter {fn : Nat} {tmps : Array Value} {ps : Array Tmp} {b d : Code} : (Instr.enterLoop fn tmps ps b d none).run P w =
    .ok (w.heap.size + 1, [{ target := .collected w.heap.size, args := #[] }])
      { w with heap := (w.heap.push (.deferred (some []))).push (.loop { state := .ready, pending := none, fn, tmps, params := ps, assign := b, body := d, defers := w.heap.size }) } := by
  simp only [Instr.enterLoop, Sem.run_bind, run_newObj', Result.andThen_ok, Sem.run_pure, Array.size_push]

theorem run_endLoop {l : Nat} {L : Loop} (h : w.heap[l]? = some (.loop L)) (hs : L.state ≠ .busy) : (Instr.endLoop l).run P w = .ok L.pending { w with heap := w.heap.setIfInBounds l (.loop { L with state := .exhausted }) } := by
  have : (L.state == .busy) = false := by simpa using hs
  simp only [Instr.endLoop, Sem.run_bind, run_getLoop h, Result.andThen_ok, this, Bool.false_eq_true, if_false, Sem.run_ite, run_set h (fun _ _ _ h => by cases h), Sem.run_pure]

theorem sone_range (hEnv : EnvOk P PO E) (hS : SRec P PO E rec) (f : Operand) (ps : Array Tmp) (b d : Code) : SOne P PO E (.rangeFunc f ps b d) (cRange f ps b d E rec) := by
  intro F H x F' H' h N hok S φ a w r hr hN hR hF Q hQ
  unfold cRange at h
  cases hin : F.inr with
  | true => rw [hin] at h; cases h
  | false =>
    rw [hin] at h
    simp only [cond_false] at h
    have hr0 : r = none := by
      cases r with
      | none => rfl
      | some k => rw [hin] at hr; cases hr
    subst hr0
    split at h
    · rename_i g first cap hfv
      split at h
      · rename_i vv H2 hcall
        split at h
        · rename_i r2 hobj2
          apply wpIn_rangeFunc
          intro fn _
          have hfu := ev_ok hR.gl hF hok.1 hfv
          generalize hu : a.eval f = u at hfu
          cases hfu with
          | @func _ xs xs' ys ys' h1 h2 h3 h4 =>
            -- the two blocks
            have hRd : Rep PO E S w φ H { w with heap := w.heap.push (.deferred (some [])) } := by
              refine hR.agree (fun X l e => ?_) (fun c hc => ?_) (by simp) rfl rfl rfl
              · have := hR.inHeap e
                simp only [Array.getElem?_push]; rw [if_neg (by omega)]
              · have := hR.sdom c hc
                simp only [Array.getElem?_push]; rw [if_neg (by omega)]
            let L : Loop := { state := .ready, pending := none, fn, tmps := a.tmps, params := ps, assign := b, body := d, defers := w.heap.size }
            let ar : ALoop := { ready := true, pending := none, fn := F.fn, T := F.T, params := ps.toList, assign := b, body := d }
            have hL : ∀ w2 : World, w2.heap[w.heap.size + 1]? = some (.loop L) → LoopAt PO E φ w2 ⟨w.heap.size + 1, 0, 0⟩ ar L := fun w2 hh =>
              { here := hh, ready := fun _ => rfl, busy := fun h => (by cases h), pend := rfl, params := rfl, asg := rfl, bod := rfl, tm := hF, ok := ⟨N, hN, hok.2.1, hok.2.2.1, hok.2.2.2⟩ }
            have hR1 := hRd.push (o := .loop ar) (c := .loop L) (l := ⟨w.heap.size + 1, 0, 0⟩) (d := w.drawn) (by simp) (fun b' hb' => by cases hb')
              (fun r' hr' => by cases hr'; exact ⟨L, hL _ (by simp only [Array.getElem?_push, Array.size_push]; rw [if_pos trivial])⟩) (fun s p hp => by cases hp)
            generalize hw1 : ({ w with heap := (w.heap.push (.deferred (some []))).push (.loop L) } : World) = w1
            have hw1' : ({ heap := (w.heap.push (.deferred (some []))).push (.loop L), tape := w.tape, drawn := w.drawn, os := w.os, output := w.output } : World) = w1 := hw1
            have hmark : w1.heap[w.heap.size]? = some (.deferred (some [])) := by
              rw [← hw1]
              simp only [Array.getElem?_push, Array.size_push]
              rw [if_neg (by omega), if_pos trivial]
            have hsz : w.heap.size + 1 < w1.heap.size := by rw [← hw1]; simp
            have hRw : Rep PO E S w (upd φ H.next ⟨w.heap.size + 1, 0, 0⟩) (H.obj (.loop ar)) w1 := by rw [← hw1]; exact hR1
            let mark : List Deferred := [{ target := .collected w.heap.size, args := #[] }]
            have hR2 : Rep PO E (refs S mark) w1 (upd φ H.next ⟨w.heap.size + 1, 0, 0⟩) (H.obj (.loop ar)) w1 := hRw.rebase _ (fun c hc => by
              rcases hc with hc | ⟨m, hm, hc⟩
              · exact .inl hc
              · rw [List.mem_singleton] at hm
                subst hm
                cases hc
                exact .inr ⟨by omega, hRw.notDeferred hmark⟩) (fun b hb => .inl hb)
            have hle : φ.le (upd φ H.next ⟨w.heap.size + 1, 0, 0⟩) := (ext_upd φ H _).le hR
            have hargs : VRl (upd φ H.next ⟨w.heap.size + 1, 0, 0⟩) (first.toList ++ [(.func (.yield H.next) #[] #[] : Value)] ++ cap.toList) (xs' ++ #[(.func (.yield (w.heap.size + 1)) #[] #[] : Value)] ++ ys').toList := by
              have e1 : VRl φ first.toList xs'.toList := ⟨by simpa using h1, fun i a b => by simpa using h2 i (by simpa using a) (by simpa using b)⟩
              have e2 : VRl φ cap.toList ys'.toList := ⟨by simpa using h3, fun i a b => by simpa using h4 i (by simpa using a) (by simpa using b)⟩
              have e3 : VRl (upd φ H.next ⟨w.heap.size + 1, 0, 0⟩) [(.func (.yield H.next) #[] #[] : Value)] [(.func (.yield (w.heap.size + 1)) #[] #[] : Value)] := .cons (.yield (l := ⟨w.heap.size + 1, 0, 0⟩) (upd_same _ _ _)) .nil
              have := ((e1.mono hle).append e3).append (e2.mono hle)
              simpa using this
            obtain ⟨⟨gf, hft⟩, hc⟩ := acall_ok hEnv hS hcall hR2 hargs
            refine ⟨w.heap.size + 1, mark, w1, { target := .fn (.func g) ys', args := xs' ++ #[(.func (.yield (w.heap.size + 1)) #[] #[] : Value)] }, w1, g, xs' ++ #[(.func (.yield (w.heap.size + 1)) #[] #[] : Value)] ++ ys', w1, by rw [← hw1]; exact run_enter, ?_, fun _ _ => trivial, ?_, fun h => (by cases h), ?_⟩
            · have hm : ∀ v : Value, Array.map a.eval #[Operand.const v] = #[v] := fun v => by apply Array.ext'; simp [Act.eval]
              simp only [resolve, hu, Deferred.ofValue, Sem.run_pure, hm]
            · exact run_callFunc hft _
            · refine CallsIn.mono hc fun e w3 he => ?_
              obtain ⟨u, χ, rfl, g1, g2, g3, g4⟩ := he
              have hX1 : upd φ H.next ⟨w.heap.size + 1, 0, 0⟩ H.next = some ⟨w.heap.size + 1, 0, 0⟩ := upd_same _ _ _
              have hX : χ H.next = some ⟨w.heap.size + 1, 0, 0⟩ := by
                rw [g1 H.next (by show H.next < H.next + 1; omega)]; exact hX1
              obtain ⟨L2, hL2⟩ := g4.loop H.next _ r2 hX hobj2
              have hmark3 : w3.heap[w.heap.size]? = some (.deferred (some [])) := (g4.keep _ (.inr ⟨_, List.mem_cons_self .., rfl⟩)).trans hmark
              have hrep := hRw.unbase g4 fun c hc => .inl hc
              have post : L2.state ≠ .busy → ∀ (w4 : World), w4 = { w3 with heap := w3.heap.setIfInBounds (w.heap.size + 1) (.loop { L2 with state := .exhausted }) } →
                  Post PO E S φ H F a w χ { H2 with objs := H2.objs.set H.next (.loop { r2 with ready := false }) } F { a with defers := mark ++ a.defers } w4 := by
                intro hnb w4 hw4
                subst hw4
                have hset := hrep.setLoop (r' := { r2 with ready := false }) (L' := { L2 with state := .exhausted }) hX hobj2
                  (fun w2 hh => { here := hh, ready := fun h => (by cases h), busy := fun _ _ => (by simp), pend := hL2.pend, params := hL2.params, asg := hL2.asg, bod := hL2.bod, tm := hL2.tm, ok := hL2.ok })
                refine ⟨fun X hlt => ?_, Nat.le_trans (Nat.le_succ _) g2, hset, hF.mono fun X l e => ?_, rfl, rfl, rfl, mark, rfl, ?_⟩
                · rw [g1 X (by show X < H.next + 1; omega)]; exact upd_ne φ _ (by omega)
                · rw [g1 X (by have := hR.lt e; show X < H.next + 1; omega)]; exact hle X l e
                · refine .cons rfl (Nat.le_refl _) ?_ (fun m hm => by cases hm) .nil
                  simp only [Array.getElem?_setIfInBounds]
                  rw [if_neg (by omega)]
                  exact hmark3
              cases hp : r2.pending with
              | none =>
                rw [hp] at h
                simp only at h
                cases hrd : r2.ready with
                | false => rw [hrd] at h; cases h
                | true =>
                  rw [hrd] at h
                  simp only [cond_true] at h
                  cases h
                  have hnb : L2.state ≠ .busy := by rw [hL2.ready hrd]; simp
                  refine ⟨_, _, run_endLoop hL2.here hnb, ?_⟩
                  rw [hL2.pend, hp]
                  have hpost := post hnb _ rfl
                  rw [hL2.pend, hp] at hpost
                  exact hQ χ _ _ hpost
              | some c =>
                rw [hp] at h
                simp only at h
                cases hrd : r2.ready with
                | true => rw [hrd] at h; cases h
                | false =>
                  rw [hrd] at h
                  simp only [cond_false] at h
                  have hnb : L2.state ≠ .busy := hL2.busy hrd (by rw [hp]; rfl)
                  refine ⟨_, _, run_endLoop hL2.here hnb, ?_⟩
                  rw [hL2.pend, hp]
                  simp only
                  have hpost := post hnb _ rfl
                  rw [hL2.pend, hp] at hpost
                  cases c <;> first | (cases h; done) | skip
                  case ret => cases h; exact wpIn_ret (hQ χ _ _ hpost)
                  case exit id => cases h; exact wpIn_exit (hQ χ _ _ hpost)
                  case goto l => cases h; exact wpIn_goto (hQ χ _ _ hpost)
        · cases h
      · cases h
    · cases h
end
end Go.Ra
end

section
/-! A scope with jumps. -/
namespace Go.Ra
section
variable {PO : PlanOk} {E : Env} {S : Nat → Prop} {w0 : World} {φ ψ : Emb} {H H' : AH} {w w' : World} {P : Program} {rec : Rec}

def jumps (P : Program) (c : Code) (Q : Exit → Act → World → Prop) : Nat → Code → Act → World → Prop
  | 0, _, _, _ => False
  | m + 1, cur, a, w => cur.wp P (fun e a' w' => match e with
      | .goto l => (match findLabel c l with
        | some rest => jumps P c Q m rest a' w'
        | none => Q (.goto l) a' w')
      | e => Q e a' w') a w

theorem wp_scope_rounds {c : Code} {Q : Exit → Act → World → Prop} {a : Act} (m : Nat) (h : jumps P c Q m c a w) : (Code.scope c).wp P Q a w := by
  intro b k cs
  have key : ∀ m cur a w, jumps P c Q m cur a w → ∃ e a' w', Q e a' w' ∧ Arrives P (lone (b.at a (.code cur :: .inScope c :: k)) cs w) b k cs e a' w' := by
    intro m
    induction m with
    | zero => intro cur a w h; exact h.elim
    | succ m ih =>
      intro cur a w h
      obtain ⟨e, a₁, w₁, hq, harr⟩ := h b (.inScope c :: k) cs
      cases e with
      | normal => exact ⟨.normal, a₁, w₁, hq, Steps.trans harr (.one step_inScope)⟩
      | exit id => exact ⟨.exit id, a₁, w₁, hq, fun k' hk => harr k' (by simp [exitTo, hk])⟩
      | goto l' =>
        simp only at hq
        cases hf : findLabel c l' with
        | some rest =>
          rw [hf] at hq
          obtain ⟨e₂, a₂, w₂, hq₂, harr₂⟩ := ih rest a₁ w₁ hq
          exact ⟨e₂, a₂, w₂, hq₂, .of_steps (harr _ (by simp [gotoIn, hf])) harr₂⟩
        | none =>
          rw [hf] at hq
          exact ⟨.goto l', a₁, w₁, hq, fun k' hk => harr k' (by simp [gotoIn, hf, hk])⟩
      | ret => exact ⟨_, a₁, w₁, hq, harr⟩
      | panic ch => exact ⟨_, a₁, w₁, hq, harr⟩
      | outgrown => exact ⟨_, a₁, w₁, hq, harr⟩
  obtain ⟨e, a', w', hq, harr⟩ := key m c a w h
  exact ⟨e, a', w', hq, .of_steps (.one step_scope) harr⟩

theorem okCode_label {fn N : Nat} : ∀ {c rest : Code} {l : Nat}, okCode PO E fn N c → findLabel c l = some rest → okCode PO E fn N rest := by
  intro c
  induction c with
  | seq a b iha ihb =>
    intro rest l hok hf
    simp only [findLabel] at hf
    cases ha : findLabel a l with
    | some r =>
      rw [ha] at hf
      cases hf
      exact ⟨iha hok.1 ha, hok.2⟩
    | none =>
      rw [ha] at hf
      exact ihb hok.2 hf
  | label l' =>
    intro rest l hok hf
    simp only [findLabel] at hf
    split at hf
    · cases hf; trivial
    · cases hf
  | _ => intro rest l hok hf; simp only [findLabel] at hf; cases hf

theorem ascope_ok {c : Code} (hS : SRec P PO E rec) {fn N : Nat} (hokc : okCode PO E fn N c) : ∀ (m : Nat) (cur : Code) (F : AF) (H : AH) (x : AX) (F' : AF) (H' : AH), ascope rec c m cur F H = some (x, F', H') → F.fn = fn → okCode PO E fn N cur →
    ∀ (S : Nat → Prop) (φ : Emb) (a : Act) (w : World), F.inr = false → N ≤ a.tmps.size → Rep PO E S w φ H w → Tmps φ F.T a.tmps →
    ∀ Q : Exit → Act → World → Prop, (∀ ψ a' w', Post PO E S φ H F a w ψ H' F' a' w' → Q x.toExit a' w') → jumps P c Q m cur a w := by
  intro m
  induction m with
  | zero => intro cur F H x F' H' h; cases h
  | succ m ih =>
    intro cur F H x F' H' h hfn hok S φ a w hin hN hR hF Q hQ
    simp only [ascope] at h
    simp only [jumps]
    refine (wpIn_wide (n := 0)).1 ?_
    show cur.wpIn (Fr none) 0 P _ a w
    split at h
    · rename_i l F1 H1 h1
      refine hS cur F H (.goto l) F1 H1 h1 N (by rw [hfn]; exact hok) S φ a w none (by rw [hin]; rfl) hN hR hF _ fun ψ a1 w1 hp => ?_
      simp only [AX.toExit]
      split at h
      · rename_i rest hf
        rw [hf]
        simp only
        obtain ⟨S1, hR1, htr⟩ := hp.trans
        exact ih rest F1 H1 x F' H' h (by rw [hp.fn]; exact hfn) (okCode_label hokc hf) S1 ψ a1 w1 (by rw [hp.inr]; exact hin) (by rw [hp.size]; exact hN) hR1 hp.tmps Q fun χ a2 w2 hp2 => hQ χ a2 w2 (htr hp2)
      · rename_i hf
        cases h
        rw [hf]
        exact hQ ψ a1 w1 hp
    · rename_i hn
      refine hS cur F H x F' H' h N (by rw [hfn]; exact hok) S φ a w none (by rw [hin]; rfl) hN hR hF _ fun ψ a1 w1 hp => ?_
      have := hQ ψ a1 w1 hp
      cases x with
      | goto l => exact absurd h (hn l F' H')
      | normal => exact this
      | exit id => exact this
      | ret => exact this

theorem sone_scope (hS : SRec P PO E rec) (m : Nat) (c : Code) : SOne P PO E (.scope c) (fun F H => bif F.inr then none else ascope rec c m c F H) := by
  intro F H x F' H' h N hok S φ a w r hr hN hR hF Q hQ
  cases hin : F.inr with
  | true => simp only [hin] at h; cases h
  | false =>
    simp only [hin, cond_false] at h
    have hr0 : r = none := by
      cases r with
      | none => rfl
      | some k => rw [hin] at hr; cases hr
    subst hr0
    show (Code.scope c).wpIn Fence.wide 0 P Q a w
    exact wpIn_wide.2 (wp_scope_rounds m (ascope_ok (c := c) (fn := F.fn) (N := N) hS hok m c F H x F' H' h rfl hok S φ a w hin hN hR hF Q hQ))
end
end Go.Ra
end

section
/-! The evaluator is right, if its regions that draw are. -/
namespace Go.Ra
section
variable {PO : PlanOk} {E : Env} {P : Program}

theorem srec_all (hEnv : EnvOk P PO E) (hDraw : ∀ rec, SRec P PO E rec → ∀ id ops, SOne P PO E (.region id ops true) (cDraw id ops E rec)) : ∀ n, SRec P PO E (arun E n) := by
  have key : ∀ n, ∀ j, j < n → SRec P PO E (arun E j) := by
    intro n
    induction n with
    | zero => intro j hj; omega
    | succ n ih =>
      intro j hj
      have hlt : ∀ i, i < j → SRec P PO E (arun E i) := fun i hi => ih i (by omega)
      exact srec_step hEnv j hlt (fun m id ops hm => hDraw _ (hlt m hm) id ops) (fun m f ps a b hm => sone_range hEnv (hlt m hm) f ps a b) (fun m c hm => sone_scope (hlt m hm) m c)
  exact fun n => key (n + 1) n (by omega)

/-- a call, evaluated: what it brings -/
theorem acall_all (hEnv : EnvOk P PO E) (hDraw : ∀ rec, SRec P PO E rec → ∀ id ops, SOne P PO E (.region id ops true) (cDraw id ops E rec)) {n f : Nat} {args : List Value} {us : Array Value} {v : Value} {S : Nat → Prop} {φ : Emb} {H H' : AH} {w : World}
    (h : acall E (arun E n) f args H = some (v, H')) (hR : Rep PO E S w φ H w) (hv : VRl φ args us.toList) : CallsIn (Fr none) 0 P f us w (CallR PO E S φ H w v H') :=
  (acall_ok hEnv (srec_all hEnv hDraw n) h hR hv).2
end
end Go.Ra
end

section
/-! An abstract block that no concrete one stands for yet. -/
namespace Go.Ra
section
variable {PO : PlanOk} {E : Env} {S : Nat → Prop} {w0 : World} {φ ψ : Emb} {H H' : AH} {w w' : World} {P : Program}

theorem Rep.hide (h : Rep PO E S w0 φ H w) {o : AObj} (ho : ∀ b, o = .blk b → b.fam = H.next ∧ ones b.cells = true) : Rep PO E S w0 φ { H with next := H.next + 1, objs := H.objs.set H.next o } w := by
  have hn := h.none_next
  have ne : ∀ {X : Nat} {l : Loc}, φ X = some l → X ≠ H.next := fun e h' => by rw [h', hn] at e; cases e
  have get : ∀ {X : Nat} {l : Loc}, φ X = some l → (H.objs.set H.next o).get X = H.objs.get X := fun e => Tr.get_set_ne _ _ (ne e)
  have back : ∀ {X : Nat} {b : Blk}, (H.objs.set H.next o).get X = some (.blk b) → (X = H.next ∧ o = .blk b) ∨ H.objs.get X = some (.blk b) := fun {X b} hb => by
    by_cases hX : X = H.next
    · subst hX; rw [Tr.get_set_same] at hb; cases hb; exact .inl ⟨rfl, rfl⟩
    · rw [Tr.get_set_ne _ _ hX] at hb; exact .inr hb
  exact { dom := fun X l e => by obtain ⟨o', h1⟩ := h.dom X l e; exact ⟨o', by simp only []; rw [get e]; exact h1⟩
          fresh := fun X hX => by simp only at hX ⊢; rw [Tr.get_set_ne _ _ (by omega)]; exact h.fresh X (by omega)
          ffresh := fun f hf => h.ffresh f (by simp only at hf; omega)
          flt := fun X b hb => by
            simp only at hb ⊢
            rcases back hb with ⟨h1, h2⟩ | h1
            · have := (ho b h2).1; omega
            · have := h.flt X b h1; omega
          fam1 := fun X b hb hf => by
            rcases back hb with ⟨h1, h2⟩ | h1
            · rw [h1]; exact (ho b h2).1
            · exact h.fam1 X b h1 hf
          one := fun X b hb => by
            rcases back hb with ⟨h1, h2⟩ | h1
            · exact (ho b h2).2
            · exact h.one X b h1
          blk := fun X l b e hb => by
            simp only at hb
            rw [get e] at hb
            obtain ⟨cs, el, fr, hB⟩ := h.blk X l b e hb
            exact ⟨cs, el, fr, ⟨hB.here, hB.room, hB.free, hB.cell⟩⟩
          loop := fun X l r e hb => by simp only at hb; rw [get e] at hb; exact h.loop X l r e hb
          iter := fun X l s p e hb => by simp only at hb; rw [get e] at hb; exact h.iter X l s p e hb
          share := fun X Y l m e f hm => by
            rcases h.share X Y l m e f hm with h1 | ⟨b, c, h1, h2, h3⟩
            · exact .inl h1
            · exact .inr ⟨b, c, by simp only []; rw [get e]; exact h1, by simp only []; rw [get f]; exact h2, h3⟩
          size := h.size, keep := h.keep, sdom := h.sdom
          safe := fun X l e hs => by obtain ⟨b, h1, h2⟩ := h.safe X l e hs; exact ⟨b, by simp only []; rw [get e]; exact h1, h2⟩
          os := h.os, out := h.out, tape := h.tape, gl := h.gl, pin := h.pin }

/-- a row that is laid late: the abstract block stands already -/
theorem Rep.reveal (h : Rep PO E S w0 φ H w) {X : Nat} {b : Blk} {l : Loc} {d : Nat} {cs : Array Value} {el : TypeId} {fr : Nat × Nat} (hX : φ X = none) (hb : H.objs.get X = some (.blk b)) (hl : l.blk = w.heap.size)
    (hsz : l.off + b.cells.length + l.spare * b.esz ≤ cs.size) (hfr : ∀ j, j < cs.size → ¬ (fr.1 ≤ j ∧ j < fr.2)) (hcell : ∀ i (hi : i < b.cells.length), ∃ u, cs[l.off + i]? = some u ∧ VR φ b.cells[i] u) :
    Rep PO E S w0 (upd φ X l) H { w with heap := w.heap.push (.cells cs el fr), drawn := d } := by
  have hle : φ.le (upd φ X l) := fun Y m e => by rw [upd_ne φ l (fun h' => by rw [h', hX] at e; cases e)]; exact e
  have hold : ∀ {b : Nat}, b < w.heap.size → (w.heap.push (.cells cs el fr))[b]? = w.heap[b]? := fun hb => getElem?_push_lt _ _ hb
  have split : ∀ {Y : Nat} {m : Loc}, upd φ X l Y = some m → (Y = X ∧ m = l) ∨ (Y ≠ X ∧ φ Y = some m) := fun {Y m} e => by
    by_cases hY : Y = X
    · rw [hY, upd_same] at e; cases e; exact .inl ⟨hY, rfl⟩
    · rw [upd_ne φ l hY] at e; exact .inr ⟨hY, e⟩
  refine { dom := ?_, fresh := h.fresh, ffresh := h.ffresh, flt := h.flt, fam1 := h.fam1, one := h.one, blk := ?_, loop := ?_, iter := ?_, share := ?_, size := by simpa using Nat.le_succ_of_le h.size, keep := ?_, sdom := h.sdom, safe := ?_, os := h.os, out := h.out, tape := h.tape, gl := h.gl_upd hX, pin := h.pin }
  · intro Y m e
    rcases split e with ⟨rfl, _⟩ | ⟨_, e⟩
    · exact ⟨_, hb⟩
    · exact h.dom Y m e
  · intro Y m c e hc
    rcases split e with ⟨rfl, rfl⟩ | ⟨_, e⟩
    · rw [hb] at hc; cases hc
      refine ⟨cs, el, fr, ⟨?_, hsz, fun _ => hfr, fun i hi _ => ?_⟩⟩
      · rw [hl]; exact getElem?_push_size _ _
      · obtain ⟨u, hu, hv⟩ := hcell i hi
        exact ⟨u, hu, hv.mono hle⟩
    · obtain ⟨cs', el', fr', hB⟩ := h.blk Y m c e hc
      refine ⟨cs', el', fr', ⟨?_, hB.room, hB.free, fun i hi hr => ?_⟩⟩
      · simp only []; rw [hold (h.inHeap e)]; exact hB.here
      · obtain ⟨u, hu, hv⟩ := hB.cell i hi hr
        exact ⟨u, hu, hv.mono hle⟩
  · intro Y m r e hr
    rcases split e with ⟨rfl, rfl⟩ | ⟨_, e⟩
    · rw [hb] at hr; cases hr
    · obtain ⟨L, hL⟩ := h.loop Y m r e hr
      exact ⟨L, hL.mono hle (by simp only []; exact hold (h.inHeap e))⟩
  · intro Y m s p e hr
    rcases split e with ⟨rfl, rfl⟩ | ⟨_, e⟩
    · rw [hb] at hr; cases hr
    · obtain ⟨h0, hc⟩ := h.iter Y m s p e hr
      exact ⟨h0, by simp only []; rw [hold (h.inHeap e)]; exact hc⟩
  · intro Y Z m k e f hmk
    rcases split e with ⟨hY, hm⟩ | ⟨hY, e1⟩ <;> rcases split f with ⟨hZ, hk⟩ | ⟨hZ, f1⟩
    · exact .inl (hY.trans hZ.symm)
    · have := h.inHeap f1; rw [hm] at hmk; omega
    · have := h.inHeap e1; rw [hk] at hmk; omega
    · exact h.share Y Z m k e1 f1 hmk
  · intro B hB
    have h1 := h.sdom B hB
    have h2 := h.size
    show (w.heap.push (.cells cs el fr))[B]? = _
    rw [hold (by omega)]
    exact h.keep B hB
  · intro Y m e hS
    rcases split e with ⟨rfl, rfl⟩ | ⟨_, e⟩
    · have h1 := h.sdom _ hS
      have h2 := h.size
      omega
    · exact h.safe Y m e hS
end
end Go.Ra
end

section
/-! Regions that draw their order: the checker of a plan. -/
namespace Go.Ra

/-- 0: an effect, 1: a new block, 2: a load, 3: neither reads nor writes -/
noncomputable def cls (E : Env) : Op → Nat
  | .alloc _ => 1
  | .box _ _ => 1
  | .buildSlice _ _ _ => 1
  | .makeSlice _ _ _ => 1
  | .load _ _ => 2
  | .move _ => 3
  | .assign _ => 3
  | .pick _ _ _ => 3
  | .build _ _ => 3
  | .nilCheck _ => 3
  | .binOp _ _ _ _ _ => 3
  | .unOp _ _ _ => 3
  | .makeFunc _ _ _ => 3
  | .slice _ _ _ _ _ => 3
  | .fieldAddr _ _ _ => 3
  | .field _ _ _ => 3
  | .indexAddr _ _ _ => 3
  | .index _ _ _ => 3
  | .extract _ _ => 3
  | .convert s t _ => match E.ti.get s, E.ti.get t with
    | some { k := .int _, .. }, some { k := .int _, .. } => 3
    | _, _ => 0
  | .call c => match c.callee with
    | .builtin .len => 3
    | .builtin .cap => 3
    | .builtin .min => 3
    | .builtin .max => 3
    | _ => 0
  | _ => 0

def tmpOf : Operand → Option Nat
  | .tmp t => some t
  | _ => none

/-- the temporaries that an operation reads -/
def rdT (ops : List Oper) (o : Oper) : List Nat :=
  (match o.guard with
    | none => []
    | some (j, _) => match ops[j]? with
      | some o' => o'.dst.toList
      | none => []) ++ o.op.operands.toList.filterMap tmpOf

def Closed (ops : List Oper) (D : Nat → Prop) : Prop := ∀ i o, ops[i]? = some o → D i → ∀ e ∈ o.after.toList, Region.binds .any e = true → D e.on
def Dep (ops : List Oper) (i j : Nat) : Prop := ∀ D, Closed ops D → D i → D j

def emask (acc : List Nat) : List Edge → Nat
  | [] => 0
  | e :: l => bif Region.binds .any e then Nat.lor (Nat.lor (Nat.pow 2 e.on) ((acc[e.on]?).getD 0)) (emask acc l) else emask acc l
def masks : List Oper → List Nat → List Nat
  | [], acc => acc
  | o :: l, acc => masks l (acc ++ [emask acc o.after.toList])

theorem emask_ok {D : Nat → Prop} {acc : List Nat} (ha : ∀ i m, acc[i]? = some m → D i → ∀ j, m.testBit j = true → D j) : ∀ (l : List Edge), (∀ e ∈ l, Region.binds .any e = true → D e.on) →
    ∀ j, (emask acc l).testBit j = true → D j := by
  intro l
  induction l with
  | nil => intro _ j h; simp [emask] at h
  | cons e l ih =>
    intro he j h
    simp only [emask] at h
    have ih' := ih (fun e h1 => he e (List.mem_cons_of_mem _ h1)) j
    cases hb : Region.binds .any e with
    | false => rw [hb] at h; exact ih' h
    | true =>
      rw [hb] at h
      have hD := he e List.mem_cons_self hb
      change (((2 ^ e.on) ||| ((acc[e.on]?).getD 0)) ||| (emask acc l)).testBit j = true at h
      rw [Nat.testBit_or, Nat.testBit_or, Bool.or_eq_true, Bool.or_eq_true] at h
      rcases h with (h | h) | h
      · rw [Nat.testBit_two_pow] at h
        have := of_decide_eq_true h
        exact this ▸ hD
      · cases hm : acc[e.on]? with
        | none => rw [hm] at h; simp at h
        | some m => rw [hm] at h; exact ha _ m hm hD j (by simpa using h)
      · exact ih' h

theorem masks_ok {ops : List Oper} {D : Nat → Prop} (hD : Closed ops D) : ∀ (l : List Oper) (acc : List Nat), l = ops.drop acc.length → (∀ i m, acc[i]? = some m → D i → ∀ j, m.testBit j = true → D j) →
    ∀ i m, (masks l acc)[i]? = some m → D i → ∀ j, m.testBit j = true → D j := by
  intro l
  induction l with
  | nil => intro acc _ ha i m h; exact ha i m h
  | cons o l ih =>
    intro acc hl ha
    have hlt : acc.length < ops.length := by
      rcases Nat.lt_or_ge acc.length ops.length with h | h
      · exact h
      · rw [List.drop_eq_nil_of_le h] at hl; cases hl
    rw [List.drop_eq_getElem_cons hlt] at hl
    injection hl with ho hl
    refine ih _ (by simpa using hl) fun i m hm => ?_
    rw [List.getElem?_append] at hm
    split at hm
    · exact ha i m hm
    · rename_i hge
      intro hDi
      have hi : i = acc.length := by
        rcases Nat.lt_or_ge (i - acc.length) 1 with h1 | h1
        · omega
        · rw [List.getElem?_eq_none (by simpa using h1)] at hm; cases hm
      subst hi
      simp at hm
      subst hm
      exact emask_ok ha _ fun e he hb => hD _ o (by rw [List.getElem?_eq_getElem hlt, ho]) hDi e he hb

def depB (ms : List Nat) (i j : Nat) : Bool := Nat.testBit ((ms[i]?).getD 0) j
theorem depB_ok {ops : List Oper} {i j : Nat} (h : depB (masks ops []) i j = true) : Dep ops i j := by
  intro D hD hi
  unfold depB at h
  cases hm : (masks ops [])[i]? with
  | none => rw [hm] at h; simp at h
  | some m => rw [hm] at h; exact masks_ok hD ops [] (by simp) (fun i m h => by simp at h) i m hm hi j (by simpa using h)

def nodupB : List Nat → Bool
  | [] => true
  | x :: l => !(l.any (Nat.beq x)) && nodupB l
theorem nodupB_ok : ∀ {l : List Nat}, nodupB l = true → ∀ (i j : Nat) (x : Nat), l[i]? = some x → l[j]? = some x → i = j := by
  intro l
  induction l with
  | nil => intro _ i j x h; simp at h
  | cons y l ih =>
    intro h i j x hi hj
    simp only [nodupB, Bool.and_eq_true, Bool.not_eq_true', List.any_eq_false] at h
    have no : ∀ k, l[k]? ≠ some y := fun k hk => by
      have := h.1 y (List.mem_of_getElem? hk)
      rw [Nat.beq_refl] at this
      exact this rfl
    cases i with
    | zero =>
      cases j with
      | zero => rfl
      | succ j => simp at hi hj; subst hi; exact absurd hj (no j)
    | succ i =>
      cases j with
      | zero => simp at hi hj; subst hj; exact absurd hi (no i)
      | succ j => simp at hi hj; rw [ih h.2 i j x hi hj]

def pre (p : List PS → PS → Bool) : List PS → List PS → Bool
  | _, [] => true
  | acc, s :: l => p acc s && pre p (acc ++ [s]) l
theorem pre_ok {p : List PS → PS → Bool} : ∀ {l acc : List PS}, pre p acc l = true → ∀ k s, l[k]? = some s → p (acc ++ l.take k) s = true := by
  intro l
  induction l with
  | nil => intro acc _ k s h; simp at h
  | cons x l ih =>
    intro acc h k s hk
    simp only [pre, Bool.and_eq_true] at h
    cases k with
    | zero => simp at hk; subst hk; simpa using h.1
    | succ k =>
      simp at hk
      have := ih h.2 k s hk
      simpa using this

noncomputable def clsAt (E : Env) (ops : List Oper) (i : Nat) : Nat := match ops[i]? with
  | some o => cls E o.op
  | none => 0

noncomputable def stepB (E : Env) (ops : List Oper) (ms : List Nat) (acc : List PS) (s : PS) : Bool :=
  match ops[s.i]? with
  | none => false
  | some o =>
    (match cls E o.op with | 1 => o.dst.isSome | _ => true) && o.after.toList.all (fun e => !(Region.binds .any e) || acc.any (fun s' => Nat.beq s'.i e.on)) &&
    acc.all (fun s' => match clsAt E ops s'.i with
      | 0 => depB ms s.i s'.i
      | 1 => match cls E o.op with | 0 => depB ms s.i s'.i || s.als.any (Nat.beq s'.i) | _ => true
      | 2 => match cls E o.op with | 0 => depB ms s.i s'.i || s.lds.any (Nat.beq s'.i) | _ => true
      | _ => true)

noncomputable def readB (E : Env) (ops : List Oper) (ms : List Nat) (i : Nat) : Bool :=
  match ops[i]? with
  | none => true
  | some oi => (rdT ops oi).all fun t => (List.range ops.length).all fun j => match ops[j]? with
    | none => true
    | some oj => match oj.dst with
      | none => true
      | some d => !(Nat.beq d t) || (depB ms i j && !(Nat.beq i j)) || (match cls E oi.op with | 2 => false | _ => depB ms j i || Nat.beq i j)

noncomputable def planB (E : Env) (ops : List Oper) (l : List PS) : Bool :=
  let ms := masks ops []
  nodupB (l.map (·.i)) && (List.range ops.length).all (fun i => l.any (fun s => Nat.beq s.i i)) && nodupB (ops.filterMap (·.dst)) &&
  pre (stepB E ops ms) [] l && (List.range ops.length).all (readB E ops ms)

structure PlanP (E : Env) (ops : List Oper) (l : List PS) : Prop where
  op : ∀ (k : Nat) (s : PS), l[k]? = some s → ∃ o, ops[s.i]? = some o
  inj : ∀ (k k' : Nat) (s s' : PS), l[k]? = some s → l[k']? = some s' → s.i = s'.i → k = k'
  sur : ∀ i, i < ops.length → ∃ (k : Nat) (s : PS), l[k]? = some s ∧ s.i = i
  ad : ∀ (k : Nat) (s : PS) (o : Oper), l[k]? = some s → ops[s.i]? = some o → cls E o.op = 1 → ∃ d, o.dst = some d
  edge : ∀ (k : Nat) (s : PS) (o : Oper), l[k]? = some s → ops[s.i]? = some o → ∀ e ∈ o.after.toList, Region.binds .any e = true → ∃ (j : Nat) (s' : PS), j < k ∧ l[j]? = some s' ∧ s'.i = e.on
  dst : ∀ (i j : Nat) (oi oj : Oper) (d : Nat), ops[i]? = some oi → ops[j]? = some oj → oi.dst = some d → oj.dst = some d → i = j
  rd : ∀ (i : Nat) (oi : Oper) (t : Nat), ops[i]? = some oi → t ∈ rdT ops oi → ∀ (j : Nat) (oj : Oper), ops[j]? = some oj → oj.dst = some t → (Dep ops i j ∧ i ≠ j) ∨ (cls E oi.op ≠ 2 ∧ (Dep ops j i ∨ i = j))
  lev : ∀ (k k' : Nat) (s s' : PS) (o' : Oper), k' < k → l[k]? = some s → l[k']? = some s' → ops[s'.i]? = some o' → cls E o'.op = 0 → Dep ops s.i s'.i
  ld : ∀ (k k' : Nat) (s s' : PS) (o o' : Oper), k' < k → l[k]? = some s → l[k']? = some s' → ops[s.i]? = some o → ops[s'.i]? = some o' → cls E o.op = 0 → cls E o'.op = 2 → Dep ops s.i s'.i ∨ s'.i ∈ s.lds
  al : ∀ (k k' : Nat) (s s' : PS) (o o' : Oper), k' < k → l[k]? = some s → l[k']? = some s' → ops[s.i]? = some o → ops[s'.i]? = some o' → cls E o.op = 0 → cls E o'.op = 1 → Dep ops s.i s'.i ∨ s'.i ∈ s.als

theorem filterMap_idx {l : List Oper} : ∀ (i : Nat) (o : Oper) (d : Nat), l[i]? = some o → o.dst = some d → (l.filterMap (·.dst))[((l.take i).filterMap (·.dst)).length]? = some d := by
  induction l with
  | nil => intro i o d h; simp at h
  | cons x l ih =>
    intro i o d h hd
    cases i with
    | zero => simp at h; subst h; simp [hd]
    | succ i =>
      simp at h
      have := ih i o d h hd
      simp only [List.take_succ_cons, List.filterMap_cons]
      cases hx : x.dst with
      | none => simpa using this
      | some y => simpa using this
theorem filterMap_lt {l : List Oper} : ∀ (i j : Nat) (o : Oper) (d : Nat), i < j → l[i]? = some o → o.dst = some d → ((l.take i).filterMap (·.dst)).length < ((l.take j).filterMap (·.dst)).length := by
  induction l with
  | nil => intro i j o d _ h; simp at h
  | cons x l ih =>
    intro i j o d hij h hd
    cases j with
    | zero => omega
    | succ j =>
      cases i with
      | zero => simp at h; subst h; simp [hd]
      | succ i =>
        simp at h
        have := ih i j o d (by omega) h hd
        simp only [List.take_succ_cons, List.filterMap_cons]
        cases hx : x.dst <;> simpa using this

theorem planB_ok {E : Env} {ops : List Oper} {l : List PS} (h : planB E ops l = true) : PlanP E ops l := by
  unfold planB at h
  simp only [Bool.and_eq_true, List.all_eq_true] at h
  obtain ⟨⟨⟨⟨h1, h2⟩, h3⟩, h4⟩, h5⟩ := h
  have st : ∀ k s, l[k]? = some s → stepB E ops (masks ops []) (l.take k) s = true := fun k s hk => by simpa using pre_ok h4 k s hk
  have acc : ∀ {k k' : Nat} {s' : PS}, k' < k → l[k']? = some s' → s' ∈ l.take k := fun {k k' s'} hlt hs => by
    refine List.mem_of_getElem? (i := k') ?_
    rw [List.getElem?_take_of_lt hlt]; exact hs
  refine ⟨fun k s hk => ?_, fun k k' s s' hk hk' he => ?_, fun i hi => ?_, fun k s o hk ho hc => ?_, fun k s o hk ho e he hb => ?_, fun i j oi oj d hi hj hdi hdj => ?_, fun i oi t hi ht j oj hj hd => ?_, fun k k' s s' o' hlt hk hk' ho' hc => ?_, fun k k' s s' o o' hlt hk hk' ho ho' hc hc' => ?_, fun k k' s s' o o' hlt hk hk' ho ho' hc hc' => ?_⟩
  · have := st k s hk
    unfold stepB at this
    cases ho : ops[s.i]? with
    | none => rw [ho] at this; cases this
    | some o => exact ⟨o, rfl⟩
  · exact nodupB_ok h1 k k' s.i (by simp [hk]) (by simp [hk', he])
  · have := h2 i (List.mem_range.2 hi)
    rw [List.any_eq_true] at this
    obtain ⟨s, hs, hb⟩ := this
    obtain ⟨k, hk⟩ := List.getElem?_of_mem hs
    exact ⟨k, s, hk, Nat.eq_of_beq_eq_true hb⟩
  · have := st k s hk
    unfold stepB at this
    rw [ho] at this
    simp only [hc, Bool.and_eq_true] at this
    exact Option.isSome_iff_exists.1 this.1.1
  · have := st k s hk
    unfold stepB at this
    rw [ho] at this
    simp only [Bool.and_eq_true, List.all_eq_true] at this
    have := this.1.2 e he
    rw [hb] at this
    simp only [Bool.not_true, Bool.false_or, List.any_eq_true] at this
    obtain ⟨s', hs', hb'⟩ := this
    obtain ⟨j, hj⟩ := List.getElem?_of_mem hs'
    have hjk : j < k := by
      rcases Nat.lt_or_ge j k with h' | h'
      · exact h'
      · rw [List.getElem?_eq_none (by simp; omega)] at hj; cases hj
    rw [List.getElem?_take_of_lt hjk] at hj
    exact ⟨j, s', hjk, hj, Nat.eq_of_beq_eq_true hb'⟩
  · rcases Nat.lt_trichotomy i j with hlt | he | hlt
    · have := filterMap_lt i j oi d hlt hi hdi
      have := nodupB_ok h3 _ _ d (filterMap_idx i oi d hi hdi) (filterMap_idx j oj d hj hdj)
      omega
    · exact he
    · have := filterMap_lt j i oj d hlt hj hdj
      have := nodupB_ok h3 _ _ d (filterMap_idx i oi d hi hdi) (filterMap_idx j oj d hj hdj)
      omega
  · have hlt : ∀ {i : Nat} {o : Oper}, ops[i]? = some o → i < ops.length := fun {i o} h => by
      rcases Nat.lt_or_ge i ops.length with h' | h'
      · exact h'
      · rw [List.getElem?_eq_none h'] at h; cases h
    have := h5 i (List.mem_range.2 (hlt hi))
    unfold readB at this
    rw [hi] at this
    simp only [List.all_eq_true] at this
    have := this t ht j (List.mem_range.2 (hlt hj))
    rw [hj] at this
    simp only [hd, Nat.beq_refl, Bool.not_true, Bool.false_or, Bool.or_eq_true] at this
    rcases this with this | this
    · rw [Bool.and_eq_true] at this
      exact .inl ⟨depB_ok this.1, fun he => by subst he; simp [Nat.beq_refl] at this⟩
    · right
      split at this
      · cases this
      · rename_i hne
        refine ⟨hne, ?_⟩
        simp only [Bool.or_eq_true] at this
        rcases this with this | this
        · exact .inl (depB_ok this)
        · exact .inr (Nat.eq_of_beq_eq_true this)
  · have := st k s hk
    unfold stepB at this
    cases ho : ops[s.i]? with
    | none => rw [ho] at this; cases this
    | some o =>
      rw [ho] at this
      simp only [Bool.and_eq_true, List.all_eq_true] at this
      have := this.2 s' (acc hlt hk')
      simp only [clsAt, ho', hc] at this
      exact depB_ok this
  · have := st k s hk
    unfold stepB at this
    rw [ho] at this
    simp only [Bool.and_eq_true, List.all_eq_true] at this
    have := this.2 s' (acc hlt hk')
    simp only [clsAt, ho', hc', hc, Bool.or_eq_true, List.any_eq_true] at this
    rcases this with this | ⟨x, hx, hb⟩
    · exact .inl (depB_ok this)
    · exact .inr (Nat.eq_of_beq_eq_true hb ▸ hx)
  · have := st k s hk
    unfold stepB at this
    rw [ho] at this
    simp only [Bool.and_eq_true, List.all_eq_true] at this
    have := this.2 s' (acc hlt hk')
    simp only [clsAt, ho', hc', hc, Bool.or_eq_true, List.any_eq_true] at this
    rcases this with this | ⟨x, hx, hb⟩
    · exact .inl (depB_ok this)
    · exact .inr (Nat.eq_of_beq_eq_true hb ▸ hx)
end Go.Ra
end


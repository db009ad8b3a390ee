/-
  A part of the proof (RaMap): an evaluator of the model's code with its proof, or facts of this program that it reckons. No condition.
-/
import Derived.Test.YtlpeihabbkgnbaaGreatDoorRb3
import Derived.TacticsIn
section
/-! A function that hands back a map that it writes down: keys are strings, values are ints. -/
namespace Go.Ra
open Go.RowKit
noncomputable section
variable {P : Program} {w : World} {a : Act} {mt kt et r : Nat}

theorem run_mapUpdate (hmt : P.underlying mt = some (.map kt et)) (hkt : P.underlying kt = some .string) {es : Array MapEntry} {c : Nat} (hr : w.heap[r]? = some (.map es c)) {k : ByteArray} {v : Value}
    (hf : Instr.findNow .string (.string k) es.toList 0 = some none) :
    (Instr.mapUpdate mt (.map (some r)) (.string k) v).run P w = .ok () { w with heap := w.heap.setIfInBounds r (.map (es.push { key := .string k, val := v, born := c }) (c + 1)) } := by
  have hg : (getObj r).run P w = .ok (.map es c) w := run_get hr (fun _ _ _ h => by cases h)
  have hck : (Instr.checkKey false (9999 + 1) kt (.string k)).run P w = .ok () w := by
    generalize (9999 : Nat) = d
    simp [Instr.checkKey, run_underlying' hkt]
  have hfk : (Instr.findKey kt (.string k) es.toList).run P w = .ok none w := by
    simp [Instr.findKey, run_underlying' hkt, hf]
  have hset : (setObj r (.map (es.push { key := .string k, val := v, born := c }) (c + 1))).run P w = .ok () { w with heap := w.heap.setIfInBounds r (.map (es.push { key := .string k, val := v, born := c }) (c + 1)) } := run_set hr (fun _ _ _ h => by cases h)
  have hck' : (Instr.checkKey false 10000 kt (.string k)).run P w = .ok () w := hck
  simp only [Instr.mapUpdate, Sem.run_bind, run_underlying' hmt, Result.andThen_ok, hg, hck', hfk, hset]

def kvOf (mt : Nat) (o : Oper) : Option (ByteArray × Int) := match o.dst, o.op, o.guard with
  | none, .insert t (.tmp 1) (.const (.string k)) (.const (.int .i64 v)), none => bif Nat.beq t mt then some (k, v) else none
  | _, _, _ => none
def kvsOf (mt : Nat) : List Oper → Option (List (ByteArray × Int))
  | [] => none
  | o :: l => match kvOf mt o with
    | some kv => match kvsOf mt l with
      | some r => some (kv :: r)
      | none => none
    | none => match o.dst, o.op, o.guard, l with
      | some 2, .move (.tmp 1), none, [o2] => match o2.dst, o2.op, o2.guard with
        | some 0, .assign (.tmp 2), none => some []
        | _, _, _ => none
      | _, _, _, _ => none

def ents : List (ByteArray × Int) → Nat → List MapEntry
  | [], _ => []
  | (k, v) :: l, c => { key := .string k, val := .int .i64 v, born := c } :: ents l (c + 1)

def freshB (ks : List ByteArray) : List (ByteArray × Int) → Bool
  | [] => true
  | (k, _) :: l => ks.all (fun j => !(bytesEq k.data.toList j.data.toList)) && freshB (ks ++ [k]) l

theorem findNow_fresh {k : ByteArray} : ∀ {ks : List ByteArray} {es : List MapEntry} (i : Nat), es.map (·.key) = ks.map Value.string → ks.all (fun j => !(bytesEq k.data.toList j.data.toList)) = true → Instr.findNow .string (.string k) es i = some none := by
  intro ks
  induction ks with
  | nil => intro es i h _; cases es with
    | nil => rfl
    | cons e es => simp at h
  | cons j ks ih =>
    intro es i h hf
    cases es with
    | nil => simp at h
    | cons e es =>
      simp only [List.map_cons, List.cons.injEq] at h
      simp only [List.all_cons, Bool.and_eq_true, Bool.not_eq_true'] at hf
      have hb : (k == j) = false := by rw [beq_bytes]; exact hf.1
      simp only [Instr.findNow, h.1, Instr.sameNow, hb]
      exact ih (i + 1) h.2 hf.2

theorem kvOf_some {o : Oper} {k : ByteArray} {v : Int} (h : kvOf mt o = some (k, v)) : o.dst = none ∧ o.op = .insert mt (.tmp 1) (.const (.string k)) (.const (.int .i64 v)) ∧ o.guard = none := by
  unfold kvOf at h
  split at h
  · rename_i t k' v' h1 h2 h3
    cases hb : Nat.beq t mt with
    | false => rw [hb] at h; cases h
    | true =>
      rw [hb] at h; cases h
      rw [Nat.eq_of_beq_eq_true hb] at h2
      exact ⟨h1, h2, h3⟩
  · cases h

theorem ins_run (hmt : P.underlying mt = some (.map kt et)) (hkt : P.underlying kt = some .string) {ops : Array Oper} {Q : Exit → Act → World → Prop} :
    ∀ (l : List Oper) (kvs : List (ByteArray × Int)), kvsOf mt l = some kvs → ∀ (es : List MapEntry) (ks : List ByteArray) (c : Nat) (a : Act) (w : World), es.map (·.key) = ks.map Value.string → freshB ks kvs = true →
      a.tmps[1]? = some (.map (some r)) → 3 ≤ a.tmps.size → w.heap[r]? = some (.map es.toArray c) →
      Q .normal ((a.put (some 2) (.map (some r))).put (some 0) (.map (some r))) { w with heap := w.heap.setIfInBounds r (.map (es ++ ents kvs c).toArray (c + kvs.length)) } → wpListIn (Fr none) 0 P ops Q l a w := by
  intro l
  induction l with
  | nil => intro kvs h; cases h
  | cons o l ih =>
    intro kvs h es ks c a w hks hfr ha hsz hr hQ
    simp only [kvsOf] at h
    have hev : a.eval (.tmp 1) = .map (some r) := by
      show a.tmps.getD 1 undef = _
      rw [Array.getD_eq_getD_getElem?, ha]; rfl
    cases hk : kvOf mt o with
    | some kv =>
      rw [hk] at h
      simp only at h
      split at h
      · rename_i rest hrest
        cases h
        obtain ⟨k, v⟩ := kv
        obtain ⟨h1, h2, h3⟩ := kvOf_some hk
        simp only [freshB, Bool.and_eq_true] at hfr
        have hrun := run_mapUpdate (P := P) (v := .int .i64 v) hmt hkt hr (k := k) (by simpa using findNow_fresh 0 hks hfr.1)
        have hlt : r < w.heap.size := by
          rcases Nat.lt_or_ge r w.heap.size with h' | h'
          · exact h'
          · rw [Array.getElem?_eq_none h'] at hr; cases hr
        unfold wpListIn
        rw [show Region.wanted o (yielded ops a.tmps) = true by unfold Region.wanted; rw [h3]]
        simp only [if_true]
        refine ⟨fun _ _ => trivial, ?_⟩
        rw [Oper.semAt_eq _ _ _ (fun c hc => by rw [h2] at hc; cases hc)]
        have hex : (execOp a.eval o).run P w = .ok .skip { w with heap := w.heap.setIfInBounds r (.map (es.toArray.push { key := .string k, val := .int .i64 v, born := c }) (c + 1)) } := by
          unfold execOp
          rw [h2]
          simp only [hev, show a.eval (.const (.string k)) = .string k from rfl, show a.eval (.const (.int .i64 v)) = .int .i64 v from rfl, Sem.run_bind, hrun, Result.andThen_ok, Sem.run_pure]
        rw [hex]
        show wpListIn (Fr none) 0 P ops Q l (a.put o.dst undef) _
        rw [h1]
        refine ih rest hrest (es ++ [{ key := .string k, val := .int .i64 v, born := c }]) (ks ++ [k]) (c + 1) _ _ (by simp [hks]) hfr.2 ha hsz (by
          simp only [Array.getElem?_setIfInBounds, if_pos trivial]
          rw [if_pos hlt]
          simp) ?_
        simp only [Array.setIfInBounds_setIfInBounds, List.append_assoc, List.singleton_append]
        simp only [ents, List.length_cons] at hQ
        rw [show c + 1 + rest.length = c + (rest.length + 1) by omega]
        exact hQ
      · cases h
    | none =>
      rw [hk] at h
      simp only at h
      split at h
      · rename_i o2 h1 h2 h3
        split at h
        · rename_i h4 h5 h6
          cases h
          unfold wpListIn
          rw [show Region.wanted o (yielded ops a.tmps) = true by unfold Region.wanted; rw [h3]]
          simp only [if_true]
          refine ⟨fun _ _ => trivial, ?_⟩
          rw [Oper.semAt_eq _ _ _ (fun c hc => by rw [h2] at hc; cases hc)]
          have hex : (execOp a.eval o).run P w = .ok (.value (.map (some r))) w := by
            unfold execOp
            rw [h2]
            simp only [hev]
            rfl
          rw [hex, Oper.uponIn_value, h1]
          unfold wpListIn
          rw [show Region.wanted o2 _ = true by unfold Region.wanted; rw [h6]]
          simp only [if_true]
          refine ⟨fun _ _ => trivial, ?_⟩
          rw [Oper.semAt_eq _ _ _ (fun c hc => by rw [h5] at hc; cases hc)]
          have hev2 : (a.put (some 2) (.map (some r))).eval (.tmp 2) = .map (some r) := by
            show (a.tmps.setIfInBounds 2 (.map (some r))).getD 2 undef = _
            rw [Array.getD_eq_getD_getElem?, Array.getElem?_setIfInBounds, if_pos rfl, if_pos (by omega)]; rfl
          have hex2 : (execOp (a.put (some 2) (.map (some r))).eval o2).run P w = .ok (.value (.map (some r))) w := by
            unfold execOp
            rw [h5]
            simp only [hev2]
            rfl
          rw [hex2, Oper.uponIn_value, h4]
          unfold wpListIn
          simp only [ents, List.append_nil, List.length_nil, Nat.add_zero] at hQ
          have hself : w.heap.setIfInBounds r (.map es.toArray c) = w.heap := by
            apply Array.ext_getElem?
            intro i
            rw [Array.getElem?_setIfInBounds]
            split
            · rename_i he; subst he
              split
              · exact hr.symm
              · rename_i hn; rw [Array.getElem?_eq_none (by omega)]
            · rfl
          rw [hself] at hQ
          exact hQ
        · cases h
      · cases h

/-- the text of such a function -/
def litOf (mt : Nat) (fn : Func) : Option (List (ByteArray × Int)) :=
  match fn.body, fn.results.toList, fn.ntmps with
  | some (.seq (.region _ ops0 false) (.seq (.region _ ops false) .ret)), [.tmp 0], 3 => match ops0.toList, ops.toList with
    | [o], m :: l => match o.op, o.dst, o.guard, m.op, m.dst, m.guard with
      | .assign (.const _), some 0, none, .makeMap _ none, some 1, none => kvsOf mt l
      | _, _, _, _, _, _ => none
    | _, _ => none
  | _, _, _ => none

theorem lit_calls {f : Nat} {fn : Func} (hfn : P.funcs[f]? = some fn) (hmt : P.underlying mt = some (.map kt et)) (hkt : P.underlying kt = some .string) {kvs : List (ByteArray × Int)} (hl : litOf mt fn = some kvs) (hfr : freshB [] kvs = true) (w : World) :
    CallsIn (Fr none) 0 P f #[] w fun e w' => e = .returned (.map (some w.heap.size)) ∧ w' = w.alloc (.map (ents kvs 0).toArray kvs.length) := by
  unfold litOf at hl
  split at hl
  · rename_i ops0 ops hb hres hnt
    split at hl
    · rename_i o m l h0 h1
      split at hl
      · rename_i v ty g1 g2 g3 g4 g5 g6
        refine callsIn_of_wp_marks hfn hb trivial ?_
        rw [hnt]
        apply wpIn_seq
        apply wpIn_region_list
        rw [h0]
        unfold wpListIn
        rw [show Region.wanted o _ = true by unfold Region.wanted; rw [g3]]
        simp only [if_true]
        refine ⟨fun _ _ => trivial, ?_⟩
        rw [Oper.semAt_eq _ _ _ (fun c hc => by rw [g1] at hc; cases hc)]
        rw [show (execOp _ o).run P w = .ok (.value v) w by unfold execOp; rw [g1]; rfl]
        rw [Oper.uponIn_value, g2]
        unfold wpListIn
        show Code.wpIn _ _ _ _ _ _ _
        apply wpIn_seq
        apply wpIn_region_list
        rw [h1]
        unfold wpListIn
        rw [show Region.wanted m _ = true by unfold Region.wanted; rw [g6]]
        simp only [if_true]
        refine ⟨fun _ _ => trivial, ?_⟩
        rw [Oper.semAt_eq _ _ _ (fun c hc => by rw [g4] at hc; cases hc)]
        have hex : ∀ ρ, (execOp ρ m).run P w = .ok (.value (.map (some w.heap.size))) (w.alloc (.map #[] 0)) := fun ρ => by
          unfold execOp
          rw [g4]
          simp only [Instr.makeMap, Option.map_none, Sem.run_bind, run_newObj, Result.andThen_ok, Sem.run_pure]
          rfl
        rw [hex]
        rw [Oper.uponIn_value, g5]
        refine ins_run (r := w.heap.size) hmt hkt l kvs hl [] [] 0 _ _ rfl hfr (by simp [Act.put]) (by simp [Act.put]) (getElem?_push_size _ _) ?_
        show Code.wpIn _ _ _ _ _ _ _
        apply wpIn_ret
        have hh : (w.alloc (.map #[] 0)).heap.setIfInBounds w.heap.size (.map (ents kvs 0).toArray kvs.length) = (w.alloc (.map (ents kvs 0).toArray kvs.length)).heap := by
          show (w.heap.push _).setIfInBounds _ _ = w.heap.push _
          apply Array.ext_getElem?
          intro i
          rw [Array.getElem?_setIfInBounds, Array.getElem?_push, Array.getElem?_push]
          by_cases hi : w.heap.size = i
          · subst hi; simp
          · rw [if_neg hi, if_neg (Ne.symm hi), if_neg (Ne.symm hi)]
        refine ⟨.map (some w.heap.size), ?_, rfl, ?_⟩
        · rw [results_eq, Array.mapM_eq_mapM_toList, bind_map_left, hres]
          simp [List.mapM_cons, List.mapM_nil, resV, Act.put, Sem.run_pure]
        · simp only [List.nil_append, Nat.zero_add]
          rw [hh]; rfl
      · cases hl
    · cases hl
  · cases hl

/-- what is under a key -/
def deedOf : List (ByteArray × Int) → ByteArray → Int
  | [], _ => 0
  | (j, v) :: l, k => bif bytesEq k.data.toList j.data.toList then v else deedOf l k

theorem findNow_ents {k : ByteArray} : ∀ (kvs : List (ByteArray × Int)) (c i : Nat), ∃ r, Instr.findNow .string (.string k) (ents kvs c) i = some r ∧ ((r = none ∧ deedOf kvs k = 0) ∨ ∃ j, r = some (j, .int .i64 (deedOf kvs k))) := by
  intro kvs
  induction kvs with
  | nil => intro c i; exact ⟨none, rfl, .inl ⟨rfl, rfl⟩⟩
  | cons p l ih =>
    intro c i
    obtain ⟨j, v⟩ := p
    simp only [ents, Instr.findNow, Instr.sameNow, deedOf]
    rw [beq_bytes]
    cases hb : bytesEq k.data.toList j.data.toList with
    | true => exact ⟨_, rfl, .inr ⟨i, rfl⟩⟩
    | false => exact ih (c + 1) (i + 1)

theorem run_lookup_ents (hmt : P.underlying mt = some (.map kt et)) (hkt : P.underlying kt = some .string) (hz : (zeroValue et).run P w = .ok (.int .i64 0) w) {kvs : List (ByteArray × Int)} {c : Nat} (hr : w.heap[r]? = some (.map (ents kvs 0).toArray c)) (k : ByteArray) :
    (Instr.lookup mt (.map (some r)) (.string k) false).run P w = .ok (.int .i64 (deedOf kvs k)) w := by
  have hg : (getObj r).run P w = .ok (.map (ents kvs 0).toArray c) w := run_get hr (fun _ _ _ h => by cases h)
  have hck : ∀ b, (Instr.checkKey b (9999 + 1) kt (.string k)).run P w = .ok () w := fun b => by
    generalize (9999 : Nat) = d
    simp [Instr.checkKey, run_underlying' hkt]
  have hck' : ∀ b, (Instr.checkKey b 10000 kt (.string k)).run P w = .ok () w := hck
  obtain ⟨q, hq, hc⟩ := findNow_ents (k := k) kvs 0 0
  have hfk : (Instr.findKey kt (.string k) (ents kvs 0).toArray.toList).run P w = .ok q w := by
    simp [Instr.findKey, run_underlying' hkt, hq]
  simp only [Instr.lookup, Sem.run_bind, run_underlying' hmt, Result.andThen_ok, hg, Sem.run_pure, hck', hfk]
  rcases hc with ⟨rfl, h0⟩ | ⟨j, rfl⟩
  · simp [hz, h0]
  · simp [Sem.run_pure]
theorem run_lookup_nil (hmt : P.underlying mt = some (.map kt et)) (hkt : P.underlying kt = some .string) (hz : (zeroValue et).run P w = .ok (.int .i64 0) w) (k : ByteArray) :
    (Instr.lookup mt (.map none) (.string k) false).run P w = .ok (.int .i64 0) w := by
  have hck : ∀ b, (Instr.checkKey b (9999 + 1) kt (.string k)).run P w = .ok () w := fun b => by
    generalize (9999 : Nat) = d
    simp [Instr.checkKey, run_underlying' hkt]
  have hck' : ∀ b, (Instr.checkKey b 10000 kt (.string k)).run P w = .ok () w := hck
  have hfk : (Instr.findKey kt (.string k) (#[] : Array MapEntry).toList).run P w = .ok none w := by
    simp [Instr.findKey, run_underlying' hkt, Instr.findNow]
  simp only [Instr.lookup, Sem.run_bind, run_underlying' hmt, Result.andThen_ok, Sem.run_pure, hck', hfk, hz]
  simp
end
end Go.Ra
namespace Go.Ra
section
variable {PO : PlanOk} {E : Env} {S : Nat → Prop} {w0 w : World} {φ : Emb} {H : AH}
/-- a row that stands, and that nothing abstract stands for, is taken in -/
theorem Rep.adopt (h0 : Rep PO E S w0 φ H w) {b : Blk} {l : Loc} {cs : Array Value} {el : TypeId} {fr : Nat × Nat} (hfam : b.fam = H.next) (hones : ones b.cells = true) (hl : w.heap[l.blk]? = some (.cells cs el fr))
    (hno : ∀ X m, φ X = some m → m.blk ≠ l.blk) (hS : ¬ S l.blk) (hsz : l.off + b.cells.length + l.spare * b.esz ≤ cs.size) (hfr : ∀ j, j < cs.size → ¬ (fr.1 ≤ j ∧ j < fr.2)) (hcell : ∀ i (hi : i < b.cells.length), ∃ u, cs[l.off + i]? = some u ∧ VR φ b.cells[i] u) :
    Rep PO E S w0 (upd φ H.next l) { H with next := H.next + 1, objs := H.objs.set H.next (.blk b) } w := by
  have h := h0.hide (o := .blk b) (fun b' hb' => by cases hb'; exact ⟨hfam, hones⟩)
  have hX : φ H.next = none := h0.none_next
  have hb : (H.objs.set H.next (.blk b)).get H.next = some (.blk b) := Tr.get_set_same _ _ _
  generalize hH1 : ({ H with next := H.next + 1, objs := H.objs.set H.next (.blk b) } : AH) = H1 at h ⊢
  have hb : H1.objs.get H.next = some (.blk b) := by rw [← hH1]; exact hb
  generalize H.next = X at hX hb ⊢
  have hle : φ.le (upd φ X l) := fun Y m e => by rw [upd_ne φ l (fun h' => by rw [h', hX] at e; cases e)]; exact e
  have split : ∀ {Y : Nat} {m : Loc}, upd φ X l Y = some m → (Y = X ∧ m = l) ∨ (Y ≠ X ∧ φ Y = some m) := fun {Y m} e => by
    by_cases hY : Y = X
    · rw [hY, upd_same] at e; cases e; exact .inl ⟨hY, rfl⟩
    · rw [upd_ne φ l hY] at e; exact .inr ⟨hY, e⟩
  refine { dom := ?_, fresh := h.fresh, ffresh := h.ffresh, flt := h.flt, fam1 := h.fam1, one := h.one, blk := ?_, loop := ?_, iter := ?_, share := ?_, size := h.size, keep := h.keep, sdom := h.sdom, safe := ?_, os := h.os, out := h.out, tape := h.tape, gl := h.gl_upd hX, pin := h.pin }
  · intro Y m e
    rcases split e with ⟨rfl, _⟩ | ⟨_, e⟩
    · exact ⟨_, hb⟩
    · exact h.dom Y m e
  · intro Y m c e hc
    rcases split e with ⟨rfl, rfl⟩ | ⟨_, e⟩
    · rw [hb] at hc; cases hc
      refine ⟨cs, el, fr, ⟨hl, hsz, fun _ => hfr, fun i hi _ => ?_⟩⟩
      obtain ⟨u, hu, hv⟩ := hcell i hi
      exact ⟨u, hu, hv.mono hle⟩
    · obtain ⟨cs', el', fr', hB⟩ := h.blk Y m c e hc
      exact ⟨cs', el', fr', ⟨hB.here, hB.room, hB.free, fun i hi hr => let ⟨u, hu, hv⟩ := hB.cell i hi hr; ⟨u, hu, hv.mono hle⟩⟩⟩
  · intro Y m r e hr
    rcases split e with ⟨rfl, rfl⟩ | ⟨_, e⟩
    · rw [hb] at hr; cases hr
    · obtain ⟨L, hL⟩ := h.loop Y m r e hr
      exact ⟨L, hL.mono hle rfl⟩
  · intro Y m s p e hr
    rcases split e with ⟨rfl, rfl⟩ | ⟨_, e⟩
    · rw [hb] at hr; cases hr
    · exact h.iter Y m s p e hr
  · intro Y Z m k e f hmk
    rcases split e with ⟨hY, hm⟩ | ⟨hY, e1⟩ <;> rcases split f with ⟨hZ, hk⟩ | ⟨hZ, f1⟩
    · exact .inl (hY.trans hZ.symm)
    · exact absurd (by rw [← hmk, hm]) (hno Z k f1)
    · exact absurd (by rw [hmk, hk]) (hno Y m e1)
    · exact h.share Y Z m k e1 f1 hmk
  · intro Y m e hs
    rcases split e with ⟨rfl, rfl⟩ | ⟨_, e⟩
    · exact absurd hs hS
    · exact h.safe Y m e hs
end
end Go.Ra
end


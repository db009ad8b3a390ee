/-
  A part of the proof (RaMarkY, RaMarkR, RaMarkV, RaMarkZ): an evaluator of the model's code with its proof, or facts of this program that it reckons. No condition.
-/
import Derived.Test.YtlpeihabbkgnbaaGreatDoorRb17
import Derived.Test.YtlpeihabbkgnbaaGreatDoorRb18
import Derived.KernelRfl
import Derived.Test.YtlpeihabbkgnbaaGreatDoorRb19
import Derived.Test.YtlpeihabbkgnbaaGreatDoorRb20
import Derived.Test.YtlpeihabbkgnbaaGreatDoorRb21
import Derived.Test.YtlpeihabbkgnbaaGreatDoorRb22
import Derived.Test.YtlpeihabbkgnbaaGreatDoorRb23
import Derived.Test.YtlpeihabbkgnbaaGreatDoorRb24
import Derived.Test.YtlpeihabbkgnbaaGreatDoorRb25
import Derived.Test.YtlpeihabbkgnbaaGreatDoorRb26
import Derived.Test.YtlpeihabbkgnbaaGreatDoorRb27
import Derived.Test.YtlpeihabbkgnbaaGreatDoorRb28
import Derived.Test.YtlpeihabbkgnbaaGreatDoorRb29
import Derived.Test.YtlpeihabbkgnbaaGreatDoorRb30
import Derived.Test.YtlpeihabbkgnbaaGreatDoorRb31
import Derived.Test.YtlpeihabbkgnbaaGreatDoorRb32
import Derived.Test.YtlpeihabbkgnbaaGreatDoorRb33
import Derived.Test.YtlpeihabbkgnbaaGreatDoorRb34
import Derived.Test.YtlpeihabbkgnbaaGreatDoorRb16
section
namespace Go.Proofs
open Go Go.Ra Go.RowKit
set_option maxRecDepth 100000
/-- any integer is one of the classes -/
theorem cls (b : Nat) (z : Int) : (∃ n : Nat, z = .negSucc n) ∨ (∃ i, i < b ∧ z = .ofNat i) ∨ (∃ n : Nat, z = .ofNat (n + b)) := by
  cases z with
  | negSucc n => exact .inl ⟨n, rfl⟩
  | ofNat n =>
    by_cases h : n < b
    · exact .inr (.inl ⟨n, h, rfl⟩)
    · exact .inr (.inr ⟨n - b, by rw [Nat.sub_add_cancel (by omega)]⟩)
theorem newrow_n (n : Nat) (c : Int) : ∃ j, j < 10 ∧ newB (.negSucc n) c (.ofNat 0) (.ofNat j) = true := by
  rcases cls 10 c with ⟨m, rfl⟩ | ⟨i, hi, rfl⟩ | ⟨m, rfl⟩
  · exact ⟨0, by omega, new_n_n n m⟩
  · rcases (show i = 0 ∨ i = 1 ∨ i = 2 ∨ i = 3 ∨ i = 4 ∨ i = 5 ∨ i = 6 ∨ i = 7 ∨ i = 8 ∨ i = 9 by omega) with rfl | rfl | rfl | rfl | rfl | rfl | rfl | rfl | rfl | rfl
    · exact ⟨0, by omega, new_n_0 n 0⟩
    · exact ⟨1, by omega, new_n_1 n 0⟩
    · exact ⟨2, by omega, new_n_2 n 0⟩
    · exact ⟨3, by omega, new_n_3 n 0⟩
    · exact ⟨4, by omega, new_n_4 n 0⟩
    · exact ⟨5, by omega, new_n_5 n 0⟩
    · exact ⟨6, by omega, new_n_6 n 0⟩
    · exact ⟨7, by omega, new_n_7 n 0⟩
    · exact ⟨8, by omega, new_n_8 n 0⟩
    · exact ⟨9, by omega, new_n_9 n 0⟩
  · exact ⟨9, by omega, new_n_p n m⟩
theorem newrow_0 (n : Nat) (c : Int) : ∃ j, j < 10 ∧ newB (.ofNat 0) c (.ofNat 0) (.ofNat j) = true := by
  rcases cls 10 c with ⟨m, rfl⟩ | ⟨i, hi, rfl⟩ | ⟨m, rfl⟩
  · exact ⟨0, by omega, new_0_n n m⟩
  · rcases (show i = 0 ∨ i = 1 ∨ i = 2 ∨ i = 3 ∨ i = 4 ∨ i = 5 ∨ i = 6 ∨ i = 7 ∨ i = 8 ∨ i = 9 by omega) with rfl | rfl | rfl | rfl | rfl | rfl | rfl | rfl | rfl | rfl
    · exact ⟨0, by omega, new_0_0 n 0⟩
    · exact ⟨1, by omega, new_0_1 n 0⟩
    · exact ⟨2, by omega, new_0_2 n 0⟩
    · exact ⟨3, by omega, new_0_3 n 0⟩
    · exact ⟨4, by omega, new_0_4 n 0⟩
    · exact ⟨5, by omega, new_0_5 n 0⟩
    · exact ⟨6, by omega, new_0_6 n 0⟩
    · exact ⟨7, by omega, new_0_7 n 0⟩
    · exact ⟨8, by omega, new_0_8 n 0⟩
    · exact ⟨9, by omega, new_0_9 n 0⟩
  · exact ⟨9, by omega, new_0_p n m⟩
theorem newrow_1 (n : Nat) (c : Int) : ∃ j, j < 10 ∧ newB (.ofNat 1) c (.ofNat 1) (.ofNat j) = true := by
  rcases cls 10 c with ⟨m, rfl⟩ | ⟨i, hi, rfl⟩ | ⟨m, rfl⟩
  · exact ⟨0, by omega, new_1_n n m⟩
  · rcases (show i = 0 ∨ i = 1 ∨ i = 2 ∨ i = 3 ∨ i = 4 ∨ i = 5 ∨ i = 6 ∨ i = 7 ∨ i = 8 ∨ i = 9 by omega) with rfl | rfl | rfl | rfl | rfl | rfl | rfl | rfl | rfl | rfl
    · exact ⟨0, by omega, new_1_0 n 0⟩
    · exact ⟨1, by omega, new_1_1 n 0⟩
    · exact ⟨2, by omega, new_1_2 n 0⟩
    · exact ⟨3, by omega, new_1_3 n 0⟩
    · exact ⟨4, by omega, new_1_4 n 0⟩
    · exact ⟨5, by omega, new_1_5 n 0⟩
    · exact ⟨6, by omega, new_1_6 n 0⟩
    · exact ⟨7, by omega, new_1_7 n 0⟩
    · exact ⟨8, by omega, new_1_8 n 0⟩
    · exact ⟨9, by omega, new_1_9 n 0⟩
  · exact ⟨9, by omega, new_1_p n m⟩
theorem newrow_2 (n : Nat) (c : Int) : ∃ j, j < 10 ∧ newB (.ofNat 2) c (.ofNat 2) (.ofNat j) = true := by
  rcases cls 10 c with ⟨m, rfl⟩ | ⟨i, hi, rfl⟩ | ⟨m, rfl⟩
  · exact ⟨0, by omega, new_2_n n m⟩
  · rcases (show i = 0 ∨ i = 1 ∨ i = 2 ∨ i = 3 ∨ i = 4 ∨ i = 5 ∨ i = 6 ∨ i = 7 ∨ i = 8 ∨ i = 9 by omega) with rfl | rfl | rfl | rfl | rfl | rfl | rfl | rfl | rfl | rfl
    · exact ⟨0, by omega, new_2_0 n 0⟩
    · exact ⟨1, by omega, new_2_1 n 0⟩
    · exact ⟨2, by omega, new_2_2 n 0⟩
    · exact ⟨3, by omega, new_2_3 n 0⟩
    · exact ⟨4, by omega, new_2_4 n 0⟩
    · exact ⟨5, by omega, new_2_5 n 0⟩
    · exact ⟨6, by omega, new_2_6 n 0⟩
    · exact ⟨7, by omega, new_2_7 n 0⟩
    · exact ⟨8, by omega, new_2_8 n 0⟩
    · exact ⟨9, by omega, new_2_9 n 0⟩
  · exact ⟨9, by omega, new_2_p n m⟩
theorem newrow_3 (n : Nat) (c : Int) : ∃ j, j < 10 ∧ newB (.ofNat 3) c (.ofNat 3) (.ofNat j) = true := by
  rcases cls 10 c with ⟨m, rfl⟩ | ⟨i, hi, rfl⟩ | ⟨m, rfl⟩
  · exact ⟨0, by omega, new_3_n n m⟩
  · rcases (show i = 0 ∨ i = 1 ∨ i = 2 ∨ i = 3 ∨ i = 4 ∨ i = 5 ∨ i = 6 ∨ i = 7 ∨ i = 8 ∨ i = 9 by omega) with rfl | rfl | rfl | rfl | rfl | rfl | rfl | rfl | rfl | rfl
    · exact ⟨0, by omega, new_3_0 n 0⟩
    · exact ⟨1, by omega, new_3_1 n 0⟩
    · exact ⟨2, by omega, new_3_2 n 0⟩
    · exact ⟨3, by omega, new_3_3 n 0⟩
    · exact ⟨4, by omega, new_3_4 n 0⟩
    · exact ⟨5, by omega, new_3_5 n 0⟩
    · exact ⟨6, by omega, new_3_6 n 0⟩
    · exact ⟨7, by omega, new_3_7 n 0⟩
    · exact ⟨8, by omega, new_3_8 n 0⟩
    · exact ⟨9, by omega, new_3_9 n 0⟩
  · exact ⟨9, by omega, new_3_p n m⟩
theorem newrow_p (n : Nat) (c : Int) : ∃ j, j < 10 ∧ newB (.ofNat (n + 4)) c (.ofNat 3) (.ofNat j) = true := by
  rcases cls 10 c with ⟨m, rfl⟩ | ⟨i, hi, rfl⟩ | ⟨m, rfl⟩
  · exact ⟨0, by omega, new_p_n n m⟩
  · rcases (show i = 0 ∨ i = 1 ∨ i = 2 ∨ i = 3 ∨ i = 4 ∨ i = 5 ∨ i = 6 ∨ i = 7 ∨ i = 8 ∨ i = 9 by omega) with rfl | rfl | rfl | rfl | rfl | rfl | rfl | rfl | rfl | rfl
    · exact ⟨0, by omega, new_p_0 n 0⟩
    · exact ⟨1, by omega, new_p_1 n 0⟩
    · exact ⟨2, by omega, new_p_2 n 0⟩
    · exact ⟨3, by omega, new_p_3 n 0⟩
    · exact ⟨4, by omega, new_p_4 n 0⟩
    · exact ⟨5, by omega, new_p_5 n 0⟩
    · exact ⟨6, by omega, new_p_6 n 0⟩
    · exact ⟨7, by omega, new_p_7 n 0⟩
    · exact ⟨8, by omega, new_p_8 n 0⟩
    · exact ⟨9, by omega, new_p_9 n 0⟩
  · exact ⟨9, by omega, new_p_p n m⟩
theorem new_all (r c : Int) : ∃ i j, i < 4 ∧ j < 10 ∧ newB r c (.ofNat i) (.ofNat j) = true := by
  rcases cls 4 r with ⟨n, rfl⟩ | ⟨i, hi, rfl⟩ | ⟨n, rfl⟩
  · obtain ⟨j, hj, h⟩ := newrow_n n c; exact ⟨0, j, by omega, hj, h⟩
  · rcases (show i = 0 ∨ i = 1 ∨ i = 2 ∨ i = 3 by omega) with rfl | rfl | rfl | rfl
    · obtain ⟨j, hj, h⟩ := newrow_0 0 c; exact ⟨0, j, by omega, hj, h⟩
    · obtain ⟨j, hj, h⟩ := newrow_1 0 c; exact ⟨1, j, by omega, hj, h⟩
    · obtain ⟨j, hj, h⟩ := newrow_2 0 c; exact ⟨2, j, by omega, hj, h⟩
    · obtain ⟨j, hj, h⟩ := newrow_3 0 c; exact ⟨3, j, by omega, hj, h⟩
  · obtain ⟨j, hj, h⟩ := newrow_p n c; exact ⟨3, j, by omega, hj, h⟩
theorem pos_all (i j : Nat) (hi : i < 4) (hj : j < 10) : posB (.ofNat i) (.ofNat j) = true := by
  rcases (show i = 0 ∨ i = 1 ∨ i = 2 ∨ i = 3 by omega) with rfl | rfl | rfl | rfl
  · rcases (show j = 0 ∨ j = 1 ∨ j = 2 ∨ j = 3 ∨ j = 4 ∨ j = 5 ∨ j = 6 ∨ j = 7 ∨ j = 8 ∨ j = 9 by omega) with rfl | rfl | rfl | rfl | rfl | rfl | rfl | rfl | rfl | rfl
    · exact pos_0_0
    · exact pos_0_1
    · exact pos_0_2
    · exact pos_0_3
    · exact pos_0_4
    · exact pos_0_5
    · exact pos_0_6
    · exact pos_0_7
    · exact pos_0_8
    · exact pos_0_9
  · rcases (show j = 0 ∨ j = 1 ∨ j = 2 ∨ j = 3 ∨ j = 4 ∨ j = 5 ∨ j = 6 ∨ j = 7 ∨ j = 8 ∨ j = 9 by omega) with rfl | rfl | rfl | rfl | rfl | rfl | rfl | rfl | rfl | rfl
    · exact pos_1_0
    · exact pos_1_1
    · exact pos_1_2
    · exact pos_1_3
    · exact pos_1_4
    · exact pos_1_5
    · exact pos_1_6
    · exact pos_1_7
    · exact pos_1_8
    · exact pos_1_9
  · rcases (show j = 0 ∨ j = 1 ∨ j = 2 ∨ j = 3 ∨ j = 4 ∨ j = 5 ∨ j = 6 ∨ j = 7 ∨ j = 8 ∨ j = 9 by omega) with rfl | rfl | rfl | rfl | rfl | rfl | rfl | rfl | rfl | rfl
    · exact pos_2_0
    · exact pos_2_1
    · exact pos_2_2
    · exact pos_2_3
    · exact pos_2_4
    · exact pos_2_5
    · exact pos_2_6
    · exact pos_2_7
    · exact pos_2_8
    · exact pos_2_9
  · rcases (show j = 0 ∨ j = 1 ∨ j = 2 ∨ j = 3 ∨ j = 4 ∨ j = 5 ∨ j = 6 ∨ j = 7 ∨ j = 8 ∨ j = 9 by omega) with rfl | rfl | rfl | rfl | rfl | rfl | rfl | rfl | rfl | rfl
    · exact pos_3_0
    · exact pos_3_1
    · exact pos_3_2
    · exact pos_3_3
    · exact pos_3_4
    · exact pos_3_5
    · exact pos_3_6
    · exact pos_3_7
    · exact pos_3_8
    · exact pos_3_9
theorem st_all (i j s : Nat) (hi : i < 4) (hj : j < 10) (hs : s < 4) : stB (.ofNat i) (.ofNat j) s = true := by
  have h := pos_all i j hi hj
  simp only [posB, Bool.and_eq_true] at h
  obtain ⟨⟨⟨h0, h1⟩, h2⟩, h3⟩ := h
  rcases (show s = 0 ∨ s = 1 ∨ s = 2 ∨ s = 3 by omega) with rfl | rfl | rfl | rfl
  · exact h0
  · exact h1
  · exact h2
  · exact h3
noncomputable def isInts (r : Option (Value × AH)) : Bool := match r with
  | some (.tuple ⟨[.agg ⟨[.int .i64 _, .int .i64 _]⟩, .int .i64 _]⟩, _) => true
  | _ => false
theorem ints0 (r c : Int) : isInts (ev 29 [vC] (SS r c 0)) = true := by kernel_rfl
theorem ints1 (r c : Int) : isInts (ev 29 [vC] (SS r c 1)) = true := by kernel_rfl
theorem ints2 (r c : Int) : isInts (ev 29 [vC] (SS r c 2)) = true := by kernel_rfl
theorem ints3 (r c : Int) : isInts (ev 29 [vC] (SS r c 3)) = true := by kernel_rfl
theorem ints (r c : Int) (s : Nat) (hs : s < 4) : isInts (ev 29 [vC] (SS r c s)) = true := by
  rcases (show s = 0 ∨ s = 1 ∨ s = 2 ∨ s = 3 by omega) with rfl | rfl | rfl | rfl
  · exact ints0 r c
  · exact ints1 r c
  · exact ints2 r c
  · exact ints3 r c
theorem trS (r c : Int) (s : Nat) : trAll (fun k _ => K2.any (Nat.beq k)) (SS r c s).objs id = true := by cases s <;> exact tr2 _ _ _ _ _
theorem famS (r c : Int) (s : Nat) : (SS r c s).fams = .nil := by cases s <;> rfl
theorem At.stay {W w : World} {H : AH} {u : Value} {r c : Int} {s : Nat} (h : At W H vC u w) (hs : stayB H (SS r c s) = true) : At W (SS r c s) vC u w := by
  unfold stayB at hs
  rw [Bool.and_eq_true] at hs
  exact h.pick (K := K2) hs.1 hs.2 (keys2 _ _) (trS r c s) (famS r c s)
/-- copy mode stands at one of the places, with the mark s -/
def MM (W : World) (s : Nat) (u : Value) (w : World) : Prop := ∃ i j, i < 4 ∧ j < 10 ∧ s < 4 ∧ At W (SS (.ofNat i) (.ofNat j) s) vC u w
theorem step_lt (s k : Nat) : step s k < 4 := by
  unfold step
  split
  · cases Nat.beq s 1 <;> decide
  · cases Nat.beq s 2 <;> decide
  · cases Nat.beq s 3 <;> decide
theorem mm_key {W w : World} {s k : Nat} {u : Value} (hk : k < 3) (h : MM W s u w) : Calls Tryz.prog 26 #[u, .int .i64 (deed k)] w fun e w' => ∃ x, e = .returned x ∧ MM W (step s k) u w' := by
  obtain ⟨i, j, hi, hj, hs, hA⟩ := h
  have hB := st_all i j s hi hj hs
  simp only [stB, Bool.and_eq_true] at hB
  obtain ⟨⟨⟨⟨k0, k1⟩, k2⟩, _⟩, _⟩ := hB
  have hkey : keyB (.ofNat i) (.ofNat j) s k = true := by
    rcases (show k = 0 ∨ k = 1 ∨ k = 2 by omega) with rfl | rfl | rfl
    · exact k0
    · exact k1
    · exact k2
  unfold keyB at hkey
  split at hkey
  · rename_i v H e
    refine (hA.call (us := #[.int .i64 (deed k)]) e (fun φ => .cons (.int _ _) .nil)).mono fun e' w' he => ?_
    obtain ⟨u', g1, _, g3⟩ := he
    exact ⟨u', g1, i, j, hi, hj, step_lt s k, g3.stay hkey⟩
  · cases hkey
theorem mm_mark {W w : World} {s : Nat} {u : Value} (h : MM W s u w) : Calls Tryz.prog 29 #[u] w fun e w' => ∃ x y : Int, e = .returned (.tuple #[.agg #[.int .i64 x, .int .i64 y], .int .i64 (s : Nat)]) ∧ MM W s u w' := by
  obtain ⟨i, j, hi, hj, hs, hA⟩ := h
  have hB := st_all i j s hi hj hs
  simp only [stB, Bool.and_eq_true] at hB
  obtain ⟨⟨_, hm⟩, _⟩ := hB
  have hI := ints (.ofNat i) (.ofNat j) s hs
  unfold markB at hm
  split at hm
  · rename_i xs n H e
    rw [Bool.and_eq_true] at hm
    have hn := Nat.eq_of_beq_eq_true hm.1
    subst hn
    rw [e] at hI
    unfold isInts at hI
    split at hI
    · rename_i x y z H' e2
      cases e2
      refine (hA.call (us := #[]) e (fun φ => .nil)).mono fun e' w' he => ?_
      obtain ⟨u', g1, ⟨φ, _, g2⟩, g3⟩ := he
      refine ⟨x, y, ?_, i, j, hi, hj, hs, g3.stay hm.2⟩
      rw [g1]
      congr 1
      obtain ⟨us, rfl, h1⟩ := g2.tuple_inv
      obtain ⟨a, l, rfl, h2, h3⟩ := h1.cons_inv
      obtain ⟨b, l', rfl, h4, h5⟩ := h3.cons_inv
      have := h5.nil_inv
      subst this
      obtain ⟨us', rfl, h6⟩ := h2.agg_inv
      obtain ⟨a', l2, rfl, h7, h8⟩ := h6.cons_inv
      obtain ⟨b', l3, rfl, h9, h10⟩ := h8.cons_inv
      have := h10.nil_inv
      subst this
      rw [h7.int_inv, h9.int_inv, h4.int_inv]
      rfl
    · cases hI
  · cases hm
theorem mm_copy {W w : World} {s : Nat} {u : Value} (h : MM W s u w) : Calls Tryz.prog 26 #[u, .int .i64 14] w fun e w' => ∃ t, e = .returned (.tuple #[.string t, .bool (!(s == 0))]) ∧ Below W.heap.size W w' := by
  obtain ⟨i, j, hi, hj, hs, hA⟩ := h
  have hB := st_all i j s hi hj hs
  simp only [stB, Bool.and_eq_true] at hB
  obtain ⟨_, hc⟩ := hB
  unfold copyB at hc
  split at hc
  · rename_i t ok H e
    refine (hA.call (us := #[.int .i64 14]) e (fun φ => .cons (.int _ _) .nil)).mono fun e' w' he => ?_
    obtain ⟨u', g1, ⟨φ, hR, g2⟩, _⟩ := he
    refine ⟨t, ?_, hR.os, hR.tape, hR.out, hR.size, fun k hk => hR.keep k hk⟩
    rw [g1]
    congr 1
    obtain ⟨us, rfl, h1⟩ := g2.tuple_inv
    obtain ⟨a, l, rfl, h2, h3⟩ := h1.cons_inv
    obtain ⟨b, l', rfl, h4, h5⟩ := h3.cons_inv
    have := h5.nil_inv
    subst this
    rw [h2.str_inv, h4.bool_inv]
    have hok : ok = !(s == 0) := by
      have h9 : ok = !(Nat.beq s 0) := by simpa using hc
      rw [h9]; cases s <;> rfl
    rw [hok]
  · cases hc
end Go.Proofs
end

section
namespace Go.Proofs
open Go Go.Ra
set_option maxRecDepth 100000
theorem rowsB_ok : rowsB = true := by kernel_rfl
end Go.Proofs
end

section
namespace Go.Proofs
open Go Go.RowKit
set_option maxRecDepth 100000
set_option maxHeartbeats 0 in
theorem marks_walk0 {A0 A4 : World → Prop} {A1 : Value → World → Prop} {M : Nat → Value → World → Prop} (r c : Int) (w0 : World) (h0 : A0 w0)
    (hs0 : ∀ w w', A0 w → Below w.heap.size w w' → A0 w')
    (hb : ∀ w, A0 w → Calls Tryz.prog 13 #[] w fun e w' => e = .returned (.bool true) ∧ A0 w' ∧ Below w.heap.size w w')
    (hr : ∀ w, A0 w → Calls Tryz.prog 14 #[.string ⟨#[97, 98, 99, 32, 100, 101, 102, 13, 10, 103, 104, 105]⟩, .int .i64 10] w fun e w' => ∃ v, e = .returned v ∧ A1 v w' ∧ Below w.heap.size w w')
    (hn : ∀ v w, A1 v w → Calls Tryz.prog 21 #[v, .int .i64 10, .int .i64 1, .agg #[.int .i64 r, .int .i64 c]] w fun e w' => ∃ b, e = .returned (.pointer (some b)) ∧ M 0 (.pointer (some b)) w')
    (_hsM : ∀ s v w w', M s v w → Below w.heap.size w w' → M s v w')
    (_hk0 : ∀ s v w, M s v w → Calls Tryz.prog 26 #[v, .int .i64 11] w fun e w' => ∃ x, e = .returned x ∧ M (stp s 0) v w')
    (_hk1 : ∀ s v w, M s v w → Calls Tryz.prog 26 #[v, .int .i64 12] w fun e w' => ∃ x, e = .returned x ∧ M (stp s 1) v w')
    (_hk2' : ∀ s v w, M s v w → Calls Tryz.prog 26 #[v, .int .i64 13] w fun e w' => ∃ x, e = .returned x ∧ M (stp s 2) v w')
    (_hm : ∀ s v w, M s v w → Calls Tryz.prog 29 #[v] w fun e w' => ∃ x y : Int, e = .returned (.tuple #[.agg #[.int .i64 x, .int .i64 y], .int .i64 (s : Nat)]) ∧ M s v w')
    (hc : ∀ s v w, M s v w → Calls Tryz.prog 26 #[v, .int .i64 14] w fun e w' => ∃ t, e = .returned (.tuple #[.string t, .bool (!(s == 0))]) ∧ A4 w') :
    Calls Tryz.prog 12 #[.agg #[.int .i64 r, .int .i64 c], .slice none 0 0] w0 fun e w' => e = .returned (.bool true) ∧ A4 w' := by
  go_enter Tryz.func12, Tryz.ntmps12
  go_wp2_with (first
    | (go_at_call 13; refine (hb _ (hs0 _ _ h0 ((Below.refl _ _).alloc (Nat.le_refl _) _))).mono ?_; rintro e w1 ⟨rfl, h1, hB1⟩; obtain ⟨hz1, c0, c1⟩ := box_kept hB1))
  go_region_with (first
    | (go_at_call 14; refine (hr _ (hs0 _ _ h1 (Below.refl _ _).drew)).mono ?_; rintro e w2 ⟨v, rfl, h2, hB2⟩; have d0 : w2.cell? ⟨w0.heap.size, 0, none⟩ = some (.int .i64 r) := (hB2.cell (p := ⟨w0.heap.size, 0, none⟩) hz1).trans c0; have d1 : w2.cell? ⟨w0.heap.size, 1, none⟩ = some (.int .i64 c) := (hB2.cell (p := ⟨w0.heap.size, 1, none⟩) hz1).trans c1)
    | (go_at_call 21; refine (hn _ _ h2).mono ?_; rintro e w3 ⟨b, rfl, h3⟩))
  all_goals (try go_wp2)
  all_goals clear hb hr hn hs0 c0 c1 d0 d1 hB1 hB2 hz1
  all_goals (
    go_loopw [7, 8] (fun kd i wr => kd = .int .i64 0 ∧ i = .int .i64 0 ∧ M 0 (.pointer (some b)) wr) (fun _ _ _ => 0)
    case atStart => exact ⟨rfl, rfl, h3⟩
    case round =>
      obtain ⟨rfl, rfl, hM⟩ := hrel
      go_wp2_with (go_at_call 26; refine (hc _ _ _ hM).mono ?_; rintro e w4 ⟨t, rfl, h4⟩)
      go_ret
      exact ⟨rfl, h4⟩)
end Go.Proofs
end

section
namespace Go.Proofs
open Go Go.Ra Go.RowKit
set_option maxRecDepth 100000
theorem laid_below {w w' : World} (h : Laid E0 H0 w) (hb : Below w.heap.size w w') : Laid E0 H0 w' := by
  intro g hg
  obtain ⟨b, cs, el, fr, h1, h2, h3, h4, h5, h6, h7⟩ := h g hg
  have hlt : g < w.heap.size := by
    rcases Nat.lt_or_ge g w.heap.size with h' | h'
    · exact h'
    · rw [Array.getElem?_eq_none h'] at h5; cases h5
  exact ⟨b, cs, el, fr, h1, h2, h3, h4, by rw [hb.block g hlt]; exact h5, h6, h7⟩
theorem rep_below {W w _w' : World} {φ : Emb} {H : AH} (h : Rep (POE E0) E0 (fun b => b < W.heap.size) W φ H w) : Below W.heap.size W w := ⟨h.os, h.tape, h.out, h.size, fun k hk => h.keep k hk⟩
theorem stp_step (s k : Nat) (hk : k < 3) : stp s k = step s k := by
  have hb : ∀ n, Nat.beq s n = decide (s = n) := fun n => by
    by_cases h : s = n
    · rw [h, Nat.beq_refl]; simp
    · cases hq : Nat.beq s n with
      | true => exact absurd (Nat.eq_of_beq_eq_true hq) h
      | false => simp [h]
  rcases (show k = 0 ∨ k = 1 ∨ k = 2 by omega) with rfl | rfl | rfl
  · simp only [stp, step, hb]; by_cases h : s = 1 <;> simp [h]
  · simp only [stp, step, hb]; by_cases h : s = 2 <;> simp [h]
  · simp only [stp, step, hb]; by_cases h : s = 3 <;> simp [h]
theorem marks_calls {W : World} (hl : Laid E0 H0 W) (r c : Int) (ka : Addr) (n cap : Nat) (ks : Nat → Int) (hcell : ∀ j, j < n → W.cell? (ka.add j) = some (.int .i64 (ks j))) (hkb : n = 0 ∨ ka.block < W.heap.size) :
    Calls Tryz.prog 12 #[.agg #[.int .i64 r, .int .i64 c], .slice (some ka) n cap] W fun e w' => e = .returned (.bool true) ∧ Below W.heap.size W w' := by
  refine marks_walk (A0 := fun w => Laid E0 H0 w ∧ Below W.heap.size W w) (A4 := fun w => Below W.heap.size W w) (A1 := fun u w => At W HR1 vR u w) (M := MM W) r c ka n cap ks W ⟨hl, Below.refl _ _⟩
    (fun w w' h hb => ⟨laid_below h.1 hb, h.2.trans (hb.mono h.2.size)⟩) (fun w h => ?_) (fun w h => ?_) (fun v w h => ?_) (fun s v w w' h hb => ?_) (fun s v w h => ?_) (fun s v w h => ?_) (fun s v w h => ?_) (fun s v w h => mm_mark h) (fun s v w h => mm_copy h) (fun s v w h j hj => ?_)
  · have hR := rep0 first0 h.1
    refine callsIn_wide.1 ((k20.2 [] #[] H0 (.bool true) H0 _ _ w rfl hR .nil).mono fun e w' he => ?_)
    obtain ⟨u', ψ, g1, g2, g3, g4, g5⟩ := he
    have : u' = .bool true := by cases g4; rfl
    subst this
    have hb : Below w.heap.size w w' := ⟨g5.os, g5.tape, g5.out, g5.size, fun k hk => g5.keep k hk⟩
    exact ⟨g1, ⟨laid_below h.1 hb, h.2.trans (hb.mono h.2.size)⟩, hb⟩
  · have hR := rep0 first0 h.1
    obtain ⟨v, H, e, hp, hr⟩ := takeB_get rowsB_ok
    refine callsIn_wide.1 ((acall_with mixed envOk orc0 oMk_ok e hR (us := #[.string ⟨#[97, 98, 99, 32, 100, 101, 102, 13, 10, 103, 104, 105]⟩, .int .i64 10]) (.cons (.string _) (.cons (.int _ _) .nil))).mono fun e' w' he => ?_)
    obtain ⟨u', ψ, g1, g2, g3, g4, g5⟩ := he
    have hb : Below w.heap.size w w' := ⟨g5.os, g5.tape, g5.out, g5.size, fun k hk => g5.keep k hk⟩
    have h1 : Rep (POE E0) E0 (fun b => b < W.heap.size) W (φ0 E0) H0 w := by
      have hW := rep0 first0 hl
      exact hW.agree (fun X l e' => h.2.block _ (hW.inHeap e')) (fun b hS => h.2.block b hS) h.2.size h.2.os h.2.output h.2.tape
    have hA : At W H v u' w' := ⟨ψ, h1.unbase g5 (fun b hb' => Nat.lt_of_lt_of_le hb' h.2.size), g4⟩
    exact ⟨u', g1, hA.pick (K := K1) hp hr (keys1 _ _) tr1 rfl, hb⟩
  · obtain ⟨i, j, hi, hj, hn⟩ := new_all r c
    obtain ⟨v', H, e, hp, hr⟩ := takeB_get hn
    refine (At.call (us := #[.int .i64 10, .int .i64 1, .agg ⟨[.int .i64 r, .int .i64 c]⟩]) h e (fun φ => .cons (.int _ _) (.cons (.int _ _) (.cons (VRl.agg (.cons (.int _ _) (.cons (.int _ _) .nil))) .nil)))).mono fun e' w' he => ?_
    obtain ⟨u', g1, g2, _⟩ := he
    have hA : At W (SS (.ofNat i) (.ofNat j) 0) vC u' w' := g2.pick (K := K2) hp hr (keys2 _ _) (trS _ _ 0) (famS _ _ 0)
    obtain ⟨φ, hR, hv⟩ := hA
    cases hv with
    | ptr hX => exact ⟨_, g1, i, j, hi, hj, by omega, φ, hR, .ptr hX⟩
  · obtain ⟨i, j, hi, hj, hs, hA⟩ := h
    exact ⟨i, j, hi, hj, hs, hA.below hb⟩
  · have := mm_key (k := 0) (by omega) h
    rw [← stp_step s 0 (by omega)] at this
    exact this
  · have := mm_key (k := 1) (by omega) h
    rw [← stp_step s 1 (by omega)] at this
    exact this
  · have := mm_key (k := 2) (by omega) h
    rw [← stp_step s 2 (by omega)] at this
    exact this
  · obtain ⟨i, j', hi, hj', hs, φ, hR, _⟩ := h
    rcases hkb with hn | hkb
    · omega
    · rw [← hcell j hj]
      have hab : (ka.add j).block = ka.block := by unfold Addr.add; split <;> rfl
      simp only [World.cell?, hab, hR.keep ka.block hkb]
theorem marks_calls0 {W : World} (hl : Laid E0 H0 W) (r c : Int) :
    Calls Tryz.prog 12 #[.agg #[.int .i64 r, .int .i64 c], .slice none 0 0] W fun e w' => e = .returned (.bool true) ∧ Below W.heap.size W w' := by
  refine marks_walk0 (A0 := fun w => Laid E0 H0 w ∧ Below W.heap.size W w) (A4 := fun w => Below W.heap.size W w) (A1 := fun u w => At W HR1 vR u w) (M := MM W) r c W ⟨hl, Below.refl _ _⟩
    (fun w w' h hb => ⟨laid_below h.1 hb, h.2.trans (hb.mono h.2.size)⟩) (fun w h => ?_) (fun w h => ?_) (fun v w h => ?_) (fun s v w w' h hb => ?_) (fun s v w h => ?_) (fun s v w h => ?_) (fun s v w h => ?_) (fun s v w h => mm_mark h) (fun s v w h => mm_copy h)
  · have hR := rep0 first0 h.1
    refine callsIn_wide.1 ((k20.2 [] #[] H0 (.bool true) H0 _ _ w rfl hR .nil).mono fun e w' he => ?_)
    obtain ⟨u', ψ, g1, g2, g3, g4, g5⟩ := he
    have : u' = .bool true := by cases g4; rfl
    subst this
    have hb : Below w.heap.size w w' := ⟨g5.os, g5.tape, g5.out, g5.size, fun k hk => g5.keep k hk⟩
    exact ⟨g1, ⟨laid_below h.1 hb, h.2.trans (hb.mono h.2.size)⟩, hb⟩
  · have hR := rep0 first0 h.1
    obtain ⟨v, H, e, hp, hr⟩ := takeB_get rowsB_ok
    refine callsIn_wide.1 ((acall_with mixed envOk orc0 oMk_ok e hR (us := #[.string ⟨#[97, 98, 99, 32, 100, 101, 102, 13, 10, 103, 104, 105]⟩, .int .i64 10]) (.cons (.string _) (.cons (.int _ _) .nil))).mono fun e' w' he => ?_)
    obtain ⟨u', ψ, g1, g2, g3, g4, g5⟩ := he
    have hb : Below w.heap.size w w' := ⟨g5.os, g5.tape, g5.out, g5.size, fun k hk => g5.keep k hk⟩
    have h1 : Rep (POE E0) E0 (fun b => b < W.heap.size) W (φ0 E0) H0 w := by
      have hW := rep0 first0 hl
      exact hW.agree (fun X l e' => h.2.block _ (hW.inHeap e')) (fun b hS => h.2.block b hS) h.2.size h.2.os h.2.output h.2.tape
    have hA : At W H v u' w' := ⟨ψ, h1.unbase g5 (fun b hb' => Nat.lt_of_lt_of_le hb' h.2.size), g4⟩
    exact ⟨u', g1, hA.pick (K := K1) hp hr (keys1 _ _) tr1 rfl, hb⟩
  · obtain ⟨i, j, hi, hj, hn⟩ := new_all r c
    obtain ⟨v', H, e, hp, hr⟩ := takeB_get hn
    refine (At.call (us := #[.int .i64 10, .int .i64 1, .agg ⟨[.int .i64 r, .int .i64 c]⟩]) h e (fun φ => .cons (.int _ _) (.cons (.int _ _) (.cons (VRl.agg (.cons (.int _ _) (.cons (.int _ _) .nil))) .nil)))).mono fun e' w' he => ?_
    obtain ⟨u', g1, g2, _⟩ := he
    have hA : At W (SS (.ofNat i) (.ofNat j) 0) vC u' w' := g2.pick (K := K2) hp hr (keys2 _ _) (trS _ _ 0) (famS _ _ 0)
    obtain ⟨φ, hR, hv⟩ := hA
    cases hv with
    | ptr hX => exact ⟨_, g1, i, j, hi, hj, by omega, φ, hR, .ptr hX⟩
  · obtain ⟨i, j, hi, hj, hs, hA⟩ := h
    exact ⟨i, j, hi, hj, hs, hA.below hb⟩
  · have := mm_key (k := 0) (by omega) h
    rw [← stp_step s 0 (by omega)] at this
    exact this
  · have := mm_key (k := 1) (by omega) h
    rw [← stp_step s 1 (by omega)] at this
    exact this
  · have := mm_key (k := 2) (by omega) h
    rw [← stp_step s 2 (by omega)] at this
    exact this
end Go.Proofs
end


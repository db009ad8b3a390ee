/-
  A part of the proof (RaMarkW): an evaluator of the model's code with its proof, or facts of this program that it reckons. No condition.
-/
import Derived.Test.YtlpeihabbkgnbaaGreatDoorProg
import Derived.WalkKit
import Derived.ProofKit
import Derived.Below
import Derived.Deep.RegionWith
section
namespace Go.Proofs
open Go Go.RowKit
set_option maxRecDepth 100000
def stp (s k : Nat) : Nat := if k = 0 then (if s = 1 then 0 else 1) else if k = 1 then (if s = 2 then 0 else 2) else (if s = 3 then 1 else 3)
theorem box_kept {w w' : World} {r c : Int} (hb : Below (w.alloc (.cells #[.int .i64 r, .int .i64 c] 23)).heap.size (w.alloc (.cells #[.int .i64 r, .int .i64 c] 23)) w') :
    w.heap.size < w'.heap.size ∧ w'.cell? ⟨w.heap.size, 0, none⟩ = some (.int .i64 r) ∧ w'.cell? ⟨w.heap.size, 1, none⟩ = some (.int .i64 c) := by
  have h1 : w'.heap[w.heap.size]? = some (.cells #[.int .i64 r, .int .i64 c] 23) := by
    rw [hb.block _ (by simp)]
    exact (MapKept.heap_alloc w _).1
  refine ⟨?_, by simp [World.cell?, h1], by simp [World.cell?, h1]⟩
  have := hb.size; simp at this; omega
set_option maxHeartbeats 0 in
theorem marks_walk {A0 A4 : World → Prop} {A1 : Value → World → Prop} {M : Nat → Value → World → Prop} (r c : Int) (ka : Addr) (n cap : Nat) (ks : Nat → Int) (w0 : World) (h0 : A0 w0)
    (hs0 : ∀ w w', A0 w → Below w.heap.size w w' → A0 w')
    (hb : ∀ w, A0 w → Calls Tryz.prog 13 #[] w fun e w' => e = .returned (.bool true) ∧ A0 w' ∧ Below w.heap.size w w')
    (hr : ∀ w, A0 w → Calls Tryz.prog 14 #[.string ⟨#[97, 98, 99, 32, 100, 101, 102, 13, 10, 103, 104, 105]⟩, .int .i64 10] w fun e w' => ∃ v, e = .returned v ∧ A1 v w' ∧ Below w.heap.size w w')
    (hn : ∀ v w, A1 v w → Calls Tryz.prog 21 #[v, .int .i64 10, .int .i64 1, .agg #[.int .i64 r, .int .i64 c]] w fun e w' => ∃ b, e = .returned (.pointer (some b)) ∧ M 0 (.pointer (some b)) w')
    (hsM : ∀ s v w w', M s v w → Below w.heap.size w w' → M s v w')
    (hk0 : ∀ s v w, M s v w → Calls Tryz.prog 26 #[v, .int .i64 11] w fun e w' => ∃ x, e = .returned x ∧ M (stp s 0) v w')
    (hk1 : ∀ s v w, M s v w → Calls Tryz.prog 26 #[v, .int .i64 12] w fun e w' => ∃ x, e = .returned x ∧ M (stp s 1) v w')
    (hk2' : ∀ s v w, M s v w → Calls Tryz.prog 26 #[v, .int .i64 13] w fun e w' => ∃ x, e = .returned x ∧ M (stp s 2) v w')
    (hm : ∀ s v w, M s v w → Calls Tryz.prog 29 #[v] w fun e w' => ∃ x y : Int, e = .returned (.tuple #[.agg #[.int .i64 x, .int .i64 y], .int .i64 (s : Nat)]) ∧ M s v w')
    (hc : ∀ s v w, M s v w → Calls Tryz.prog 26 #[v, .int .i64 14] w fun e w' => ∃ t, e = .returned (.tuple #[.string t, .bool (!(s == 0))]) ∧ A4 w')
    (hkeys : ∀ s v w, M s v w → ∀ j, j < n → w.cell? (ka.add j) = some (.int .i64 (ks j))) :
    Calls Tryz.prog 12 #[.agg #[.int .i64 r, .int .i64 c], .slice (some ka) n cap] w0 fun e w' => e = .returned (.bool true) ∧ A4 w' := by
  go_enter Tryz.func12, Tryz.ntmps12
  go_wp2_with (first
    | (go_at_call 13; refine (hb _ (hs0 _ _ h0 ((Below.refl _ _).alloc (Nat.le_refl _) _))).mono ?_; rintro e w1 ⟨rfl, h1, hB1⟩; obtain ⟨hz1, c0, c1⟩ := box_kept hB1))
  go_region_with (first
    | (go_at_call 14; refine (hr _ (hs0 _ _ h1 (Below.refl _ _).drew)).mono ?_; rintro e w2 ⟨v, rfl, h2, hB2⟩; have d0 : w2.cell? ⟨w0.heap.size, 0, none⟩ = some (.int .i64 r) := (hB2.cell (p := ⟨w0.heap.size, 0, none⟩) hz1).trans c0; have d1 : w2.cell? ⟨w0.heap.size, 1, none⟩ = some (.int .i64 c) := (hB2.cell (p := ⟨w0.heap.size, 1, none⟩) hz1).trans c1)
    | (go_at_call 21; refine (hn _ _ h2).mono ?_; rintro e w3 ⟨b, rfl, h3⟩))
  all_goals (try go_wp2)
  all_goals clear hb hr hn hs0 c0 c1 d0 d1 hB1 hB2 hz1
  all_goals (
    go_loopw [7, 8] (fun kd i wr => ∃ s k : Nat, s < 4 ∧ k ≤ 20 ∧ kd = .int .i64 s ∧ i = .int .i64 k ∧ M s (.pointer (some b)) wr)
      (fun _ i _ => 20 - (intOf i).toNat)
    case atStart => exact ⟨0, 0, by omega, by omega, rfl, rfl, h3⟩
    case round =>
      obtain ⟨s, k, hs, hk20, rfl, rfl, hM⟩ := hrel
      by_cases hkn : k < n ∧ k < 20
      · obtain ⟨hkn, hk2⟩ := hkn
        have hcell := hkeys _ _ _ hM k hkn
        rcases (show s = 0 ∨ s = 1 ∨ s = 2 ∨ s = 3 by omega) with rfl | rfl | rfl | rfl
        · clear hkeys hc h3
          go_wp2_with (first | (go_at_call 26; fail) | (go_at_call 29; fail))
          · refine (hk0 _ _ _ hM).mono ?_
            rintro e w4 ⟨x4, rfl, h4⟩
            replace h4 : M 1 (.pointer (some b)) w4 := h4
            go_wp2_with (go_at_call 29; refine (hm _ _ _ h4).mono ?_; rintro e w5 ⟨x5, y5, rfl, h5⟩)
            exact ⟨⟨1, k + 1, by omega, by omega, rfl, by simp, hsM _ _ _ _ h5 ((Below.refl _ _).alloc (Nat.le_refl _) _)⟩, by simp only [intOf]; omega⟩
          · refine (hk1 _ _ _ hM).mono ?_
            rintro e w4 ⟨x4, rfl, h4⟩
            replace h4 : M 2 (.pointer (some b)) w4 := h4
            go_wp2_with (go_at_call 29; refine (hm _ _ _ h4).mono ?_; rintro e w5 ⟨x5, y5, rfl, h5⟩)
            exact ⟨⟨2, k + 1, by omega, by omega, rfl, by simp, hsM _ _ _ _ h5 ((Below.refl _ _).alloc (Nat.le_refl _) _)⟩, by simp only [intOf]; omega⟩
          · refine (hk2' _ _ _ hM).mono ?_
            rintro e w4 ⟨x4, rfl, h4⟩
            replace h4 : M 3 (.pointer (some b)) w4 := h4
            go_wp2_with (go_at_call 29; refine (hm _ _ _ h4).mono ?_; rintro e w5 ⟨x5, y5, rfl, h5⟩)
            exact ⟨⟨3, k + 1, by omega, by omega, rfl, by simp, hsM _ _ _ _ h5 ((Below.refl _ _).alloc (Nat.le_refl _) _)⟩, by simp only [intOf]; omega⟩
        · clear hkeys hc h3
          go_wp2_with (first | (go_at_call 26; fail) | (go_at_call 29; fail))
          · refine (hk0 _ _ _ hM).mono ?_
            rintro e w4 ⟨x4, rfl, h4⟩
            replace h4 : M 0 (.pointer (some b)) w4 := h4
            go_wp2_with (go_at_call 29; refine (hm _ _ _ h4).mono ?_; rintro e w5 ⟨x5, y5, rfl, h5⟩)
            exact ⟨⟨0, k + 1, by omega, by omega, rfl, by simp, hsM _ _ _ _ h5 ((Below.refl _ _).alloc (Nat.le_refl _) _)⟩, by simp only [intOf]; omega⟩
          · refine (hk1 _ _ _ hM).mono ?_
            rintro e w4 ⟨x4, rfl, h4⟩
            replace h4 : M 2 (.pointer (some b)) w4 := h4
            go_wp2_with (go_at_call 29; refine (hm _ _ _ h4).mono ?_; rintro e w5 ⟨x5, y5, rfl, h5⟩)
            exact ⟨⟨2, k + 1, by omega, by omega, rfl, by simp, hsM _ _ _ _ h5 ((Below.refl _ _).alloc (Nat.le_refl _) _)⟩, by simp only [intOf]; omega⟩
          · refine (hk2' _ _ _ hM).mono ?_
            rintro e w4 ⟨x4, rfl, h4⟩
            replace h4 : M 3 (.pointer (some b)) w4 := h4
            go_wp2_with (go_at_call 29; refine (hm _ _ _ h4).mono ?_; rintro e w5 ⟨x5, y5, rfl, h5⟩)
            exact ⟨⟨3, k + 1, by omega, by omega, rfl, by simp, hsM _ _ _ _ h5 ((Below.refl _ _).alloc (Nat.le_refl _) _)⟩, by simp only [intOf]; omega⟩
        · clear hkeys hc h3
          go_wp2_with (first | (go_at_call 26; fail) | (go_at_call 29; fail))
          · refine (hk0 _ _ _ hM).mono ?_
            rintro e w4 ⟨x4, rfl, h4⟩
            replace h4 : M 1 (.pointer (some b)) w4 := h4
            go_wp2_with (go_at_call 29; refine (hm _ _ _ h4).mono ?_; rintro e w5 ⟨x5, y5, rfl, h5⟩)
            exact ⟨⟨1, k + 1, by omega, by omega, rfl, by simp, hsM _ _ _ _ h5 ((Below.refl _ _).alloc (Nat.le_refl _) _)⟩, by simp only [intOf]; omega⟩
          · refine (hk1 _ _ _ hM).mono ?_
            rintro e w4 ⟨x4, rfl, h4⟩
            replace h4 : M 0 (.pointer (some b)) w4 := h4
            go_wp2_with (go_at_call 29; refine (hm _ _ _ h4).mono ?_; rintro e w5 ⟨x5, y5, rfl, h5⟩)
            exact ⟨⟨0, k + 1, by omega, by omega, rfl, by simp, hsM _ _ _ _ h5 ((Below.refl _ _).alloc (Nat.le_refl _) _)⟩, by simp only [intOf]; omega⟩
          · refine (hk2' _ _ _ hM).mono ?_
            rintro e w4 ⟨x4, rfl, h4⟩
            replace h4 : M 3 (.pointer (some b)) w4 := h4
            go_wp2_with (go_at_call 29; refine (hm _ _ _ h4).mono ?_; rintro e w5 ⟨x5, y5, rfl, h5⟩)
            exact ⟨⟨3, k + 1, by omega, by omega, rfl, by simp, hsM _ _ _ _ h5 ((Below.refl _ _).alloc (Nat.le_refl _) _)⟩, by simp only [intOf]; omega⟩
        · clear hkeys hc h3
          go_wp2_with (first | (go_at_call 26; fail) | (go_at_call 29; fail))
          · refine (hk0 _ _ _ hM).mono ?_
            rintro e w4 ⟨x4, rfl, h4⟩
            replace h4 : M 1 (.pointer (some b)) w4 := h4
            go_wp2_with (go_at_call 29; refine (hm _ _ _ h4).mono ?_; rintro e w5 ⟨x5, y5, rfl, h5⟩)
            exact ⟨⟨1, k + 1, by omega, by omega, rfl, by simp, hsM _ _ _ _ h5 ((Below.refl _ _).alloc (Nat.le_refl _) _)⟩, by simp only [intOf]; omega⟩
          · refine (hk1 _ _ _ hM).mono ?_
            rintro e w4 ⟨x4, rfl, h4⟩
            replace h4 : M 2 (.pointer (some b)) w4 := h4
            go_wp2_with (go_at_call 29; refine (hm _ _ _ h4).mono ?_; rintro e w5 ⟨x5, y5, rfl, h5⟩)
            exact ⟨⟨2, k + 1, by omega, by omega, rfl, by simp, hsM _ _ _ _ h5 ((Below.refl _ _).alloc (Nat.le_refl _) _)⟩, by simp only [intOf]; omega⟩
          · refine (hk2' _ _ _ hM).mono ?_
            rintro e w4 ⟨x4, rfl, h4⟩
            replace h4 : M 1 (.pointer (some b)) w4 := h4
            go_wp2_with (go_at_call 29; refine (hm _ _ _ h4).mono ?_; rintro e w5 ⟨x5, y5, rfl, h5⟩)
            exact ⟨⟨1, k + 1, by omega, by omega, rfl, by simp, hsM _ _ _ _ h5 ((Below.refl _ _).alloc (Nat.le_refl _) _)⟩, by simp only [intOf]; omega⟩
      · clear hkeys
        rcases (show s = 0 ∨ s = 1 ∨ s = 2 ∨ s = 3 by omega) with rfl | rfl | rfl | rfl
        · by_cases hkn2 : k < n
          · obtain rfl : k = 20 := by omega
            go_wp2_with (go_at_call 26; refine (hc _ _ _ hM).mono ?_; rintro e w4 ⟨t, rfl, h4⟩)
            go_ret
            exact ⟨rfl, h4⟩
          · go_wp2_with (go_at_call 26; refine (hc _ _ _ hM).mono ?_; rintro e w4 ⟨t, rfl, h4⟩)
            go_ret
            exact ⟨rfl, h4⟩
        · by_cases hkn2 : k < n
          · obtain rfl : k = 20 := by omega
            go_wp2_with (go_at_call 26; refine (hc _ _ _ hM).mono ?_; rintro e w4 ⟨t, rfl, h4⟩)
            go_ret
            exact ⟨rfl, h4⟩
          · go_wp2_with (go_at_call 26; refine (hc _ _ _ hM).mono ?_; rintro e w4 ⟨t, rfl, h4⟩)
            go_ret
            exact ⟨rfl, h4⟩
        · by_cases hkn2 : k < n
          · obtain rfl : k = 20 := by omega
            go_wp2_with (go_at_call 26; refine (hc _ _ _ hM).mono ?_; rintro e w4 ⟨t, rfl, h4⟩)
            go_ret
            exact ⟨rfl, h4⟩
          · go_wp2_with (go_at_call 26; refine (hc _ _ _ hM).mono ?_; rintro e w4 ⟨t, rfl, h4⟩)
            go_ret
            exact ⟨rfl, h4⟩
        · by_cases hkn2 : k < n
          · obtain rfl : k = 20 := by omega
            go_wp2_with (go_at_call 26; refine (hc _ _ _ hM).mono ?_; rintro e w4 ⟨t, rfl, h4⟩)
            go_ret
            exact ⟨rfl, h4⟩
          · go_wp2_with (go_at_call 26; refine (hc _ _ _ hM).mono ?_; rintro e w4 ⟨t, rfl, h4⟩)
            go_ret
            exact ⟨rfl, h4⟩)
end Go.Proofs
end


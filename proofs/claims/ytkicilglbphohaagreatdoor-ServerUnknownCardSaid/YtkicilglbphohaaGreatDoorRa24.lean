/-
  A part of the proof (RaUnkA, RaUnkB, RaUnkC, RaUnkK, RaUnkD): an evaluator of the model's code with its proof, or facts of this program that it reckons. No condition.
-/
import Derived.Test.YtkicilglbphohaaGreatDoorShelf
import Derived.WalkKit
import Derived.ProofKit
import Derived.Below
import Derived.Test.YtkicilglbphohaaGreatDoorRa1
import Derived.Lib.SplitLaws
import Derived.Lib.IndexBytes
import Derived.Test.YtkicilglbphohaaGreatDoorRa6
import Derived.Test.YtkicilglbphohaaGreatDoorRa16
section
namespace Go.Proofs
open Go Go.RowKit
set_option maxRecDepth 100000
/-- none of the words of copy mode -/
structure NoMode (t : ByteArray) : Prop where
  p1 : Lib.hasPrefix t.data.toList [115, 101, 97, 114, 99, 104, 32] = false
  p2 : Lib.hasPrefix t.data.toList [114, 115, 101, 97, 114, 99, 104, 32] = false
  n1 : (t.toList == [99, 111, 112, 121, 32, 118, 105]) = false
  n2 : (t.toList == [99, 111, 112, 121, 32, 101, 109, 97, 99, 115]) = false
  n3 : (t.toList == [113, 117, 105, 116]) = false
  n4 : (t.toList == [119, 104, 101, 114, 101]) = false
theorem mode_walk (a : Addr) (t : ByteArray) (w : World) (h : NoMode t) :
    Calls Tryz.prog 33 #[.pointer (some a), .string t] w fun e w' => e = .returned (.tuple #[.agg #[.int .i64 0, .string ⟨#[]⟩], .bool false]) ∧ Below w.heap.size w w' := by
  obtain ⟨p1, p2, n1, n2, n3, n4⟩ := h
  go_enter Tryz.func33, Tryz.ntmps33
  go_wp2_with (go_at_call 50; refine (Tryz.strings_CutPrefix _ _ _).mono ?_; rintro e w' ⟨rfl, rfl⟩)
  try simp only [Exit.inBlock, Exit.then]
  refine bodyPost_ret (v := .tuple #[.agg #[.int .i64 0, .string ⟨#[]⟩], .bool false]) ?_ rfl ?_
  · have hres : Tryz.f33.results = #[.cell 4 28, .tmp 5] := by kernel_rfl
    simp only [results, hres]
    go_simp
  · refine ⟨rfl, ?_⟩
    repeat' (first | exact Below.refl _ _ | refine Below.setCell ?_ ?_ _ | refine Below.alloc ?_ ?_ _)
    all_goals first | exact Nat.le_refl _ | (simp; done)
/-- a command that there is not -/
structure NoWord (t : ByteArray) : Prop where
  size : t.size < 4294967281
  m : NoMode t
  k1 : (t.toList == [98, 117, 102, 102, 101, 114, 115]) = false
  k2 : (t.toList == [99, 97, 112, 116, 117, 114, 101]) = false
  k3 : (t.toList == [99, 97, 112, 116, 117, 114, 101, 32, 114, 111, 119, 115]) = false
  k4 : (t.toList == [101, 120, 112, 111, 114, 116]) = false
theorem after_mode {w w' : World} {m : Int} (hb : Below (w.alloc (.cells #[.int .i64 0, .string ⟨#[]⟩] 28)).heap.size (w.alloc (.cells #[.int .i64 0, .string ⟨#[]⟩] 28)) w') (hm : w.cell? ⟨0, 0, none⟩ = some (.int .i64 m)) :
    w.heap.size < w'.heap.size ∧ w'.cell? ⟨w.heap.size, 0, none⟩ = some (.int .i64 0) ∧ w'.cell? ⟨w.heap.size, 1, none⟩ = some (.string ⟨#[]⟩) ∧ w'.frozen? ⟨w.heap.size, 0, none⟩ = false ∧ w'.frozen? ⟨w.heap.size, 1, none⟩ = false ∧ w'.cell? ⟨0, 0, none⟩ = some (.int .i64 m) := by
  have h1 : w'.heap[w.heap.size]? = some (.cells #[.int .i64 0, .string ⟨#[]⟩] 28) := by
    rw [hb.block _ (by simp)]
    exact (MapKept.heap_alloc w _).1
  have hlt : 0 < w.heap.size := by
    rcases Nat.eq_zero_or_pos w.heap.size with h0 | h0
    · simp [World.cell?, h0] at hm
    · exact h0
  have h0 : w'.heap[0]? = w.heap[0]? := by
    rw [hb.block _ (by simp)]
    exact Below.heap_alloc _ _ _ hlt
  refine ⟨?_, by simp [World.cell?, h1], by simp [World.cell?, h1], by simp [World.frozen?, h1], by simp [World.frozen?, h1], ?_⟩
  · have := hb.size; simp at this; omega
  · rw [← hm]; simp only [World.cell?, h0]
theorem cmd_walk0 (a : Addr) (t h : ByteArray) (tl : List ByteArray) (m : Int) (w : World) (hw : NoWord t) (hm : w.cell? ⟨0, 0, none⟩ = some (.int .i64 m)) (hl : Lib.splitB ⟨#[32]⟩ 0 (Lib.countB t ⟨#[32]⟩) t = h :: tl)
    (f1 : (h.toList == [112, 97, 115, 116, 101]) = false) (f2 : (h.toList == [115, 101, 116]) = false) (f3 : (h.toList == [100, 114, 111, 112]) = false) (f4 : (h.toList == [101, 120, 112, 111, 114, 116]) = false) (f5 : (h.toList == [108, 105, 109, 105, 116]) = false)  :
    Calls Tryz.prog 12 #[.pointer (some a), .string t] w fun e w' => e = .returned (.agg #[.int .i64 9, .string ⟨#[]⟩]) ∧ Below w.heap.size w w' := by
  obtain ⟨sz, hM, k1, k2, k3, k4⟩ := hw
  have hlt : 0 < w.heap.size := by
    rcases Nat.eq_zero_or_pos w.heap.size with h0 | h0
    · simp [World.cell?, h0] at hm
    · exact h0
  generalize hc : Lib.countB t ⟨#[32]⟩ = c at *
  go_enter Tryz.func12, Tryz.ntmps12
  go_wp2_with (first
    | (go_at_call 33; refine (mode_walk _ _ _ hM).mono ?_; rintro e w' ⟨rfl, hb⟩; obtain ⟨hz, g0, g1, g2, g3, hm'⟩ := after_mode hb hm)
    | (go_at_call 34; refine (Tryz.strings_Split _ _ m _ sz ?_ (by decide)).mono ?_ <;> first | (rintro e w' ⟨rfl, rfl⟩; simp only [hc, hl]) | skip))
  · exact (World.cell?_of_block (Below.heap_alloc _ _ 0 (by omega))).trans hm'
  try simp only [Exit.inBlock, Exit.then]
  refine bodyPost_ret (v := .agg #[.int .i64 9, .string ⟨#[]⟩]) ?_ rfl ?_
  · have hres : Tryz.f12.results = #[.cell 4 28] := by kernel_rfl
    simp only [results, hres]
    go_simp
  · refine ⟨rfl, ?_⟩
    have h9 : Below w.heap.size w w' := ((Below.refl _ w).alloc (Nat.le_refl _) _).trans (hb.mono (by simp))
    repeat' (first | exact h9 | refine Below.setCell ?_ ?_ _ | refine Below.alloc ?_ ?_ _)
    all_goals first | exact Nat.le_refl _ | exact Nat.le_of_lt hz | (simp; omega)
theorem cmd_walk1 (a : Addr) (t h : ByteArray) (tl : List ByteArray) (m : Int) (w : World) (hw : NoWord t) (hm : w.cell? ⟨0, 0, none⟩ = some (.int .i64 m)) (hl : Lib.splitB ⟨#[32]⟩ 0 (Lib.countB t ⟨#[32]⟩) t = h :: tl)
    (f1 : (h.toList == [112, 97, 115, 116, 101]) = true) (f2 : (h.toList == [115, 101, 116]) = false) (f3 : (h.toList == [100, 114, 111, 112]) = false) (f4 : (h.toList == [101, 120, 112, 111, 114, 116]) = false) (f5 : (h.toList == [108, 105, 109, 105, 116]) = false) (hn : 2 ≤ Lib.countB t ⟨#[32]⟩) :
    Calls Tryz.prog 12 #[.pointer (some a), .string t] w fun e w' => e = .returned (.agg #[.int .i64 9, .string ⟨#[]⟩]) ∧ Below w.heap.size w w' := by
  obtain ⟨sz, hM, k1, k2, k3, k4⟩ := hw
  have hlt : 0 < w.heap.size := by
    rcases Nat.eq_zero_or_pos w.heap.size with h0 | h0
    · simp [World.cell?, h0] at hm
    · exact h0
  generalize hc : Lib.countB t ⟨#[32]⟩ = c at *
  go_enter Tryz.func12, Tryz.ntmps12
  go_wp2_with (first
    | (go_at_call 33; refine (mode_walk _ _ _ hM).mono ?_; rintro e w' ⟨rfl, hb⟩; obtain ⟨hz, g0, g1, g2, g3, hm'⟩ := after_mode hb hm)
    | (go_at_call 34; refine (Tryz.strings_Split _ _ m _ sz ?_ (by decide)).mono ?_ <;> first | (rintro e w' ⟨rfl, rfl⟩; simp only [hc, hl]) | skip))
  · exact (World.cell?_of_block (Below.heap_alloc _ _ 0 (by omega))).trans hm'
  try simp only [Exit.inBlock, Exit.then]
  refine bodyPost_ret (v := .agg #[.int .i64 9, .string ⟨#[]⟩]) ?_ rfl ?_
  · have hres : Tryz.f12.results = #[.cell 4 28] := by kernel_rfl
    simp only [results, hres]
    go_simp
  · refine ⟨rfl, ?_⟩
    have h9 : Below w.heap.size w w' := ((Below.refl _ w).alloc (Nat.le_refl _) _).trans (hb.mono (by simp))
    repeat' (first | exact h9 | refine Below.setCell ?_ ?_ _ | refine Below.alloc ?_ ?_ _)
    all_goals first | exact Nat.le_refl _ | exact Nat.le_of_lt hz | (simp; omega)
theorem cmd_walk2 (a : Addr) (t h : ByteArray) (tl : List ByteArray) (m : Int) (w : World) (hw : NoWord t) (hm : w.cell? ⟨0, 0, none⟩ = some (.int .i64 m)) (hl : Lib.splitB ⟨#[32]⟩ 0 (Lib.countB t ⟨#[32]⟩) t = h :: tl)
    (f1 : (h.toList == [112, 97, 115, 116, 101]) = false) (f2 : (h.toList == [115, 101, 116]) = true) (f3 : (h.toList == [100, 114, 111, 112]) = false) (f4 : (h.toList == [101, 120, 112, 111, 114, 116]) = false) (f5 : (h.toList == [108, 105, 109, 105, 116]) = false) (hn : Lib.countB t ⟨#[32]⟩ ≤ 1) :
    Calls Tryz.prog 12 #[.pointer (some a), .string t] w fun e w' => e = .returned (.agg #[.int .i64 9, .string ⟨#[]⟩]) ∧ Below w.heap.size w w' := by
  obtain ⟨sz, hM, k1, k2, k3, k4⟩ := hw
  have hlt : 0 < w.heap.size := by
    rcases Nat.eq_zero_or_pos w.heap.size with h0 | h0
    · simp [World.cell?, h0] at hm
    · exact h0
  generalize hc : Lib.countB t ⟨#[32]⟩ = c at *
  go_enter Tryz.func12, Tryz.ntmps12
  go_wp2_with (first
    | (go_at_call 33; refine (mode_walk _ _ _ hM).mono ?_; rintro e w' ⟨rfl, hb⟩; obtain ⟨hz, g0, g1, g2, g3, hm'⟩ := after_mode hb hm)
    | (go_at_call 34; refine (Tryz.strings_Split _ _ m _ sz ?_ (by decide)).mono ?_ <;> first | (rintro e w' ⟨rfl, rfl⟩; simp only [hc, hl]) | skip))
  · exact (World.cell?_of_block (Below.heap_alloc _ _ 0 (by omega))).trans hm'
  try simp only [Exit.inBlock, Exit.then]
  refine bodyPost_ret (v := .agg #[.int .i64 9, .string ⟨#[]⟩]) ?_ rfl ?_
  · have hres : Tryz.f12.results = #[.cell 4 28] := by kernel_rfl
    simp only [results, hres]
    go_simp
  · refine ⟨rfl, ?_⟩
    have h9 : Below w.heap.size w w' := ((Below.refl _ w).alloc (Nat.le_refl _) _).trans (hb.mono (by simp))
    repeat' (first | exact h9 | refine Below.setCell ?_ ?_ _ | refine Below.alloc ?_ ?_ _)
    all_goals first | exact Nat.le_refl _ | exact Nat.le_of_lt hz | (simp; omega)
theorem cmd_walk3 (a : Addr) (t h : ByteArray) (tl : List ByteArray) (m : Int) (w : World) (hw : NoWord t) (hm : w.cell? ⟨0, 0, none⟩ = some (.int .i64 m)) (hl : Lib.splitB ⟨#[32]⟩ 0 (Lib.countB t ⟨#[32]⟩) t = h :: tl)
    (f1 : (h.toList == [112, 97, 115, 116, 101]) = false) (f2 : (h.toList == [115, 101, 116]) = false) (f3 : (h.toList == [100, 114, 111, 112]) = true) (f4 : (h.toList == [101, 120, 112, 111, 114, 116]) = false) (f5 : (h.toList == [108, 105, 109, 105, 116]) = false) (hn : Lib.countB t ⟨#[32]⟩ ≠ 1) :
    Calls Tryz.prog 12 #[.pointer (some a), .string t] w fun e w' => e = .returned (.agg #[.int .i64 9, .string ⟨#[]⟩]) ∧ Below w.heap.size w w' := by
  obtain ⟨sz, hM, k1, k2, k3, k4⟩ := hw
  have hlt : 0 < w.heap.size := by
    rcases Nat.eq_zero_or_pos w.heap.size with h0 | h0
    · simp [World.cell?, h0] at hm
    · exact h0
  generalize hc : Lib.countB t ⟨#[32]⟩ = c at *
  go_enter Tryz.func12, Tryz.ntmps12
  go_wp2_with (first
    | (go_at_call 33; refine (mode_walk _ _ _ hM).mono ?_; rintro e w' ⟨rfl, hb⟩; obtain ⟨hz, g0, g1, g2, g3, hm'⟩ := after_mode hb hm)
    | (go_at_call 34; refine (Tryz.strings_Split _ _ m _ sz ?_ (by decide)).mono ?_ <;> first | (rintro e w' ⟨rfl, rfl⟩; simp only [hc, hl]) | skip))
  · exact (World.cell?_of_block (Below.heap_alloc _ _ 0 (by omega))).trans hm'
  try simp only [Exit.inBlock, Exit.then]
  refine bodyPost_ret (v := .agg #[.int .i64 9, .string ⟨#[]⟩]) ?_ rfl ?_
  · have hres : Tryz.f12.results = #[.cell 4 28] := by kernel_rfl
    simp only [results, hres]
    go_simp
  · refine ⟨rfl, ?_⟩
    have h9 : Below w.heap.size w w' := ((Below.refl _ w).alloc (Nat.le_refl _) _).trans (hb.mono (by simp))
    repeat' (first | exact h9 | refine Below.setCell ?_ ?_ _ | refine Below.alloc ?_ ?_ _)
    all_goals first | exact Nat.le_refl _ | exact Nat.le_of_lt hz | (simp; omega)
theorem cmd_walk4 (a : Addr) (t h : ByteArray) (tl : List ByteArray) (m : Int) (w : World) (hw : NoWord t) (hm : w.cell? ⟨0, 0, none⟩ = some (.int .i64 m)) (hl : Lib.splitB ⟨#[32]⟩ 0 (Lib.countB t ⟨#[32]⟩) t = h :: tl)
    (f1 : (h.toList == [112, 97, 115, 116, 101]) = false) (f2 : (h.toList == [115, 101, 116]) = false) (f3 : (h.toList == [100, 114, 111, 112]) = false) (f4 : (h.toList == [101, 120, 112, 111, 114, 116]) = true) (f5 : (h.toList == [108, 105, 109, 105, 116]) = false) (hn : Lib.countB t ⟨#[32]⟩ ≠ 1) :
    Calls Tryz.prog 12 #[.pointer (some a), .string t] w fun e w' => e = .returned (.agg #[.int .i64 9, .string ⟨#[]⟩]) ∧ Below w.heap.size w w' := by
  obtain ⟨sz, hM, k1, k2, k3, k4⟩ := hw
  have hlt : 0 < w.heap.size := by
    rcases Nat.eq_zero_or_pos w.heap.size with h0 | h0
    · simp [World.cell?, h0] at hm
    · exact h0
  generalize hc : Lib.countB t ⟨#[32]⟩ = c at *
  go_enter Tryz.func12, Tryz.ntmps12
  go_wp2_with (first
    | (go_at_call 33; refine (mode_walk _ _ _ hM).mono ?_; rintro e w' ⟨rfl, hb⟩; obtain ⟨hz, g0, g1, g2, g3, hm'⟩ := after_mode hb hm)
    | (go_at_call 34; refine (Tryz.strings_Split _ _ m _ sz ?_ (by decide)).mono ?_ <;> first | (rintro e w' ⟨rfl, rfl⟩; simp only [hc, hl]) | skip))
  · exact (World.cell?_of_block (Below.heap_alloc _ _ 0 (by omega))).trans hm'
  try simp only [Exit.inBlock, Exit.then]
  refine bodyPost_ret (v := .agg #[.int .i64 9, .string ⟨#[]⟩]) ?_ rfl ?_
  · have hres : Tryz.f12.results = #[.cell 4 28] := by kernel_rfl
    simp only [results, hres]
    go_simp
  · refine ⟨rfl, ?_⟩
    have h9 : Below w.heap.size w w' := ((Below.refl _ w).alloc (Nat.le_refl _) _).trans (hb.mono (by simp))
    repeat' (first | exact h9 | refine Below.setCell ?_ ?_ _ | refine Below.alloc ?_ ?_ _)
    all_goals first | exact Nat.le_refl _ | exact Nat.le_of_lt hz | (simp; omega)
theorem cmd_walk5 (a : Addr) (t h : ByteArray) (tl : List ByteArray) (m : Int) (w : World) (hw : NoWord t) (hm : w.cell? ⟨0, 0, none⟩ = some (.int .i64 m)) (hl : Lib.splitB ⟨#[32]⟩ 0 (Lib.countB t ⟨#[32]⟩) t = h :: tl)
    (f1 : (h.toList == [112, 97, 115, 116, 101]) = false) (f2 : (h.toList == [115, 101, 116]) = false) (f3 : (h.toList == [100, 114, 111, 112]) = false) (f4 : (h.toList == [101, 120, 112, 111, 114, 116]) = false) (f5 : (h.toList == [108, 105, 109, 105, 116]) = true) (hn : Lib.countB t ⟨#[32]⟩ ≠ 1) :
    Calls Tryz.prog 12 #[.pointer (some a), .string t] w fun e w' => e = .returned (.agg #[.int .i64 9, .string ⟨#[]⟩]) ∧ Below w.heap.size w w' := by
  obtain ⟨sz, hM, k1, k2, k3, k4⟩ := hw
  have hlt : 0 < w.heap.size := by
    rcases Nat.eq_zero_or_pos w.heap.size with h0 | h0
    · simp [World.cell?, h0] at hm
    · exact h0
  generalize hc : Lib.countB t ⟨#[32]⟩ = c at *
  go_enter Tryz.func12, Tryz.ntmps12
  go_wp2_with (first
    | (go_at_call 33; refine (mode_walk _ _ _ hM).mono ?_; rintro e w' ⟨rfl, hb⟩; obtain ⟨hz, g0, g1, g2, g3, hm'⟩ := after_mode hb hm)
    | (go_at_call 34; refine (Tryz.strings_Split _ _ m _ sz ?_ (by decide)).mono ?_ <;> first | (rintro e w' ⟨rfl, rfl⟩; simp only [hc, hl]) | skip))
  · exact (World.cell?_of_block (Below.heap_alloc _ _ 0 (by omega))).trans hm'
  try simp only [Exit.inBlock, Exit.then]
  refine bodyPost_ret (v := .agg #[.int .i64 9, .string ⟨#[]⟩]) ?_ rfl ?_
  · have hres : Tryz.f12.results = #[.cell 4 28] := by kernel_rfl
    simp only [results, hres]
    go_simp
  · refine ⟨rfl, ?_⟩
    have h9 : Below w.heap.size w w' := ((Below.refl _ w).alloc (Nat.le_refl _) _).trans (hb.mono (by simp))
    repeat' (first | exact h9 | refine Below.setCell ?_ ?_ _ | refine Below.alloc ?_ ?_ _)
    all_goals first | exact Nat.le_refl _ | exact Nat.le_of_lt hz | (simp; omega)
end Go.Proofs
end

section
namespace Go.Proofs
open Go Go.RowKit
set_option maxRecDepth 100000
theorem toList_eq (t : ByteArray) : t.toList = t.data.toList := Go.Ra.toList_data t
theorem indexByte_word : ∀ (w rest : List UInt8), w.all (fun b => b != 32) = true → Lib.indexByte (w ++ 32 :: rest) 32 = (w.length : Int)
  | [], rest, _ => by simp [Lib.indexByte]
  | b :: w, rest, h => by
    simp only [List.all_cons, Bool.and_eq_true] at h
    have hb : (b == 32) = false := by simpa using h.1
    have ih := indexByte_word w rest h.2
    simp only [List.cons_append, Lib.indexByte, hb, ih]
    have h0 : ¬ ((w.length : Int) == -1) = true := by simp <;> omega
    simp [h0]
theorem indexByte_no : ∀ (w : List UInt8), w.all (fun b => b != 32) = true → Lib.indexByte w 32 = -1
  | [], _ => rfl
  | b :: w, h => by
    simp only [List.all_cons, Bool.and_eq_true] at h
    have hb : (b == 32) = false := by simpa using h.1
    have ih := indexByte_no w h.2
    simp [Lib.indexByte, hb, ih]
theorem countB_data (t : ByteArray) : Lib.countB t ⟨#[32]⟩ = t.data.toList.count 32 := Lib.count_one 32 _
theorem split_word (t : ByteArray) (w rest : List UInt8) (ht : t.data.toList = w ++ 32 :: rest) (hw : w.all (fun b => b != 32) = true) :
    ∃ h tl, Lib.splitB ⟨#[32]⟩ 0 (Lib.countB t ⟨#[32]⟩) t = h :: tl ∧ h.data.toList = w := by
  have hi : Lib.indexB t ⟨#[32]⟩ = (w.length : Int) := by
    show Lib.index t.data.toList [32] = _
    rw [Lib.index_one, ht, indexByte_word w rest hw]
  rw [Lib.countB_hit t ⟨#[32]⟩ w.length (by decide) hi, Nat.add_comm 1, Lib.splitB_hit _ _ _ _ _ hi]
  exact ⟨_, _, rfl, by rw [Lib.extract_from_zero, ht]; simp⟩
theorem split_no (t : ByteArray) (hw : t.data.toList.all (fun b => b != 32) = true) : Lib.splitB ⟨#[32]⟩ 0 (Lib.countB t ⟨#[32]⟩) t = [t] := by
  have hi : Lib.indexB t ⟨#[32]⟩ = -1 := by
    show Lib.index t.data.toList [32] = _
    rw [Lib.index_one, indexByte_no _ hw]
  exact Lib.splitB_miss _ _ _ _ hi

/-- the command is refused as unknown -/
def Cmd (t : ByteArray) : Prop := ∀ (a : Addr) (m : Int) (w : World), w.cell? ⟨0, 0, none⟩ = some (.int .i64 m) →
  Calls Tryz.prog 12 #[.pointer (some a), .string t] w fun e w' => e = .returned (.agg #[.int .i64 9, .string ⟨#[]⟩]) ∧ Below w.heap.size w w'
def noneOf (w : List UInt8) : Bool := !(w == [112, 97, 115, 116, 101]) && !(w == [115, 101, 116]) && !(w == [100, 114, 111, 112]) && !(w == [101, 120, 112, 111, 114, 116]) && !(w == [108, 105, 109, 105, 116])
theorem cmd_word {t : ByteArray} (hw : NoWord t) (w rest : List UInt8) (ht : t.data.toList = w ++ 32 :: rest) (hs : w.all (fun b => b != 32) = true) (hn : noneOf w = true) : Cmd t := by
  obtain ⟨h, tl, hl, hd⟩ := split_word t w rest ht hs
  simp only [noneOf, Bool.and_eq_true, Bool.not_eq_true'] at hn
  obtain ⟨⟨⟨⟨f1, f2⟩, f3⟩, f4⟩, f5⟩ := hn
  intro a m w0 hm
  exact cmd_walk0 a t h tl m w0 hw hm hl (by rw [toList_eq, hd]; exact f1) (by rw [toList_eq, hd]; exact f2) (by rw [toList_eq, hd]; exact f3) (by rw [toList_eq, hd]; exact f4) (by rw [toList_eq, hd]; exact f5)
theorem cmd_only {t : ByteArray} (hw : NoWord t) (hs : t.data.toList.all (fun b => b != 32) = true) (hn : noneOf t.data.toList = true) : Cmd t := by
  simp only [noneOf, Bool.and_eq_true, Bool.not_eq_true'] at hn
  obtain ⟨⟨⟨⟨f1, f2⟩, f3⟩, f4⟩, f5⟩ := hn
  intro a m w0 hm
  exact cmd_walk0 a t t [] m w0 hw hm (split_no t hs) (by rw [toList_eq]; exact f1) (by rw [toList_eq]; exact f2) (by rw [toList_eq]; exact f3) (by rw [toList_eq]; exact f4) (by rw [toList_eq]; exact f5)
theorem noWord_of {t : ByteArray} (L : List UInt8) (ht : t.data.toList = L) (hs : L.length < 4294967281) (p1 : Lib.hasPrefix L [115, 101, 97, 114, 99, 104, 32] = false) (p2 : Lib.hasPrefix L [114, 115, 101, 97, 114, 99, 104, 32] = false)
    (n : ∀ M ∈ [[99, 111, 112, 121, 32, 118, 105], [99, 111, 112, 121, 32, 101, 109, 97, 99, 115], [113, 117, 105, 116], [119, 104, 101, 114, 101], [98, 117, 102, 102, 101, 114, 115], [99, 97, 112, 116, 117, 114, 101], [99, 97, 112, 116, 117, 114, 101, 32, 114, 111, 119, 115], [101, 120, 112, 111, 114, 116]], L ≠ M) : NoWord t := by
  have ne : ∀ M ∈ [[99, 111, 112, 121, 32, 118, 105], [99, 111, 112, 121, 32, 101, 109, 97, 99, 115], [113, 117, 105, 116], [119, 104, 101, 114, 101], [98, 117, 102, 102, 101, 114, 115], [99, 97, 112, 116, 117, 114, 101], [99, 97, 112, 116, 117, 114, 101, 32, 114, 111, 119, 115], [101, 120, 112, 111, 114, 116]], (t.toList == M) = false := fun M hM => by
    rw [toList_eq, ht]; exact beq_eq_false_iff_ne.2 (n M hM)
  simp only [List.mem_cons, List.not_mem_nil, or_false, forall_eq_or_imp, forall_eq] at ne
  obtain ⟨e1, e2, e3, e4, e5, e6, e7, e8⟩ := ne
  refine ⟨?_, ⟨by rw [ht]; exact p1, by rw [ht]; exact p2, e1, e2, e3, e4⟩, e5, e6, e7, e8⟩
  rw [← ht] at hs
  simpa using hs
theorem cmd_0 : Cmd ⟨#[99, 111, 112, 121]⟩ := by
  exact cmd_only (noWord_of (t := ⟨#[99, 111, 112, 121]⟩) [99, 111, 112, 121] rfl (by decide) (by decide) (by decide) (by decide)) (by decide) (by decide)
theorem cmd_1 (x : ByteArray) (hx : x.size ≤ 1000) : Cmd (⟨#[99, 111, 112, 121, 32]⟩ ++ x ++ ⟨#[33]⟩) := by
  have ht : (⟨#[99, 111, 112, 121, 32]⟩ ++ x ++ ⟨#[33]⟩).data.toList = ([99, 111, 112, 121, 32] ++ x.data.toList ++ [33]) := by simp [ByteArray.data_append]
  have hne : ∀ M ∈ [[99, 111, 112, 121, 32, 118, 105], [99, 111, 112, 121, 32, 101, 109, 97, 99, 115], [113, 117, 105, 116], [119, 104, 101, 114, 101], [98, 117, 102, 102, 101, 114, 115], [99, 97, 112, 116, 117, 114, 101], [99, 97, 112, 116, 117, 114, 101, 32, 114, 111, 119, 115], [101, 120, 112, 111, 114, 116]], ([99, 111, 112, 121, 32] ++ x.data.toList ++ [33]) ≠ M := by
    simp only [List.mem_cons, List.not_mem_nil, or_false, forall_eq_or_imp, forall_eq]
    refine ⟨?_, ?_, ?_, ?_, ?_, ?_, ?_, ?_⟩ <;> intro h <;> (have h9 := congrArg List.getLast? h; rw [List.getLast?_concat] at h9; exact absurd h9 (by decide))
  have hsz : ([99, 111, 112, 121, 32] ++ x.data.toList ++ [33]).length < 4294967281 := by
    have h8 : x.data.toList.length = x.size := by simp
    simp only [List.length_append, h8, List.length_cons, List.length_nil]; omega
  have hnw : NoWord (⟨#[99, 111, 112, 121, 32]⟩ ++ x ++ ⟨#[33]⟩) := noWord_of _ ht hsz rfl rfl hne
  exact cmd_word hnw [99, 111, 112, 121] ([] ++ x.data.toList ++ [33]) (by rw [ht]; simp) (by decide) (by decide)
theorem cmd_2 (x : ByteArray) (hx : x.size ≤ 1000) : Cmd (⟨#[113, 117, 105, 116, 32]⟩ ++ x) := by
  have ht : (⟨#[113, 117, 105, 116, 32]⟩ ++ x).data.toList = ([113, 117, 105, 116, 32] ++ x.data.toList) := by simp [ByteArray.data_append]
  have hne : ∀ M ∈ [[99, 111, 112, 121, 32, 118, 105], [99, 111, 112, 121, 32, 101, 109, 97, 99, 115], [113, 117, 105, 116], [119, 104, 101, 114, 101], [98, 117, 102, 102, 101, 114, 115], [99, 97, 112, 116, 117, 114, 101], [99, 97, 112, 116, 117, 114, 101, 32, 114, 111, 119, 115], [101, 120, 112, 111, 114, 116]], ([113, 117, 105, 116, 32] ++ x.data.toList) ≠ M := by
    simp only [List.mem_cons, List.not_mem_nil, or_false, forall_eq_or_imp, forall_eq]
    refine ⟨?_, ?_, ?_, ?_, ?_, ?_, ?_, ?_⟩ <;> intro h <;> simp at h
  have hsz : ([113, 117, 105, 116, 32] ++ x.data.toList).length < 4294967281 := by
    have h8 : x.data.toList.length = x.size := by simp
    simp only [List.length_append, h8, List.length_cons, List.length_nil]; omega
  have hnw : NoWord (⟨#[113, 117, 105, 116, 32]⟩ ++ x) := noWord_of _ ht hsz rfl rfl hne
  exact cmd_word hnw [113, 117, 105, 116] ([] ++ x.data.toList) (by rw [ht]; simp) (by decide) (by decide)
theorem cmd_3 : Cmd ⟨#[115, 101, 97, 114, 99, 104]⟩ := by
  exact cmd_only (noWord_of (t := ⟨#[115, 101, 97, 114, 99, 104]⟩) [115, 101, 97, 114, 99, 104] rfl (by decide) (by decide) (by decide) (by decide)) (by decide) (by decide)
theorem cmd_4 (x : ByteArray) (hx : x.size ≤ 1000) : Cmd (⟨#[98, 117, 102, 102, 101, 114, 115, 32]⟩ ++ x) := by
  have ht : (⟨#[98, 117, 102, 102, 101, 114, 115, 32]⟩ ++ x).data.toList = ([98, 117, 102, 102, 101, 114, 115, 32] ++ x.data.toList) := by simp [ByteArray.data_append]
  have hne : ∀ M ∈ [[99, 111, 112, 121, 32, 118, 105], [99, 111, 112, 121, 32, 101, 109, 97, 99, 115], [113, 117, 105, 116], [119, 104, 101, 114, 101], [98, 117, 102, 102, 101, 114, 115], [99, 97, 112, 116, 117, 114, 101], [99, 97, 112, 116, 117, 114, 101, 32, 114, 111, 119, 115], [101, 120, 112, 111, 114, 116]], ([98, 117, 102, 102, 101, 114, 115, 32] ++ x.data.toList) ≠ M := by
    simp only [List.mem_cons, List.not_mem_nil, or_false, forall_eq_or_imp, forall_eq]
    refine ⟨?_, ?_, ?_, ?_, ?_, ?_, ?_, ?_⟩ <;> intro h <;> simp at h
  have hsz : ([98, 117, 102, 102, 101, 114, 115, 32] ++ x.data.toList).length < 4294967281 := by
    have h8 : x.data.toList.length = x.size := by simp
    simp only [List.length_append, h8, List.length_cons, List.length_nil]; omega
  have hnw : NoWord (⟨#[98, 117, 102, 102, 101, 114, 115, 32]⟩ ++ x) := noWord_of _ ht hsz rfl rfl hne
  exact cmd_word hnw [98, 117, 102, 102, 101, 114, 115] ([] ++ x.data.toList) (by rw [ht]; simp) (by decide) (by decide)
theorem cmd_5 (x : ByteArray) (hx : x.size ≤ 1000) : Cmd (⟨#[99, 97, 112, 116, 117, 114, 101, 32]⟩ ++ x ++ ⟨#[33]⟩) := by
  have ht : (⟨#[99, 97, 112, 116, 117, 114, 101, 32]⟩ ++ x ++ ⟨#[33]⟩).data.toList = ([99, 97, 112, 116, 117, 114, 101, 32] ++ x.data.toList ++ [33]) := by simp [ByteArray.data_append]
  have hne : ∀ M ∈ [[99, 111, 112, 121, 32, 118, 105], [99, 111, 112, 121, 32, 101, 109, 97, 99, 115], [113, 117, 105, 116], [119, 104, 101, 114, 101], [98, 117, 102, 102, 101, 114, 115], [99, 97, 112, 116, 117, 114, 101], [99, 97, 112, 116, 117, 114, 101, 32, 114, 111, 119, 115], [101, 120, 112, 111, 114, 116]], ([99, 97, 112, 116, 117, 114, 101, 32] ++ x.data.toList ++ [33]) ≠ M := by
    simp only [List.mem_cons, List.not_mem_nil, or_false, forall_eq_or_imp, forall_eq]
    refine ⟨?_, ?_, ?_, ?_, ?_, ?_, ?_, ?_⟩ <;> intro h <;> (have h9 := congrArg List.getLast? h; rw [List.getLast?_concat] at h9; exact absurd h9 (by decide))
  have hsz : ([99, 97, 112, 116, 117, 114, 101, 32] ++ x.data.toList ++ [33]).length < 4294967281 := by
    have h8 : x.data.toList.length = x.size := by simp
    simp only [List.length_append, h8, List.length_cons, List.length_nil]; omega
  have hnw : NoWord (⟨#[99, 97, 112, 116, 117, 114, 101, 32]⟩ ++ x ++ ⟨#[33]⟩) := noWord_of _ ht hsz rfl rfl hne
  exact cmd_word hnw [99, 97, 112, 116, 117, 114, 101] ([] ++ x.data.toList ++ [33]) (by rw [ht]; simp) (by decide) (by decide)
theorem cmd_6 : Cmd ⟨#[100, 114, 111, 112]⟩ := by
  intro a m w0 hm
  exact cmd_walk3 a ⟨#[100, 114, 111, 112]⟩ ⟨#[100, 114, 111, 112]⟩ [] m w0 (noWord_of (t := ⟨#[100, 114, 111, 112]⟩) [100, 114, 111, 112] rfl (by decide) (by decide) (by decide) (by decide)) hm (split_no _ (by decide)) (by rw [toList_eq]; decide) (by rw [toList_eq]; decide) (by rw [toList_eq]; decide) (by rw [toList_eq]; decide) (by rw [toList_eq]; decide) (by rw [countB_data]; decide)
theorem cmd_7 : Cmd ⟨#[108, 105, 109, 105, 116]⟩ := by
  intro a m w0 hm
  exact cmd_walk5 a ⟨#[108, 105, 109, 105, 116]⟩ ⟨#[108, 105, 109, 105, 116]⟩ [] m w0 (noWord_of (t := ⟨#[108, 105, 109, 105, 116]⟩) [108, 105, 109, 105, 116] rfl (by decide) (by decide) (by decide) (by decide)) hm (split_no _ (by decide)) (by rw [toList_eq]; decide) (by rw [toList_eq]; decide) (by rw [toList_eq]; decide) (by rw [toList_eq]; decide) (by rw [toList_eq]; decide) (by rw [countB_data]; decide)
theorem cmd_8 : Cmd ⟨#[115, 101, 116, 32, 97]⟩ := by
  intro a m w0 hm
  obtain ⟨h, tl, hl, hd⟩ := split_word ⟨#[115, 101, 116, 32, 97]⟩ [115, 101, 116] [97] rfl (by decide)
  exact cmd_walk2 a _ h tl m w0 (noWord_of (t := ⟨#[115, 101, 116, 32, 97]⟩) [115, 101, 116, 32, 97] rfl (by decide) (by decide) (by decide) (by decide)) hm hl (by rw [toList_eq, hd]; decide) (by rw [toList_eq, hd]; decide) (by rw [toList_eq, hd]; decide) (by rw [toList_eq, hd]; decide) (by rw [toList_eq, hd]; decide) (by rw [countB_data]; decide)
theorem cmd_9 (x : ByteArray) (hx : x.size ≤ 1000) : Cmd (⟨#[119, 104, 101, 114, 101, 32]⟩ ++ x) := by
  have ht : (⟨#[119, 104, 101, 114, 101, 32]⟩ ++ x).data.toList = ([119, 104, 101, 114, 101, 32] ++ x.data.toList) := by simp [ByteArray.data_append]
  have hne : ∀ M ∈ [[99, 111, 112, 121, 32, 118, 105], [99, 111, 112, 121, 32, 101, 109, 97, 99, 115], [113, 117, 105, 116], [119, 104, 101, 114, 101], [98, 117, 102, 102, 101, 114, 115], [99, 97, 112, 116, 117, 114, 101], [99, 97, 112, 116, 117, 114, 101, 32, 114, 111, 119, 115], [101, 120, 112, 111, 114, 116]], ([119, 104, 101, 114, 101, 32] ++ x.data.toList) ≠ M := by
    simp only [List.mem_cons, List.not_mem_nil, or_false, forall_eq_or_imp, forall_eq]
    refine ⟨?_, ?_, ?_, ?_, ?_, ?_, ?_, ?_⟩ <;> intro h <;> simp at h
  have hsz : ([119, 104, 101, 114, 101, 32] ++ x.data.toList).length < 4294967281 := by
    have h8 : x.data.toList.length = x.size := by simp
    simp only [List.length_append, h8, List.length_cons, List.length_nil]; omega
  have hnw : NoWord (⟨#[119, 104, 101, 114, 101, 32]⟩ ++ x) := noWord_of _ ht hsz rfl rfl hne
  exact cmd_word hnw [119, 104, 101, 114, 101] ([] ++ x.data.toList) (by rw [ht]; simp) (by decide) (by decide)
theorem cmd_10 (x : ByteArray) (hx : x.size ≤ 1000) : Cmd (⟨#[32]⟩ ++ x) := by
  have ht : (⟨#[32]⟩ ++ x).data.toList = ([32] ++ x.data.toList) := by simp [ByteArray.data_append]
  have hne : ∀ M ∈ [[99, 111, 112, 121, 32, 118, 105], [99, 111, 112, 121, 32, 101, 109, 97, 99, 115], [113, 117, 105, 116], [119, 104, 101, 114, 101], [98, 117, 102, 102, 101, 114, 115], [99, 97, 112, 116, 117, 114, 101], [99, 97, 112, 116, 117, 114, 101, 32, 114, 111, 119, 115], [101, 120, 112, 111, 114, 116]], ([32] ++ x.data.toList) ≠ M := by
    simp only [List.mem_cons, List.not_mem_nil, or_false, forall_eq_or_imp, forall_eq]
    refine ⟨?_, ?_, ?_, ?_, ?_, ?_, ?_, ?_⟩ <;> intro h <;> simp at h
  have hsz : ([32] ++ x.data.toList).length < 4294967281 := by
    have h8 : x.data.toList.length = x.size := by simp
    simp only [List.length_append, h8, List.length_cons, List.length_nil]; omega
  have hnw : NoWord (⟨#[32]⟩ ++ x) := noWord_of _ ht hsz rfl rfl hne
  exact cmd_word hnw [] ([] ++ x.data.toList) (by rw [ht]; simp) (by decide) (by decide)
theorem cmd_11 : Cmd ⟨#[67, 111, 112, 121, 32, 118, 105]⟩ := by
  exact cmd_word (noWord_of (t := ⟨#[67, 111, 112, 121, 32, 118, 105]⟩) [67, 111, 112, 121, 32, 118, 105] rfl (by decide) (by decide) (by decide) (by decide)) [67, 111, 112, 121] [118, 105] rfl (by decide) (by decide)
theorem cmd_12 (x : ByteArray) (hx : x.size ≤ 1000) : Cmd (⟨#[112, 97, 115, 116, 101, 32, 97, 32, 98]⟩ ++ x) := by
  have ht : (⟨#[112, 97, 115, 116, 101, 32, 97, 32, 98]⟩ ++ x).data.toList = ([112, 97, 115, 116, 101, 32, 97, 32, 98] ++ x.data.toList) := by simp [ByteArray.data_append]
  have hne : ∀ M ∈ [[99, 111, 112, 121, 32, 118, 105], [99, 111, 112, 121, 32, 101, 109, 97, 99, 115], [113, 117, 105, 116], [119, 104, 101, 114, 101], [98, 117, 102, 102, 101, 114, 115], [99, 97, 112, 116, 117, 114, 101], [99, 97, 112, 116, 117, 114, 101, 32, 114, 111, 119, 115], [101, 120, 112, 111, 114, 116]], ([112, 97, 115, 116, 101, 32, 97, 32, 98] ++ x.data.toList) ≠ M := by
    simp only [List.mem_cons, List.not_mem_nil, or_false, forall_eq_or_imp, forall_eq]
    refine ⟨?_, ?_, ?_, ?_, ?_, ?_, ?_, ?_⟩ <;> intro h <;> simp at h
  have hsz : ([112, 97, 115, 116, 101, 32, 97, 32, 98] ++ x.data.toList).length < 4294967281 := by
    have h8 : x.data.toList.length = x.size := by simp
    simp only [List.length_append, h8, List.length_cons, List.length_nil]; omega
  have hnw : NoWord (⟨#[112, 97, 115, 116, 101, 32, 97, 32, 98]⟩ ++ x) := noWord_of _ ht hsz rfl rfl hne
  intro a m w0 hm
  obtain ⟨h, tl, hl, hd⟩ := split_word (⟨#[112, 97, 115, 116, 101, 32, 97, 32, 98]⟩ ++ x) [112, 97, 115, 116, 101] ([97, 32, 98] ++ x.data.toList) (by rw [ht]; simp) (by decide)
  have hc : 2 ≤ Lib.countB (⟨#[112, 97, 115, 116, 101, 32, 97, 32, 98]⟩ ++ x) ⟨#[32]⟩ := by
    rw [countB_data, ht]
    simp
  exact cmd_walk1 a _ h tl m w0 hnw hm hl (by rw [toList_eq, hd]; decide) (by rw [toList_eq, hd]; decide) (by rw [toList_eq, hd]; decide) (by rw [toList_eq, hd]; decide) (by rw [toList_eq, hd]; decide) hc
theorem cmd_13 (x : ByteArray) (hx : x.size ≤ 1000) : Cmd (⟨#[101, 120, 112, 111, 114, 116, 32, 97, 32, 98]⟩ ++ x) := by
  have ht : (⟨#[101, 120, 112, 111, 114, 116, 32, 97, 32, 98]⟩ ++ x).data.toList = ([101, 120, 112, 111, 114, 116, 32, 97, 32, 98] ++ x.data.toList) := by simp [ByteArray.data_append]
  have hne : ∀ M ∈ [[99, 111, 112, 121, 32, 118, 105], [99, 111, 112, 121, 32, 101, 109, 97, 99, 115], [113, 117, 105, 116], [119, 104, 101, 114, 101], [98, 117, 102, 102, 101, 114, 115], [99, 97, 112, 116, 117, 114, 101], [99, 97, 112, 116, 117, 114, 101, 32, 114, 111, 119, 115], [101, 120, 112, 111, 114, 116]], ([101, 120, 112, 111, 114, 116, 32, 97, 32, 98] ++ x.data.toList) ≠ M := by
    simp only [List.mem_cons, List.not_mem_nil, or_false, forall_eq_or_imp, forall_eq]
    refine ⟨?_, ?_, ?_, ?_, ?_, ?_, ?_, ?_⟩ <;> intro h <;> simp at h
  have hsz : ([101, 120, 112, 111, 114, 116, 32, 97, 32, 98] ++ x.data.toList).length < 4294967281 := by
    have h8 : x.data.toList.length = x.size := by simp
    simp only [List.length_append, h8, List.length_cons, List.length_nil]; omega
  have hnw : NoWord (⟨#[101, 120, 112, 111, 114, 116, 32, 97, 32, 98]⟩ ++ x) := noWord_of _ ht hsz rfl rfl hne
  intro a m w0 hm
  obtain ⟨h, tl, hl, hd⟩ := split_word (⟨#[101, 120, 112, 111, 114, 116, 32, 97, 32, 98]⟩ ++ x) [101, 120, 112, 111, 114, 116] ([97, 32, 98] ++ x.data.toList) (by rw [ht]; simp) (by decide)
  have hc : 2 ≤ Lib.countB (⟨#[101, 120, 112, 111, 114, 116, 32, 97, 32, 98]⟩ ++ x) ⟨#[32]⟩ := by
    rw [countB_data, ht]
    simp
  exact cmd_walk4 a _ h tl m w0 hnw hm hl (by rw [toList_eq, hd]; decide) (by rw [toList_eq, hd]; decide) (by rw [toList_eq, hd]; decide) (by rw [toList_eq, hd]; decide) (by rw [toList_eq, hd]; decide) (by omega)
end Go.Proofs
end

section
namespace Go.Proofs
open Go Go.RowKit
set_option maxRecDepth 100000
theorem short_walk (s : ByteArray) (n : Nat) (w : World) : Calls Tryz.prog 10 #[.string s, .int .i64 n] w fun e w' => (∃ x : ByteArray, e = .returned (.string x) ∧ x.size ≤ n) ∧ w' = w := by
  go_enter Tryz.func10, Tryz.ntmps10
  go_wp2
  go_ret
  refine ⟨⟨_, rfl, ?_⟩, rfl⟩
  rw [ByteArray.size_extract]
  omega
def unks (x : ByteArray) : List ByteArray := [⟨#[99, 111, 112, 121]⟩, ⟨#[99, 111, 112, 121, 32]⟩ ++ x ++ ⟨#[33]⟩, ⟨#[113, 117, 105, 116, 32]⟩ ++ x, ⟨#[115, 101, 97, 114, 99, 104]⟩, ⟨#[98, 117, 102, 102, 101, 114, 115, 32]⟩ ++ x, ⟨#[99, 97, 112, 116, 117, 114, 101, 32]⟩ ++ x ++ ⟨#[33]⟩, ⟨#[100, 114, 111, 112]⟩, ⟨#[108, 105, 109, 105, 116]⟩, ⟨#[115, 101, 116, 32, 97]⟩, ⟨#[119, 104, 101, 114, 101, 32]⟩ ++ x, ⟨#[32]⟩ ++ x, ⟨#[67, 111, 112, 121, 32, 118, 105]⟩, ⟨#[112, 97, 115, 116, 101, 32, 97, 32, 98]⟩ ++ x, ⟨#[101, 120, 112, 111, 114, 116, 32, 97, 32, 98]⟩ ++ x]
theorem unks_cmd (x : ByteArray) (hx : x.size ≤ 1000) : ∀ t ∈ unks x, Cmd t := by
  intro t ht
  simp only [unks, List.mem_cons, List.not_mem_nil, or_false] at ht
  rcases ht with rfl | rfl | rfl | rfl | rfl | rfl | rfl | rfl | rfl | rfl | rfl | rfl | rfl | rfl
  · exact cmd_0
  · exact cmd_1 x hx
  · exact cmd_2 x hx
  · exact cmd_3
  · exact cmd_4 x hx
  · exact cmd_5 x hx
  · exact cmd_6
  · exact cmd_7
  · exact cmd_8
  · exact cmd_9 x hx
  · exact cmd_10 x hx
  · exact cmd_11
  · exact cmd_12 x hx
  · exact cmd_13 x hx

set_option maxHeartbeats 2000000 in
theorem unk_walk {A0 A4 : World → Prop} {A1 A2 A3 : Value → World → Prop} (s : ByteArray) (w0 : World) (m : Int) (h0 : A0 w0)
    (hb : ∀ w, A0 w → Calls Tryz.prog 9 #[] w fun e w' => e = .returned (.bool true) ∧ A0 w')
    (hn : ∀ w, A0 w → Calls Tryz.prog 11 #[.int .i64 4, .int .i64 2, .int .i64 5] w fun e w' => ∃ b, e = .returned (.pointer (some b)) ∧ A1 (.pointer (some b)) w')
    (hs : ∀ v w w', A1 v w → Below w.heap.size w w' → A1 v w')
    (hm : ∀ v w, A1 v w → w.cell? ⟨0, 0, none⟩ = some (.int .i64 m))
    (hc : ∀ v w, A1 v w → Calls Tryz.prog 17 #[v] w fun e w' => e = .returned (.pointer none) ∧ A2 v w')
    (hp : ∀ v w, A2 v w → Calls Tryz.prog 18 #[v] w fun e w' => ∃ p, e = .returned p ∧ A3 p w')
    (hl : ∀ v w, A3 v w → Calls Tryz.prog 21 #[v] w fun e w' => e = .returned (.int .i64 5) ∧ A4 w') :
    Calls Tryz.prog 7 #[.string s] w0 fun e w' => e = .returned (.bool true) ∧ A4 w' := by
  go_enter Tryz.func7, Tryz.ntmps7
  go_wp2_with (first
    | (go_at_call 9; refine (hb _ h0).mono ?_; rintro e w1 ⟨rfl, h1⟩)
    | (go_at_call 10; refine (short_walk _ 12 _).mono ?_; rintro e w' ⟨⟨x, rfl, hx⟩, rfl⟩)
    | (go_at_call 11; refine (hn _ h1).mono ?_; rintro e w2 ⟨b, rfl, h2⟩))
  have hall := unks_cmd x (by omega)
  have hlen : (unks x).length = 14 := rfl
  go_loopw [33] (fun i wr => ∃ k : Nat, k ≤ 14 ∧ i = .int .i64 k ∧ A1 (.pointer (some b)) wr ∧ wr.heap[w2.heap.size]? = some (.cells ((unks x).map Value.string).toArray 9))
    (fun i _ => 14 - (intOf i).toNat)
  case atStart => exact ⟨0, Nat.zero_le _, rfl, hs _ _ _ h2 ((Below.refl _ _).alloc (Nat.le_refl _) _), (MapKept.heap_alloc w2 _).1⟩
  case round =>
    obtain ⟨k, hk, rfl, hA, hcs⟩ := hrel
    have hM := hm _ _ hA
    by_cases hk14 : k < 14
    · obtain ⟨t, ht⟩ : ∃ t, (unks x)[k]? = some t := ⟨(unks x)[k]'(by omega), List.getElem?_eq_getElem (by omega)⟩
      have hC : Cmd t := hall t (List.mem_of_getElem? ht)
      have hcell : wr.cell? ⟨w2.heap.size, k, none⟩ = some (.string t) := by simp [World.cell?, hcs, ht]
      have hkeep : ∀ w3, Below wr.heap.size wr w3 → w3.heap[w2.heap.size]? = some (.cells ((unks x).map Value.string).toArray 9) := fun w3 hB => by
        rw [hB.block _ (by
          rcases Nat.lt_or_ge w2.heap.size wr.heap.size with h' | h'
          · exact h'
          · rw [Array.getElem?_eq_none h'] at hcs; cases hcs)]
        exact hcs
      clear hall hcs
      go_wp2_with (go_at_call 12; refine (hC b m _ hM).mono ?_; rintro e w3 ⟨rfl, hB⟩)
      refine ⟨⟨k + 1, by omega, by simp, hs _ _ _ hA hB, hkeep _ hB⟩, ?_⟩
      simp only [intOf]
      omega
    · obtain rfl : k = 14 := by omega
      clear hall
      go_wp2_with (first
        | (go_at_call 17; refine (hc _ _ hA).mono ?_; rintro e w3 ⟨rfl, h3⟩)
        | (go_at_call 18; refine (hp _ _ h3).mono ?_; rintro e w4 ⟨p, rfl, h4⟩)
        | (go_at_call 21; refine (hl _ _ h4).mono ?_; rintro e w5 ⟨rfl, h5⟩))
      go_ret
      exact ⟨rfl, h5⟩
end Go.Proofs
end

section
namespace Go.Proofs
open Go Go.Ra
set_option maxRecDepth 100000
noncomputable def ev [Coe Bool Int] (f : Nat) (args : List Value) (H : AH) : Option (Value × AH) := acall (EO E0 (oT lib2)) (arun (EO E0 (oT lib2)) 100000) f args H
noncomputable def isFive (v : Value) : Bool := match v with | .int .i64 (.ofNat n) => Nat.beq n 5 | _ => false
noncomputable def chkU [Coe Bool Int] : Bool :=
  match ev 11 [.int .i64 4, .int .i64 2, .int .i64 5] H0 with
  | some (.pointer (some ⟨X, i, none⟩), H1) => match ev 17 [.pointer (some ⟨X, i, none⟩)] H1 with
    | some (.pointer none, H2) => match ev 18 [.pointer (some ⟨X, i, none⟩)] H2 with
      | some (p, H3) => match ev 21 [p] H3 with
        | some (v, _) => isFive v
        | none => false
      | none => false
    | _ => false
  | _ => false
theorem chkU_ok [Coe Bool Int] : chkU = true := by kernel_rfl
end Go.Proofs
end

section
namespace Go.Proofs
open Go Go.Ra Go.RowKit
set_option maxRecDepth 100000
theorem chkU_get [Coe Bool Int] : ∃ X i H1 H2 p H3 H4, ev 11 [.int .i64 4, .int .i64 2, .int .i64 5] H0 = some (.pointer (some ⟨X, i, none⟩), H1) ∧ ev 17 [.pointer (some ⟨X, i, none⟩)] H1 = some (.pointer none, H2) ∧
    ev 18 [.pointer (some ⟨X, i, none⟩)] H2 = some (p, H3) ∧ ev 21 [p] H3 = some (.int .i64 5, H4) := by
  have h := chkU_ok
  unfold chkU at h
  split at h
  · rename_i X i H1 e1
    split at h
    · rename_i H2 e2
      split at h
      · rename_i p H3 e3
        split at h
        · rename_i v H4 e4
          unfold isFive at h
          split at h
          · have := Nat.eq_of_beq_eq_true h
            subst this
            exact ⟨X, i, H1, H2, p, H3, H4, e1, e2, e3, e4⟩
          · cases h
        · cases h
      · cases h
    · cases h
  · cases h

/-- the abstract heap stands for the world (from W on), the abstract value for the value -/
def At [Coe Bool Int] (W : World) (H : AH) (v u : Value) (w : World) : Prop := ∃ φ, Rep (POE E0) E0 (fun b => b < W.heap.size) W φ H w ∧ VR φ v u
theorem At.below [Coe Bool Int] {W w w' : World} {H : AH} {v u : Value} (h : At W H v u w) (hb : Below w.heap.size w w') : At W H v u w' := by
  obtain ⟨φ, hR, hv⟩ := h
  exact ⟨φ, hR.agree (fun X l e => hb.block _ (hR.inHeap e)) (fun b hS => hb.block b (Nat.lt_of_lt_of_le hS hR.size)) hb.size hb.os hb.output hb.tape, hv⟩
theorem At.maxcell [Coe Bool Int] {W w : World} {H : AH} {v u : Value} (h : At W H v u w) : w.cell? ⟨0, 0, none⟩ = some (.int .i64 (Coe.coe true)) := by
  obtain ⟨φ, hR, hv⟩ := h
  exact (hR.here.pin 0 0 _ Go.Proofs.maxlen).1
theorem At.call [Coe Bool Int] {W w : World} {H H' : AH} {v v' u : Value} {f : Nat} (h : At W H v u w) (hc : ev f [v] H = some (v', H')) :
    Calls Tryz.prog f #[u] w fun e w' => ∃ u', e = .returned u' ∧ At W H' v' u' w' ∧ At W H' v u w' := by
  obtain ⟨φ, hR, hv⟩ := h
  refine callsIn_wide.1 ((acall_with mixed envOk orc0 (oT_ok lib2_ok) hc hR.here (us := #[u]) (.cons hv .nil)).mono fun e w' he => ?_)
  obtain ⟨u', ψ, g1, g2, g3, g4, g5⟩ := he
  exact ⟨u', g1, ⟨ψ, hR.unbase g5 (fun _ hb => hb), g4⟩, ⟨ψ, hR.unbase g5 (fun _ hb => hb), hv.mono (Ext.le hR g2)⟩⟩
theorem unk_calls [Coe Bool Int] {W : World} (hl : Laid E0 H0 W) (s : ByteArray) : Calls Tryz.prog 7 #[.string s] W fun e w' => e = .returned (.bool true) ∧ Below W.heap.size W w' := by
  obtain ⟨X, i, H1, H2, p, H3, H4, e1, e2, e3, e4⟩ := chkU_get
  have h0 : At W H0 (.bool true) (.bool true) W := ⟨_, rep0 first0 hl, .bool _⟩
  have key := unk_walk (A0 := At W H0 (.bool true) (.bool true)) (A1 := At W H1 (.pointer (some ⟨X, i, none⟩))) (A2 := At W H2 (.pointer (some ⟨X, i, none⟩))) (A3 := At W H3 p) (A4 := At W H4 (.int .i64 5) (.int .i64 5)) s W (Coe.coe true) h0
    (fun w hw => by
      obtain ⟨φ, hR, hv⟩ := hw
      refine callsIn_wide.1 ((k24.2 [] #[] H0 (.bool true) H0 _ φ w rfl hR.here .nil).mono fun e w' he => ?_)
      obtain ⟨u', ψ, g1, g2, g3, g4, g5⟩ := he
      have : u' = .bool true := by cases g4; rfl
      subst this
      exact ⟨g1, ψ, hR.unbase g5 (fun _ hb => hb), g4⟩)
    (fun w hw => by
      obtain ⟨φ, hR, hv⟩ := hw
      refine callsIn_wide.1 ((acall_with mixed envOk orc0 (oT_ok lib2_ok) e1 hR.here (us := #[.int .i64 4, .int .i64 2, .int .i64 5]) (.cons (.int _ _) (.cons (.int _ _) (.cons (.int _ _) .nil)))).mono fun e w' he => ?_)
      obtain ⟨u', ψ, g1, g2, g3, g4, g5⟩ := he
      cases g4 with
      | ptr hX => exact ⟨_, g1, ψ, hR.unbase g5 (fun _ hb => hb), .ptr hX⟩)
    (fun v w w' h hb => h.below hb) (fun v w h => h.maxcell)
    (fun v w h => (h.call e2).mono fun e w' he => by
      obtain ⟨u', g1, ⟨φ, _, hv⟩, g3⟩ := he
      cases hv
      exact ⟨g1, g3⟩)
    (fun v w h => (h.call e3).mono fun e w' he => by
      obtain ⟨u', g1, g2, _⟩ := he
      exact ⟨u', g1, g2⟩)
    (fun v w h => (h.call e4).mono fun e w' he => by
      obtain ⟨u', g1, ⟨φ, hR, hv⟩, _⟩ := he
      cases hv
      exact ⟨g1, φ, hR, .int _ _⟩)
  refine key.mono fun e w' ⟨g, φ, hR, _⟩ => ⟨g, hR.os, hR.tape, hR.out, hR.size, fun k hk => hR.keep k hk⟩
end Go.Proofs
end


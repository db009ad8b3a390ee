/-
  A part of the proof (RaMarkD): an evaluator of the model's code with its proof, or facts of this program that it reckons. No condition.
-/
import Derived.Test.YtlpeihabbkgnbaaGreatDoorRb6
import Derived.Test.YtlpeihabbkgnbaaGreatDoorRb15
section
namespace Go.Proofs
open Go Go.Ra
set_option maxRecDepth 100000
noncomputable section
def tMay2 : List (List Value × Value) := [([.agg ⟨[Value.int IntKind.i32 32, Value.int IntKind.i64 1, Value.int IntKind.i64 0]⟩], .bool true), ([.agg ⟨[Value.int IntKind.i32 97, Value.int IntKind.i64 1, Value.int IntKind.i64 0]⟩], .bool true), ([.agg ⟨[Value.int IntKind.i32 98, Value.int IntKind.i64 1, Value.int IntKind.i64 0]⟩], .bool true), ([.agg ⟨[Value.int IntKind.i32 99, Value.int IntKind.i64 1, Value.int IntKind.i64 0]⟩], .bool true), ([.agg ⟨[Value.int IntKind.i32 100, Value.int IntKind.i64 1, Value.int IntKind.i64 0]⟩], .bool true), ([.agg ⟨[Value.int IntKind.i32 101, Value.int IntKind.i64 1, Value.int IntKind.i64 0]⟩], .bool true), ([.agg ⟨[Value.int IntKind.i32 102, Value.int IntKind.i64 1, Value.int IntKind.i64 0]⟩], .bool true), ([.agg ⟨[Value.int IntKind.i32 103, Value.int IntKind.i64 1, Value.int IntKind.i64 0]⟩], .bool true), ([.agg ⟨[Value.int IntKind.i32 104, Value.int IntKind.i64 1, Value.int IntKind.i64 0]⟩], .bool true), ([.agg ⟨[Value.int IntKind.i32 105, Value.int IntKind.i64 1, Value.int IntKind.i64 0]⟩], .bool true)]
def tWidth2 : List (List Value × Value) := [([Value.int IntKind.i32 32], Value.int IntKind.i64 1), ([Value.int IntKind.i32 97], Value.int IntKind.i64 1), ([Value.int IntKind.i32 98], Value.int IntKind.i64 1), ([Value.int IntKind.i32 99], Value.int IntKind.i64 1), ([Value.int IntKind.i32 100], Value.int IntKind.i64 1), ([Value.int IntKind.i32 101], Value.int IntKind.i64 1), ([Value.int IntKind.i32 102], Value.int IntKind.i64 1), ([Value.int IntKind.i32 103], Value.int IntKind.i64 1), ([Value.int IntKind.i32 104], Value.int IntKind.i64 1), ([Value.int IntKind.i32 105], Value.int IntKind.i64 1)]
theorem tMay2_ok : mtest 95 tMay2 = true := by kernel_rfl
theorem tWidth2_ok : mtest 138 tWidth2 = true := by kernel_rfl
def oMk : Orc := oT ([(95, gMemo tMay2), (138, gMemo tWidth2)] ++ lib0)
def ev (f : Nat) (args : List Value) (H : AH) : Option (Value × AH) := acall (EO E0 oMk) (arun (EO E0 oMk) 100000) f args H
def rowCells : List Int → List Value
  | [] => []
  | r :: l => Value.int IntKind.i32 r :: Value.int IntKind.i64 1 :: Value.int IntKind.i64 0 :: rowCells l
def row0 : List Value := rowCells [97, 98, 99, 32, 100, 101, 102, 32, 32, 32]
def row1 : List Value := rowCells [103, 104, 105, 32, 32, 32, 32, 32, 32, 32]
def row2 : List Value := rowCells [32, 32, 32, 32, 32, 32, 32, 32, 32, 32]
def cellB (id : Nat) (cs : List Value) : AObj := .blk (Blk.mk cs 3 false id 0)
def sl (id n c : Nat) : Value := .slice (some ⟨id, 0, none⟩) n c
/-- the four rows, written out -/
def HR1 : AH := ⟨15, ((((gT.set 10 (.blk (Blk.mk [sl 11 10 (Nat.add INEX 10), .bool false, sl 12 10 (Nat.add INEX 10), .bool false, sl 13 10 (Nat.add INEX 10), .bool false, sl 14 10 (Nat.add INEX 10), .bool false] 2 false 10 0))).set 11 (cellB 11 row0)).set 12 (cellB 12 row1)).set 13 (cellB 13 row2)).set 14 (cellB 14 row2), .nil⟩
def vR : Value := sl 10 4 (Nat.add INEX 4)
/-- copy mode, written out: the place, the mark, its kind -/
def HS (r c mr mc k : Int) : AH := ⟨26, (((((gT.set 20 (.blk (Blk.mk [sl 21 4 (Nat.add INEX 4), .int .i64 10, .int .i64 1, .int .i64 r, .int .i64 c, .int .i64 mr, .int .i64 mc, .int .i64 k, .pointer none, .bool false] 10 false 20 0))).set 21 (.blk (Blk.mk [sl 22 10 10, .bool false, sl 23 10 10, .bool false, sl 24 10 10, .bool false, sl 25 10 10, .bool false] 2 false 21 0))).set 22 (cellB 22 row0)).set 23 (cellB 23 row1)).set 24 (cellB 24 row2)).set 25 (cellB 25 row2), .nil⟩
def vC : Value := .pointer (some ⟨20, 0, none⟩)
def blkAt (H : AH) (X : Nat) : List Value := match H.objs.get X with | some (.blk b) => b.cells | _ => []
def ptrOf (v : Option Value) : Nat := match v with | some (.slice (some a) _ _) => a.block | some (.pointer (some a)) => a.block | _ => 0
def mRows (id X : Nat) (H : AH) : List (Nat × Nat) := let cs := blkAt H X
  [(id, X), (Nat.add id 1, ptrOf (cs[0]?)), (Nat.add id 2, ptrOf (cs[2]?)), (Nat.add id 3, ptrOf (cs[4]?)), (Nat.add id 4, ptrOf (cs[6]?))]
def m1 (v : Value) (H : AH) : List (Nat × Nat) := (0, 0) :: (1, 1) :: mRows 10 (ptrOf (some v)) H
def m2 (v : Value) (H : AH) : List (Nat × Nat) := (0, 0) :: (1, 1) :: (20, ptrOf (some v)) :: mRows 21 (ptrOf ((blkAt H (ptrOf (some v)))[0]?)) H
/-- the result, taken over -/
def takeB (r : Option (Value × AH)) (mk : Value → AH → List (Nat × Nat)) (v' : Value) (HR : AH) : Bool := match r with
  | some (v, H) => pickB E0 (mk v H) H HR && renB (mk v H) v' v
  | none => false
def rowsB : Bool := takeB (ev 14 [.string ⟨#[97, 98, 99, 32, 100, 101, 102, 13, 10, 103, 104, 105]⟩, .int .i64 10] H0) m1 vR HR1
def newB (r c r' c' : Int) : Bool := takeB (ev 21 [vR, .int .i64 10, .int .i64 1, .agg ⟨[.int .i64 r, .int .i64 c]⟩] HR1) m2 vC (HS r' c' 0 0 0)
/-- the state: no mark (0), or a mark at the place, of the kind s -/
def SS (r c : Int) (s : Nat) : AH := match s with | 0 => HS r c 0 0 0 | s + 1 => HS r c r c (.ofNat (s + 1))
def step (s k : Nat) : Nat := match k with
  | 0 => bif Nat.beq s 1 then 0 else 1
  | 1 => bif Nat.beq s 2 then 0 else 2
  | _ => bif Nat.beq s 3 then 1 else 3
def deed (k : Nat) : Int := .ofNat (Nat.add 11 k)
def stayB (H HR : AH) : Bool := pickB E0 (m2 vC H) H HR && renB (m2 vC H) vC vC
def keyB (r c : Int) (s k : Nat) : Bool := match ev 26 [vC, .int .i64 (deed k)] (SS r c s) with
  | some (_, H) => stayB H (SS r c (step s k))
  | none => false
def markB (r c : Int) (s : Nat) : Bool := match ev 29 [vC] (SS r c s) with
  | some (.tuple ⟨[.agg _, .int .i64 (.ofNat n)]⟩, H) => Nat.beq n s && stayB H (SS r c s)
  | _ => false
def copyB (r c : Int) (s : Nat) : Bool := match ev 26 [vC, .int .i64 14] (SS r c s) with
  | some (.tuple ⟨[.string _, .bool ok]⟩, _) => ok == !(Nat.beq s 0)
  | _ => false
def stB (r c : Int) (s : Nat) : Bool := keyB r c s 0 && keyB r c s 1 && keyB r c s 2 && markB r c s && copyB r c s
def posB (r c : Int) : Bool := stB r c 0 && stB r c 1 && stB r c 2 && stB r c 3
end
end Go.Proofs
end


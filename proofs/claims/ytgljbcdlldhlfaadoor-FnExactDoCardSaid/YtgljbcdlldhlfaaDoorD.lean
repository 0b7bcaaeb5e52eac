/- The data of the program as Lean structures, and their cells. -/
import Derived.WalkKit
namespace Go.Proofs.YtgljbcdlldhlfaaDoor
open Go.RowKit

structure LSlot where
  kind : Int
  n : Int
  deriving DecidableEq
def LSlot.enc (x : LSlot) : List Value := [.int .i64 x.kind, .int .i32 x.n]
theorem LSlot.enc_len (x : LSlot) : x.enc.length = 2 := rfl
theorem LSlot.enc_one (x : LSlot) : ∀ u ∈ x.enc, u.oneCell' = true := by intro u hu; simp [LSlot.enc] at hu; rcases hu with rfl | rfl <;> rfl

structure LOp where
  kind : Int
  n : Int
  deriving DecidableEq
def LOp.enc (x : LOp) : List Value := [.int .i64 x.kind, .int .i32 x.n]
theorem LOp.enc_len (x : LOp) : x.enc.length = 2 := rfl
theorem LOp.enc_one (x : LOp) : ∀ u ∈ x.enc, u.oneCell' = true := by intro u hu; simp [LOp.enc] at hu; rcases hu with rfl | rfl <;> rfl

structure LIns where
  op : Int
  n : Int
  deriving DecidableEq
def LIns.enc (x : LIns) : List Value := [.int .i64 x.op, .int .i64 x.n]
theorem LIns.enc_len (x : LIns) : x.enc.length = 2 := rfl
theorem LIns.enc_one (x : LIns) : ∀ u ∈ x.enc, u.oneCell' = true := by intro u hu; simp [LIns.enc] at hu; rcases hu with rfl | rfl <;> rfl

structure LEffect where
  ok : Bool
  need : Int
  most : Int
  gain : Int
  deriving DecidableEq
def LEffect.enc (x : LEffect) : List Value := [.bool x.ok, .int .i64 x.need, .int .i64 x.most, .int .i64 x.gain]
theorem LEffect.enc_len (x : LEffect) : x.enc.length = 4 := rfl
theorem LEffect.enc_one (x : LEffect) : ∀ u ∈ x.enc, u.oneCell' = true := by intro u hu; simp [LEffect.enc] at hu; rcases hu with rfl | rfl | rfl | rfl <;> rfl

structure LEntry where
  name : ByteArray
  var : Bool
  n : Int
  deriving DecidableEq
def LEntry.enc (x : LEntry) : List Value := [.string x.name, .bool x.var, .int .i64 x.n]
theorem LEntry.enc_len (x : LEntry) : x.enc.length = 3 := rfl
theorem LEntry.enc_one (x : LEntry) : ∀ u ∈ x.enc, u.oneCell' = true := by intro u hu; simp [LEntry.enc] at hu; rcases hu with rfl | rfl | rfl <;> rfl

structure LItem where
  kind : Int
  name : ByteArray
  n : Int
  hex : Bool
  raw : Int
  deriving DecidableEq
def LItem.enc (x : LItem) : List Value := [.int .i64 x.kind, .string x.name, .int .i32 x.n, .bool x.hex, .int .u32 x.raw]
theorem LItem.enc_len (x : LItem) : x.enc.length = 5 := rfl
theorem LItem.enc_one (x : LItem) : ∀ u ∈ x.enc, u.oneCell' = true := by intro u hu; simp [LItem.enc] at hu; rcases hu with rfl | rfl | rfl | rfl | rfl <;> rfl

structure LSt where
  data : List Int
  ret : List LSlot
  a : Int
  mem : List Int
  cells : List Int
  vars : List Int
  out : List Int
  inp : List Int
  fault : Int
  fuel : Int
  deriving DecidableEq
/-- Lengths that a walk may count with. -/
def LSt.small (s : LSt) (n : Nat) : Prop := s.data.length ≤ n ∧ s.ret.length ≤ n ∧ s.mem.length ≤ n ∧ s.cells.length ≤ n ∧ s.vars.length ≤ n ∧ s.out.length ≤ n ∧ s.inp.length ≤ n
def LSt.bulk (s : LSt) : Nat := s.data.length + s.ret.length + s.mem.length + s.cells.length + s.vars.length + s.out.length + s.inp.length
theorem LSt.small_of_bulk {s : LSt} {n : Nat} (h : s.bulk ≤ n) : s.small n := by unfold LSt.bulk at h; unfold LSt.small; omega
theorem LSt.small_mono {s : LSt} {n m : Nat} (h : s.small n) (hm : n ≤ m) : s.small m := by unfold LSt.small at *; omega

end Go.Proofs.YtgljbcdlldhlfaaDoor

/- What a built-in word does, in plain terms. -/
import Derived.Test.YtgljbcdlldhlfaaDoorPn
import Derived.Test.YtgljbcdlldhlfaaDoorPf
import Derived.Test.YtgljbcdlldhlfaaDoorPg
import Derived.Test.YtgljbcdlldhlfaaDoorOpSt
set_option linter.unusedVariables false
set_option linter.unusedSimpArgs false
namespace Go.Proofs.YtgljbcdlldhlfaaDoor
open Go.RowKit

abbrev w32 (n : Int) : Int := wrap32 n
/-- The last number but one, the last number; 0 where there is none. -/
def topX (s : LSt) : Int := if 1 < s.data.length then s.data.getD (s.data.length - 2) 0 else 0
def topY (s : LSt) : Int := if 0 < s.data.length then s.data.getD (s.data.length - 1) 0 else 0
/-- The text of . -/
def dotT (y : Int) : List Int := (decT y ++ ⟨#[32]⟩ : ByteArray).data.toList.map fun b => (b.toNat : Int)
def lastR (s : LSt) : LSlot := s.ret.getD (s.ret.length - 1) ⟨0, 0⟩
/-- What a built-in word does besides Data, what it puts there, and a fault. -/
def eff (k : Nat) (s : LSt) (x y : Int) : LSt × List Int × Int :=
  match k with
  | 0 => (s, [y, y], 0)
  | 1 => (s, [], 0)
  | 2 => (s, [x, y, x], 0)
  | 3 => (s, [y], 0)
  | 4 => (s, [y, x], 0)
  | 5 => (s, [w32 (x + y)], 0)
  | 6 => (s, [bits .xor .i32 (-1) y], 0)
  | 7 => (s, [w32 (x * y)], 0)
  | 8 => (s, [bits .and .i32 x y], 0)
  | 9 => (s, [bits .xor .i32 x y], 0)
  | 10 => (s, [w32 (2 * y)], 0)
  | 11 => (s, [y / 2], 0)
  | 12 => if y = 0 then (s, [], 5) else (s, [w32 (x.tmod y), w32 (x.tdiv y)], 0)
  | 13 => if 0 ≤ y ∧ y ≤ 31 then (s, [s.mem.getD y.toNat 0], 0) else if 0 ≤ y - 1024 ∧ y - 1024 ≤ (s.cells.length : Int) - 1 then (s, [w32 (s.cells.getD (y - 1024).toNat 0)], 0) else (s, [], 4)
  | 14 => if 0 ≤ y ∧ y ≤ 31 then ({ s with mem := s.mem.set y.toNat x }, [], 0) else if (0 ≤ y - 1024 ∧ y - 1024 ≤ (s.cells.length : Int) - 1) ∧ y - 1024 ∈ s.vars then ({ s with cells := s.cells.set (y - 1024).toNat (IntKind.wrap .u32 x) }, [], 0) else (s, [], 4)
  | 15 => (s, [s.a], 0)
  | 16 => ({ s with a := y }, [], 0)
  | 17 => if 400 < s.out.length + 1 then (s, [], 13) else ({ s with out := s.out ++ [IntKind.wrap .u8 y] }, [], 0)
  | 18 => (match s.inp with | [] => (s, [-1], 0) | b :: r => ({ s with inp := r }, [w32 b], 0))
  | 19 => if s.ret.length = 24 then (s, [], 3) else ({ s with ret := s.ret ++ [⟨0, y⟩] }, [], 0)
  | 20 => if s.ret.length = 0 then (s, [], 3) else if (lastR s).kind ≠ 0 then (s, [], 11) else ({ s with ret := s.ret.take (s.ret.length - 1) }, [(lastR s).n], 0)
  | 21 => if s.ret.length = 0 then (s, [], 3) else if (lastR s).kind = 2 then (s, [], 11) else (s, [(lastR s).n], 0)
  | 22 => if 400 < s.out.length + (dotT y).length then (s, [], 13) else ({ s with out := s.out ++ dotT y }, [], 0)
  | _ => (s, [], 0)
def needN (k : Nat) : Nat := (primEff k).need.toNat
/-- The state behind a built-in word, of one that goes on. -/
def doesK (s : LSt) (k : Nat) : LSt :=
  if s.data.length < needN k then { s with fault := 2 }
  else if (eff k s (topX s) (topY s)).2.2 ≠ 0 then { s with fault := (eff k s (topX s) (topY s)).2.2 }
  else if 16 < s.data.length - needN k + (eff k s (topX s) (topY s)).2.1.length then { s with fault := 2 }
  else { (eff k s (topX s) (topY s)).1 with data := s.data.take (s.data.length - needN k) ++ (eff k s (topX s) (topY s)).2.1 }
def doesL (s : LSt) (k : Int) : LSt := if 0 ≤ k ∧ k ≤ 23 then doesK s k.toNat else { s with fault := 1 }
def doL (s : LSt) (k : Int) : LSt := if stOk s = true then (if s.fault = 0 then doesL s k else s) else zeroSt
end Go.Proofs.YtgljbcdlldhlfaaDoor

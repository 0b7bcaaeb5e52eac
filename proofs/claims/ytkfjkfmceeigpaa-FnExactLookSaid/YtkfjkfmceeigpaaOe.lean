/- Elements of slices of flat structs, out of the row's reading. -/
import Derived.Test.YtkfjkfmceeigpaaOp
import Derived.Test.YtkfjkfmceeigpaaProg
set_option linter.unusedVariables false
set_option linter.unusedSimpArgs false
namespace Go.Proofs.Ytkfjkfmceeigpaa
open Go.ChangeShapes Go.WideShapes Go.RowKit

def LSlot.wf (x : LSlot) : Prop := (Lit.int .i64 x.kind).wf = true ∧ (Lit.int .i32 x.n).wf = true
set_option maxRecDepth 100000 in
theorem el_Slot {H : Type} {enc : TypeId × Value → H} {W : World} {spare : Nat → Bool} {held : Bool} {n : Nat} {y : DataW H × List MemPlace} {cs : List Value}
    (h : DataW.trod enc Try.prog W 0 spare held n 115 cs = some y) (hf : Fit Try.prog 115 y.1) : ∃ x : LSlot, cs = x.enc ∧ x.wf := by
  obtain ⟨hl, _⟩ := trod_field Try.underlying115 h hf
  rw [show Try.prog.cellsOf 115 = 2 by kernel_rfl] at hl
  match cs, hl with
  | [u0, u1], _ =>
    obtain ⟨_, _, p0, q0⟩ : ∃ m z, DataW.trod enc Try.prog W 0 spare held m 3 [u0] = some z ∧ Fit Try.prog 3 z.1 := field_at Try.underlying115 h hf 0 rfl rfl rfl (show Try.prog.cellsOf 3 = 1 by kernel_rfl) rfl
    obtain ⟨a0, rfl, w0⟩ := trod_int1 Try.underlying3 p0
    obtain ⟨_, _, p1, q1⟩ : ∃ m z, DataW.trod enc Try.prog W 0 spare held m 21 [u1] = some z ∧ Fit Try.prog 21 z.1 := field_at Try.underlying115 h hf 1 rfl rfl rfl (show Try.prog.cellsOf 21 = 1 by kernel_rfl) rfl
    obtain ⟨a1, rfl, w1⟩ := trod_int1 Try.underlying21 p1
    exact ⟨⟨a0, a1⟩, rfl, w0, w1⟩

def LOp.wf (x : LOp) : Prop := (Lit.int .i64 x.kind).wf = true ∧ (Lit.int .i32 x.n).wf = true
set_option maxRecDepth 100000 in
theorem el_Op {H : Type} {enc : TypeId × Value → H} {W : World} {spare : Nat → Bool} {held : Bool} {n : Nat} {y : DataW H × List MemPlace} {cs : List Value}
    (h : DataW.trod enc Try.prog W 0 spare held n 126 cs = some y) (hf : Fit Try.prog 126 y.1) : ∃ x : LOp, cs = x.enc ∧ x.wf := by
  obtain ⟨hl, _⟩ := trod_field Try.underlying126 h hf
  rw [show Try.prog.cellsOf 126 = 2 by kernel_rfl] at hl
  match cs, hl with
  | [u0, u1], _ =>
    obtain ⟨_, _, p0, q0⟩ : ∃ m z, DataW.trod enc Try.prog W 0 spare held m 3 [u0] = some z ∧ Fit Try.prog 3 z.1 := field_at Try.underlying126 h hf 0 rfl rfl rfl (show Try.prog.cellsOf 3 = 1 by kernel_rfl) rfl
    obtain ⟨a0, rfl, w0⟩ := trod_int1 Try.underlying3 p0
    obtain ⟨_, _, p1, q1⟩ : ∃ m z, DataW.trod enc Try.prog W 0 spare held m 21 [u1] = some z ∧ Fit Try.prog 21 z.1 := field_at Try.underlying126 h hf 1 rfl rfl rfl (show Try.prog.cellsOf 21 = 1 by kernel_rfl) rfl
    obtain ⟨a1, rfl, w1⟩ := trod_int1 Try.underlying21 p1
    exact ⟨⟨a0, a1⟩, rfl, w0, w1⟩

def LEntry.wf (x : LEntry) : Prop := x.name.size ≤ 140737488351232 ∧ True ∧ (Lit.int .i64 x.n).wf = true
set_option maxRecDepth 100000 in
theorem el_Entry {H : Type} {enc : TypeId × Value → H} {W : World} {spare : Nat → Bool} {held : Bool} {n : Nat} {y : DataW H × List MemPlace} {cs : List Value}
    (h : DataW.trod enc Try.prog W 0 spare held n 107 cs = some y) (hf : Fit Try.prog 107 y.1) : ∃ x : LEntry, cs = x.enc ∧ x.wf := by
  obtain ⟨hl, _⟩ := trod_field Try.underlying107 h hf
  rw [show Try.prog.cellsOf 107 = 3 by kernel_rfl] at hl
  match cs, hl with
  | [u0, u1, u2], _ =>
    obtain ⟨_, _, p0, q0⟩ : ∃ m z, DataW.trod enc Try.prog W 0 spare held m 9 [u0] = some z ∧ Fit Try.prog 9 z.1 := field_at Try.underlying107 h hf 0 rfl rfl rfl (show Try.prog.cellsOf 9 = 1 by kernel_rfl) rfl
    obtain ⟨a0, rfl, w0⟩ := trod_str1 Try.underlying9 p0 q0
    obtain ⟨_, _, p1, q1⟩ : ∃ m z, DataW.trod enc Try.prog W 0 spare held m 4 [u1] = some z ∧ Fit Try.prog 4 z.1 := field_at Try.underlying107 h hf 1 rfl rfl rfl (show Try.prog.cellsOf 4 = 1 by kernel_rfl) rfl
    obtain ⟨a1, rfl⟩ := trod_bool1 Try.underlying4 p1
    obtain ⟨_, _, p2, q2⟩ : ∃ m z, DataW.trod enc Try.prog W 0 spare held m 3 [u2] = some z ∧ Fit Try.prog 3 z.1 := field_at Try.underlying107 h hf 2 rfl rfl rfl (show Try.prog.cellsOf 3 = 1 by kernel_rfl) rfl
    obtain ⟨a2, rfl, w2⟩ := trod_int1 Try.underlying3 p2
    exact ⟨⟨a0, a1, a2⟩, rfl, w0, trivial, w2⟩

end Go.Proofs.Ytkfjkfmceeigpaa

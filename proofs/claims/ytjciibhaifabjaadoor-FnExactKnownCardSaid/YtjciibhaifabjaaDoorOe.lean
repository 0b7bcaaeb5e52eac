/- Elements of slices of flat structs, out of the row's reading. -/
import Derived.Test.YtjciibhaifabjaaDoorOp
import Derived.Test.YtjciibhaifabjaaDoorProg
set_option linter.unusedVariables false
set_option linter.unusedSimpArgs false
namespace Go.Proofs.YtjciibhaifabjaaDoor
open Go.ChangeShapes Go.WideShapes Go.RowKit

def LSlot.wf (x : LSlot) : Prop := (Lit.int .i64 x.kind).wf = true ∧ (Lit.int .i32 x.n).wf = true
set_option maxRecDepth 100000 in
theorem el_Slot {H : Type} {enc : TypeId × Value → H} {W : World} {spare : Nat → Bool} {held : Bool} {n : Nat} {y : DataW H × List MemPlace} {cs : List Value}
    (h : DataW.trod enc Tryd.prog W 0 spare held n 122 cs = some y) (hf : Fit Tryd.prog 122 y.1) : ∃ x : LSlot, cs = x.enc ∧ x.wf := by
  obtain ⟨hl, _⟩ := trod_field Tryd.underlying122 h hf
  rw [show Tryd.prog.cellsOf 122 = 2 by kernel_rfl] at hl
  match cs, hl with
  | [u0, u1], _ =>
    obtain ⟨_, _, p0, q0⟩ : ∃ m z, DataW.trod enc Tryd.prog W 0 spare held m 3 [u0] = some z ∧ Fit Tryd.prog 3 z.1 := field_at Tryd.underlying122 h hf 0 rfl rfl rfl (show Tryd.prog.cellsOf 3 = 1 by kernel_rfl) rfl
    obtain ⟨a0, rfl, w0⟩ := trod_int1 Tryd.underlying3 p0
    obtain ⟨_, _, p1, q1⟩ : ∃ m z, DataW.trod enc Tryd.prog W 0 spare held m 21 [u1] = some z ∧ Fit Tryd.prog 21 z.1 := field_at Tryd.underlying122 h hf 1 rfl rfl rfl (show Tryd.prog.cellsOf 21 = 1 by kernel_rfl) rfl
    obtain ⟨a1, rfl, w1⟩ := trod_int1 Tryd.underlying21 p1
    exact ⟨⟨a0, a1⟩, rfl, w0, w1⟩

def LOp.wf (x : LOp) : Prop := (Lit.int .i64 x.kind).wf = true ∧ (Lit.int .i32 x.n).wf = true
set_option maxRecDepth 100000 in
theorem el_Op {H : Type} {enc : TypeId × Value → H} {W : World} {spare : Nat → Bool} {held : Bool} {n : Nat} {y : DataW H × List MemPlace} {cs : List Value}
    (h : DataW.trod enc Tryd.prog W 0 spare held n 155 cs = some y) (hf : Fit Tryd.prog 155 y.1) : ∃ x : LOp, cs = x.enc ∧ x.wf := by
  obtain ⟨hl, _⟩ := trod_field Tryd.underlying155 h hf
  rw [show Tryd.prog.cellsOf 155 = 2 by kernel_rfl] at hl
  match cs, hl with
  | [u0, u1], _ =>
    obtain ⟨_, _, p0, q0⟩ : ∃ m z, DataW.trod enc Tryd.prog W 0 spare held m 3 [u0] = some z ∧ Fit Tryd.prog 3 z.1 := field_at Tryd.underlying155 h hf 0 rfl rfl rfl (show Tryd.prog.cellsOf 3 = 1 by kernel_rfl) rfl
    obtain ⟨a0, rfl, w0⟩ := trod_int1 Tryd.underlying3 p0
    obtain ⟨_, _, p1, q1⟩ : ∃ m z, DataW.trod enc Tryd.prog W 0 spare held m 21 [u1] = some z ∧ Fit Tryd.prog 21 z.1 := field_at Tryd.underlying155 h hf 1 rfl rfl rfl (show Tryd.prog.cellsOf 21 = 1 by kernel_rfl) rfl
    obtain ⟨a1, rfl, w1⟩ := trod_int1 Tryd.underlying21 p1
    exact ⟨⟨a0, a1⟩, rfl, w0, w1⟩

def LIns.wf (x : LIns) : Prop := (Lit.int .i64 x.op).wf = true ∧ (Lit.int .i64 x.n).wf = true
set_option maxRecDepth 100000 in
theorem el_Ins {H : Type} {enc : TypeId × Value → H} {W : World} {spare : Nat → Bool} {held : Bool} {n : Nat} {y : DataW H × List MemPlace} {cs : List Value}
    (h : DataW.trod enc Tryd.prog W 0 spare held n 80 cs = some y) (hf : Fit Tryd.prog 80 y.1) : ∃ x : LIns, cs = x.enc ∧ x.wf := by
  obtain ⟨hl, _⟩ := trod_field Tryd.underlying80 h hf
  rw [show Tryd.prog.cellsOf 80 = 2 by kernel_rfl] at hl
  match cs, hl with
  | [u0, u1], _ =>
    obtain ⟨_, _, p0, q0⟩ : ∃ m z, DataW.trod enc Tryd.prog W 0 spare held m 3 [u0] = some z ∧ Fit Tryd.prog 3 z.1 := field_at Tryd.underlying80 h hf 0 rfl rfl rfl (show Tryd.prog.cellsOf 3 = 1 by kernel_rfl) rfl
    obtain ⟨a0, rfl, w0⟩ := trod_int1 Tryd.underlying3 p0
    obtain ⟨_, _, p1, q1⟩ : ∃ m z, DataW.trod enc Tryd.prog W 0 spare held m 3 [u1] = some z ∧ Fit Tryd.prog 3 z.1 := field_at Tryd.underlying80 h hf 1 rfl rfl rfl (show Tryd.prog.cellsOf 3 = 1 by kernel_rfl) rfl
    obtain ⟨a1, rfl, w1⟩ := trod_int1 Tryd.underlying3 p1
    exact ⟨⟨a0, a1⟩, rfl, w0, w1⟩

def LEntry.wf (x : LEntry) : Prop := x.name.size ≤ 140737488351232 ∧ True ∧ (Lit.int .i64 x.n).wf = true
set_option maxRecDepth 100000 in
theorem el_Entry {H : Type} {enc : TypeId × Value → H} {W : World} {spare : Nat → Bool} {held : Bool} {n : Nat} {y : DataW H × List MemPlace} {cs : List Value}
    (h : DataW.trod enc Tryd.prog W 0 spare held n 131 cs = some y) (hf : Fit Tryd.prog 131 y.1) : ∃ x : LEntry, cs = x.enc ∧ x.wf := by
  obtain ⟨hl, _⟩ := trod_field Tryd.underlying131 h hf
  rw [show Tryd.prog.cellsOf 131 = 3 by kernel_rfl] at hl
  match cs, hl with
  | [u0, u1, u2], _ =>
    obtain ⟨_, _, p0, q0⟩ : ∃ m z, DataW.trod enc Tryd.prog W 0 spare held m 9 [u0] = some z ∧ Fit Tryd.prog 9 z.1 := field_at Tryd.underlying131 h hf 0 rfl rfl rfl (show Tryd.prog.cellsOf 9 = 1 by kernel_rfl) rfl
    obtain ⟨a0, rfl, w0⟩ := trod_str1 Tryd.underlying9 p0 q0
    obtain ⟨_, _, p1, q1⟩ : ∃ m z, DataW.trod enc Tryd.prog W 0 spare held m 4 [u1] = some z ∧ Fit Tryd.prog 4 z.1 := field_at Tryd.underlying131 h hf 1 rfl rfl rfl (show Tryd.prog.cellsOf 4 = 1 by kernel_rfl) rfl
    obtain ⟨a1, rfl⟩ := trod_bool1 Tryd.underlying4 p1
    obtain ⟨_, _, p2, q2⟩ : ∃ m z, DataW.trod enc Tryd.prog W 0 spare held m 3 [u2] = some z ∧ Fit Tryd.prog 3 z.1 := field_at Tryd.underlying131 h hf 2 rfl rfl rfl (show Tryd.prog.cellsOf 3 = 1 by kernel_rfl) rfl
    obtain ⟨a2, rfl, w2⟩ := trod_int1 Tryd.underlying3 p2
    exact ⟨⟨a0, a1, a2⟩, rfl, w0, trivial, w2⟩

end Go.Proofs.YtjciibhaifabjaaDoor

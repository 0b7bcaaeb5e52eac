/- Elements of slices of flat structs, out of the row's reading. -/
import Derived.Test.YtfmmfgjelaekhaaDoorOp
import Derived.Test.YtfmmfgjelaekhaaDoorProg
set_option linter.unusedVariables false
set_option linter.unusedSimpArgs false
namespace Go.Proofs.YtfmmfgjelaekhaaDoor
open Go.ChangeShapes Go.WideShapes Go.RowKit

def LOp.wf (x : LOp) : Prop := (Lit.int .i64 x.kind).wf = true ∧ (Lit.int .i32 x.n).wf = true
set_option maxRecDepth 100000 in
theorem el_Op {H : Type} {enc : TypeId × Value → H} {W : World} {spare : Nat → Bool} {held : Bool} {n : Nat} {y : DataW H × List MemPlace} {cs : List Value}
    (h : DataW.trod enc Tryd.prog W 0 spare held n 69 cs = some y) (hf : Fit Tryd.prog 69 y.1) : ∃ x : LOp, cs = x.enc ∧ x.wf := by
  obtain ⟨hl, _⟩ := trod_field Tryd.underlying69 h hf
  rw [show Tryd.prog.cellsOf 69 = 2 by kernel_rfl] at hl
  match cs, hl with
  | [u0, u1], _ =>
    obtain ⟨_, _, p0, q0⟩ : ∃ m z, DataW.trod enc Tryd.prog W 0 spare held m 3 [u0] = some z ∧ Fit Tryd.prog 3 z.1 := field_at Tryd.underlying69 h hf 0 rfl rfl rfl (show Tryd.prog.cellsOf 3 = 1 by kernel_rfl) rfl
    obtain ⟨a0, rfl, w0⟩ := trod_int1 Tryd.underlying3 p0
    obtain ⟨_, _, p1, q1⟩ : ∃ m z, DataW.trod enc Tryd.prog W 0 spare held m 21 [u1] = some z ∧ Fit Tryd.prog 21 z.1 := field_at Tryd.underlying69 h hf 1 rfl rfl rfl (show Tryd.prog.cellsOf 21 = 1 by kernel_rfl) rfl
    obtain ⟨a1, rfl, w1⟩ := trod_int1 Tryd.underlying21 p1
    exact ⟨⟨a0, a1⟩, rfl, w0, w1⟩

def LIns.wf (x : LIns) : Prop := (Lit.int .i64 x.op).wf = true ∧ (Lit.int .i64 x.n).wf = true
set_option maxRecDepth 100000 in
theorem el_Ins {H : Type} {enc : TypeId × Value → H} {W : World} {spare : Nat → Bool} {held : Bool} {n : Nat} {y : DataW H × List MemPlace} {cs : List Value}
    (h : DataW.trod enc Tryd.prog W 0 spare held n 63 cs = some y) (hf : Fit Tryd.prog 63 y.1) : ∃ x : LIns, cs = x.enc ∧ x.wf := by
  obtain ⟨hl, _⟩ := trod_field Tryd.underlying63 h hf
  rw [show Tryd.prog.cellsOf 63 = 2 by kernel_rfl] at hl
  match cs, hl with
  | [u0, u1], _ =>
    obtain ⟨_, _, p0, q0⟩ : ∃ m z, DataW.trod enc Tryd.prog W 0 spare held m 3 [u0] = some z ∧ Fit Tryd.prog 3 z.1 := field_at Tryd.underlying63 h hf 0 rfl rfl rfl (show Tryd.prog.cellsOf 3 = 1 by kernel_rfl) rfl
    obtain ⟨a0, rfl, w0⟩ := trod_int1 Tryd.underlying3 p0
    obtain ⟨_, _, p1, q1⟩ : ∃ m z, DataW.trod enc Tryd.prog W 0 spare held m 3 [u1] = some z ∧ Fit Tryd.prog 3 z.1 := field_at Tryd.underlying63 h hf 1 rfl rfl rfl (show Tryd.prog.cellsOf 3 = 1 by kernel_rfl) rfl
    obtain ⟨a1, rfl, w1⟩ := trod_int1 Tryd.underlying3 p1
    exact ⟨⟨a0, a1⟩, rfl, w0, w1⟩

end Go.Proofs.YtfmmfgjelaekhaaDoor

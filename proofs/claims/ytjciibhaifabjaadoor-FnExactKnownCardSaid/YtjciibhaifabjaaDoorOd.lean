/- Definitions that come in as an argument, opened. -/
import Derived.Test.YtjciibhaifabjaaDoorOe
import Derived.Test.YtjciibhaifabjaaDoorDf
set_option linter.unusedVariables false
set_option linter.unusedSimpArgs false
namespace Go.Proofs.YtjciibhaifabjaaDoor
open Go.ChangeShapes Go.WideShapes Go.RowKit

theorem small_reach {n b : Nat} (h : n * b ≤ reachBytes) (hb : 0 < b) : n ≤ 140737488355328 := by
  have : n ≤ n * b := Nat.le_mul_of_pos_right _ hb
  unfold reachBytes at h
  omega
set_option maxRecDepth 100000 in
theorem el_Def {H : Type} {enc : TypeId × Value → H} {W : World} {spare : Nat → Bool} {held : Bool} {n : Nat} {y : DataW H × List MemPlace} {cs : List Value}
    (h : DataW.trod enc Tryd.prog W 0 spare held n 129 cs = some y) (hf : Fit Tryd.prog 129 y.1) : ∃ z : DDef, cs = z.enc ∧ z.R W := by
  obtain ⟨hl, _⟩ := trod_field Tryd.underlying129 h hf
  rw [show Tryd.prog.cellsOf 129 = 2 by kernel_rfl] at hl
  match cs, hl with
  | [u0, u1], _ =>
    obtain ⟨_, _, p0, q0⟩ : ∃ m z, DataW.trod enc Tryd.prog W 0 spare held m 9 [u0] = some z ∧ Fit Tryd.prog 9 z.1 := field_at Tryd.underlying129 h hf 0 rfl rfl rfl (show Tryd.prog.cellsOf 9 = 1 by kernel_rfl) rfl
    obtain ⟨a0, rfl, w0⟩ := trod_str1 Tryd.underlying9 p0 q0
    obtain ⟨_, _, p1, q1⟩ : ∃ m z, DataW.trod enc Tryd.prog W 0 spare held m 127 [u1] = some z ∧ Fit Tryd.prog 127 z.1 := field_at Tryd.underlying129 h hf 1 rfl rfl rfl (show Tryd.prog.cellsOf 127 = 1 by kernel_rfl) rfl
    obtain ⟨A, c, xs, rfl, _, _, rd, sz, wf⟩ := open_rows (en := LOp.enc) (wfE := LOp.wf) LOp.enc_len (by omega) Tryd.underlying127 (by kernel_rfl) (fun _ _ _ hz hfz => el_Op hz hfz) p1 q1
    rw [show Tryd.prog.bytesOf 155 = 16 by kernel_rfl] at sz
    exact ⟨⟨a0, xs, A, c⟩, rfl, rd, fun x hx => by
      have := (wf x hx).2
      show -2147483648 ≤ x.n ∧ x.n ≤ 2147483647
      simpa [Lit.wf, IntKind.min, IntKind.max, IntKind.signed, IntKind.bits] using this, by show a0.size ≤ _; omega, small_reach sz (by omega)⟩
set_option maxRecDepth 100000 in
theorem open_Defs {H : Type} {enc : TypeId × Value → H} {W : World} {spare : Nat → Bool} {held : Bool} {v : Value} {n : Nat} {y : DataW H × List MemPlace}
    (h : DataW.trod enc Tryd.prog W 0 spare held n 48 [v] = some y) (hf : Fit Tryd.prog 48 y.1) : ∃ (A : Option Addr) (c : Nat) (zs : List DDef), v = .slice A zs.length c ∧ Rd W A (zs.flatMap DDef.enc) ∧ DefsR W zs ∧ zs.length ≤ 140737488355328 := by
  obtain ⟨A, c, zs, rfl, _, _, rd, sz, wf⟩ := open_rows (en := DDef.enc) (wfE := fun z => z.R W) DDef.enc_len (by omega) Tryd.underlying48 (by kernel_rfl) (fun _ _ _ hz hfz => el_Def hz hfz) h hf
  rw [show Tryd.prog.bytesOf 129 = 40 by kernel_rfl] at sz
  exact ⟨A, c, zs, rfl, rd, wf, small_reach sz (by omega)⟩
end Go.Proofs.YtjciibhaifabjaaDoor

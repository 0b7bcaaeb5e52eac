/- Opener of a laws.Store. -/
import Derived.Test.YtkfjkfmceeigpaaOpSt
set_option linter.unusedVariables false
set_option linter.unusedSimpArgs false
namespace Go.Proofs.Ytkfjkfmceeigpaa
open Go.ChangeShapes Go.WideShapes Go.RowKit

set_option maxRecDepth 100000 in
theorem open_Store {H : Type} {enc : TypeId × Value → H} {W : World} {spare : Nat → Bool} {held : Bool} {v : Value} {n : Nat} {y : DataW H × List MemPlace} {cs : List Value} (hv : v = .agg cs.toArray)
    (h : DataW.trod enc Try.prog W 0 spare held n 24 cs = some y) (hf : Fit Try.prog 24 y.1) : ∃ (A : Option Addr) (c : Nat) (xs : List Int), v = .agg #[.slice A xs.length c] ∧ Rd W A (xs.map (Value.int .u32)) ∧ xs.length ≤ 140737488355328 := by
  obtain ⟨hl, _⟩ := trod_field Try.underlying24 h hf
  have c1 : Try.prog.cellsOf 24 = 1 := by kernel_rfl
  rw [c1] at hl
  match cs, hl with
  | [v0], _ =>
    have cU : Try.prog.cellsOf 22 = 1 := by kernel_rfl
    have cu : Try.prog.cellsOf 75 = 1 := by kernel_rfl
    have bu : Try.prog.bytesOf 75 = 4 := by kernel_rfl
    obtain ⟨m0, z0, t0, f0⟩ : ∃ m z, DataW.trod enc Try.prog W 0 spare held m 22 [v0] = some z ∧ Fit Try.prog 22 z.1 := field_at Try.underlying24 h hf 0 rfl rfl rfl cU rfl
    obtain ⟨A0, n0, x0, e0, l0, _, r0, s0, w0⟩ := open_ints1 Try.underlying22 Try.underlying75 cu t0 f0
    rw [bu] at s0
    refine ⟨A0, n0, x0, by rw [hv, e0], r0, ?_⟩
    simp only [reachBytes] at s0
    omega
end Go.Proofs.Ytkfjkfmceeigpaa

/- Opener of a laws.World. -/
import Derived.Test.YtjciibhaifabjaaDoorOd
import Derived.Test.YtjciibhaifabjaaDoorOpSt
import Derived.Test.YtjciibhaifabjaaDoorWd
set_option linter.unusedVariables false
set_option linter.unusedSimpArgs false
namespace Go.Proofs.YtjciibhaifabjaaDoor
open Go.ChangeShapes Go.WideShapes Go.RowKit

set_option maxRecDepth 100000 in
theorem open_World {H : Type} {enc : TypeId × Value → H} {W : World} {spare : Nat → Bool} {held : Bool} {v : Value} {n : Nat} {y : DataW H × List MemPlace} {cs : List Value} (hv : v = .agg cs.toArray)
    (h : DataW.trod enc Tryd.prog W 0 spare held n 51 cs = some y) (hf : Fit Tryd.prog 51 y.1) : ∃ x, WK W x v ∧ x.small ∧ x.st.wf := by
  obtain ⟨hl, _⟩ := trod_field Tryd.underlying51 h hf
  have c1 : Tryd.prog.cellsOf 51 = 14 := by kernel_rfl
  rw [c1] at hl
  match cs, hl with
  | [u0, u1, s0, s1, s2, s3, s4, s5, s6, s7, s8, s9, u3, u4], _ =>
    have cD : Tryd.prog.cellsOf 48 = 1 := by kernel_rfl
    have cE : Tryd.prog.cellsOf 49 = 1 := by kernel_rfl
    have cS : Tryd.prog.cellsOf 29 = 10 := by kernel_rfl
    have cb : Tryd.prog.cellsOf 4 = 1 := by kernel_rfl
    obtain ⟨m0, z0, t0, f0⟩ : ∃ m z, DataW.trod enc Tryd.prog W 0 spare held m 48 [u0] = some z ∧ Fit Tryd.prog 48 z.1 := field_at Tryd.underlying51 h hf 0 rfl rfl rfl cD rfl
    obtain ⟨m1, z1, t1, f1⟩ : ∃ m z, DataW.trod enc Tryd.prog W 0 spare held m 49 [u1] = some z ∧ Fit Tryd.prog 49 z.1 := field_at Tryd.underlying51 h hf 1 rfl rfl rfl cE rfl
    obtain ⟨m2, z2, t2, f2⟩ : ∃ m z, DataW.trod enc Tryd.prog W 0 spare held m 29 [s0, s1, s2, s3, s4, s5, s6, s7, s8, s9] = some z ∧ Fit Tryd.prog 29 z.1 := field_at Tryd.underlying51 h hf 2 rfl rfl rfl cS rfl
    obtain ⟨m3, z3, t3, f3⟩ : ∃ m z, DataW.trod enc Tryd.prog W 0 spare held m 4 [u3] = some z ∧ Fit Tryd.prog 4 z.1 := field_at Tryd.underlying51 h hf 3 rfl rfl rfl cb rfl
    obtain ⟨m4, z4, t4, f4⟩ : ∃ m z, DataW.trod enc Tryd.prog W 0 spare held m 4 [u4] = some z ∧ Fit Tryd.prog 4 z.1 := field_at Tryd.underlying51 h hf 4 rfl rfl rfl cb rfl
    obtain ⟨A, a, zs, rfl, rA, dA, lA⟩ := open_Defs t0 f0
    obtain ⟨B, b, es, rfl, _, _, rB, sB, wB⟩ := open_rows (en := LEntry.enc) (wfE := LEntry.wf) LEntry.enc_len (by omega) Tryd.underlying49 (by kernel_rfl) (fun _ _ _ hz hfz => el_Entry hz hfz) t1 f1
    rw [show Tryd.prog.bytesOf 131 = 32 by kernel_rfl] at sB
    obtain ⟨s, K, Sm, F⟩ := open_St (v := .agg #[s0, s1, s2, s3, s4, s5, s6, s7, s8, s9]) rfl t2 f2
    obtain ⟨D0, d0, D1, d1, D3, d3, D4, d4, D5, d5, D6, d6, D7, d7, he⟩ := K.form
    simp only [Value.agg.injEq, Array.mk.injEq, List.cons.injEq, and_true] at he
    obtain ⟨rfl, rfl, rfl, rfl, rfl, rfl, rfl, rfl, rfl, rfl⟩ := he
    obtain ⟨o, rfl⟩ := trod_bool1 Tryd.underlying4 t3
    obtain ⟨ye, rfl⟩ := trod_bool1 Tryd.underlying4 t4
    exact ⟨⟨zs, es, s, o, ye⟩, ⟨A, a, B, b, D0, d0, D1, d1, D3, d3, D4, d4, D5, d5, D6, d6, D7, d7, hv, rA, dA, rB, (fun z hz => by have := (wB z hz); unfold LEntry.wf at this; omega), K⟩, ⟨lA, small_reach sB (by omega), Sm⟩, F⟩
end Go.Proofs.YtjciibhaifabjaaDoor

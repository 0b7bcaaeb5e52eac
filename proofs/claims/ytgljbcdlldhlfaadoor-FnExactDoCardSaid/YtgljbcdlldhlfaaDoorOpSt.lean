/- A state that comes in as an argument, opened. -/
import Derived.Test.YtgljbcdlldhlfaaDoorOp
import Derived.Test.YtgljbcdlldhlfaaDoorK
set_option linter.unusedVariables false
set_option linter.unusedSimpArgs false
namespace Go.Proofs.YtgljbcdlldhlfaaDoor
open Go.ChangeShapes Go.WideShapes Go.RowKit

/-- The numbers of a state are of their kinds. -/
structure LSt.wf (s : LSt) : Prop where
  data : ∀ x ∈ s.data, (Lit.int .i32 x).wf = true
  ret : ∀ x ∈ s.ret, (Lit.int .i64 x.kind).wf = true ∧ (Lit.int .i32 x.n).wf = true
  a : (Lit.int .i32 s.a).wf = true
  mem : ∀ x ∈ s.mem, (Lit.int .i32 x).wf = true
  cells : ∀ x ∈ s.cells, (Lit.int .u32 x).wf = true
  vars : ∀ x ∈ s.vars, (Lit.int .i64 x).wf = true
  out : ∀ x ∈ s.out, (Lit.int .u8 x).wf = true
  inp : ∀ x ∈ s.inp, (Lit.int .u8 x).wf = true
  fault : (Lit.int .i64 s.fault).wf = true
  fuel : (Lit.int .i64 s.fuel).wf = true
theorem small_of_reach {n b : Nat} (h : n * b ≤ reachBytes) (hb : 0 < b) : n ≤ 140737488355328 := by
  have : n ≤ n * b := Nat.le_mul_of_pos_right _ hb
  unfold reachBytes at h
  omega
set_option maxRecDepth 100000 in
theorem open_St {H : Type} {enc : TypeId × Value → H} {W : World} {spare : Nat → Bool} {held : Bool} {v : Value} {n : Nat} {y : DataW H × List MemPlace} {cs : List Value} (hv : v = .agg cs.toArray)
    (h : DataW.trod enc Tryd.prog W 0 spare held n 28 cs = some y) (hf : Fit Tryd.prog 28 y.1) : ∃ s, StK W s v ∧ s.small 140737488355328 ∧ s.wf := by
  obtain ⟨hl, _⟩ := trod_field Tryd.underlying28 h hf
  have c1 : Tryd.prog.cellsOf 28 = 10 := by kernel_rfl
  rw [c1] at hl
  match cs, hl with
  | [v0, v1, v2, v3, v4, v5, v6, v7, v8, v9], _ =>
    have cS : Tryd.prog.cellsOf 22 = 1 := by kernel_rfl
    have cR : Tryd.prog.cellsOf 23 = 1 := by kernel_rfl
    have cU : Tryd.prog.cellsOf 24 = 1 := by kernel_rfl
    have cI : Tryd.prog.cellsOf 25 = 1 := by kernel_rfl
    have cB : Tryd.prog.cellsOf 26 = 1 := by kernel_rfl
    have ci : Tryd.prog.cellsOf 3 = 1 := by kernel_rfl
    have cn : Tryd.prog.cellsOf 21 = 1 := by kernel_rfl
    have cu : Tryd.prog.cellsOf 93 = 1 := by kernel_rfl
    have cb : Tryd.prog.cellsOf 5 = 1 := by kernel_rfl
    have cs : Tryd.prog.cellsOf 92 = 2 := by kernel_rfl
    have bn : Tryd.prog.bytesOf 21 = 4 := by kernel_rfl
    have bu : Tryd.prog.bytesOf 93 = 4 := by kernel_rfl
    have bi : Tryd.prog.bytesOf 3 = 8 := by kernel_rfl
    have bb : Tryd.prog.bytesOf 5 = 1 := by kernel_rfl
    have bs : Tryd.prog.bytesOf 92 = 16 := by kernel_rfl
    obtain ⟨m0, z0, t0, f0⟩ : ∃ m z, DataW.trod enc Tryd.prog W 0 spare held m 22 [v0] = some z ∧ Fit Tryd.prog 22 z.1 := field_at Tryd.underlying28 h hf 0 rfl rfl rfl cS rfl
    obtain ⟨m1, z1, t1, f1⟩ : ∃ m z, DataW.trod enc Tryd.prog W 0 spare held m 23 [v1] = some z ∧ Fit Tryd.prog 23 z.1 := field_at Tryd.underlying28 h hf 1 rfl rfl rfl cR rfl
    obtain ⟨m2, z2, t2, f2⟩ : ∃ m z, DataW.trod enc Tryd.prog W 0 spare held m 21 [v2] = some z ∧ Fit Tryd.prog 21 z.1 := field_at Tryd.underlying28 h hf 2 rfl rfl rfl cn rfl
    obtain ⟨m3, z3, t3, f3⟩ : ∃ m z, DataW.trod enc Tryd.prog W 0 spare held m 22 [v3] = some z ∧ Fit Tryd.prog 22 z.1 := field_at Tryd.underlying28 h hf 3 rfl rfl rfl cS rfl
    obtain ⟨m4, z4, t4, f4⟩ : ∃ m z, DataW.trod enc Tryd.prog W 0 spare held m 24 [v4] = some z ∧ Fit Tryd.prog 24 z.1 := field_at Tryd.underlying28 h hf 4 rfl rfl rfl cU rfl
    obtain ⟨m5, z5, t5, f5⟩ : ∃ m z, DataW.trod enc Tryd.prog W 0 spare held m 25 [v5] = some z ∧ Fit Tryd.prog 25 z.1 := field_at Tryd.underlying28 h hf 5 rfl rfl rfl cI rfl
    obtain ⟨m6, z6, t6, f6⟩ : ∃ m z, DataW.trod enc Tryd.prog W 0 spare held m 26 [v6] = some z ∧ Fit Tryd.prog 26 z.1 := field_at Tryd.underlying28 h hf 6 rfl rfl rfl cB rfl
    obtain ⟨m7, z7, t7, f7⟩ : ∃ m z, DataW.trod enc Tryd.prog W 0 spare held m 26 [v7] = some z ∧ Fit Tryd.prog 26 z.1 := field_at Tryd.underlying28 h hf 7 rfl rfl rfl cB rfl
    obtain ⟨m8, z8, t8, f8⟩ : ∃ m z, DataW.trod enc Tryd.prog W 0 spare held m 3 [v8] = some z ∧ Fit Tryd.prog 3 z.1 := field_at Tryd.underlying28 h hf 8 rfl rfl rfl ci rfl
    obtain ⟨m9, z9, t9, f9⟩ : ∃ m z, DataW.trod enc Tryd.prog W 0 spare held m 3 [v9] = some z ∧ Fit Tryd.prog 3 z.1 := field_at Tryd.underlying28 h hf 9 rfl rfl rfl ci rfl
    obtain ⟨A0, c0, x0, rfl, l0, -, r0, s0, g0⟩ := open_ints1 Tryd.underlying22 Tryd.underlying21 cn t0 f0
    obtain ⟨A3, c3, x3, rfl, l3, -, r3, s3, g3⟩ := open_ints1 Tryd.underlying22 Tryd.underlying21 cn t3 f3
    obtain ⟨A4, c4, x4, rfl, l4, -, r4, s4, g4⟩ := open_ints1 Tryd.underlying24 Tryd.underlying93 cu t4 f4
    obtain ⟨A5, c5, x5, rfl, l5, -, r5, s5, g5⟩ := open_ints1 Tryd.underlying25 Tryd.underlying3 ci t5 f5
    obtain ⟨A6, c6, x6, rfl, l6, -, r6, s6, g6⟩ := open_ints1 Tryd.underlying26 Tryd.underlying5 cb t6 f6
    obtain ⟨A7, c7, x7, rfl, l7, -, r7, s7, g7⟩ := open_ints1 Tryd.underlying26 Tryd.underlying5 cb t7 f7
    obtain ⟨A1, c1, x1, rfl, l1, -, r1, s1, g1⟩ := open_rows (en := LSlot.enc) (wfE := fun x : LSlot => (Lit.int .i64 x.kind).wf = true ∧ (Lit.int .i32 x.n).wf = true) LSlot.enc_len (by omega) Tryd.underlying23 cs (fun m ds z hz hfz => by
      obtain ⟨hl2, _⟩ := trod_field Tryd.underlying92 hz hfz
      rw [cs] at hl2
      match ds, hl2 with
      | [u0, u1], _ =>
        obtain ⟨_, _, p0, _⟩ : ∃ m z, DataW.trod enc Tryd.prog W 0 spare held m 3 [u0] = some z ∧ Fit Tryd.prog 3 z.1 := field_at Tryd.underlying92 hz hfz 0 rfl rfl rfl ci rfl
        obtain ⟨_, _, p1, _⟩ : ∃ m z, DataW.trod enc Tryd.prog W 0 spare held m 21 [u1] = some z ∧ Fit Tryd.prog 21 z.1 := field_at Tryd.underlying92 hz hfz 1 rfl rfl rfl cn rfl
        obtain ⟨a0, rfl, w0⟩ := trod_int1 Tryd.underlying3 p0
        obtain ⟨a1, rfl, w1⟩ := trod_int1 Tryd.underlying21 p1
        exact ⟨⟨a0, a1⟩, rfl, w0, w1⟩) t1 f1
    obtain ⟨a2, rfl, w2⟩ := trod_int1 Tryd.underlying21 t2
    obtain ⟨a8, rfl, w8⟩ := trod_int1 Tryd.underlying3 t8
    obtain ⟨a9, rfl, w9⟩ := trod_int1 Tryd.underlying3 t9
    rw [bn] at s0 s3
    rw [bu] at s4
    rw [bi] at s5
    rw [bb] at s6 s7
    rw [bs] at s1
    exact ⟨⟨x0, x1, a2, x3, x4, x5, x6, x7, a8, a9⟩, ⟨A0, c0, A1, c1, A3, c3, A4, c4, A5, c5, A6, c6, A7, c7, hv, r0, r1, r3, r4, r5, r6, r7, l0, l1, l3, l4, l5, l6, l7⟩,
      ⟨small_of_reach s0 (by omega), small_of_reach s1 (by omega), small_of_reach s3 (by omega), small_of_reach s4 (by omega), small_of_reach s5 (by omega), small_of_reach s6 (by omega), small_of_reach s7 (by omega)⟩,
      ⟨g0, g1, w2, g3, g4, g5, g6, g7, w8, w9⟩⟩
end Go.Proofs.YtgljbcdlldhlfaaDoor

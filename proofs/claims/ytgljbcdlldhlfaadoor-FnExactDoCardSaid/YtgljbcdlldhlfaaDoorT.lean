/- Contracts of the laws' helpers over states. -/
import Derived.Test.YtgljbcdlldhlfaaDoorK
set_option linter.unusedVariables false
set_option linter.unusedSimpArgs false
namespace Go.Proofs.YtgljbcdlldhlfaaDoor
open Go.RowKit

set_option maxRecDepth 100000 in
set_option maxHeartbeats 1000000 in
theorem toSt_calls (s : LSt) (v : Value) (w : World) (hv : StK w s v) (hs : s.small 1048576) :
    Calls Tryd.prog 8 #[v] w fun e w' => ∃ v', e = .returned v' ∧ StO w' w.heap.size s v' ∧ Below w.heap.size w w' := by
  obtain ⟨A0, c0, A1, c1, A3, c3, A4, c4, A5, c5, A6, c6, A7, c7, rfl, r0, r1, r3, r4, r5, r6, r7, hcap⟩ := hv
  obtain ⟨h0, h1, h3, h4, h5, h6, h7⟩ := hs
  clear hcap
  go_enter Tryd.func8, Tryd.ntmps8
  go_wp2_with (first | (go_at_call 34; (with_reducible refine (toInt32S_calls A0 c0 s.data _ ?_ h0).mono ?_); exact r0.keepB (bl_alloc (bl_alloc (bl_alloc (Below.refl _ w) _) _) _); rintro e w0 ⟨g0, rfl, R0, lo0, hb0⟩; obtain ⟨q0, f0⟩ := bcell hb0; obtain ⟨za0, zb0, zc0⟩ := below3 (n := w.heap.size) hb0 (by simp; try omega); have s0 := hb0.size; simp at s0 lo0; have l0 := R0.lt _ rfl; have HR0 := Lib.hid R0; have HB0 := Lib.hid (bl_call (bl_alloc (bl_alloc (bl_alloc (Below.refl _ w) _) _) _) hb0); have HX0 := Lib.hid hb0; clear R0 hb0) | (go_at_call 35; (with_reducible refine (toSlotS_calls A1 c1 s.ret _ ?_ h1).mono ?_); exact r1.keepB (by repeat (first | exact HB0.out | apply bl_set2)); rintro e w1 ⟨g1, rfl, R1, lo1, hb1⟩; obtain ⟨q1, f1⟩ := bcell hb1; obtain ⟨za1, zb1, zc1⟩ := below3 (n := w.heap.size) hb1 (by simp; try omega); have s1 := hb1.size; simp at s1 lo1; have l1 := R1.lt _ rfl; have HR1 := Lib.hid R1; have HB1 := Lib.hid (bl_call (by repeat (first | exact HB0.out | apply bl_set2)) hb1); have HX1 := Lib.hid hb1; clear R1 hb1) | (go_at_call 34; (with_reducible refine (toInt32S_calls A3 c3 s.mem _ ?_ h3).mono ?_); exact r3.keepB (by repeat (first | exact HB1.out | apply bl_set2)); rintro e w3 ⟨g3, rfl, R3, lo3, hb3⟩; obtain ⟨q3, f3⟩ := bcell hb3; obtain ⟨za3, zb3, zc3⟩ := below3 (n := w.heap.size) hb3 (by simp; try omega); have s3 := hb3.size; simp at s3 lo3; have l3 := R3.lt _ rfl; have HR3 := Lib.hid R3; have HB3 := Lib.hid (bl_call (by repeat (first | exact HB1.out | apply bl_set2)) hb3); have HX3 := Lib.hid hb3; clear R3 hb3) | (go_at_call 36; (with_reducible refine (toUint32S_calls A4 c4 s.cells _ ?_ h4).mono ?_); exact r4.keepB (by repeat (first | exact HB3.out | apply bl_set2)); rintro e w4 ⟨g4, rfl, R4, lo4, hb4⟩; obtain ⟨q4, f4⟩ := bcell hb4; obtain ⟨za4, zb4, zc4⟩ := below3 (n := w.heap.size) hb4 (by simp; try omega); have s4 := hb4.size; simp at s4 lo4; have l4 := R4.lt _ rfl; have HR4 := Lib.hid R4; have HB4 := Lib.hid (bl_call (by repeat (first | exact HB3.out | apply bl_set2)) hb4); have HX4 := Lib.hid hb4; clear R4 hb4) | (go_at_call 37; (with_reducible refine (toIntS_calls A5 c5 s.vars _ ?_ h5).mono ?_); exact r5.keepB (by repeat (first | exact HB4.out | apply bl_set2)); rintro e w5 ⟨g5, rfl, R5, lo5, hb5⟩; obtain ⟨q5, f5⟩ := bcell hb5; obtain ⟨za5, zb5, zc5⟩ := below3 (n := w.heap.size) hb5 (by simp; try omega); have s5 := hb5.size; simp at s5 lo5; have l5 := R5.lt _ rfl; have HR5 := Lib.hid R5; have HB5 := Lib.hid (bl_call (by repeat (first | exact HB4.out | apply bl_set2)) hb5); have HX5 := Lib.hid hb5; clear R5 hb5) | (go_at_call 38; (with_reducible refine (toByteS_calls A6 c6 s.out _ ?_ h6).mono ?_); exact r6.keepB (by repeat (first | exact HB5.out | apply bl_set2)); rintro e w6 ⟨g6, rfl, R6, lo6, hb6⟩; obtain ⟨q6, f6⟩ := bcell hb6; obtain ⟨za6, zb6, zc6⟩ := below3 (n := w.heap.size) hb6 (by simp; try omega); have s6 := hb6.size; simp at s6 lo6; have l6 := R6.lt _ rfl; have HR6 := Lib.hid R6; have HB6 := Lib.hid (bl_call (by repeat (first | exact HB5.out | apply bl_set2)) hb6); have HX6 := Lib.hid hb6; clear R6 hb6) | (go_at_call 38; (with_reducible refine (toByteS_calls A7 c7 s.inp _ ?_ h7).mono ?_); exact r7.keepB (by repeat (first | exact HB6.out | apply bl_set2)); rintro e w7 ⟨g7, rfl, R7, lo7, hb7⟩; obtain ⟨q7, f7⟩ := bcell hb7; obtain ⟨za7, zb7, zc7⟩ := below3 (n := w.heap.size) hb7 (by simp; try omega); have s7 := hb7.size; simp at s7 lo7; have l7 := R7.lt _ rfl; have HR7 := Lib.hid R7; have HB7 := Lib.hid (bl_call (by repeat (first | exact HB6.out | apply bl_set2)) hb7); have HX7 := Lib.hid hb7; clear R7 hb7))
  have n0 : some g0 ≠ some (w.heap.size + 1 + 1) := fun e => by injection e; omega
  have m0 : some g0 ≠ some (w.heap.size + 1) := fun e => by injection e; omega
  have n1 : some g1 ≠ some (w.heap.size + 1 + 1) := fun e => by injection e; omega
  have m1 : some g1 ≠ some (w.heap.size + 1) := fun e => by injection e; omega
  have n3 : some g3 ≠ some (w.heap.size + 1 + 1) := fun e => by injection e; omega
  have m3 : some g3 ≠ some (w.heap.size + 1) := fun e => by injection e; omega
  have n4 : some g4 ≠ some (w.heap.size + 1 + 1) := fun e => by injection e; omega
  have m4 : some g4 ≠ some (w.heap.size + 1) := fun e => by injection e; omega
  have n5 : some g5 ≠ some (w.heap.size + 1 + 1) := fun e => by injection e; omega
  have m5 : some g5 ≠ some (w.heap.size + 1) := fun e => by injection e; omega
  have n6 : some g6 ≠ some (w.heap.size + 1 + 1) := fun e => by injection e; omega
  have m6 : some g6 ≠ some (w.heap.size + 1) := fun e => by injection e; omega
  have n7 : some g7 ≠ some (w.heap.size + 1 + 1) := fun e => by injection e; omega
  have m7 : some g7 ≠ some (w.heap.size + 1) := fun e => by injection e; omega
  refine bodyPost_ret (v := .agg #[.slice (some ⟨g0, 0, none⟩) s.data.length s.data.length, .slice (some ⟨g1, 0, none⟩) s.ret.length s.ret.length, .int .i32 s.a, .slice (some ⟨g3, 0, none⟩) s.mem.length s.mem.length, .slice (some ⟨g4, 0, none⟩) s.cells.length s.cells.length, .slice (some ⟨g5, 0, none⟩) s.vars.length s.vars.length, .slice (some ⟨g6, 0, none⟩) s.out.length s.out.length, .slice (some ⟨g7, 0, none⟩) s.inp.length s.inp.length, .int .i64 s.fault, .int .i64 s.fuel]) (by simp [results, Tryd.results8, go_sem, q0, zb0, q1, zb1, q3, zb3, q4, zb4, q5, zb5, q6, zb6, q7, zb7]) rfl ⟨_, rfl, ⟨_, _, _, _, _, _, _, _, _, _, _, _, _, _, some g0, some g1, some g3, some g4, some g5, some g6, some g7, rfl, (by with_reducible repeat (first | exact HR0.out | refine Row.far ?_ n0 _ | refine Row.far ?_ m0 _ | refine Row.call ?_ HX1.out | refine Row.call ?_ HX3.out | refine Row.call ?_ HX4.out | refine Row.call ?_ HX5.out | refine Row.call ?_ HX6.out | refine Row.call ?_ HX7.out)), (by with_reducible repeat (first | exact HR1.out | refine Row.far ?_ n1 _ | refine Row.far ?_ m1 _ | refine Row.call ?_ HX3.out | refine Row.call ?_ HX4.out | refine Row.call ?_ HX5.out | refine Row.call ?_ HX6.out | refine Row.call ?_ HX7.out)), (by with_reducible repeat (first | exact HR3.out | refine Row.far ?_ n3 _ | refine Row.far ?_ m3 _ | refine Row.call ?_ HX4.out | refine Row.call ?_ HX5.out | refine Row.call ?_ HX6.out | refine Row.call ?_ HX7.out)), (by with_reducible repeat (first | exact HR4.out | refine Row.far ?_ n4 _ | refine Row.far ?_ m4 _ | refine Row.call ?_ HX5.out | refine Row.call ?_ HX6.out | refine Row.call ?_ HX7.out)), (by with_reducible repeat (first | exact HR5.out | refine Row.far ?_ n5 _ | refine Row.far ?_ m5 _ | refine Row.call ?_ HX6.out | refine Row.call ?_ HX7.out)), (by with_reducible repeat (first | exact HR6.out | refine Row.far ?_ n6 _ | refine Row.far ?_ m6 _ | refine Row.call ?_ HX7.out)), (by with_reducible repeat (first | exact HR7.out | refine Row.far ?_ n7 _ | refine Row.far ?_ m7 _)), ?_, .inr (fun e => by injection e; omega), .inr (fun e => by injection e; omega)⟩, ?_⟩
  · intro b hb g hg
    subst hg
    simp at hb
    omega
  · with_reducible repeat (first | exact HB7.out | apply bl_set2 | apply bl_set1)

set_option maxRecDepth 100000 in
set_option maxHeartbeats 1000000 in
theorem eqSt_calls (s : LSt) (v v' : Value) (w : World) (hv : StK w s v) (hv' : StK w s v') (hs : s.small 140737488355328) :
    Calls Tryd.prog 10 #[v, v'] w fun e w' => e = .returned (.bool true) ∧ Below w.heap.size w w' := by
  obtain ⟨A0, c0, A1, c1, A3, c3, A4, c4, A5, c5, A6, c6, A7, c7, rfl, r0, r1, r3, r4, r5, r6, r7, hcap⟩ := hv
  obtain ⟨B0, d0, B1, d1, B3, d3, B4, d4, B5, d5, B6, d6, B7, d7, rfl, t0, t1, t3, t4, t5, t6, t7, hcap'⟩ := hv'
  obtain ⟨h0, h1, h3, h4, h5, h6, h7⟩ := hs
  clear hcap
  go_enter Tryd.func10, Tryd.ntmps10
  go_wp2_with (first | (go_at_call 43; (with_reducible refine (eqInt32S_calls A0 B0 c0 d0 s.data _ ?_ ?_ h0).mono ?_); exact r0.keepB (bl_alloc (bl_alloc (Below.refl _ w) _) _); exact t0.keepB (bl_alloc (bl_alloc (Below.refl _ w) _) _); rintro e w0 ⟨rfl, hb0⟩; obtain ⟨q0, f0⟩ := bcell hb0; obtain ⟨za0, zb0⟩ := below2 (n := w.heap.size) hb0 (by first | omega | (simp; try omega)); have HB0 := Lib.hid (bl_call (bl_alloc (bl_alloc (Below.refl _ w) _) _) hb0); clear hb0) | (go_at_call 44; (with_reducible refine (eqSlotS_calls A1 B1 c1 d1 s.ret _ ?_ ?_ h1).mono ?_); exact r1.keepB (HB0.out); exact t1.keepB (HB0.out); rintro e w1 ⟨rfl, hb1⟩; obtain ⟨q1, f1⟩ := bcell hb1; obtain ⟨za1, zb1⟩ := below2 (n := w.heap.size) hb1 (by first | omega | (simp; try omega)); have HB1 := Lib.hid (bl_call (HB0.out) hb1); clear hb1) | (go_at_call 43; (with_reducible refine (eqInt32S_calls A3 B3 c3 d3 s.mem _ ?_ ?_ h3).mono ?_); exact r3.keepB (HB1.out); exact t3.keepB (HB1.out); rintro e w3 ⟨rfl, hb3⟩; obtain ⟨q3, f3⟩ := bcell hb3; obtain ⟨za3, zb3⟩ := below2 (n := w.heap.size) hb3 (by first | omega | (simp; try omega)); have HB3 := Lib.hid (bl_call (HB1.out) hb3); clear hb3) | (go_at_call 45; (with_reducible refine (eqUint32S_calls A4 B4 c4 d4 s.cells _ ?_ ?_ h4).mono ?_); exact r4.keepB (HB3.out); exact t4.keepB (HB3.out); rintro e w4 ⟨rfl, hb4⟩; obtain ⟨q4, f4⟩ := bcell hb4; obtain ⟨za4, zb4⟩ := below2 (n := w.heap.size) hb4 (by first | omega | (simp; try omega)); have HB4 := Lib.hid (bl_call (HB3.out) hb4); clear hb4) | (go_at_call 46; (with_reducible refine (eqIntS_calls A5 B5 c5 d5 s.vars _ ?_ ?_ h5).mono ?_); exact r5.keepB (HB4.out); exact t5.keepB (HB4.out); rintro e w5 ⟨rfl, hb5⟩; obtain ⟨q5, f5⟩ := bcell hb5; obtain ⟨za5, zb5⟩ := below2 (n := w.heap.size) hb5 (by first | omega | (simp; try omega)); have HB5 := Lib.hid (bl_call (HB4.out) hb5); clear hb5) | (go_at_call 47; (with_reducible refine (eqByteS_calls A6 B6 c6 d6 s.out _ ?_ ?_ h6).mono ?_); exact r6.keepB (HB5.out); exact t6.keepB (HB5.out); rintro e w6 ⟨rfl, hb6⟩; obtain ⟨q6, f6⟩ := bcell hb6; obtain ⟨za6, zb6⟩ := below2 (n := w.heap.size) hb6 (by first | omega | (simp; try omega)); have HB6 := Lib.hid (bl_call (HB5.out) hb6); clear hb6) | (go_at_call 47; (with_reducible refine (eqByteS_calls A7 B7 c7 d7 s.inp _ ?_ ?_ h7).mono ?_); exact r7.keepB (HB6.out); exact t7.keepB (HB6.out); rintro e w7 ⟨rfl, hb7⟩; obtain ⟨q7, f7⟩ := bcell hb7; obtain ⟨za7, zb7⟩ := below2 (n := w.heap.size) hb7 (by first | omega | (simp; try omega)); have HB7 := Lib.hid (bl_call (HB6.out) hb7); clear hb7))
  go_ret
  exact ⟨rfl, HB7.out⟩

def mkSt (k0 : Int) (s : LSt) : LSt := { s with data := mkInt32 (k0) s.data.length, ret := mkSlot (k0 + (s.data.length : Int)) s.ret.length, mem := mkInt32 (k0 + (s.data.length : Int) + 2 * (s.ret.length : Int)) s.mem.length, cells := mkUint32 (k0 + (s.data.length : Int) + 2 * (s.ret.length : Int) + (s.mem.length : Int)) s.cells.length, vars := mkInt (k0 + (s.data.length : Int) + 2 * (s.ret.length : Int) + (s.mem.length : Int) + (s.cells.length : Int)) s.vars.length, out := mkByte (k0 + (s.data.length : Int) + 2 * (s.ret.length : Int) + (s.mem.length : Int) + (s.cells.length : Int) + (s.vars.length : Int)) s.out.length, inp := mkByte (k0 + (s.data.length : Int) + 2 * (s.ret.length : Int) + (s.mem.length : Int) + (s.cells.length : Int) + (s.vars.length : Int) + (s.out.length : Int)) s.inp.length }
def mkStN (k0 : Int) (s : LSt) : Int := k0 + (s.data.length : Int) + 2 * (s.ret.length : Int) + (s.mem.length : Int) + (s.cells.length : Int) + (s.vars.length : Int) + (s.out.length : Int) + (s.inp.length : Int)

set_option maxRecDepth 100000 in
set_option maxHeartbeats 2000000 in
theorem markSt_calls (k0 : Int) (s : LSt) (v : Value) (lo hi : Nat) (w : World) (hv : StI w lo hi s v) (hs : s.small 140737488355328) (hlo : lo ≤ w.heap.size) (hi0 : hi ≤ w.heap.size) (hk0 : 0 ≤ k0) (hk1 : k0 ≤ 576460752303423488) :
    Calls Tryd.prog 11 #[v, .int .i64 k0] w fun e w' => e = .returned (.int .i64 (mkStN k0 s)) ∧ StI w' lo hi (mkSt k0 s) v ∧ Fr lo hi w w' := by
  obtain ⟨A0, c0, A1, c1, A3, c3, A4, c4, A5, c5, A6, c6, A7, c7, b0, b1, b3, b4, b5, b6, b7, rfl, r0, r1, r3, r4, r5, r6, r7, hl, d1, d2⟩ := hv
  obtain ⟨h0, h1, h3, h4, h5, h6, h7⟩ := hs
  have l0 : ∀ k, b0 = some k → lo ≤ k ∧ k < hi := fun k e => hl _ (by simp) k e
  have p0 : some w.heap.size ≠ b0 := fun e => by have := r0.lt _ e.symm; omega
  have l1 : ∀ k, b1 = some k → lo ≤ k ∧ k < hi := fun k e => hl _ (by simp) k e
  have p1 : some w.heap.size ≠ b1 := fun e => by have := r1.lt _ e.symm; omega
  have l3 : ∀ k, b3 = some k → lo ≤ k ∧ k < hi := fun k e => hl _ (by simp) k e
  have p3 : some w.heap.size ≠ b3 := fun e => by have := r3.lt _ e.symm; omega
  have l4 : ∀ k, b4 = some k → lo ≤ k ∧ k < hi := fun k e => hl _ (by simp) k e
  have p4 : some w.heap.size ≠ b4 := fun e => by have := r4.lt _ e.symm; omega
  have l5 : ∀ k, b5 = some k → lo ≤ k ∧ k < hi := fun k e => hl _ (by simp) k e
  have p5 : some w.heap.size ≠ b5 := fun e => by have := r5.lt _ e.symm; omega
  have l6 : ∀ k, b6 = some k → lo ≤ k ∧ k < hi := fun k e => hl _ (by simp) k e
  have p6 : some w.heap.size ≠ b6 := fun e => by have := r6.lt _ e.symm; omega
  have l7 : ∀ k, b7 = some k → lo ≤ k ∧ k < hi := fun k e => hl _ (by simp) k e
  have p7 : some w.heap.size ≠ b7 := fun e => by have := r7.lt _ e.symm; omega
  have d01 := Row.ne_type r0 r1 (by decide)
  have d03 := d1
  have d04 := Row.ne_type r0 r4 (by decide)
  have d05 := Row.ne_type r0 r5 (by decide)
  have d06 := Row.ne_type r0 r6 (by decide)
  have d07 := Row.ne_type r0 r7 (by decide)
  have d10 := Row.ne_type r1 r0 (by decide)
  have d13 := Row.ne_type r1 r3 (by decide)
  have d14 := Row.ne_type r1 r4 (by decide)
  have d15 := Row.ne_type r1 r5 (by decide)
  have d16 := Row.ne_type r1 r6 (by decide)
  have d17 := Row.ne_type r1 r7 (by decide)
  have d30 := ne_symm d1
  have d31 := Row.ne_type r3 r1 (by decide)
  have d34 := Row.ne_type r3 r4 (by decide)
  have d35 := Row.ne_type r3 r5 (by decide)
  have d36 := Row.ne_type r3 r6 (by decide)
  have d37 := Row.ne_type r3 r7 (by decide)
  have d40 := Row.ne_type r4 r0 (by decide)
  have d41 := Row.ne_type r4 r1 (by decide)
  have d43 := Row.ne_type r4 r3 (by decide)
  have d45 := Row.ne_type r4 r5 (by decide)
  have d46 := Row.ne_type r4 r6 (by decide)
  have d47 := Row.ne_type r4 r7 (by decide)
  have d50 := Row.ne_type r5 r0 (by decide)
  have d51 := Row.ne_type r5 r1 (by decide)
  have d53 := Row.ne_type r5 r3 (by decide)
  have d54 := Row.ne_type r5 r4 (by decide)
  have d56 := Row.ne_type r5 r6 (by decide)
  have d57 := Row.ne_type r5 r7 (by decide)
  have d60 := Row.ne_type r6 r0 (by decide)
  have d61 := Row.ne_type r6 r1 (by decide)
  have d63 := Row.ne_type r6 r3 (by decide)
  have d64 := Row.ne_type r6 r4 (by decide)
  have d65 := Row.ne_type r6 r5 (by decide)
  have d67 := d2
  have d70 := Row.ne_type r7 r0 (by decide)
  have d71 := Row.ne_type r7 r1 (by decide)
  have d73 := Row.ne_type r7 r3 (by decide)
  have d74 := Row.ne_type r7 r4 (by decide)
  have d75 := Row.ne_type r7 r5 (by decide)
  have d76 := ne_symm d2
  clear d1 d2 hl
  go_enter Tryd.func11, Tryd.ntmps11
  go_wp2_with (first | (go_at_call 48; (with_reducible refine (markInt32S_calls A0 c0 s.data b0 _ _ ?_ ?_ ?_ h0).mono ?_); exact (r0.alloc _); omega; omega; rintro e w0 ⟨rfl, R0, hg0⟩; have q0 : ∀ o, _ = _ := fun o => hg0.cell_far ⟨w.heap.size, o, none⟩ (by first | omega | (simp; try omega)) p0; have z0 : w.heap.size < w0.heap.size := (by have := hg0.size; (try simp at this); omega); have HR0_1 := Lib.hid R0; have HR1_1 := Lib.hid (Row.grown (r1.alloc _) hg0 d10); have HR3_1 := Lib.hid (Row.grown (r3.alloc _) hg0 d30); have HR4_1 := Lib.hid (Row.grown (r4.alloc _) hg0 d40); have HR5_1 := Lib.hid (Row.grown (r5.alloc _) hg0 d50); have HR6_1 := Lib.hid (Row.grown (r6.alloc _) hg0 d60); have HR7_1 := Lib.hid (Row.grown (r7.alloc _) hg0 d70); have HB0 := Lib.hid (Fr.grown (Fr.alloc (Fr.refl _ _ w) hi0 _) hg0 (l0)); clear R0 hg0) | (go_at_call 49; (with_reducible refine (markSlotS_calls A1 c1 s.ret b1 _ _ ?_ ?_ ?_ h1).mono ?_); exact HR1_1.out; omega; omega; rintro e w1 ⟨rfl, R1, hg1⟩; have q1 : ∀ o, _ = _ := fun o => hg1.cell_far ⟨w.heap.size, o, none⟩ (by first | omega | (simp; try omega)) p1; have z1 : w.heap.size < w1.heap.size := (by have := hg1.size; (try simp at this); omega); have HR1_2 := Lib.hid R1; have HR0_2 := Lib.hid (Row.grown (HR0_1.out) hg1 d01); have HR3_2 := Lib.hid (Row.grown (HR3_1.out) hg1 d31); have HR4_2 := Lib.hid (Row.grown (HR4_1.out) hg1 d41); have HR5_2 := Lib.hid (Row.grown (HR5_1.out) hg1 d51); have HR6_2 := Lib.hid (Row.grown (HR6_1.out) hg1 d61); have HR7_2 := Lib.hid (Row.grown (HR7_1.out) hg1 d71); have HB1 := Lib.hid (Fr.grown (HB0.out) hg1 (l1)); clear R1 hg1) | (go_at_call 48; (with_reducible refine (markInt32S_calls A3 c3 s.mem b3 _ _ ?_ ?_ ?_ h3).mono ?_); exact HR3_2.out; omega; omega; rintro e w3 ⟨rfl, R3, hg3⟩; have q3 : ∀ o, _ = _ := fun o => hg3.cell_far ⟨w.heap.size, o, none⟩ (by first | omega | (simp; try omega)) p3; have z3 : w.heap.size < w3.heap.size := (by have := hg3.size; (try simp at this); omega); have HR3_3 := Lib.hid R3; have HR0_3 := Lib.hid (Row.grown (HR0_2.out) hg3 d03); have HR1_3 := Lib.hid (Row.grown (HR1_2.out) hg3 d13); have HR4_3 := Lib.hid (Row.grown (HR4_2.out) hg3 d43); have HR5_3 := Lib.hid (Row.grown (HR5_2.out) hg3 d53); have HR6_3 := Lib.hid (Row.grown (HR6_2.out) hg3 d63); have HR7_3 := Lib.hid (Row.grown (HR7_2.out) hg3 d73); have HB3 := Lib.hid (Fr.grown (HB1.out) hg3 (l3)); clear R3 hg3) | (go_at_call 50; (with_reducible refine (markUint32S_calls A4 c4 s.cells b4 _ _ ?_ ?_ ?_ h4).mono ?_); exact HR4_3.out; omega; omega; rintro e w4 ⟨rfl, R4, hg4⟩; have q4 : ∀ o, _ = _ := fun o => hg4.cell_far ⟨w.heap.size, o, none⟩ (by first | omega | (simp; try omega)) p4; have z4 : w.heap.size < w4.heap.size := (by have := hg4.size; (try simp at this); omega); have HR4_4 := Lib.hid R4; have HR0_4 := Lib.hid (Row.grown (HR0_3.out) hg4 d04); have HR1_4 := Lib.hid (Row.grown (HR1_3.out) hg4 d14); have HR3_4 := Lib.hid (Row.grown (HR3_3.out) hg4 d34); have HR5_4 := Lib.hid (Row.grown (HR5_3.out) hg4 d54); have HR6_4 := Lib.hid (Row.grown (HR6_3.out) hg4 d64); have HR7_4 := Lib.hid (Row.grown (HR7_3.out) hg4 d74); have HB4 := Lib.hid (Fr.grown (HB3.out) hg4 (l4)); clear R4 hg4) | (go_at_call 51; (with_reducible refine (markIntS_calls A5 c5 s.vars b5 _ _ ?_ ?_ ?_ h5).mono ?_); exact HR5_4.out; omega; omega; rintro e w5 ⟨rfl, R5, hg5⟩; have q5 : ∀ o, _ = _ := fun o => hg5.cell_far ⟨w.heap.size, o, none⟩ (by first | omega | (simp; try omega)) p5; have z5 : w.heap.size < w5.heap.size := (by have := hg5.size; (try simp at this); omega); have HR5_5 := Lib.hid R5; have HR0_5 := Lib.hid (Row.grown (HR0_4.out) hg5 d05); have HR1_5 := Lib.hid (Row.grown (HR1_4.out) hg5 d15); have HR3_5 := Lib.hid (Row.grown (HR3_4.out) hg5 d35); have HR4_5 := Lib.hid (Row.grown (HR4_4.out) hg5 d45); have HR6_5 := Lib.hid (Row.grown (HR6_4.out) hg5 d65); have HR7_5 := Lib.hid (Row.grown (HR7_4.out) hg5 d75); have HB5 := Lib.hid (Fr.grown (HB4.out) hg5 (l5)); clear R5 hg5) | (go_at_call 52; (with_reducible refine (markByteS_calls A6 c6 s.out b6 _ _ ?_ ?_ ?_ h6).mono ?_); exact HR6_5.out; omega; omega; rintro e w6 ⟨rfl, R6, hg6⟩; have q6 : ∀ o, _ = _ := fun o => hg6.cell_far ⟨w.heap.size, o, none⟩ (by first | omega | (simp; try omega)) p6; have z6 : w.heap.size < w6.heap.size := (by have := hg6.size; (try simp at this); omega); have HR6_6 := Lib.hid R6; have HR0_6 := Lib.hid (Row.grown (HR0_5.out) hg6 d06); have HR1_6 := Lib.hid (Row.grown (HR1_5.out) hg6 d16); have HR3_6 := Lib.hid (Row.grown (HR3_5.out) hg6 d36); have HR4_6 := Lib.hid (Row.grown (HR4_5.out) hg6 d46); have HR5_6 := Lib.hid (Row.grown (HR5_5.out) hg6 d56); have HR7_6 := Lib.hid (Row.grown (HR7_5.out) hg6 d76); have HB6 := Lib.hid (Fr.grown (HB5.out) hg6 (l6)); clear R6 hg6) | (go_at_call 52; (with_reducible refine (markByteS_calls A7 c7 s.inp b7 _ _ ?_ ?_ ?_ h7).mono ?_); exact HR7_6.out; omega; omega; rintro e w7 ⟨rfl, R7, hg7⟩; have q7 : ∀ o, _ = _ := fun o => hg7.cell_far ⟨w.heap.size, o, none⟩ (by first | omega | (simp; try omega)) p7; have z7 : w.heap.size < w7.heap.size := (by have := hg7.size; (try simp at this); omega); have HR7_7 := Lib.hid R7; have HR0_7 := Lib.hid (Row.grown (HR0_6.out) hg7 d07); have HR1_7 := Lib.hid (Row.grown (HR1_6.out) hg7 d17); have HR3_7 := Lib.hid (Row.grown (HR3_6.out) hg7 d37); have HR4_7 := Lib.hid (Row.grown (HR4_6.out) hg7 d47); have HR5_7 := Lib.hid (Row.grown (HR5_6.out) hg7 d57); have HR6_7 := Lib.hid (Row.grown (HR6_6.out) hg7 d67); have HB7 := Lib.hid (Fr.grown (HB6.out) hg7 (l7)); clear R7 hg7))
  go_ret
  have e0 : (mkSt k0 s).data.length = s.data.length := mkInt32_length _ _
  have e1 : (mkSt k0 s).ret.length = s.ret.length := mkSlot_length _ _
  have e3 : (mkSt k0 s).mem.length = s.mem.length := mkInt32_length _ _
  have e4 : (mkSt k0 s).cells.length = s.cells.length := mkUint32_length _ _
  have e5 : (mkSt k0 s).vars.length = s.vars.length := mkInt_length _ _
  have e6 : (mkSt k0 s).out.length = s.out.length := mkByte_length _ _
  have e7 : (mkSt k0 s).inp.length = s.inp.length := mkByte_length _ _
  refine ⟨rfl, ⟨A0, c0, A1, c1, A3, c3, A4, c4, A5, c5, A6, c6, A7, c7, b0, b1, b3, b4, b5, b6, b7, by rw [e0, e1, e3, e4, e5, e6, e7]; rfl, by rw [e0]; exact HR0_7.out, by rw [e1]; exact HR1_7.out, by rw [e3]; exact HR3_7.out, by rw [e4]; exact HR4_7.out, by rw [e5]; exact HR5_7.out, by rw [e6]; exact HR6_7.out, by rw [e7]; exact HR7_7.out, ?_, d03, d67⟩, HB7.out⟩
  intro b hb g hg
  subst hg
  simp at hb
  rcases hb with e | e | e | e | e | e | e <;> first | exact l0 _ e.symm | exact l1 _ e.symm | exact l3 _ e.symm | exact l4 _ e.symm | exact l5 _ e.symm | exact l6 _ e.symm | exact l7 _ e.symm

set_option maxRecDepth 100000 in
set_option maxHeartbeats 1000000 in
theorem heldSt_calls (k0 : Int) (s : LSt) (v : Value) (w : World) (hv : StK w (mkSt k0 s) v) (hs : s.small 140737488355328) (hk0 : 0 ≤ k0) (hk1 : k0 ≤ 576460752303423488) :
    Calls Tryd.prog 12 #[v, .int .i64 k0] w fun e w' => e = .returned (.int .i64 (mkStN k0 s)) ∧ Below w.heap.size w w' := by
  obtain ⟨A0, c0, A1, c1, A3, c3, A4, c4, A5, c5, A6, c6, A7, c7, rfl, r0, r1, r3, r4, r5, r6, r7, hcap⟩ := hv
  obtain ⟨h0, h1, h3, h4, h5, h6, h7⟩ := hs
  have e0 : (mkSt k0 s).data.length = s.data.length := mkInt32_length _ _
  have e1 : (mkSt k0 s).ret.length = s.ret.length := mkSlot_length _ _
  have e3 : (mkSt k0 s).mem.length = s.mem.length := mkInt32_length _ _
  have e4 : (mkSt k0 s).cells.length = s.cells.length := mkUint32_length _ _
  have e5 : (mkSt k0 s).vars.length = s.vars.length := mkInt_length _ _
  have e6 : (mkSt k0 s).out.length = s.out.length := mkByte_length _ _
  have e7 : (mkSt k0 s).inp.length = s.inp.length := mkByte_length _ _
  rw [e0, e1, e3, e4, e5, e6, e7]
  clear e0 e1 e3 e4 e5 e6 e7
  go_enter Tryd.func12, Tryd.ntmps12
  go_wp2_with (first | (go_at_call 53; (with_reducible refine (heldInt32S_calls A0 s.data.length c0 (k0) _ ?_ ?_ ?_ h0).mono ?_); exact r0.mono (mono_alloc _ _); omega; omega; rintro e w0 ⟨rfl, rfl⟩) | (go_at_call 54; (with_reducible refine (heldSlotS_calls A1 s.ret.length c1 (k0 + (s.data.length : Int)) _ ?_ ?_ ?_ h1).mono ?_); exact r1.mono (mono_alloc _ _); omega; omega; rintro e w1 ⟨rfl, rfl⟩) | (go_at_call 53; (with_reducible refine (heldInt32S_calls A3 s.mem.length c3 (k0 + (s.data.length : Int) + 2 * (s.ret.length : Int)) _ ?_ ?_ ?_ h3).mono ?_); exact r3.mono (mono_alloc _ _); omega; omega; rintro e w3 ⟨rfl, rfl⟩) | (go_at_call 55; (with_reducible refine (heldUint32S_calls A4 s.cells.length c4 (k0 + (s.data.length : Int) + 2 * (s.ret.length : Int) + (s.mem.length : Int)) _ ?_ ?_ ?_ h4).mono ?_); exact r4.mono (mono_alloc _ _); omega; omega; rintro e w4 ⟨rfl, rfl⟩) | (go_at_call 56; (with_reducible refine (heldIntS_calls A5 s.vars.length c5 (k0 + (s.data.length : Int) + 2 * (s.ret.length : Int) + (s.mem.length : Int) + (s.cells.length : Int)) _ ?_ ?_ ?_ h5).mono ?_); exact r5.mono (mono_alloc _ _); omega; omega; rintro e w5 ⟨rfl, rfl⟩) | (go_at_call 57; (with_reducible refine (heldByteS_calls A6 s.out.length c6 (k0 + (s.data.length : Int) + 2 * (s.ret.length : Int) + (s.mem.length : Int) + (s.cells.length : Int) + (s.vars.length : Int)) _ ?_ ?_ ?_ h6).mono ?_); exact r6.mono (mono_alloc _ _); omega; omega; rintro e w6 ⟨rfl, rfl⟩) | (go_at_call 57; (with_reducible refine (heldByteS_calls A7 s.inp.length c7 (k0 + (s.data.length : Int) + 2 * (s.ret.length : Int) + (s.mem.length : Int) + (s.cells.length : Int) + (s.vars.length : Int) + (s.out.length : Int)) _ ?_ ?_ ?_ h7).mono ?_); exact r7.mono (mono_alloc _ _); omega; omega; rintro e w7 ⟨rfl, rfl⟩))
  go_ret
  exact ⟨rfl, bl_alloc (Below.refl _ _) _⟩

end Go.Proofs.YtgljbcdlldhlfaaDoor

/- Built-in words: contracts of does and Do, the program's. -/
import Derived.Test.YtgljbcdlldhlfaaDoorDw
set_option linter.unusedVariables false
set_option linter.unusedSimpArgs false
namespace Go.Proofs.YtgljbcdlldhlfaaDoor
open Go.RowKit Go.Sort

set_option maxRecDepth 100000 in
set_option maxHeartbeats 4000000 in
theorem does_none (k : Int) (nm : ByteArray) (t : Nat) (s : LSt) (v : Value) (w : World) (hv : StK w s v) (hs : s.small 1048576) (hA : Asc w)
    (hN : ∀ W, Asc W → Calls Tryd.prog 67 #[.int .i64 k] W fun e w' => e = .returned (.string nm) ∧ Below W.heap.size W w')
    (hW : ∀ W, Asc W → Calls Tryd.prog 84 #[.int .i64 k] W fun e w' => e = .returned (.int .i64 t) ∧ Below W.heap.size W w') (hnm : nm.toList.isEmpty = true) :
    Calls Tryd.prog 42 #[v, .int .i64 k] w fun e w' => ∃ v', e = .returned v' ∧ StV w' w.heap.size w'.heap.size { s with fault := 1 } v' ∧ Below w.heap.size w w' := by
  obtain ⟨A0, c0, A1, c1, A3, c3, A4, c4, A5, c5, A6, c6, A7, c7, rfl⟩ := hv.form
  have HV := Lib.hid hv
  have HNN := Lib.hid hN
  have HWW := Lib.hid hW
  have HAS := Lib.hid hA
  obtain ⟨W, hW1⟩ : ∃ W, (w.alloc (.cells #[.slice A0 s.data.length c0, .slice A1 s.ret.length c1, .int .i32 s.a, .slice A3 s.mem.length c3, .slice A4 s.cells.length c4, .slice A5 s.vars.length c5, .slice A6 s.out.length c6, .slice A7 s.inp.length c7, .int .i64 s.fault, .int .i64 s.fuel] 32)).alloc (.cells #[.slice none 0 0, .slice none 0 0, .int .i32 0, .slice none 0 0, .slice none 0 0, .slice none 0 0, .slice none 0 0, .slice none 0 0, .int .i64 0, .int .i64 0] 32) = W := ⟨_, rfl⟩
  have HB1 : Hid (Below w.heap.size w W) := Lib.hid (hW1 ▸ bl_alloc (bl_alloc (Below.refl _ _) _) _)
  have HK1 : Hid (Bx W w.heap.size [(#[.slice A0 s.data.length c0, .slice A1 s.ret.length c1, .int .i32 s.a, .slice A3 s.mem.length c3, .slice A4 s.cells.length c4, .slice A5 s.vars.length c5, .slice A6 s.out.length c6, .slice A7 s.inp.length c7, .int .i64 s.fault, .int .i64 s.fuel], 32), (#[.slice none 0 0, .slice none 0 0, .int .i32 0, .slice none 0 0, .slice none 0 0, .slice none 0 0, .slice none 0 0, .slice none 0 0, .int .i64 0, .int .i64 0], 32)]) := Lib.hid (hW1 ▸ (Bx.two w #[.slice A0 s.data.length c0, .slice A1 s.ret.length c1, .int .i32 s.a, .slice A3 s.mem.length c3, .slice A4 s.cells.length c4, .slice A5 s.vars.length c5, .slice A6 s.out.length c6, .slice A7 s.inp.length c7, .int .i64 s.fault, .int .i64 s.fuel] #[.slice none 0 0, .slice none 0 0, .int .i32 0, .slice none 0 0, .slice none 0 0, .slice none 0 0, .slice none 0 0, .slice none 0 0, .int .i64 0, .int .i64 0] 32 32))
  have hmf : ∀ (fn : Fn) (first cap : Array Value) (w : World), (Instr.makeFunc fn first cap).run Tryd.prog w = .ok (.func fn first cap) w := fun _ _ _ _ => by simp [Instr.makeFunc]
  clear hv hN hW hA
  go_enter Tryd.func42, Tryd.ntmps42
  go_wp2_with fail
  have q0 := fun d os => blk_cell ((HK1.out.call (below_regrown W d os)).1)
  have TP0 : ∀ d os, Calls Tryd.prog 67 #[.int .i64 k] (grow (redrawn W d) os) fun e w'' => e = .returned (.string nm) ∧ ∃ p : Regrown, w'' = grow (redrawn W p.d) p.os := fun d os => Calls.regrown_of (HNN.out _ (HAS.out.call (bl_call HB1.out (below_regrown W d os))))
  have TP := Lib.hid TP0
  clear TP0
  refine wp_region_quiet_below (by kernel_rfl) (by kernel_rfl) ?_
  repeat (quiet_step (first | (with_reducible exact TP.out _ _)))
  refine wpQuiet_nil ?_
  intro w2 hw'
  obtain ⟨⟨dq, osq⟩, hw''⟩ := hw'
  have hb : Below W.heap.size W w2 := by rw [hw'']; exact below_regrown W dq osq
  have HB2 := Lib.hid (bl_call HB1.out hb)
  have HK2 := Lib.hid (HK1.out.call hb)
  clear hw'' q0 TP hb hW1 HB1 HK1
  have b0 := blk_cell HK2.out.1
  have y0 := blk_lt HK2.out.1
  have b1 := blk_cell HK2.out.2.1
  have g1 := blk_frozen HK2.out.2.1
  have y1 := blk_lt HK2.out.2.1
  go_wp2_with fail
  refine (fails_calls s 1 w.heap.size w2 HK2.out.1 (HV.out.keepB HB2.out) hs).mono ?_
  rintro e w3 ⟨v3, rfl, hO, hb⟩
  obtain ⟨F0, f0, F1, f1, F3, f3, F4, f4, F5, f5, F6, f6, F7, f7, rfl⟩ := hO.k.form
  have HO := Lib.hid hO
  have HB3 := Lib.hid (bl_call HB2.out hb)
  have HK3 := Lib.hid (HK2.out.call hb)
  have hi := HB2.out.size
  have hlo : w.heap.size + 1 < w2.heap.size := blk_lt HK2.out.2.1
  have cz := blk_cell HK3.out.2.1
  have fz := blk_frozen HK3.out.2.1
  have zz := blk_lt HK3.out.2.1
  clear hO hb b1 g1 y1
  go_wp2_with fail
  refine bodyPost_ret (v := .agg #[.slice F0 s.data.length f0, .slice F1 s.ret.length f1, .int .i32 s.a, .slice F3 s.mem.length f3, .slice F4 s.cells.length f4, .slice F5 s.vars.length f5, .slice F6 s.out.length f6, .slice F7 s.inp.length f7, .int .i64 1, .int .i64 s.fuel]) (by simp [results, Tryd.results42, go_sem, cz, zz]) rfl ⟨_, rfl, ?_, ?_⟩
  · have h0 := (HO.out.v).low (lo' := w.heap.size + 2) (by omega)
    have h1 : w.heap.size + 1 < w.heap.size + 2 := by omega
    have hz : ∀ W : World, StV W (w.heap.size + 2) w3.heap.size { s with fault := 1 } (.agg #[.slice F0 s.data.length f0, .slice F1 s.ret.length f1, .int .i32 s.a, .slice F3 s.mem.length f3, .slice F4 s.cells.length f4, .slice F5 s.vars.length f5, .slice F6 s.out.length f6, .slice F7 s.inp.length f7, .int .i64 1, .int .i64 s.fuel]) → w3.heap.size = W.heap.size → StV W w.heap.size W.heap.size { s with fault := 1 } (.agg #[.slice F0 s.data.length f0, .slice F1 s.ret.length f1, .int .i32 s.a, .slice F3 s.mem.length f3, .slice F4 s.cells.length f4, .slice F5 s.vars.length f5, .slice F6 s.out.length f6, .slice F7 s.inp.length f7, .int .i64 1, .int .i64 s.fuel]) := fun W h e => (h.low (by omega)).top (by omega) (Nat.le_refl _)
    refine hz _ ?_ (by simp)
    with_reducible repeat (first | exact h0 | refine StV.far ?_ h1 _)
  · have h0 := HB3.out
    with_reducible repeat (first | exact h0 | apply bl_set1)
set_option maxRecDepth 100000 in
set_option maxHeartbeats 4000000 in
theorem does_few (k : Int) (nm : ByteArray) (t : Nat) (s : LSt) (v : Value) (w : World) (hv : StK w s v) (hs : s.small 1048576) (hA : Asc w)
    (hN : ∀ W, Asc W → Calls Tryd.prog 67 #[.int .i64 k] W fun e w' => e = .returned (.string nm) ∧ Below W.heap.size W w')
    (hW : ∀ W, Asc W → Calls Tryd.prog 84 #[.int .i64 k] W fun e w' => e = .returned (.int .i64 t) ∧ Below W.heap.size W w') (hnm : nm.toList.isEmpty = false) (hlt : s.data.length < t) :
    Calls Tryd.prog 42 #[v, .int .i64 k] w fun e w' => ∃ v', e = .returned v' ∧ StV w' w.heap.size w'.heap.size { s with fault := 2 } v' ∧ Below w.heap.size w w' := by
  obtain ⟨A0, c0, A1, c1, A3, c3, A4, c4, A5, c5, A6, c6, A7, c7, rfl⟩ := hv.form
  have HV := Lib.hid hv
  have HNN := Lib.hid hN
  have HWW := Lib.hid hW
  have HAS := Lib.hid hA
  obtain ⟨W, hW1⟩ : ∃ W, (w.alloc (.cells #[.slice A0 s.data.length c0, .slice A1 s.ret.length c1, .int .i32 s.a, .slice A3 s.mem.length c3, .slice A4 s.cells.length c4, .slice A5 s.vars.length c5, .slice A6 s.out.length c6, .slice A7 s.inp.length c7, .int .i64 s.fault, .int .i64 s.fuel] 32)).alloc (.cells #[.slice none 0 0, .slice none 0 0, .int .i32 0, .slice none 0 0, .slice none 0 0, .slice none 0 0, .slice none 0 0, .slice none 0 0, .int .i64 0, .int .i64 0] 32) = W := ⟨_, rfl⟩
  have HB1 : Hid (Below w.heap.size w W) := Lib.hid (hW1 ▸ bl_alloc (bl_alloc (Below.refl _ _) _) _)
  have HK1 : Hid (Bx W w.heap.size [(#[.slice A0 s.data.length c0, .slice A1 s.ret.length c1, .int .i32 s.a, .slice A3 s.mem.length c3, .slice A4 s.cells.length c4, .slice A5 s.vars.length c5, .slice A6 s.out.length c6, .slice A7 s.inp.length c7, .int .i64 s.fault, .int .i64 s.fuel], 32), (#[.slice none 0 0, .slice none 0 0, .int .i32 0, .slice none 0 0, .slice none 0 0, .slice none 0 0, .slice none 0 0, .slice none 0 0, .int .i64 0, .int .i64 0], 32)]) := Lib.hid (hW1 ▸ (Bx.two w #[.slice A0 s.data.length c0, .slice A1 s.ret.length c1, .int .i32 s.a, .slice A3 s.mem.length c3, .slice A4 s.cells.length c4, .slice A5 s.vars.length c5, .slice A6 s.out.length c6, .slice A7 s.inp.length c7, .int .i64 s.fault, .int .i64 s.fuel] #[.slice none 0 0, .slice none 0 0, .int .i32 0, .slice none 0 0, .slice none 0 0, .slice none 0 0, .slice none 0 0, .slice none 0 0, .int .i64 0, .int .i64 0] 32 32))
  have hmf : ∀ (fn : Fn) (first cap : Array Value) (w : World), (Instr.makeFunc fn first cap).run Tryd.prog w = .ok (.func fn first cap) w := fun _ _ _ _ => by simp [Instr.makeFunc]
  clear hv hN hW hA
  go_enter Tryd.func42, Tryd.ntmps42
  go_wp2_with fail
  have q0 := fun d os => blk_cell ((HK1.out.call (below_regrown W d os)).1)
  have TP0 : ∀ d os, Calls Tryd.prog 67 #[.int .i64 k] (grow (redrawn W d) os) fun e w'' => e = .returned (.string nm) ∧ ∃ p : Regrown, w'' = grow (redrawn W p.d) p.os := fun d os => Calls.regrown_of (HNN.out _ (HAS.out.call (bl_call HB1.out (below_regrown W d os))))
  have TP := Lib.hid TP0
  clear TP0
  refine wp_region_quiet_below (by kernel_rfl) (by kernel_rfl) ?_
  repeat (quiet_step (first | (with_reducible exact TP.out _ _)))
  refine wpQuiet_nil ?_
  intro w2 hw'
  obtain ⟨⟨dq, osq⟩, hw''⟩ := hw'
  have hb : Below W.heap.size W w2 := by rw [hw'']; exact below_regrown W dq osq
  have HB2 := Lib.hid (bl_call HB1.out hb)
  have HK2 := Lib.hid (HK1.out.call hb)
  clear hw'' q0 TP hb hW1 HB1 HK1
  have b0 := blk_cell HK2.out.1
  have y0 := blk_lt HK2.out.1
  have b1 := blk_cell HK2.out.2.1
  have g1 := blk_frozen HK2.out.2.1
  have y1 := blk_lt HK2.out.2.1
  have h1 : (s.data.length : Int) < (t : Int) := by omega
  go_wp2_with fail
  refine (HWW.out _ (HAS.out.call HB2.out)).mono ?_
  rintro e w3 ⟨rfl, hb⟩
  have HB3 := Lib.hid (bl_call HB2.out hb)
  have HK3 := Lib.hid (HK2.out.call hb)
  clear hb b0 y0 b1 g1 y1
  have b0 := blk_cell HK3.out.1
  have y0 := blk_lt HK3.out.1
  have b1 := blk_cell HK3.out.2.1
  have g1 := blk_frozen HK3.out.2.1
  have y1 := blk_lt HK3.out.2.1
  go_wp2_with fail
  refine (fails_calls s 2 w.heap.size w3 HK3.out.1 (HV.out.keepB HB3.out) hs).mono ?_
  rintro e w4 ⟨v4, rfl, hO, hb⟩
  obtain ⟨F0, f0, F1, f1, F3, f3, F4, f4, F5, f5, F6, f6, F7, f7, rfl⟩ := hO.k.form
  have HO := Lib.hid hO
  have HB4 := Lib.hid (bl_call HB3.out hb)
  have HK4 := Lib.hid (HK3.out.call hb)
  have hi := HB3.out.size
  have hlo : w.heap.size + 1 < w3.heap.size := blk_lt HK3.out.2.1
  have cz := blk_cell HK4.out.2.1
  have fz := blk_frozen HK4.out.2.1
  have zz := blk_lt HK4.out.2.1
  clear hO hb b1 g1 y1
  go_wp2_with fail
  refine bodyPost_ret (v := .agg #[.slice F0 s.data.length f0, .slice F1 s.ret.length f1, .int .i32 s.a, .slice F3 s.mem.length f3, .slice F4 s.cells.length f4, .slice F5 s.vars.length f5, .slice F6 s.out.length f6, .slice F7 s.inp.length f7, .int .i64 2, .int .i64 s.fuel]) (by simp [results, Tryd.results42, go_sem, cz, zz]) rfl ⟨_, rfl, ?_, ?_⟩
  · have h0 := (HO.out.v).low (lo' := w.heap.size + 2) (by omega)
    have h1 : w.heap.size + 1 < w.heap.size + 2 := by omega
    have hz : ∀ W : World, StV W (w.heap.size + 2) w4.heap.size { s with fault := 2 } (.agg #[.slice F0 s.data.length f0, .slice F1 s.ret.length f1, .int .i32 s.a, .slice F3 s.mem.length f3, .slice F4 s.cells.length f4, .slice F5 s.vars.length f5, .slice F6 s.out.length f6, .slice F7 s.inp.length f7, .int .i64 2, .int .i64 s.fuel]) → w4.heap.size = W.heap.size → StV W w.heap.size W.heap.size { s with fault := 2 } (.agg #[.slice F0 s.data.length f0, .slice F1 s.ret.length f1, .int .i32 s.a, .slice F3 s.mem.length f3, .slice F4 s.cells.length f4, .slice F5 s.vars.length f5, .slice F6 s.out.length f6, .slice F7 s.inp.length f7, .int .i64 2, .int .i64 s.fuel]) := fun W h e => (h.low (by omega)).top (by omega) (Nat.le_refl _)
    refine hz _ ?_ (by simp)
    with_reducible repeat (first | exact h0 | refine StV.far ?_ h1 _)
  · have h0 := HB4.out
    with_reducible repeat (first | exact h0 | apply bl_set1)
end Go.Proofs.YtgljbcdlldhlfaaDoor

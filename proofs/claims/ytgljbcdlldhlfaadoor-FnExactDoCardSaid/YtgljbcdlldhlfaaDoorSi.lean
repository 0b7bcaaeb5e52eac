/- The reference's Do, case by case. -/
import Derived.Test.YtgljbcdlldhlfaaDoorSb
set_option linter.unusedVariables false
set_option linter.unusedSimpArgs false
namespace Go.Proofs.YtgljbcdlldhlfaaDoor
open Go.RowKit Go.Sort

set_option maxRecDepth 100000 in
set_option maxHeartbeats 4000000 in
theorem do_bad (s z : LSt) (v : Value) (w : World) (hv : StK w s v) (hs : s.small 140737488355328) (k : Int) (hok : stOk s = false) (hz : z = zeroSt) :
    Calls Tryd.prog 7 #[v, .int .i64 k] w fun e w' => OtherE w z e w' := by
  obtain ⟨A0, c0, A1, c1, A3, c3, A4, c4, A5, c5, A6, c6, A7, c7, rfl⟩ := hv.form
  have HV := Lib.hid hv
  have HS := Lib.hid hs
  have HZ := Lib.hid hz
  obtain ⟨w1, hW1⟩ : ∃ W, (w.alloc (.cells #[.slice A0 s.data.length c0, .slice A1 s.ret.length c1, .int .i32 s.a, .slice A3 s.mem.length c3, .slice A4 s.cells.length c4, .slice A5 s.vars.length c5, .slice A6 s.out.length c6, .slice A7 s.inp.length c7, .int .i64 s.fault, .int .i64 s.fuel] 32)).alloc (.cells #[.slice none 0 0, .slice none 0 0, .int .i32 0, .slice none 0 0, .slice none 0 0, .slice none 0 0, .slice none 0 0, .slice none 0 0, .int .i64 0, .int .i64 0] 32) = W := ⟨_, rfl⟩
  have HB1 : Hid (Below w.heap.size w w1) := Lib.hid (hW1 ▸ bl_alloc (bl_alloc (Below.refl _ _) _) _)
  have HK1 : Hid (Bx w1 w.heap.size [(#[.slice A0 s.data.length c0, .slice A1 s.ret.length c1, .int .i32 s.a, .slice A3 s.mem.length c3, .slice A4 s.cells.length c4, .slice A5 s.vars.length c5, .slice A6 s.out.length c6, .slice A7 s.inp.length c7, .int .i64 s.fault, .int .i64 s.fuel], 32), (#[.slice none 0 0, .slice none 0 0, .int .i32 0, .slice none 0 0, .slice none 0 0, .slice none 0 0, .slice none 0 0, .slice none 0 0, .int .i64 0, .int .i64 0], 32)]) := Lib.hid (hW1 ▸ (Bx.two w #[.slice A0 s.data.length c0, .slice A1 s.ret.length c1, .int .i32 s.a, .slice A3 s.mem.length c3, .slice A4 s.cells.length c4, .slice A5 s.vars.length c5, .slice A6 s.out.length c6, .slice A7 s.inp.length c7, .int .i64 s.fault, .int .i64 s.fuel] #[.slice none 0 0, .slice none 0 0, .int .i32 0, .slice none 0 0, .slice none 0 0, .slice none 0 0, .slice none 0 0, .slice none 0 0, .int .i64 0, .int .i64 0] 32 32))
  have b0 := blk_cell HK1.out.1
  have y0 := blk_lt HK1.out.1
  have b1 := blk_cell HK1.out.2.1
  have g1 := blk_frozen HK1.out.2.1
  have y1 := blk_lt HK1.out.2.1
  have hlo1 : w.heap.size + 2 ≤ w1.heap.size := by omega
  have HSB := Lib.hid hs
  have HOK := Lib.hid hok
  clear hok
  clear hv hz
  go_enter Tryd.func7, Tryd.ntmps7
  go_wp2_with fail
  refine (specStOk_calls s _ w1 (HV.out.keepB HB1.out) HSB.out).mono ?_
  rintro e w2 ⟨rfl, hb⟩
  rw [HOK.out]
  have HB2 := Lib.hid (bl_call HB1.out hb)
  have HK2 := Lib.hid (HK1.out.call hb)
  have hlo2 : w.heap.size + 2 ≤ w2.heap.size := Nat.le_trans hlo1 hb.size
  clear hb b0 y0 b1 g1 y1
  have b0 := blk_cell HK2.out.1
  have y0 := blk_lt HK2.out.1
  have b1 := blk_cell HK2.out.2.1
  have g1 := blk_frozen HK2.out.2.1
  have y1 := blk_lt HK2.out.2.1
  go_wp2_with fail
  rw [HZ.out]
  refine bodyPost_ret (v := .agg #[.slice none 0 0, .slice none 0 0, .int .i32 0, .slice none 0 0, .slice none 0 0, .slice none 0 0, .slice none 0 0, .slice none 0 0, .int .i64 0, .int .i64 0]) (by simp [results, Tryd.results7, go_sem, b1, y1]) rfl ⟨_, rfl, (stO_zero _ _).v, ?_⟩
  have h0 := HB2.out
  with_reducible repeat (first | exact h0 | apply bl_set1)
set_option maxRecDepth 100000 in
set_option maxHeartbeats 4000000 in
theorem do_copy (s z : LSt) (v : Value) (w : World) (hv : StK w s v) (hs : s.small 1048576) (k : Int) (hok : stOk s = true) (hf : s.fault ≠ 0) (hz : z = s) :
    Calls Tryd.prog 7 #[v, .int .i64 k] w fun e w' => OtherE w z e w' := by
  obtain ⟨A0, c0, A1, c1, A3, c3, A4, c4, A5, c5, A6, c6, A7, c7, rfl⟩ := hv.form
  have HV := Lib.hid hv
  have HS := Lib.hid hs
  have HZ := Lib.hid hz
  obtain ⟨w1, hW1⟩ : ∃ W, (w.alloc (.cells #[.slice A0 s.data.length c0, .slice A1 s.ret.length c1, .int .i32 s.a, .slice A3 s.mem.length c3, .slice A4 s.cells.length c4, .slice A5 s.vars.length c5, .slice A6 s.out.length c6, .slice A7 s.inp.length c7, .int .i64 s.fault, .int .i64 s.fuel] 32)).alloc (.cells #[.slice none 0 0, .slice none 0 0, .int .i32 0, .slice none 0 0, .slice none 0 0, .slice none 0 0, .slice none 0 0, .slice none 0 0, .int .i64 0, .int .i64 0] 32) = W := ⟨_, rfl⟩
  have HB1 : Hid (Below w.heap.size w w1) := Lib.hid (hW1 ▸ bl_alloc (bl_alloc (Below.refl _ _) _) _)
  have HK1 : Hid (Bx w1 w.heap.size [(#[.slice A0 s.data.length c0, .slice A1 s.ret.length c1, .int .i32 s.a, .slice A3 s.mem.length c3, .slice A4 s.cells.length c4, .slice A5 s.vars.length c5, .slice A6 s.out.length c6, .slice A7 s.inp.length c7, .int .i64 s.fault, .int .i64 s.fuel], 32), (#[.slice none 0 0, .slice none 0 0, .int .i32 0, .slice none 0 0, .slice none 0 0, .slice none 0 0, .slice none 0 0, .slice none 0 0, .int .i64 0, .int .i64 0], 32)]) := Lib.hid (hW1 ▸ (Bx.two w #[.slice A0 s.data.length c0, .slice A1 s.ret.length c1, .int .i32 s.a, .slice A3 s.mem.length c3, .slice A4 s.cells.length c4, .slice A5 s.vars.length c5, .slice A6 s.out.length c6, .slice A7 s.inp.length c7, .int .i64 s.fault, .int .i64 s.fuel] #[.slice none 0 0, .slice none 0 0, .int .i32 0, .slice none 0 0, .slice none 0 0, .slice none 0 0, .slice none 0 0, .slice none 0 0, .int .i64 0, .int .i64 0] 32 32))
  have b0 := blk_cell HK1.out.1
  have y0 := blk_lt HK1.out.1
  have b1 := blk_cell HK1.out.2.1
  have g1 := blk_frozen HK1.out.2.1
  have y1 := blk_lt HK1.out.2.1
  have hlo1 : w.heap.size + 2 ≤ w1.heap.size := by omega
  have HSB := Lib.hid (show s.small 140737488355328 from by unfold LSt.small at *; omega)
  have HOK := Lib.hid hok
  clear hok
  have ef : (s.fault != 0) = true := by simpa using hf
  clear hf
  clear hv hz
  go_enter Tryd.func7, Tryd.ntmps7
  go_wp2_with fail
  refine (specStOk_calls s _ w1 (HV.out.keepB HB1.out) HSB.out).mono ?_
  rintro e w2 ⟨rfl, hb⟩
  rw [HOK.out]
  have HB2 := Lib.hid (bl_call HB1.out hb)
  have HK2 := Lib.hid (HK1.out.call hb)
  have hlo2 : w.heap.size + 2 ≤ w2.heap.size := Nat.le_trans hlo1 hb.size
  clear hb b0 y0 b1 g1 y1
  have b0 := blk_cell HK2.out.1
  have y0 := blk_lt HK2.out.1
  have b1 := blk_cell HK2.out.2.1
  have g1 := blk_frozen HK2.out.2.1
  have y1 := blk_lt HK2.out.2.1
  go_wp2_with fail
  refine (l08Copy_calls s _ w2 (HV.out.keepB HB2.out) HS.out).mono ?_
  rintro e w9 ⟨v9, rfl, hO, hb⟩
  rw [← HZ.out] at hO
  replace hO := hO.v
  obtain ⟨F0, f0, F1, f1, F3, f3, F4, f4, F5, f5, F6, f6, F7, f7, rfl⟩ := hO.k.form
  have HO := Lib.hid hO
  have HB9 := Lib.hid (bl_call HB2.out hb)
  have HK9 := Lib.hid ((HK2.out).call hb)
  have hl9 : w.heap.size + 2 ≤ w2.heap.size := (by first | omega | (simp; omega))
  have hw9 := hb.size
  clear hO hb b0 y0 b1 g1 y1
  have b0 := blk_cell HK9.out.1
  have y0 := blk_lt HK9.out.1
  have b1 := blk_cell HK9.out.2.1
  have g1 := blk_frozen HK9.out.2.1
  have y1 := blk_lt HK9.out.2.1
  go_wp2_with fail
  refine bodyPost_ret (v := .agg #[.slice F0 z.data.length f0, .slice F1 z.ret.length f1, .int .i32 z.a, .slice F3 z.mem.length f3, .slice F4 z.cells.length f4, .slice F5 z.vars.length f5, .slice F6 z.out.length f6, .slice F7 z.inp.length f7, .int .i64 z.fault, .int .i64 z.fuel]) (by simp [results, Tryd.results7, go_sem, b1, y1]) rfl ⟨_, rfl, ?_, ?_⟩
  · have h0 := HO.out.low (lo' := w.heap.size + 2) hl9
    have h1 : w.heap.size + 1 < w.heap.size + 2 := by omega
    have hz9 : ∀ (W : World) (u : Value), StV W (w.heap.size + 2) w9.heap.size z u → w9.heap.size = W.heap.size → StV W w.heap.size W.heap.size z u := fun W u h e => (h.low (by omega)).top (by omega) (Nat.le_refl _)
    refine hz9 _ _ ?_ (by simp)
    with_reducible repeat (first | exact h0 | refine StV.far ?_ h1 _)
  · have h0 := HB9.out
    with_reducible repeat (first | exact h0 | apply bl_set1)
set_option maxRecDepth 100000 in
set_option maxHeartbeats 4000000 in
theorem do_none (s z : LSt) (v : Value) (w : World) (hv : StK w s v) (hs : s.small 1048576) (k : Int) (hok : stOk s = true) (hf : s.fault = 0) (nm : ByteArray) (hN : ∀ W, Calls Tryd.prog 28 #[.int .i64 k] W fun e w' => e = .returned (.string nm) ∧ Below W.heap.size W w') (hnm : nm.toList.isEmpty = true) (hz : z = { s with fault := 1 }) :
    Calls Tryd.prog 7 #[v, .int .i64 k] w fun e w' => OtherE w z e w' := by
  obtain ⟨A0, c0, A1, c1, A3, c3, A4, c4, A5, c5, A6, c6, A7, c7, rfl⟩ := hv.form
  have HV := Lib.hid hv
  have HS := Lib.hid hs
  have HZ := Lib.hid hz
  obtain ⟨w1, hW1⟩ : ∃ W, (w.alloc (.cells #[.slice A0 s.data.length c0, .slice A1 s.ret.length c1, .int .i32 s.a, .slice A3 s.mem.length c3, .slice A4 s.cells.length c4, .slice A5 s.vars.length c5, .slice A6 s.out.length c6, .slice A7 s.inp.length c7, .int .i64 s.fault, .int .i64 s.fuel] 32)).alloc (.cells #[.slice none 0 0, .slice none 0 0, .int .i32 0, .slice none 0 0, .slice none 0 0, .slice none 0 0, .slice none 0 0, .slice none 0 0, .int .i64 0, .int .i64 0] 32) = W := ⟨_, rfl⟩
  have HB1 : Hid (Below w.heap.size w w1) := Lib.hid (hW1 ▸ bl_alloc (bl_alloc (Below.refl _ _) _) _)
  have HK1 : Hid (Bx w1 w.heap.size [(#[.slice A0 s.data.length c0, .slice A1 s.ret.length c1, .int .i32 s.a, .slice A3 s.mem.length c3, .slice A4 s.cells.length c4, .slice A5 s.vars.length c5, .slice A6 s.out.length c6, .slice A7 s.inp.length c7, .int .i64 s.fault, .int .i64 s.fuel], 32), (#[.slice none 0 0, .slice none 0 0, .int .i32 0, .slice none 0 0, .slice none 0 0, .slice none 0 0, .slice none 0 0, .slice none 0 0, .int .i64 0, .int .i64 0], 32)]) := Lib.hid (hW1 ▸ (Bx.two w #[.slice A0 s.data.length c0, .slice A1 s.ret.length c1, .int .i32 s.a, .slice A3 s.mem.length c3, .slice A4 s.cells.length c4, .slice A5 s.vars.length c5, .slice A6 s.out.length c6, .slice A7 s.inp.length c7, .int .i64 s.fault, .int .i64 s.fuel] #[.slice none 0 0, .slice none 0 0, .int .i32 0, .slice none 0 0, .slice none 0 0, .slice none 0 0, .slice none 0 0, .slice none 0 0, .int .i64 0, .int .i64 0] 32 32))
  have b0 := blk_cell HK1.out.1
  have y0 := blk_lt HK1.out.1
  have b1 := blk_cell HK1.out.2.1
  have g1 := blk_frozen HK1.out.2.1
  have y1 := blk_lt HK1.out.2.1
  have hlo1 : w.heap.size + 2 ≤ w1.heap.size := by omega
  have HSB := Lib.hid (show s.small 140737488355328 from by unfold LSt.small at *; omega)
  have HOK := Lib.hid hok
  clear hok
  have ef : (s.fault != 0) = false := by simpa using hf
  have HNN := Lib.hid hN
  clear hf hN
  clear hv hz
  go_enter Tryd.func7, Tryd.ntmps7
  go_wp2_with fail
  refine (specStOk_calls s _ w1 (HV.out.keepB HB1.out) HSB.out).mono ?_
  rintro e w2 ⟨rfl, hb⟩
  rw [HOK.out]
  have HB2 := Lib.hid (bl_call HB1.out hb)
  have HK2 := Lib.hid (HK1.out.call hb)
  have hlo2 : w.heap.size + 2 ≤ w2.heap.size := Nat.le_trans hlo1 hb.size
  clear hb b0 y0 b1 g1 y1
  have b0 := blk_cell HK2.out.1
  have y0 := blk_lt HK2.out.1
  have b1 := blk_cell HK2.out.2.1
  have g1 := blk_frozen HK2.out.2.1
  have y1 := blk_lt HK2.out.2.1
  go_wp2_with fail
  refine (HNN.out w2).mono ?_
  rintro e w3 ⟨rfl, hb⟩
  have HB3 := Lib.hid (bl_call HB2.out hb)
  have HK3 := Lib.hid (HK2.out.call hb)
  have hlo3 : w.heap.size + 2 ≤ w3.heap.size := Nat.le_trans hlo2 hb.size
  clear hb b0 y0 b1 g1 y1
  have b0 := blk_cell HK3.out.1
  have y0 := blk_lt HK3.out.1
  have b1 := blk_cell HK3.out.2.1
  have g1 := blk_frozen HK3.out.2.1
  have y1 := blk_lt HK3.out.2.1
  go_wp2_with fail
  refine (l08Fault_calls s _ 1 w3 (HV.out.keepB HB3.out) HS.out).mono ?_
  rintro e w9 ⟨v9, rfl, hO, hb⟩
  rw [← HZ.out] at hO
  replace hO := hO.v
  obtain ⟨F0, f0, F1, f1, F3, f3, F4, f4, F5, f5, F6, f6, F7, f7, rfl⟩ := hO.k.form
  have HO := Lib.hid hO
  have HB9 := Lib.hid (bl_call HB3.out hb)
  have HK9 := Lib.hid ((HK3.out).call hb)
  have hl9 : w.heap.size + 2 ≤ w3.heap.size := (by first | omega | (simp; omega))
  have hw9 := hb.size
  clear hO hb b0 y0 b1 g1 y1
  have b0 := blk_cell HK9.out.1
  have y0 := blk_lt HK9.out.1
  have b1 := blk_cell HK9.out.2.1
  have g1 := blk_frozen HK9.out.2.1
  have y1 := blk_lt HK9.out.2.1
  go_wp2_with fail
  refine bodyPost_ret (v := .agg #[.slice F0 z.data.length f0, .slice F1 z.ret.length f1, .int .i32 z.a, .slice F3 z.mem.length f3, .slice F4 z.cells.length f4, .slice F5 z.vars.length f5, .slice F6 z.out.length f6, .slice F7 z.inp.length f7, .int .i64 z.fault, .int .i64 z.fuel]) (by simp [results, Tryd.results7, go_sem, b1, y1]) rfl ⟨_, rfl, ?_, ?_⟩
  · have h0 := HO.out.low (lo' := w.heap.size + 2) hl9
    have h1 : w.heap.size + 1 < w.heap.size + 2 := by omega
    have hz9 : ∀ (W : World) (u : Value), StV W (w.heap.size + 2) w9.heap.size z u → w9.heap.size = W.heap.size → StV W w.heap.size W.heap.size z u := fun W u h e => (h.low (by omega)).top (by omega) (Nat.le_refl _)
    refine hz9 _ _ ?_ (by simp)
    with_reducible repeat (first | exact h0 | refine StV.far ?_ h1 _)
  · have h0 := HB9.out
    with_reducible repeat (first | exact h0 | apply bl_set1)
set_option maxRecDepth 100000 in
set_option maxHeartbeats 4000000 in
theorem do_few (s z : LSt) (v : Value) (w : World) (hv : StK w s v) (hs : s.small 1048576) (k : Int) (hok : stOk s = true) (hf : s.fault = 0) (nm : ByteArray) (hN : ∀ W, Calls Tryd.prog 28 #[.int .i64 k] W fun e w' => e = .returned (.string nm) ∧ Below W.heap.size W w') (hnm : nm.toList.isEmpty = false) (t : Nat) (hT : ∀ W, Calls Tryd.prog 30 #[.string nm] W fun e w' => e = .returned (.int .i64 (t : Int)) ∧ W = w') (hlt : s.data.length < t) (hz : z = { s with fault := 2 }) :
    Calls Tryd.prog 7 #[v, .int .i64 k] w fun e w' => OtherE w z e w' := by
  obtain ⟨A0, c0, A1, c1, A3, c3, A4, c4, A5, c5, A6, c6, A7, c7, rfl⟩ := hv.form
  have HV := Lib.hid hv
  have HS := Lib.hid hs
  have HZ := Lib.hid hz
  obtain ⟨w1, hW1⟩ : ∃ W, (w.alloc (.cells #[.slice A0 s.data.length c0, .slice A1 s.ret.length c1, .int .i32 s.a, .slice A3 s.mem.length c3, .slice A4 s.cells.length c4, .slice A5 s.vars.length c5, .slice A6 s.out.length c6, .slice A7 s.inp.length c7, .int .i64 s.fault, .int .i64 s.fuel] 32)).alloc (.cells #[.slice none 0 0, .slice none 0 0, .int .i32 0, .slice none 0 0, .slice none 0 0, .slice none 0 0, .slice none 0 0, .slice none 0 0, .int .i64 0, .int .i64 0] 32) = W := ⟨_, rfl⟩
  have HB1 : Hid (Below w.heap.size w w1) := Lib.hid (hW1 ▸ bl_alloc (bl_alloc (Below.refl _ _) _) _)
  have HK1 : Hid (Bx w1 w.heap.size [(#[.slice A0 s.data.length c0, .slice A1 s.ret.length c1, .int .i32 s.a, .slice A3 s.mem.length c3, .slice A4 s.cells.length c4, .slice A5 s.vars.length c5, .slice A6 s.out.length c6, .slice A7 s.inp.length c7, .int .i64 s.fault, .int .i64 s.fuel], 32), (#[.slice none 0 0, .slice none 0 0, .int .i32 0, .slice none 0 0, .slice none 0 0, .slice none 0 0, .slice none 0 0, .slice none 0 0, .int .i64 0, .int .i64 0], 32)]) := Lib.hid (hW1 ▸ (Bx.two w #[.slice A0 s.data.length c0, .slice A1 s.ret.length c1, .int .i32 s.a, .slice A3 s.mem.length c3, .slice A4 s.cells.length c4, .slice A5 s.vars.length c5, .slice A6 s.out.length c6, .slice A7 s.inp.length c7, .int .i64 s.fault, .int .i64 s.fuel] #[.slice none 0 0, .slice none 0 0, .int .i32 0, .slice none 0 0, .slice none 0 0, .slice none 0 0, .slice none 0 0, .slice none 0 0, .int .i64 0, .int .i64 0] 32 32))
  have b0 := blk_cell HK1.out.1
  have y0 := blk_lt HK1.out.1
  have b1 := blk_cell HK1.out.2.1
  have g1 := blk_frozen HK1.out.2.1
  have y1 := blk_lt HK1.out.2.1
  have hlo1 : w.heap.size + 2 ≤ w1.heap.size := by omega
  have HSB := Lib.hid (show s.small 140737488355328 from by unfold LSt.small at *; omega)
  have HOK := Lib.hid hok
  clear hok
  have ef : (s.fault != 0) = false := by simpa using hf
  have HNN := Lib.hid hN
  clear hf hN
  have HTK := Lib.hid hT
  clear hT
  have h1 : (s.data.length : Int) < (t : Int) := by omega
  clear hv hz
  go_enter Tryd.func7, Tryd.ntmps7
  go_wp2_with fail
  refine (specStOk_calls s _ w1 (HV.out.keepB HB1.out) HSB.out).mono ?_
  rintro e w2 ⟨rfl, hb⟩
  rw [HOK.out]
  have HB2 := Lib.hid (bl_call HB1.out hb)
  have HK2 := Lib.hid (HK1.out.call hb)
  have hlo2 : w.heap.size + 2 ≤ w2.heap.size := Nat.le_trans hlo1 hb.size
  clear hb b0 y0 b1 g1 y1
  have b0 := blk_cell HK2.out.1
  have y0 := blk_lt HK2.out.1
  have b1 := blk_cell HK2.out.2.1
  have g1 := blk_frozen HK2.out.2.1
  have y1 := blk_lt HK2.out.2.1
  go_wp2_with fail
  refine (HNN.out w2).mono ?_
  rintro e w3 ⟨rfl, hb⟩
  have HB3 := Lib.hid (bl_call HB2.out hb)
  have HK3 := Lib.hid (HK2.out.call hb)
  have hlo3 : w.heap.size + 2 ≤ w3.heap.size := Nat.le_trans hlo2 hb.size
  clear hb b0 y0 b1 g1 y1
  have b0 := blk_cell HK3.out.1
  have y0 := blk_lt HK3.out.1
  have b1 := blk_cell HK3.out.2.1
  have g1 := blk_frozen HK3.out.2.1
  have y1 := blk_lt HK3.out.2.1
  go_wp2_with fail
  have q0 := fun d os => blk_cell ((HK3.out.call (below_regrown w3 d os)).1)
  have TT0 : ∀ d os, Calls Tryd.prog 30 #[.string nm] (grow (redrawn w3 d) os) fun e w'' => e = .returned (.int .i64 (t : Int)) ∧ ∃ p : Regrown, w'' = grow (redrawn w3 p.d) p.os := fun d os => (HTK.out _).mono (fun e w' ⟨h1, h2⟩ => ⟨h1, ⟨⟨d, os⟩, h2.symm⟩⟩)
  have TT := Lib.hid TT0
  clear TT0
  refine wp_region_quiet_below (by kernel_rfl) (by kernel_rfl) ?_
  repeat (quiet_step (first | (with_reducible exact TT.out _ _)))
  refine wpQuiet_nil ?_
  intro w4 hw'
  obtain ⟨⟨dq, osq⟩, hw''⟩ := hw'
  have hb : Below w3.heap.size w3 w4 := by rw [hw'']; exact below_regrown w3 dq osq
  clear hw'' q0 TT
  have HB4 := Lib.hid (bl_call HB3.out hb)
  have HK4 := Lib.hid (HK3.out.call hb)
  have hlo4 : w.heap.size + 2 ≤ w4.heap.size := Nat.le_trans hlo3 hb.size
  clear hb b0 y0 b1 g1 y1
  have b0 := blk_cell HK4.out.1
  have y0 := blk_lt HK4.out.1
  have b1 := blk_cell HK4.out.2.1
  have g1 := blk_frozen HK4.out.2.1
  have y1 := blk_lt HK4.out.2.1
  go_wp2_with fail
  refine (l08Fault_calls s _ 2 w4 (HV.out.keepB HB4.out) HS.out).mono ?_
  rintro e w9 ⟨v9, rfl, hO, hb⟩
  rw [← HZ.out] at hO
  replace hO := hO.v
  obtain ⟨F0, f0, F1, f1, F3, f3, F4, f4, F5, f5, F6, f6, F7, f7, rfl⟩ := hO.k.form
  have HO := Lib.hid hO
  have HB9 := Lib.hid (bl_call HB4.out hb)
  have HK9 := Lib.hid ((HK4.out).call hb)
  have hl9 : w.heap.size + 2 ≤ w4.heap.size := (by first | omega | (simp; omega))
  have hw9 := hb.size
  clear hO hb b0 y0 b1 g1 y1
  have b0 := blk_cell HK9.out.1
  have y0 := blk_lt HK9.out.1
  have b1 := blk_cell HK9.out.2.1
  have g1 := blk_frozen HK9.out.2.1
  have y1 := blk_lt HK9.out.2.1
  go_wp2_with fail
  refine bodyPost_ret (v := .agg #[.slice F0 z.data.length f0, .slice F1 z.ret.length f1, .int .i32 z.a, .slice F3 z.mem.length f3, .slice F4 z.cells.length f4, .slice F5 z.vars.length f5, .slice F6 z.out.length f6, .slice F7 z.inp.length f7, .int .i64 z.fault, .int .i64 z.fuel]) (by simp [results, Tryd.results7, go_sem, b1, y1]) rfl ⟨_, rfl, ?_, ?_⟩
  · have h0 := HO.out.low (lo' := w.heap.size + 2) hl9
    have h1 : w.heap.size + 1 < w.heap.size + 2 := by omega
    have hz9 : ∀ (W : World) (u : Value), StV W (w.heap.size + 2) w9.heap.size z u → w9.heap.size = W.heap.size → StV W w.heap.size W.heap.size z u := fun W u h e => (h.low (by omega)).top (by omega) (Nat.le_refl _)
    refine hz9 _ _ ?_ (by simp)
    with_reducible repeat (first | exact h0 | refine StV.far ?_ h1 _)
  · have h0 := HB9.out
    with_reducible repeat (first | exact h0 | apply bl_set1)
set_option maxRecDepth 100000 in
set_option maxHeartbeats 4000000 in
theorem do_pure0 (s z : LSt) (v : Value) (w : World) (hv : StK w s v) (hs : s.small 1048576) (k : Int) (hok : stOk s = true) (hf : s.fault = 0) (nm : ByteArray) (hN : ∀ W, Calls Tryd.prog 28 #[.int .i64 k] W fun e w' => e = .returned (.string nm) ∧ Below W.heap.size W w') (hnm : nm.toList.isEmpty = false)  (hT : ∀ W, Calls Tryd.prog 30 #[.string nm] W fun e w' => e = .returned (.int .i64 0) ∧ W = w') (x y : Int) (hx : x = 0) (hy : y = 0) (xs : List Int) (hxl : xs.length ≤ 3) (hU : ∀ W, Calls Tryd.prog 31 #[.string nm, .int .i32 x, .int .i32 y] W fun e w' => ∃ A c, e = .returned (.tuple #[.slice A xs.length c, .bool true]) ∧ Rd w' A (xs.map (Value.int .i32)) ∧ Below W.heap.size W w') (hz : z = putSt s 0 xs) :
    Calls Tryd.prog 7 #[v, .int .i64 k] w fun e w' => OtherE w z e w' := by
  obtain ⟨A0, c0, A1, c1, A3, c3, A4, c4, A5, c5, A6, c6, A7, c7, rfl⟩ := hv.form
  have HV := Lib.hid hv
  have HS := Lib.hid hs
  have HZ := Lib.hid hz
  obtain ⟨w1, hW1⟩ : ∃ W, (w.alloc (.cells #[.slice A0 s.data.length c0, .slice A1 s.ret.length c1, .int .i32 s.a, .slice A3 s.mem.length c3, .slice A4 s.cells.length c4, .slice A5 s.vars.length c5, .slice A6 s.out.length c6, .slice A7 s.inp.length c7, .int .i64 s.fault, .int .i64 s.fuel] 32)).alloc (.cells #[.slice none 0 0, .slice none 0 0, .int .i32 0, .slice none 0 0, .slice none 0 0, .slice none 0 0, .slice none 0 0, .slice none 0 0, .int .i64 0, .int .i64 0] 32) = W := ⟨_, rfl⟩
  have HB1 : Hid (Below w.heap.size w w1) := Lib.hid (hW1 ▸ bl_alloc (bl_alloc (Below.refl _ _) _) _)
  have HK1 : Hid (Bx w1 w.heap.size [(#[.slice A0 s.data.length c0, .slice A1 s.ret.length c1, .int .i32 s.a, .slice A3 s.mem.length c3, .slice A4 s.cells.length c4, .slice A5 s.vars.length c5, .slice A6 s.out.length c6, .slice A7 s.inp.length c7, .int .i64 s.fault, .int .i64 s.fuel], 32), (#[.slice none 0 0, .slice none 0 0, .int .i32 0, .slice none 0 0, .slice none 0 0, .slice none 0 0, .slice none 0 0, .slice none 0 0, .int .i64 0, .int .i64 0], 32)]) := Lib.hid (hW1 ▸ (Bx.two w #[.slice A0 s.data.length c0, .slice A1 s.ret.length c1, .int .i32 s.a, .slice A3 s.mem.length c3, .slice A4 s.cells.length c4, .slice A5 s.vars.length c5, .slice A6 s.out.length c6, .slice A7 s.inp.length c7, .int .i64 s.fault, .int .i64 s.fuel] #[.slice none 0 0, .slice none 0 0, .int .i32 0, .slice none 0 0, .slice none 0 0, .slice none 0 0, .slice none 0 0, .slice none 0 0, .int .i64 0, .int .i64 0] 32 32))
  have b0 := blk_cell HK1.out.1
  have y0 := blk_lt HK1.out.1
  have b1 := blk_cell HK1.out.2.1
  have g1 := blk_frozen HK1.out.2.1
  have y1 := blk_lt HK1.out.2.1
  have hlo1 : w.heap.size + 2 ≤ w1.heap.size := by omega
  have HSB := Lib.hid (show s.small 140737488355328 from by unfold LSt.small at *; omega)
  have HOK := Lib.hid hok
  clear hok
  have ef : (s.fault != 0) = false := by simpa using hf
  have HNN := Lib.hid hN
  clear hf hN
  have HTK := Lib.hid hT
  clear hT
  have h1 : ¬ ((s.data.length : Int) < 0) := by omega
  have HUU := Lib.hid hU
  clear hU
  have hdl : s.data.length ≤ 1048576 := hs.1
  have HT : Hid (0 ≤ s.data.length) := Lib.hid (by omega)
  subst hx hy
  clear hv hz
  go_enter Tryd.func7, Tryd.ntmps7
  go_wp2_with fail
  refine (specStOk_calls s _ w1 (HV.out.keepB HB1.out) HSB.out).mono ?_
  rintro e w2 ⟨rfl, hb⟩
  rw [HOK.out]
  have HB2 := Lib.hid (bl_call HB1.out hb)
  have HK2 := Lib.hid (HK1.out.call hb)
  have hlo2 : w.heap.size + 2 ≤ w2.heap.size := Nat.le_trans hlo1 hb.size
  clear hb b0 y0 b1 g1 y1
  have b0 := blk_cell HK2.out.1
  have y0 := blk_lt HK2.out.1
  have b1 := blk_cell HK2.out.2.1
  have g1 := blk_frozen HK2.out.2.1
  have y1 := blk_lt HK2.out.2.1
  go_wp2_with fail
  refine (HNN.out w2).mono ?_
  rintro e w3 ⟨rfl, hb⟩
  have HB3 := Lib.hid (bl_call HB2.out hb)
  have HK3 := Lib.hid (HK2.out.call hb)
  have hlo3 : w.heap.size + 2 ≤ w3.heap.size := Nat.le_trans hlo2 hb.size
  clear hb b0 y0 b1 g1 y1
  have b0 := blk_cell HK3.out.1
  have y0 := blk_lt HK3.out.1
  have b1 := blk_cell HK3.out.2.1
  have g1 := blk_frozen HK3.out.2.1
  have y1 := blk_lt HK3.out.2.1
  go_wp2_with fail
  have q0 := fun d os => blk_cell ((HK3.out.call (below_regrown w3 d os)).1)
  have TT0 : ∀ d os, Calls Tryd.prog 30 #[.string nm] (grow (redrawn w3 d) os) fun e w'' => e = .returned (.int .i64 0) ∧ ∃ p : Regrown, w'' = grow (redrawn w3 p.d) p.os := fun d os => (HTK.out _).mono (fun e w' ⟨h1, h2⟩ => ⟨h1, ⟨⟨d, os⟩, h2.symm⟩⟩)
  have TT := Lib.hid TT0
  clear TT0
  refine wp_region_quiet_below (by kernel_rfl) (by kernel_rfl) ?_
  repeat (quiet_step (first | (with_reducible exact TT.out _ _)))
  refine wpQuiet_nil ?_
  intro w4 hw'
  obtain ⟨⟨dq, osq⟩, hw''⟩ := hw'
  have hb : Below w3.heap.size w3 w4 := by rw [hw'']; exact below_regrown w3 dq osq
  clear hw'' q0 TT
  have HB4 := Lib.hid (bl_call HB3.out hb)
  have HK4 := Lib.hid (HK3.out.call hb)
  have hlo4 : w.heap.size + 2 ≤ w4.heap.size := Nat.le_trans hlo3 hb.size
  clear hb b0 y0 b1 g1 y1
  have b0 := blk_cell HK4.out.1
  have y0 := blk_lt HK4.out.1
  have b1 := blk_cell HK4.out.2.1
  have g1 := blk_frozen HK4.out.2.1
  have y1 := blk_lt HK4.out.2.1
  go_wp2_with fail
  refine (HUU.out w4).mono ?_
  rintro e w5 ⟨A, c, rfl, hR, hb⟩
  have HRL := Lib.hid hR
  clear hR
  have HB5 := Lib.hid (bl_call HB4.out hb)
  have HK5 := Lib.hid (HK4.out.call hb)
  have hlo5 : w.heap.size + 2 ≤ w5.heap.size := Nat.le_trans hlo4 hb.size
  clear hb b0 y0 b1 g1 y1
  have b0 := blk_cell HK5.out.1
  have y0 := blk_lt HK5.out.1
  have b1 := blk_cell HK5.out.2.1
  have g1 := blk_frozen HK5.out.2.1
  have y1 := blk_lt HK5.out.2.1
  go_wp2_with fail
  refine (l08Put_at s _ 0 xs.length 0 A c xs w5 (HV.out.keepB HB5.out) HS.out HT.out rfl rfl HRL.out (by omega)).mono ?_
  rintro e w9 ⟨v9, rfl, hO, hb⟩
  rw [← HZ.out] at hO
  replace hO := hO.v
  obtain ⟨F0, f0, F1, f1, F3, f3, F4, f4, F5, f5, F6, f6, F7, f7, rfl⟩ := hO.k.form
  have HO := Lib.hid hO
  have HB9 := Lib.hid (bl_call HB5.out hb)
  have HK9 := Lib.hid ((HK5.out).call hb)
  have hl9 : w.heap.size + 2 ≤ w5.heap.size := (by first | omega | (simp; omega))
  have hw9 := hb.size
  clear hO hb b0 y0 b1 g1 y1
  have b0 := blk_cell HK9.out.1
  have y0 := blk_lt HK9.out.1
  have b1 := blk_cell HK9.out.2.1
  have g1 := blk_frozen HK9.out.2.1
  have y1 := blk_lt HK9.out.2.1
  go_wp2_with fail
  refine bodyPost_ret (v := .agg #[.slice F0 z.data.length f0, .slice F1 z.ret.length f1, .int .i32 z.a, .slice F3 z.mem.length f3, .slice F4 z.cells.length f4, .slice F5 z.vars.length f5, .slice F6 z.out.length f6, .slice F7 z.inp.length f7, .int .i64 z.fault, .int .i64 z.fuel]) (by simp [results, Tryd.results7, go_sem, b1, y1]) rfl ⟨_, rfl, ?_, ?_⟩
  · have h0 := HO.out.low (lo' := w.heap.size + 2) hl9
    have h1 : w.heap.size + 1 < w.heap.size + 2 := by omega
    have hz9 : ∀ (W : World) (u : Value), StV W (w.heap.size + 2) w9.heap.size z u → w9.heap.size = W.heap.size → StV W w.heap.size W.heap.size z u := fun W u h e => (h.low (by omega)).top (by omega) (Nat.le_refl _)
    refine hz9 _ _ ?_ (by simp)
    with_reducible repeat (first | exact h0 | refine StV.far ?_ h1 _)
  · have h0 := HB9.out
    with_reducible repeat (first | exact h0 | apply bl_set1)
set_option maxRecDepth 100000 in
set_option maxHeartbeats 4000000 in
theorem do_other0 (s z : LSt) (v : Value) (w : World) (hv : StK w s v) (hs : s.small 1048576) (k : Int) (hok : stOk s = true) (hf : s.fault = 0) (nm : ByteArray) (hN : ∀ W, Calls Tryd.prog 28 #[.int .i64 k] W fun e w' => e = .returned (.string nm) ∧ Below W.heap.size W w') (hnm : nm.toList.isEmpty = false)  (hT : ∀ W, Calls Tryd.prog 30 #[.string nm] W fun e w' => e = .returned (.int .i64 0) ∧ W = w') (x y : Int) (hx : x = 0) (hy : y = 0) (hU : ∀ W, Calls Tryd.prog 31 #[.string nm, .int .i32 x, .int .i32 y] W fun e w' => e = .returned (.tuple #[.slice none 0 0, .bool false]) ∧ W = w') (hO : ∀ W u, StK W s u → Calls Tryd.prog 33 #[u, .string nm, .int .i32 x, .int .i32 y] W fun e w' => OtherE W z e w') (hz : True) :
    Calls Tryd.prog 7 #[v, .int .i64 k] w fun e w' => OtherE w z e w' := by
  obtain ⟨A0, c0, A1, c1, A3, c3, A4, c4, A5, c5, A6, c6, A7, c7, rfl⟩ := hv.form
  have HV := Lib.hid hv
  have HS := Lib.hid hs
  have HZ := Lib.hid hz
  obtain ⟨w1, hW1⟩ : ∃ W, (w.alloc (.cells #[.slice A0 s.data.length c0, .slice A1 s.ret.length c1, .int .i32 s.a, .slice A3 s.mem.length c3, .slice A4 s.cells.length c4, .slice A5 s.vars.length c5, .slice A6 s.out.length c6, .slice A7 s.inp.length c7, .int .i64 s.fault, .int .i64 s.fuel] 32)).alloc (.cells #[.slice none 0 0, .slice none 0 0, .int .i32 0, .slice none 0 0, .slice none 0 0, .slice none 0 0, .slice none 0 0, .slice none 0 0, .int .i64 0, .int .i64 0] 32) = W := ⟨_, rfl⟩
  have HB1 : Hid (Below w.heap.size w w1) := Lib.hid (hW1 ▸ bl_alloc (bl_alloc (Below.refl _ _) _) _)
  have HK1 : Hid (Bx w1 w.heap.size [(#[.slice A0 s.data.length c0, .slice A1 s.ret.length c1, .int .i32 s.a, .slice A3 s.mem.length c3, .slice A4 s.cells.length c4, .slice A5 s.vars.length c5, .slice A6 s.out.length c6, .slice A7 s.inp.length c7, .int .i64 s.fault, .int .i64 s.fuel], 32), (#[.slice none 0 0, .slice none 0 0, .int .i32 0, .slice none 0 0, .slice none 0 0, .slice none 0 0, .slice none 0 0, .slice none 0 0, .int .i64 0, .int .i64 0], 32)]) := Lib.hid (hW1 ▸ (Bx.two w #[.slice A0 s.data.length c0, .slice A1 s.ret.length c1, .int .i32 s.a, .slice A3 s.mem.length c3, .slice A4 s.cells.length c4, .slice A5 s.vars.length c5, .slice A6 s.out.length c6, .slice A7 s.inp.length c7, .int .i64 s.fault, .int .i64 s.fuel] #[.slice none 0 0, .slice none 0 0, .int .i32 0, .slice none 0 0, .slice none 0 0, .slice none 0 0, .slice none 0 0, .slice none 0 0, .int .i64 0, .int .i64 0] 32 32))
  have b0 := blk_cell HK1.out.1
  have y0 := blk_lt HK1.out.1
  have b1 := blk_cell HK1.out.2.1
  have g1 := blk_frozen HK1.out.2.1
  have y1 := blk_lt HK1.out.2.1
  have hlo1 : w.heap.size + 2 ≤ w1.heap.size := by omega
  have HSB := Lib.hid (show s.small 140737488355328 from by unfold LSt.small at *; omega)
  have HOK := Lib.hid hok
  clear hok
  have ef : (s.fault != 0) = false := by simpa using hf
  have HNN := Lib.hid hN
  clear hf hN
  have HTK := Lib.hid hT
  clear hT
  have h1 : ¬ ((s.data.length : Int) < 0) := by omega
  have HUU := Lib.hid hU
  have HOO := Lib.hid hO
  clear hU hO
  have hdl : s.data.length ≤ 1048576 := hs.1
  have HT : Hid (0 ≤ s.data.length) := Lib.hid (by omega)
  subst hx hy
  clear hv hz
  go_enter Tryd.func7, Tryd.ntmps7
  go_wp2_with fail
  refine (specStOk_calls s _ w1 (HV.out.keepB HB1.out) HSB.out).mono ?_
  rintro e w2 ⟨rfl, hb⟩
  rw [HOK.out]
  have HB2 := Lib.hid (bl_call HB1.out hb)
  have HK2 := Lib.hid (HK1.out.call hb)
  have hlo2 : w.heap.size + 2 ≤ w2.heap.size := Nat.le_trans hlo1 hb.size
  clear hb b0 y0 b1 g1 y1
  have b0 := blk_cell HK2.out.1
  have y0 := blk_lt HK2.out.1
  have b1 := blk_cell HK2.out.2.1
  have g1 := blk_frozen HK2.out.2.1
  have y1 := blk_lt HK2.out.2.1
  go_wp2_with fail
  refine (HNN.out w2).mono ?_
  rintro e w3 ⟨rfl, hb⟩
  have HB3 := Lib.hid (bl_call HB2.out hb)
  have HK3 := Lib.hid (HK2.out.call hb)
  have hlo3 : w.heap.size + 2 ≤ w3.heap.size := Nat.le_trans hlo2 hb.size
  clear hb b0 y0 b1 g1 y1
  have b0 := blk_cell HK3.out.1
  have y0 := blk_lt HK3.out.1
  have b1 := blk_cell HK3.out.2.1
  have g1 := blk_frozen HK3.out.2.1
  have y1 := blk_lt HK3.out.2.1
  go_wp2_with fail
  have q0 := fun d os => blk_cell ((HK3.out.call (below_regrown w3 d os)).1)
  have TT0 : ∀ d os, Calls Tryd.prog 30 #[.string nm] (grow (redrawn w3 d) os) fun e w'' => e = .returned (.int .i64 0) ∧ ∃ p : Regrown, w'' = grow (redrawn w3 p.d) p.os := fun d os => (HTK.out _).mono (fun e w' ⟨h1, h2⟩ => ⟨h1, ⟨⟨d, os⟩, h2.symm⟩⟩)
  have TT := Lib.hid TT0
  clear TT0
  refine wp_region_quiet_below (by kernel_rfl) (by kernel_rfl) ?_
  repeat (quiet_step (first | (with_reducible exact TT.out _ _)))
  refine wpQuiet_nil ?_
  intro w4 hw'
  obtain ⟨⟨dq, osq⟩, hw''⟩ := hw'
  have hb : Below w3.heap.size w3 w4 := by rw [hw'']; exact below_regrown w3 dq osq
  clear hw'' q0 TT
  have HB4 := Lib.hid (bl_call HB3.out hb)
  have HK4 := Lib.hid (HK3.out.call hb)
  have hlo4 : w.heap.size + 2 ≤ w4.heap.size := Nat.le_trans hlo3 hb.size
  clear hb b0 y0 b1 g1 y1
  have b0 := blk_cell HK4.out.1
  have y0 := blk_lt HK4.out.1
  have b1 := blk_cell HK4.out.2.1
  have g1 := blk_frozen HK4.out.2.1
  have y1 := blk_lt HK4.out.2.1
  go_wp2_with fail
  refine (HUU.out w4).mono ?_
  rintro e w5 ⟨rfl, rfl⟩
  go_wp2_with fail
  refine (HOO.out w4 _ (HV.out.keepB HB4.out)).mono ?_
  rintro e w9 ⟨v9, rfl, hO, hb⟩
  obtain ⟨F0, f0, F1, f1, F3, f3, F4, f4, F5, f5, F6, f6, F7, f7, rfl⟩ := hO.k.form
  have HO := Lib.hid hO
  have HB9 := Lib.hid (bl_call HB4.out hb)
  have HK9 := Lib.hid ((HK4.out).call hb)
  have hl9 : w.heap.size + 2 ≤ w4.heap.size := (by first | omega | (simp; omega))
  have hw9 := hb.size
  clear hO hb b0 y0 b1 g1 y1
  have b0 := blk_cell HK9.out.1
  have y0 := blk_lt HK9.out.1
  have b1 := blk_cell HK9.out.2.1
  have g1 := blk_frozen HK9.out.2.1
  have y1 := blk_lt HK9.out.2.1
  go_wp2_with fail
  refine bodyPost_ret (v := .agg #[.slice F0 z.data.length f0, .slice F1 z.ret.length f1, .int .i32 z.a, .slice F3 z.mem.length f3, .slice F4 z.cells.length f4, .slice F5 z.vars.length f5, .slice F6 z.out.length f6, .slice F7 z.inp.length f7, .int .i64 z.fault, .int .i64 z.fuel]) (by simp [results, Tryd.results7, go_sem, b1, y1]) rfl ⟨_, rfl, ?_, ?_⟩
  · have h0 := HO.out.low (lo' := w.heap.size + 2) hl9
    have h1 : w.heap.size + 1 < w.heap.size + 2 := by omega
    have hz9 : ∀ (W : World) (u : Value), StV W (w.heap.size + 2) w9.heap.size z u → w9.heap.size = W.heap.size → StV W w.heap.size W.heap.size z u := fun W u h e => (h.low (by omega)).top (by omega) (Nat.le_refl _)
    refine hz9 _ _ ?_ (by simp)
    with_reducible repeat (first | exact h0 | refine StV.far ?_ h1 _)
  · have h0 := HB9.out
    with_reducible repeat (first | exact h0 | apply bl_set1)
set_option maxRecDepth 100000 in
set_option maxHeartbeats 4000000 in
theorem do_pure1 (s z : LSt) (v : Value) (w : World) (hv : StK w s v) (hs : s.small 1048576) (k : Int) (hok : stOk s = true) (hf : s.fault = 0) (nm : ByteArray) (hN : ∀ W, Calls Tryd.prog 28 #[.int .i64 k] W fun e w' => e = .returned (.string nm) ∧ Below W.heap.size W w') (hnm : nm.toList.isEmpty = false)  (hT : ∀ W, Calls Tryd.prog 30 #[.string nm] W fun e w' => e = .returned (.int .i64 1) ∧ W = w') (x y : Int) (hx : x = 0) (j : Nat) (hj : s.data.length = j + 1) (hyv : s.data[j]? = some y) (xs : List Int) (hxl : xs.length ≤ 3) (hU : ∀ W, Calls Tryd.prog 31 #[.string nm, .int .i32 x, .int .i32 y] W fun e w' => ∃ A c, e = .returned (.tuple #[.slice A xs.length c, .bool true]) ∧ Rd w' A (xs.map (Value.int .i32)) ∧ Below W.heap.size W w') (hz : z = putSt s 1 xs) :
    Calls Tryd.prog 7 #[v, .int .i64 k] w fun e w' => OtherE w z e w' := by
  have hv' := hv
  obtain ⟨A0, c0, A1, c1, A3, c3, A4, c4, A5, c5, A6, c6, A7, c7, rfl, R0, -⟩ := hv
  have hyj : s.data[j]? = some y := hyv
  obtain ⟨ad, rfl, -⟩ := R0.at_ (j := j) (u := .int .i32 y) (by simp [hyj])
  have HRR := Lib.hid R0
  have HYJ : Hid ((s.data.map (Value.int .i32))[j]? = some (.int .i32 y)) := Lib.hid (by simp [hyj])
  have hv := hv'
  clear hv' R0 hyj
  have HV := Lib.hid hv
  have HS := Lib.hid hs
  have HZ := Lib.hid hz
  obtain ⟨w1, hW1⟩ : ∃ W, (w.alloc (.cells #[.slice (some ad) s.data.length c0, .slice A1 s.ret.length c1, .int .i32 s.a, .slice A3 s.mem.length c3, .slice A4 s.cells.length c4, .slice A5 s.vars.length c5, .slice A6 s.out.length c6, .slice A7 s.inp.length c7, .int .i64 s.fault, .int .i64 s.fuel] 32)).alloc (.cells #[.slice none 0 0, .slice none 0 0, .int .i32 0, .slice none 0 0, .slice none 0 0, .slice none 0 0, .slice none 0 0, .slice none 0 0, .int .i64 0, .int .i64 0] 32) = W := ⟨_, rfl⟩
  have HB1 : Hid (Below w.heap.size w w1) := Lib.hid (hW1 ▸ bl_alloc (bl_alloc (Below.refl _ _) _) _)
  have HK1 : Hid (Bx w1 w.heap.size [(#[.slice (some ad) s.data.length c0, .slice A1 s.ret.length c1, .int .i32 s.a, .slice A3 s.mem.length c3, .slice A4 s.cells.length c4, .slice A5 s.vars.length c5, .slice A6 s.out.length c6, .slice A7 s.inp.length c7, .int .i64 s.fault, .int .i64 s.fuel], 32), (#[.slice none 0 0, .slice none 0 0, .int .i32 0, .slice none 0 0, .slice none 0 0, .slice none 0 0, .slice none 0 0, .slice none 0 0, .int .i64 0, .int .i64 0], 32)]) := Lib.hid (hW1 ▸ (Bx.two w #[.slice (some ad) s.data.length c0, .slice A1 s.ret.length c1, .int .i32 s.a, .slice A3 s.mem.length c3, .slice A4 s.cells.length c4, .slice A5 s.vars.length c5, .slice A6 s.out.length c6, .slice A7 s.inp.length c7, .int .i64 s.fault, .int .i64 s.fuel] #[.slice none 0 0, .slice none 0 0, .int .i32 0, .slice none 0 0, .slice none 0 0, .slice none 0 0, .slice none 0 0, .slice none 0 0, .int .i64 0, .int .i64 0] 32 32))
  have b0 := blk_cell HK1.out.1
  have y0 := blk_lt HK1.out.1
  have b1 := blk_cell HK1.out.2.1
  have g1 := blk_frozen HK1.out.2.1
  have y1 := blk_lt HK1.out.2.1
  have hlo1 : w.heap.size + 2 ≤ w1.heap.size := by omega
  have HSB := Lib.hid (show s.small 140737488355328 from by unfold LSt.small at *; omega)
  have HOK := Lib.hid hok
  clear hok
  have ef : (s.fault != 0) = false := by simpa using hf
  have HNN := Lib.hid hN
  clear hf hN
  have HTK := Lib.hid hT
  clear hT
  have h1 : ¬ ((s.data.length : Int) < 1) := by omega
  have HUU := Lib.hid hU
  clear hU
  have ej : (s.data.length : Int) - 1 = (j : Int) := by omega
  have hjn : j < s.data.length := by omega
  have hj64 : j ≤ 1048576 := by have := hs.1; omega
  have HJJ := Lib.hid hj
  clear hyv
  have hdl : s.data.length ≤ 1048576 := hs.1
  have HT : Hid (1 ≤ s.data.length) := Lib.hid (by omega)
  subst hx
  clear hj
  clear hv hz
  go_enter Tryd.func7, Tryd.ntmps7
  go_wp2_with fail
  refine (specStOk_calls s _ w1 (HV.out.keepB HB1.out) HSB.out).mono ?_
  rintro e w2 ⟨rfl, hb⟩
  rw [HOK.out]
  have HB2 := Lib.hid (bl_call HB1.out hb)
  have HK2 := Lib.hid (HK1.out.call hb)
  have hlo2 : w.heap.size + 2 ≤ w2.heap.size := Nat.le_trans hlo1 hb.size
  clear hb b0 y0 b1 g1 y1
  have b0 := blk_cell HK2.out.1
  have y0 := blk_lt HK2.out.1
  have b1 := blk_cell HK2.out.2.1
  have g1 := blk_frozen HK2.out.2.1
  have y1 := blk_lt HK2.out.2.1
  go_wp2_with fail
  refine (HNN.out w2).mono ?_
  rintro e w3 ⟨rfl, hb⟩
  have HB3 := Lib.hid (bl_call HB2.out hb)
  have HK3 := Lib.hid (HK2.out.call hb)
  have hlo3 : w.heap.size + 2 ≤ w3.heap.size := Nat.le_trans hlo2 hb.size
  clear hb b0 y0 b1 g1 y1
  have b0 := blk_cell HK3.out.1
  have y0 := blk_lt HK3.out.1
  have b1 := blk_cell HK3.out.2.1
  have g1 := blk_frozen HK3.out.2.1
  have y1 := blk_lt HK3.out.2.1
  go_wp2_with fail
  have q0 := fun d os => blk_cell ((HK3.out.call (below_regrown w3 d os)).1)
  have TT0 : ∀ d os, Calls Tryd.prog 30 #[.string nm] (grow (redrawn w3 d) os) fun e w'' => e = .returned (.int .i64 1) ∧ ∃ p : Regrown, w'' = grow (redrawn w3 p.d) p.os := fun d os => (HTK.out _).mono (fun e w' ⟨h1, h2⟩ => ⟨h1, ⟨⟨d, os⟩, h2.symm⟩⟩)
  have TT := Lib.hid TT0
  clear TT0
  refine wp_region_quiet_below (by kernel_rfl) (by kernel_rfl) ?_
  repeat (quiet_step (first | (with_reducible exact TT.out _ _)))
  refine wpQuiet_nil ?_
  intro w4 hw'
  obtain ⟨⟨dq, osq⟩, hw''⟩ := hw'
  have hb : Below w3.heap.size w3 w4 := by rw [hw'']; exact below_regrown w3 dq osq
  clear hw'' q0 TT
  have HB4 := Lib.hid (bl_call HB3.out hb)
  have HK4 := Lib.hid (HK3.out.call hb)
  have hlo4 : w.heap.size + 2 ≤ w4.heap.size := Nat.le_trans hlo3 hb.size
  clear hb b0 y0 b1 g1 y1
  have b0 := blk_cell HK4.out.1
  have y0 := blk_lt HK4.out.1
  have b1 := blk_cell HK4.out.2.1
  have g1 := blk_frozen HK4.out.2.1
  have y1 := blk_lt HK4.out.2.1
  have cy0 := (HRR.out.keepB HB4.out).some_ j _ HYJ.out
  go_wp2_with fail
  refine (HUU.out w4).mono ?_
  rintro e w5 ⟨A, c, rfl, hR, hb⟩
  have HRL := Lib.hid hR
  clear hR
  have HB5 := Lib.hid (bl_call HB4.out hb)
  have HK5 := Lib.hid (HK4.out.call hb)
  have hlo5 : w.heap.size + 2 ≤ w5.heap.size := Nat.le_trans hlo4 hb.size
  clear hb b0 y0 b1 g1 y1
  have b0 := blk_cell HK5.out.1
  have y0 := blk_lt HK5.out.1
  have b1 := blk_cell HK5.out.2.1
  have g1 := blk_frozen HK5.out.2.1
  have y1 := blk_lt HK5.out.2.1
  go_wp2_with fail
  refine (l08Put_at s _ 1 xs.length 1 A c xs w5 (HV.out.keepB HB5.out) HS.out HT.out rfl rfl HRL.out (by omega)).mono ?_
  rintro e w9 ⟨v9, rfl, hO, hb⟩
  rw [← HZ.out] at hO
  replace hO := hO.v
  obtain ⟨F0, f0, F1, f1, F3, f3, F4, f4, F5, f5, F6, f6, F7, f7, rfl⟩ := hO.k.form
  have HO := Lib.hid hO
  have HB9 := Lib.hid (bl_call HB5.out hb)
  have HK9 := Lib.hid ((HK5.out).call hb)
  have hl9 : w.heap.size + 2 ≤ w5.heap.size := (by first | omega | (simp; omega))
  have hw9 := hb.size
  clear hO hb b0 y0 b1 g1 y1
  have b0 := blk_cell HK9.out.1
  have y0 := blk_lt HK9.out.1
  have b1 := blk_cell HK9.out.2.1
  have g1 := blk_frozen HK9.out.2.1
  have y1 := blk_lt HK9.out.2.1
  go_wp2_with fail
  refine bodyPost_ret (v := .agg #[.slice F0 z.data.length f0, .slice F1 z.ret.length f1, .int .i32 z.a, .slice F3 z.mem.length f3, .slice F4 z.cells.length f4, .slice F5 z.vars.length f5, .slice F6 z.out.length f6, .slice F7 z.inp.length f7, .int .i64 z.fault, .int .i64 z.fuel]) (by simp [results, Tryd.results7, go_sem, b1, y1]) rfl ⟨_, rfl, ?_, ?_⟩
  · have h0 := HO.out.low (lo' := w.heap.size + 2) hl9
    have h1 : w.heap.size + 1 < w.heap.size + 2 := by omega
    have hz9 : ∀ (W : World) (u : Value), StV W (w.heap.size + 2) w9.heap.size z u → w9.heap.size = W.heap.size → StV W w.heap.size W.heap.size z u := fun W u h e => (h.low (by omega)).top (by omega) (Nat.le_refl _)
    refine hz9 _ _ ?_ (by simp)
    with_reducible repeat (first | exact h0 | refine StV.far ?_ h1 _)
  · have h0 := HB9.out
    with_reducible repeat (first | exact h0 | apply bl_set1)
set_option maxRecDepth 100000 in
set_option maxHeartbeats 4000000 in
theorem do_other1 (s z : LSt) (v : Value) (w : World) (hv : StK w s v) (hs : s.small 1048576) (k : Int) (hok : stOk s = true) (hf : s.fault = 0) (nm : ByteArray) (hN : ∀ W, Calls Tryd.prog 28 #[.int .i64 k] W fun e w' => e = .returned (.string nm) ∧ Below W.heap.size W w') (hnm : nm.toList.isEmpty = false)  (hT : ∀ W, Calls Tryd.prog 30 #[.string nm] W fun e w' => e = .returned (.int .i64 1) ∧ W = w') (x y : Int) (hx : x = 0) (j : Nat) (hj : s.data.length = j + 1) (hyv : s.data[j]? = some y) (hU : ∀ W, Calls Tryd.prog 31 #[.string nm, .int .i32 x, .int .i32 y] W fun e w' => e = .returned (.tuple #[.slice none 0 0, .bool false]) ∧ W = w') (hO : ∀ W u, StK W s u → Calls Tryd.prog 33 #[u, .string nm, .int .i32 x, .int .i32 y] W fun e w' => OtherE W z e w') (hz : True) :
    Calls Tryd.prog 7 #[v, .int .i64 k] w fun e w' => OtherE w z e w' := by
  have hv' := hv
  obtain ⟨A0, c0, A1, c1, A3, c3, A4, c4, A5, c5, A6, c6, A7, c7, rfl, R0, -⟩ := hv
  have hyj : s.data[j]? = some y := hyv
  obtain ⟨ad, rfl, -⟩ := R0.at_ (j := j) (u := .int .i32 y) (by simp [hyj])
  have HRR := Lib.hid R0
  have HYJ : Hid ((s.data.map (Value.int .i32))[j]? = some (.int .i32 y)) := Lib.hid (by simp [hyj])
  have hv := hv'
  clear hv' R0 hyj
  have HV := Lib.hid hv
  have HS := Lib.hid hs
  have HZ := Lib.hid hz
  obtain ⟨w1, hW1⟩ : ∃ W, (w.alloc (.cells #[.slice (some ad) s.data.length c0, .slice A1 s.ret.length c1, .int .i32 s.a, .slice A3 s.mem.length c3, .slice A4 s.cells.length c4, .slice A5 s.vars.length c5, .slice A6 s.out.length c6, .slice A7 s.inp.length c7, .int .i64 s.fault, .int .i64 s.fuel] 32)).alloc (.cells #[.slice none 0 0, .slice none 0 0, .int .i32 0, .slice none 0 0, .slice none 0 0, .slice none 0 0, .slice none 0 0, .slice none 0 0, .int .i64 0, .int .i64 0] 32) = W := ⟨_, rfl⟩
  have HB1 : Hid (Below w.heap.size w w1) := Lib.hid (hW1 ▸ bl_alloc (bl_alloc (Below.refl _ _) _) _)
  have HK1 : Hid (Bx w1 w.heap.size [(#[.slice (some ad) s.data.length c0, .slice A1 s.ret.length c1, .int .i32 s.a, .slice A3 s.mem.length c3, .slice A4 s.cells.length c4, .slice A5 s.vars.length c5, .slice A6 s.out.length c6, .slice A7 s.inp.length c7, .int .i64 s.fault, .int .i64 s.fuel], 32), (#[.slice none 0 0, .slice none 0 0, .int .i32 0, .slice none 0 0, .slice none 0 0, .slice none 0 0, .slice none 0 0, .slice none 0 0, .int .i64 0, .int .i64 0], 32)]) := Lib.hid (hW1 ▸ (Bx.two w #[.slice (some ad) s.data.length c0, .slice A1 s.ret.length c1, .int .i32 s.a, .slice A3 s.mem.length c3, .slice A4 s.cells.length c4, .slice A5 s.vars.length c5, .slice A6 s.out.length c6, .slice A7 s.inp.length c7, .int .i64 s.fault, .int .i64 s.fuel] #[.slice none 0 0, .slice none 0 0, .int .i32 0, .slice none 0 0, .slice none 0 0, .slice none 0 0, .slice none 0 0, .slice none 0 0, .int .i64 0, .int .i64 0] 32 32))
  have b0 := blk_cell HK1.out.1
  have y0 := blk_lt HK1.out.1
  have b1 := blk_cell HK1.out.2.1
  have g1 := blk_frozen HK1.out.2.1
  have y1 := blk_lt HK1.out.2.1
  have hlo1 : w.heap.size + 2 ≤ w1.heap.size := by omega
  have HSB := Lib.hid (show s.small 140737488355328 from by unfold LSt.small at *; omega)
  have HOK := Lib.hid hok
  clear hok
  have ef : (s.fault != 0) = false := by simpa using hf
  have HNN := Lib.hid hN
  clear hf hN
  have HTK := Lib.hid hT
  clear hT
  have h1 : ¬ ((s.data.length : Int) < 1) := by omega
  have HUU := Lib.hid hU
  have HOO := Lib.hid hO
  clear hU hO
  have ej : (s.data.length : Int) - 1 = (j : Int) := by omega
  have hjn : j < s.data.length := by omega
  have hj64 : j ≤ 1048576 := by have := hs.1; omega
  have HJJ := Lib.hid hj
  clear hyv
  have hdl : s.data.length ≤ 1048576 := hs.1
  have HT : Hid (1 ≤ s.data.length) := Lib.hid (by omega)
  subst hx
  clear hj
  clear hv hz
  go_enter Tryd.func7, Tryd.ntmps7
  go_wp2_with fail
  refine (specStOk_calls s _ w1 (HV.out.keepB HB1.out) HSB.out).mono ?_
  rintro e w2 ⟨rfl, hb⟩
  rw [HOK.out]
  have HB2 := Lib.hid (bl_call HB1.out hb)
  have HK2 := Lib.hid (HK1.out.call hb)
  have hlo2 : w.heap.size + 2 ≤ w2.heap.size := Nat.le_trans hlo1 hb.size
  clear hb b0 y0 b1 g1 y1
  have b0 := blk_cell HK2.out.1
  have y0 := blk_lt HK2.out.1
  have b1 := blk_cell HK2.out.2.1
  have g1 := blk_frozen HK2.out.2.1
  have y1 := blk_lt HK2.out.2.1
  go_wp2_with fail
  refine (HNN.out w2).mono ?_
  rintro e w3 ⟨rfl, hb⟩
  have HB3 := Lib.hid (bl_call HB2.out hb)
  have HK3 := Lib.hid (HK2.out.call hb)
  have hlo3 : w.heap.size + 2 ≤ w3.heap.size := Nat.le_trans hlo2 hb.size
  clear hb b0 y0 b1 g1 y1
  have b0 := blk_cell HK3.out.1
  have y0 := blk_lt HK3.out.1
  have b1 := blk_cell HK3.out.2.1
  have g1 := blk_frozen HK3.out.2.1
  have y1 := blk_lt HK3.out.2.1
  go_wp2_with fail
  have q0 := fun d os => blk_cell ((HK3.out.call (below_regrown w3 d os)).1)
  have TT0 : ∀ d os, Calls Tryd.prog 30 #[.string nm] (grow (redrawn w3 d) os) fun e w'' => e = .returned (.int .i64 1) ∧ ∃ p : Regrown, w'' = grow (redrawn w3 p.d) p.os := fun d os => (HTK.out _).mono (fun e w' ⟨h1, h2⟩ => ⟨h1, ⟨⟨d, os⟩, h2.symm⟩⟩)
  have TT := Lib.hid TT0
  clear TT0
  refine wp_region_quiet_below (by kernel_rfl) (by kernel_rfl) ?_
  repeat (quiet_step (first | (with_reducible exact TT.out _ _)))
  refine wpQuiet_nil ?_
  intro w4 hw'
  obtain ⟨⟨dq, osq⟩, hw''⟩ := hw'
  have hb : Below w3.heap.size w3 w4 := by rw [hw'']; exact below_regrown w3 dq osq
  clear hw'' q0 TT
  have HB4 := Lib.hid (bl_call HB3.out hb)
  have HK4 := Lib.hid (HK3.out.call hb)
  have hlo4 : w.heap.size + 2 ≤ w4.heap.size := Nat.le_trans hlo3 hb.size
  clear hb b0 y0 b1 g1 y1
  have b0 := blk_cell HK4.out.1
  have y0 := blk_lt HK4.out.1
  have b1 := blk_cell HK4.out.2.1
  have g1 := blk_frozen HK4.out.2.1
  have y1 := blk_lt HK4.out.2.1
  have cy0 := (HRR.out.keepB HB4.out).some_ j _ HYJ.out
  go_wp2_with fail
  refine (HUU.out w4).mono ?_
  rintro e w5 ⟨rfl, rfl⟩
  go_wp2_with fail
  refine (HOO.out w4 _ (HV.out.keepB HB4.out)).mono ?_
  rintro e w9 ⟨v9, rfl, hO, hb⟩
  obtain ⟨F0, f0, F1, f1, F3, f3, F4, f4, F5, f5, F6, f6, F7, f7, rfl⟩ := hO.k.form
  have HO := Lib.hid hO
  have HB9 := Lib.hid (bl_call HB4.out hb)
  have HK9 := Lib.hid ((HK4.out).call hb)
  have hl9 : w.heap.size + 2 ≤ w4.heap.size := (by first | omega | (simp; omega))
  have hw9 := hb.size
  clear hO hb b0 y0 b1 g1 y1
  have b0 := blk_cell HK9.out.1
  have y0 := blk_lt HK9.out.1
  have b1 := blk_cell HK9.out.2.1
  have g1 := blk_frozen HK9.out.2.1
  have y1 := blk_lt HK9.out.2.1
  go_wp2_with fail
  refine bodyPost_ret (v := .agg #[.slice F0 z.data.length f0, .slice F1 z.ret.length f1, .int .i32 z.a, .slice F3 z.mem.length f3, .slice F4 z.cells.length f4, .slice F5 z.vars.length f5, .slice F6 z.out.length f6, .slice F7 z.inp.length f7, .int .i64 z.fault, .int .i64 z.fuel]) (by simp [results, Tryd.results7, go_sem, b1, y1]) rfl ⟨_, rfl, ?_, ?_⟩
  · have h0 := HO.out.low (lo' := w.heap.size + 2) hl9
    have h1 : w.heap.size + 1 < w.heap.size + 2 := by omega
    have hz9 : ∀ (W : World) (u : Value), StV W (w.heap.size + 2) w9.heap.size z u → w9.heap.size = W.heap.size → StV W w.heap.size W.heap.size z u := fun W u h e => (h.low (by omega)).top (by omega) (Nat.le_refl _)
    refine hz9 _ _ ?_ (by simp)
    with_reducible repeat (first | exact h0 | refine StV.far ?_ h1 _)
  · have h0 := HB9.out
    with_reducible repeat (first | exact h0 | apply bl_set1)
set_option maxRecDepth 100000 in
set_option maxHeartbeats 4000000 in
theorem do_pure2 (s z : LSt) (v : Value) (w : World) (hv : StK w s v) (hs : s.small 1048576) (k : Int) (hok : stOk s = true) (hf : s.fault = 0) (nm : ByteArray) (hN : ∀ W, Calls Tryd.prog 28 #[.int .i64 k] W fun e w' => e = .returned (.string nm) ∧ Below W.heap.size W w') (hnm : nm.toList.isEmpty = false)  (hT : ∀ W, Calls Tryd.prog 30 #[.string nm] W fun e w' => e = .returned (.int .i64 2) ∧ W = w') (x y : Int) (j i : Nat) (hj : s.data.length = j + 1) (hi : s.data.length = i + 2) (hyv : s.data[j]? = some y) (hxv : s.data[i]? = some x) (xs : List Int) (hxl : xs.length ≤ 3) (hU : ∀ W, Calls Tryd.prog 31 #[.string nm, .int .i32 x, .int .i32 y] W fun e w' => ∃ A c, e = .returned (.tuple #[.slice A xs.length c, .bool true]) ∧ Rd w' A (xs.map (Value.int .i32)) ∧ Below W.heap.size W w') (hz : z = putSt s 2 xs) :
    Calls Tryd.prog 7 #[v, .int .i64 k] w fun e w' => OtherE w z e w' := by
  have hv' := hv
  obtain ⟨A0, c0, A1, c1, A3, c3, A4, c4, A5, c5, A6, c6, A7, c7, rfl, R0, -⟩ := hv
  have hyj : s.data[j]? = some y := hyv
  obtain ⟨ad, rfl, -⟩ := R0.at_ (j := j) (u := .int .i32 y) (by simp [hyj])
  have HRR := Lib.hid R0
  have HYJ : Hid ((s.data.map (Value.int .i32))[j]? = some (.int .i32 y)) := Lib.hid (by simp [hyj])
  have hv := hv'
  clear hv' R0 hyj
  have HV := Lib.hid hv
  have HS := Lib.hid hs
  have HZ := Lib.hid hz
  obtain ⟨w1, hW1⟩ : ∃ W, (w.alloc (.cells #[.slice (some ad) s.data.length c0, .slice A1 s.ret.length c1, .int .i32 s.a, .slice A3 s.mem.length c3, .slice A4 s.cells.length c4, .slice A5 s.vars.length c5, .slice A6 s.out.length c6, .slice A7 s.inp.length c7, .int .i64 s.fault, .int .i64 s.fuel] 32)).alloc (.cells #[.slice none 0 0, .slice none 0 0, .int .i32 0, .slice none 0 0, .slice none 0 0, .slice none 0 0, .slice none 0 0, .slice none 0 0, .int .i64 0, .int .i64 0] 32) = W := ⟨_, rfl⟩
  have HB1 : Hid (Below w.heap.size w w1) := Lib.hid (hW1 ▸ bl_alloc (bl_alloc (Below.refl _ _) _) _)
  have HK1 : Hid (Bx w1 w.heap.size [(#[.slice (some ad) s.data.length c0, .slice A1 s.ret.length c1, .int .i32 s.a, .slice A3 s.mem.length c3, .slice A4 s.cells.length c4, .slice A5 s.vars.length c5, .slice A6 s.out.length c6, .slice A7 s.inp.length c7, .int .i64 s.fault, .int .i64 s.fuel], 32), (#[.slice none 0 0, .slice none 0 0, .int .i32 0, .slice none 0 0, .slice none 0 0, .slice none 0 0, .slice none 0 0, .slice none 0 0, .int .i64 0, .int .i64 0], 32)]) := Lib.hid (hW1 ▸ (Bx.two w #[.slice (some ad) s.data.length c0, .slice A1 s.ret.length c1, .int .i32 s.a, .slice A3 s.mem.length c3, .slice A4 s.cells.length c4, .slice A5 s.vars.length c5, .slice A6 s.out.length c6, .slice A7 s.inp.length c7, .int .i64 s.fault, .int .i64 s.fuel] #[.slice none 0 0, .slice none 0 0, .int .i32 0, .slice none 0 0, .slice none 0 0, .slice none 0 0, .slice none 0 0, .slice none 0 0, .int .i64 0, .int .i64 0] 32 32))
  have b0 := blk_cell HK1.out.1
  have y0 := blk_lt HK1.out.1
  have b1 := blk_cell HK1.out.2.1
  have g1 := blk_frozen HK1.out.2.1
  have y1 := blk_lt HK1.out.2.1
  have hlo1 : w.heap.size + 2 ≤ w1.heap.size := by omega
  have HSB := Lib.hid (show s.small 140737488355328 from by unfold LSt.small at *; omega)
  have HOK := Lib.hid hok
  clear hok
  have ef : (s.fault != 0) = false := by simpa using hf
  have HNN := Lib.hid hN
  clear hf hN
  have HTK := Lib.hid hT
  clear hT
  have h1 : ¬ ((s.data.length : Int) < 2) := by omega
  have HUU := Lib.hid hU
  clear hU
  have ej : (s.data.length : Int) - 1 = (j : Int) := by omega
  have hjn : j < s.data.length := by omega
  have hj64 : j ≤ 1048576 := by have := hs.1; omega
  have HJJ := Lib.hid hj
  clear hyv
  have ei : (s.data.length : Int) - 2 = (i : Int) := by omega
  have hin : i < s.data.length := by omega
  have hi64 : i ≤ 1048576 := by have := hs.1; omega
  have HXI : Hid ((s.data.map (Value.int .i32))[i]? = some (.int .i32 x)) := Lib.hid (by simp [hxv])
  have HII := Lib.hid hi
  clear hxv hi
  have hdl : s.data.length ≤ 1048576 := hs.1
  have HT : Hid (2 ≤ s.data.length) := Lib.hid (by omega)
  clear hj
  clear hv hz
  go_enter Tryd.func7, Tryd.ntmps7
  go_wp2_with fail
  refine (specStOk_calls s _ w1 (HV.out.keepB HB1.out) HSB.out).mono ?_
  rintro e w2 ⟨rfl, hb⟩
  rw [HOK.out]
  have HB2 := Lib.hid (bl_call HB1.out hb)
  have HK2 := Lib.hid (HK1.out.call hb)
  have hlo2 : w.heap.size + 2 ≤ w2.heap.size := Nat.le_trans hlo1 hb.size
  clear hb b0 y0 b1 g1 y1
  have b0 := blk_cell HK2.out.1
  have y0 := blk_lt HK2.out.1
  have b1 := blk_cell HK2.out.2.1
  have g1 := blk_frozen HK2.out.2.1
  have y1 := blk_lt HK2.out.2.1
  go_wp2_with fail
  refine (HNN.out w2).mono ?_
  rintro e w3 ⟨rfl, hb⟩
  have HB3 := Lib.hid (bl_call HB2.out hb)
  have HK3 := Lib.hid (HK2.out.call hb)
  have hlo3 : w.heap.size + 2 ≤ w3.heap.size := Nat.le_trans hlo2 hb.size
  clear hb b0 y0 b1 g1 y1
  have b0 := blk_cell HK3.out.1
  have y0 := blk_lt HK3.out.1
  have b1 := blk_cell HK3.out.2.1
  have g1 := blk_frozen HK3.out.2.1
  have y1 := blk_lt HK3.out.2.1
  go_wp2_with fail
  have q0 := fun d os => blk_cell ((HK3.out.call (below_regrown w3 d os)).1)
  have TT0 : ∀ d os, Calls Tryd.prog 30 #[.string nm] (grow (redrawn w3 d) os) fun e w'' => e = .returned (.int .i64 2) ∧ ∃ p : Regrown, w'' = grow (redrawn w3 p.d) p.os := fun d os => (HTK.out _).mono (fun e w' ⟨h1, h2⟩ => ⟨h1, ⟨⟨d, os⟩, h2.symm⟩⟩)
  have TT := Lib.hid TT0
  clear TT0
  refine wp_region_quiet_below (by kernel_rfl) (by kernel_rfl) ?_
  repeat (quiet_step (first | (with_reducible exact TT.out _ _)))
  refine wpQuiet_nil ?_
  intro w4 hw'
  obtain ⟨⟨dq, osq⟩, hw''⟩ := hw'
  have hb : Below w3.heap.size w3 w4 := by rw [hw'']; exact below_regrown w3 dq osq
  clear hw'' q0 TT
  have HB4 := Lib.hid (bl_call HB3.out hb)
  have HK4 := Lib.hid (HK3.out.call hb)
  have hlo4 : w.heap.size + 2 ≤ w4.heap.size := Nat.le_trans hlo3 hb.size
  clear hb b0 y0 b1 g1 y1
  have b0 := blk_cell HK4.out.1
  have y0 := blk_lt HK4.out.1
  have b1 := blk_cell HK4.out.2.1
  have g1 := blk_frozen HK4.out.2.1
  have y1 := blk_lt HK4.out.2.1
  have cy0 := (HRR.out.keepB HB4.out).some_ j _ HYJ.out
  have cx0 := (HRR.out.keepB HB4.out).some_ i _ HXI.out
  go_wp2_with fail
  refine (HUU.out w4).mono ?_
  rintro e w5 ⟨A, c, rfl, hR, hb⟩
  have HRL := Lib.hid hR
  clear hR
  have HB5 := Lib.hid (bl_call HB4.out hb)
  have HK5 := Lib.hid (HK4.out.call hb)
  have hlo5 : w.heap.size + 2 ≤ w5.heap.size := Nat.le_trans hlo4 hb.size
  clear hb b0 y0 b1 g1 y1
  have b0 := blk_cell HK5.out.1
  have y0 := blk_lt HK5.out.1
  have b1 := blk_cell HK5.out.2.1
  have g1 := blk_frozen HK5.out.2.1
  have y1 := blk_lt HK5.out.2.1
  go_wp2_with fail
  refine (l08Put_at s _ 2 xs.length 2 A c xs w5 (HV.out.keepB HB5.out) HS.out HT.out rfl rfl HRL.out (by omega)).mono ?_
  rintro e w9 ⟨v9, rfl, hO, hb⟩
  rw [← HZ.out] at hO
  replace hO := hO.v
  obtain ⟨F0, f0, F1, f1, F3, f3, F4, f4, F5, f5, F6, f6, F7, f7, rfl⟩ := hO.k.form
  have HO := Lib.hid hO
  have HB9 := Lib.hid (bl_call HB5.out hb)
  have HK9 := Lib.hid ((HK5.out).call hb)
  have hl9 : w.heap.size + 2 ≤ w5.heap.size := (by first | omega | (simp; omega))
  have hw9 := hb.size
  clear hO hb b0 y0 b1 g1 y1
  have b0 := blk_cell HK9.out.1
  have y0 := blk_lt HK9.out.1
  have b1 := blk_cell HK9.out.2.1
  have g1 := blk_frozen HK9.out.2.1
  have y1 := blk_lt HK9.out.2.1
  go_wp2_with fail
  refine bodyPost_ret (v := .agg #[.slice F0 z.data.length f0, .slice F1 z.ret.length f1, .int .i32 z.a, .slice F3 z.mem.length f3, .slice F4 z.cells.length f4, .slice F5 z.vars.length f5, .slice F6 z.out.length f6, .slice F7 z.inp.length f7, .int .i64 z.fault, .int .i64 z.fuel]) (by simp [results, Tryd.results7, go_sem, b1, y1]) rfl ⟨_, rfl, ?_, ?_⟩
  · have h0 := HO.out.low (lo' := w.heap.size + 2) hl9
    have h1 : w.heap.size + 1 < w.heap.size + 2 := by omega
    have hz9 : ∀ (W : World) (u : Value), StV W (w.heap.size + 2) w9.heap.size z u → w9.heap.size = W.heap.size → StV W w.heap.size W.heap.size z u := fun W u h e => (h.low (by omega)).top (by omega) (Nat.le_refl _)
    refine hz9 _ _ ?_ (by simp)
    with_reducible repeat (first | exact h0 | refine StV.far ?_ h1 _)
  · have h0 := HB9.out
    with_reducible repeat (first | exact h0 | apply bl_set1)
set_option maxRecDepth 100000 in
set_option maxHeartbeats 4000000 in
theorem do_other2 (s z : LSt) (v : Value) (w : World) (hv : StK w s v) (hs : s.small 1048576) (k : Int) (hok : stOk s = true) (hf : s.fault = 0) (nm : ByteArray) (hN : ∀ W, Calls Tryd.prog 28 #[.int .i64 k] W fun e w' => e = .returned (.string nm) ∧ Below W.heap.size W w') (hnm : nm.toList.isEmpty = false)  (hT : ∀ W, Calls Tryd.prog 30 #[.string nm] W fun e w' => e = .returned (.int .i64 2) ∧ W = w') (x y : Int) (j i : Nat) (hj : s.data.length = j + 1) (hi : s.data.length = i + 2) (hyv : s.data[j]? = some y) (hxv : s.data[i]? = some x) (hU : ∀ W, Calls Tryd.prog 31 #[.string nm, .int .i32 x, .int .i32 y] W fun e w' => e = .returned (.tuple #[.slice none 0 0, .bool false]) ∧ W = w') (hO : ∀ W u, StK W s u → Calls Tryd.prog 33 #[u, .string nm, .int .i32 x, .int .i32 y] W fun e w' => OtherE W z e w') (hz : True) :
    Calls Tryd.prog 7 #[v, .int .i64 k] w fun e w' => OtherE w z e w' := by
  have hv' := hv
  obtain ⟨A0, c0, A1, c1, A3, c3, A4, c4, A5, c5, A6, c6, A7, c7, rfl, R0, -⟩ := hv
  have hyj : s.data[j]? = some y := hyv
  obtain ⟨ad, rfl, -⟩ := R0.at_ (j := j) (u := .int .i32 y) (by simp [hyj])
  have HRR := Lib.hid R0
  have HYJ : Hid ((s.data.map (Value.int .i32))[j]? = some (.int .i32 y)) := Lib.hid (by simp [hyj])
  have hv := hv'
  clear hv' R0 hyj
  have HV := Lib.hid hv
  have HS := Lib.hid hs
  have HZ := Lib.hid hz
  obtain ⟨w1, hW1⟩ : ∃ W, (w.alloc (.cells #[.slice (some ad) s.data.length c0, .slice A1 s.ret.length c1, .int .i32 s.a, .slice A3 s.mem.length c3, .slice A4 s.cells.length c4, .slice A5 s.vars.length c5, .slice A6 s.out.length c6, .slice A7 s.inp.length c7, .int .i64 s.fault, .int .i64 s.fuel] 32)).alloc (.cells #[.slice none 0 0, .slice none 0 0, .int .i32 0, .slice none 0 0, .slice none 0 0, .slice none 0 0, .slice none 0 0, .slice none 0 0, .int .i64 0, .int .i64 0] 32) = W := ⟨_, rfl⟩
  have HB1 : Hid (Below w.heap.size w w1) := Lib.hid (hW1 ▸ bl_alloc (bl_alloc (Below.refl _ _) _) _)
  have HK1 : Hid (Bx w1 w.heap.size [(#[.slice (some ad) s.data.length c0, .slice A1 s.ret.length c1, .int .i32 s.a, .slice A3 s.mem.length c3, .slice A4 s.cells.length c4, .slice A5 s.vars.length c5, .slice A6 s.out.length c6, .slice A7 s.inp.length c7, .int .i64 s.fault, .int .i64 s.fuel], 32), (#[.slice none 0 0, .slice none 0 0, .int .i32 0, .slice none 0 0, .slice none 0 0, .slice none 0 0, .slice none 0 0, .slice none 0 0, .int .i64 0, .int .i64 0], 32)]) := Lib.hid (hW1 ▸ (Bx.two w #[.slice (some ad) s.data.length c0, .slice A1 s.ret.length c1, .int .i32 s.a, .slice A3 s.mem.length c3, .slice A4 s.cells.length c4, .slice A5 s.vars.length c5, .slice A6 s.out.length c6, .slice A7 s.inp.length c7, .int .i64 s.fault, .int .i64 s.fuel] #[.slice none 0 0, .slice none 0 0, .int .i32 0, .slice none 0 0, .slice none 0 0, .slice none 0 0, .slice none 0 0, .slice none 0 0, .int .i64 0, .int .i64 0] 32 32))
  have b0 := blk_cell HK1.out.1
  have y0 := blk_lt HK1.out.1
  have b1 := blk_cell HK1.out.2.1
  have g1 := blk_frozen HK1.out.2.1
  have y1 := blk_lt HK1.out.2.1
  have hlo1 : w.heap.size + 2 ≤ w1.heap.size := by omega
  have HSB := Lib.hid (show s.small 140737488355328 from by unfold LSt.small at *; omega)
  have HOK := Lib.hid hok
  clear hok
  have ef : (s.fault != 0) = false := by simpa using hf
  have HNN := Lib.hid hN
  clear hf hN
  have HTK := Lib.hid hT
  clear hT
  have h1 : ¬ ((s.data.length : Int) < 2) := by omega
  have HUU := Lib.hid hU
  have HOO := Lib.hid hO
  clear hU hO
  have ej : (s.data.length : Int) - 1 = (j : Int) := by omega
  have hjn : j < s.data.length := by omega
  have hj64 : j ≤ 1048576 := by have := hs.1; omega
  have HJJ := Lib.hid hj
  clear hyv
  have ei : (s.data.length : Int) - 2 = (i : Int) := by omega
  have hin : i < s.data.length := by omega
  have hi64 : i ≤ 1048576 := by have := hs.1; omega
  have HXI : Hid ((s.data.map (Value.int .i32))[i]? = some (.int .i32 x)) := Lib.hid (by simp [hxv])
  have HII := Lib.hid hi
  clear hxv hi
  have hdl : s.data.length ≤ 1048576 := hs.1
  have HT : Hid (2 ≤ s.data.length) := Lib.hid (by omega)
  clear hj
  clear hv hz
  go_enter Tryd.func7, Tryd.ntmps7
  go_wp2_with fail
  refine (specStOk_calls s _ w1 (HV.out.keepB HB1.out) HSB.out).mono ?_
  rintro e w2 ⟨rfl, hb⟩
  rw [HOK.out]
  have HB2 := Lib.hid (bl_call HB1.out hb)
  have HK2 := Lib.hid (HK1.out.call hb)
  have hlo2 : w.heap.size + 2 ≤ w2.heap.size := Nat.le_trans hlo1 hb.size
  clear hb b0 y0 b1 g1 y1
  have b0 := blk_cell HK2.out.1
  have y0 := blk_lt HK2.out.1
  have b1 := blk_cell HK2.out.2.1
  have g1 := blk_frozen HK2.out.2.1
  have y1 := blk_lt HK2.out.2.1
  go_wp2_with fail
  refine (HNN.out w2).mono ?_
  rintro e w3 ⟨rfl, hb⟩
  have HB3 := Lib.hid (bl_call HB2.out hb)
  have HK3 := Lib.hid (HK2.out.call hb)
  have hlo3 : w.heap.size + 2 ≤ w3.heap.size := Nat.le_trans hlo2 hb.size
  clear hb b0 y0 b1 g1 y1
  have b0 := blk_cell HK3.out.1
  have y0 := blk_lt HK3.out.1
  have b1 := blk_cell HK3.out.2.1
  have g1 := blk_frozen HK3.out.2.1
  have y1 := blk_lt HK3.out.2.1
  go_wp2_with fail
  have q0 := fun d os => blk_cell ((HK3.out.call (below_regrown w3 d os)).1)
  have TT0 : ∀ d os, Calls Tryd.prog 30 #[.string nm] (grow (redrawn w3 d) os) fun e w'' => e = .returned (.int .i64 2) ∧ ∃ p : Regrown, w'' = grow (redrawn w3 p.d) p.os := fun d os => (HTK.out _).mono (fun e w' ⟨h1, h2⟩ => ⟨h1, ⟨⟨d, os⟩, h2.symm⟩⟩)
  have TT := Lib.hid TT0
  clear TT0
  refine wp_region_quiet_below (by kernel_rfl) (by kernel_rfl) ?_
  repeat (quiet_step (first | (with_reducible exact TT.out _ _)))
  refine wpQuiet_nil ?_
  intro w4 hw'
  obtain ⟨⟨dq, osq⟩, hw''⟩ := hw'
  have hb : Below w3.heap.size w3 w4 := by rw [hw'']; exact below_regrown w3 dq osq
  clear hw'' q0 TT
  have HB4 := Lib.hid (bl_call HB3.out hb)
  have HK4 := Lib.hid (HK3.out.call hb)
  have hlo4 : w.heap.size + 2 ≤ w4.heap.size := Nat.le_trans hlo3 hb.size
  clear hb b0 y0 b1 g1 y1
  have b0 := blk_cell HK4.out.1
  have y0 := blk_lt HK4.out.1
  have b1 := blk_cell HK4.out.2.1
  have g1 := blk_frozen HK4.out.2.1
  have y1 := blk_lt HK4.out.2.1
  have cy0 := (HRR.out.keepB HB4.out).some_ j _ HYJ.out
  have cx0 := (HRR.out.keepB HB4.out).some_ i _ HXI.out
  go_wp2_with fail
  refine (HUU.out w4).mono ?_
  rintro e w5 ⟨rfl, rfl⟩
  go_wp2_with fail
  refine (HOO.out w4 _ (HV.out.keepB HB4.out)).mono ?_
  rintro e w9 ⟨v9, rfl, hO, hb⟩
  obtain ⟨F0, f0, F1, f1, F3, f3, F4, f4, F5, f5, F6, f6, F7, f7, rfl⟩ := hO.k.form
  have HO := Lib.hid hO
  have HB9 := Lib.hid (bl_call HB4.out hb)
  have HK9 := Lib.hid ((HK4.out).call hb)
  have hl9 : w.heap.size + 2 ≤ w4.heap.size := (by first | omega | (simp; omega))
  have hw9 := hb.size
  clear hO hb b0 y0 b1 g1 y1
  have b0 := blk_cell HK9.out.1
  have y0 := blk_lt HK9.out.1
  have b1 := blk_cell HK9.out.2.1
  have g1 := blk_frozen HK9.out.2.1
  have y1 := blk_lt HK9.out.2.1
  go_wp2_with fail
  refine bodyPost_ret (v := .agg #[.slice F0 z.data.length f0, .slice F1 z.ret.length f1, .int .i32 z.a, .slice F3 z.mem.length f3, .slice F4 z.cells.length f4, .slice F5 z.vars.length f5, .slice F6 z.out.length f6, .slice F7 z.inp.length f7, .int .i64 z.fault, .int .i64 z.fuel]) (by simp [results, Tryd.results7, go_sem, b1, y1]) rfl ⟨_, rfl, ?_, ?_⟩
  · have h0 := HO.out.low (lo' := w.heap.size + 2) hl9
    have h1 : w.heap.size + 1 < w.heap.size + 2 := by omega
    have hz9 : ∀ (W : World) (u : Value), StV W (w.heap.size + 2) w9.heap.size z u → w9.heap.size = W.heap.size → StV W w.heap.size W.heap.size z u := fun W u h e => (h.low (by omega)).top (by omega) (Nat.le_refl _)
    refine hz9 _ _ ?_ (by simp)
    with_reducible repeat (first | exact h0 | refine StV.far ?_ h1 _)
  · have h0 := HB9.out
    with_reducible repeat (first | exact h0 | apply bl_set1)
end Go.Proofs.YtgljbcdlldhlfaaDoor

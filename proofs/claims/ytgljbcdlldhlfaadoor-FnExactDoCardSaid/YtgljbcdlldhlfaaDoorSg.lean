/- The reference's built-in words: contracts of l08Other. -/
import Derived.Test.YtgljbcdlldhlfaaDoorSe
import Derived.Lib.ConvBytes
set_option linter.unusedVariables false
set_option linter.unusedSimpArgs false
namespace Go.Proofs.YtgljbcdlldhlfaaDoor
open Go.RowKit

set_option maxRecDepth 100000 in
set_option maxHeartbeats 4000000 in
theorem other_12 (s z : LSt) (v : Value) (w : World) (hv : StK w s v) (hs : s.small 1048576) (x y : Int) (hC : ∀ W u, StK W s u → Calls Tryd.prog 70 #[u, .int .i32 x, .int .i32 y] W fun e w' => OtherE W z e w') (hz : True) :
    Calls Tryd.prog 33 #[v, .string ⟨#[47, 109, 111, 100]⟩, .int .i32 x, .int .i32 y] w fun e w' => OtherE w z e w' := by
  obtain ⟨A0, c0, A1, c1, A3, c3, A4, c4, A5, c5, A6, c6, A7, c7, rfl⟩ := hv.form
  have HV := Lib.hid hv
  have HS := Lib.hid hs
  have HZ := Lib.hid hz
  obtain ⟨w1, hW1⟩ : ∃ W, (w.alloc (.cells #[.slice A0 s.data.length c0, .slice A1 s.ret.length c1, .int .i32 s.a, .slice A3 s.mem.length c3, .slice A4 s.cells.length c4, .slice A5 s.vars.length c5, .slice A6 s.out.length c6, .slice A7 s.inp.length c7, .int .i64 s.fault, .int .i64 s.fuel] 32)).alloc (.cells #[.slice none 0 0, .slice none 0 0, .int .i32 0, .slice none 0 0, .slice none 0 0, .slice none 0 0, .slice none 0 0, .slice none 0 0, .int .i64 0, .int .i64 0] 32) = W := ⟨_, rfl⟩
  have HB1 : Hid (Below w.heap.size w w1) := Lib.hid (hW1 ▸ bl_alloc (bl_alloc (Below.refl _ _) _) _)
  have HK1 : Hid (Bx w1 w.heap.size [(#[.slice A0 s.data.length c0, .slice A1 s.ret.length c1, .int .i32 s.a, .slice A3 s.mem.length c3, .slice A4 s.cells.length c4, .slice A5 s.vars.length c5, .slice A6 s.out.length c6, .slice A7 s.inp.length c7, .int .i64 s.fault, .int .i64 s.fuel], 32), (#[.slice none 0 0, .slice none 0 0, .int .i32 0, .slice none 0 0, .slice none 0 0, .slice none 0 0, .slice none 0 0, .slice none 0 0, .int .i64 0, .int .i64 0], 32)]) := Lib.hid (hW1 ▸ (Bx.two w #[.slice A0 s.data.length c0, .slice A1 s.ret.length c1, .int .i32 s.a, .slice A3 s.mem.length c3, .slice A4 s.cells.length c4, .slice A5 s.vars.length c5, .slice A6 s.out.length c6, .slice A7 s.inp.length c7, .int .i64 s.fault, .int .i64 s.fuel] #[.slice none 0 0, .slice none 0 0, .int .i32 0, .slice none 0 0, .slice none 0 0, .slice none 0 0, .slice none 0 0, .slice none 0 0, .int .i64 0, .int .i64 0] 32 32))
  have b0 := blk_cell HK1.out.1
  have y0 := blk_lt HK1.out.1
  have b1 := blk_cell HK1.out.2.1
  have g1 := blk_frozen HK1.out.2.1
  have y1 := blk_lt HK1.out.2.1
  have hlo1 : w.heap.size + 2 ≤ w1.heap.size := by omega
  have HCC := Lib.hid hC
  clear hC
  clear hv hz
  go_enter Tryd.func33, Tryd.ntmps33
  go_wp2_with fail
  refine (HCC.out w1 _ (HV.out.keepB HB1.out)).mono ?_
  rintro e w9 ⟨v9, rfl, hO, hb⟩
  obtain ⟨F0, f0, F1, f1, F3, f3, F4, f4, F5, f5, F6, f6, F7, f7, rfl⟩ := hO.k.form
  have HO := Lib.hid hO
  have HB9 := Lib.hid (bl_call HB1.out hb)
  have HK9 := Lib.hid ((HK1.out).call hb)
  have hl9 : w.heap.size + 2 ≤ w1.heap.size := (by first | omega | (simp; omega))
  have hw9 := hb.size
  clear hO hb b0 y0 b1 g1 y1
  have b0 := blk_cell HK9.out.1
  have y0 := blk_lt HK9.out.1
  have b1 := blk_cell HK9.out.2.1
  have g1 := blk_frozen HK9.out.2.1
  have y1 := blk_lt HK9.out.2.1
  go_wp2_with fail
  refine bodyPost_ret (v := .agg #[.slice F0 z.data.length f0, .slice F1 z.ret.length f1, .int .i32 z.a, .slice F3 z.mem.length f3, .slice F4 z.cells.length f4, .slice F5 z.vars.length f5, .slice F6 z.out.length f6, .slice F7 z.inp.length f7, .int .i64 z.fault, .int .i64 z.fuel]) (by simp [results, Tryd.results33, go_sem, b1, y1]) rfl ⟨_, rfl, ?_, ?_⟩
  · have h0 := HO.out.low (lo' := w.heap.size + 2) hl9
    have h1 : w.heap.size + 1 < w.heap.size + 2 := by omega
    have hz9 : ∀ (W : World) (u : Value), StV W (w.heap.size + 2) w9.heap.size z u → w9.heap.size = W.heap.size → StV W w.heap.size W.heap.size z u := fun W u h e => (h.low (by omega)).top (by omega) (Nat.le_refl _)
    refine hz9 _ _ ?_ (by simp)
    with_reducible repeat (first | exact h0 | refine StV.far ?_ h1 _)
  · have h0 := HB9.out
    with_reducible repeat (first | exact h0 | apply bl_set1)
set_option maxRecDepth 100000 in
set_option maxHeartbeats 4000000 in
theorem other_13 (s z : LSt) (v : Value) (w : World) (hv : StK w s v) (hs : s.small 1048576) (x y : Int) (hC : ∀ W u, StK W s u → Calls Tryd.prog 71 #[u, .int .i32 y] W fun e w' => OtherE W z e w') (hz : True) :
    Calls Tryd.prog 33 #[v, .string ⟨#[64]⟩, .int .i32 x, .int .i32 y] w fun e w' => OtherE w z e w' := by
  obtain ⟨A0, c0, A1, c1, A3, c3, A4, c4, A5, c5, A6, c6, A7, c7, rfl⟩ := hv.form
  have HV := Lib.hid hv
  have HS := Lib.hid hs
  have HZ := Lib.hid hz
  obtain ⟨w1, hW1⟩ : ∃ W, (w.alloc (.cells #[.slice A0 s.data.length c0, .slice A1 s.ret.length c1, .int .i32 s.a, .slice A3 s.mem.length c3, .slice A4 s.cells.length c4, .slice A5 s.vars.length c5, .slice A6 s.out.length c6, .slice A7 s.inp.length c7, .int .i64 s.fault, .int .i64 s.fuel] 32)).alloc (.cells #[.slice none 0 0, .slice none 0 0, .int .i32 0, .slice none 0 0, .slice none 0 0, .slice none 0 0, .slice none 0 0, .slice none 0 0, .int .i64 0, .int .i64 0] 32) = W := ⟨_, rfl⟩
  have HB1 : Hid (Below w.heap.size w w1) := Lib.hid (hW1 ▸ bl_alloc (bl_alloc (Below.refl _ _) _) _)
  have HK1 : Hid (Bx w1 w.heap.size [(#[.slice A0 s.data.length c0, .slice A1 s.ret.length c1, .int .i32 s.a, .slice A3 s.mem.length c3, .slice A4 s.cells.length c4, .slice A5 s.vars.length c5, .slice A6 s.out.length c6, .slice A7 s.inp.length c7, .int .i64 s.fault, .int .i64 s.fuel], 32), (#[.slice none 0 0, .slice none 0 0, .int .i32 0, .slice none 0 0, .slice none 0 0, .slice none 0 0, .slice none 0 0, .slice none 0 0, .int .i64 0, .int .i64 0], 32)]) := Lib.hid (hW1 ▸ (Bx.two w #[.slice A0 s.data.length c0, .slice A1 s.ret.length c1, .int .i32 s.a, .slice A3 s.mem.length c3, .slice A4 s.cells.length c4, .slice A5 s.vars.length c5, .slice A6 s.out.length c6, .slice A7 s.inp.length c7, .int .i64 s.fault, .int .i64 s.fuel] #[.slice none 0 0, .slice none 0 0, .int .i32 0, .slice none 0 0, .slice none 0 0, .slice none 0 0, .slice none 0 0, .slice none 0 0, .int .i64 0, .int .i64 0] 32 32))
  have b0 := blk_cell HK1.out.1
  have y0 := blk_lt HK1.out.1
  have b1 := blk_cell HK1.out.2.1
  have g1 := blk_frozen HK1.out.2.1
  have y1 := blk_lt HK1.out.2.1
  have hlo1 : w.heap.size + 2 ≤ w1.heap.size := by omega
  have HCC := Lib.hid hC
  clear hC
  clear hv hz
  go_enter Tryd.func33, Tryd.ntmps33
  go_wp2_with fail
  refine (HCC.out w1 _ (HV.out.keepB HB1.out)).mono ?_
  rintro e w9 ⟨v9, rfl, hO, hb⟩
  obtain ⟨F0, f0, F1, f1, F3, f3, F4, f4, F5, f5, F6, f6, F7, f7, rfl⟩ := hO.k.form
  have HO := Lib.hid hO
  have HB9 := Lib.hid (bl_call HB1.out hb)
  have HK9 := Lib.hid ((HK1.out).call hb)
  have hl9 : w.heap.size + 2 ≤ w1.heap.size := (by first | omega | (simp; omega))
  have hw9 := hb.size
  clear hO hb b0 y0 b1 g1 y1
  have b0 := blk_cell HK9.out.1
  have y0 := blk_lt HK9.out.1
  have b1 := blk_cell HK9.out.2.1
  have g1 := blk_frozen HK9.out.2.1
  have y1 := blk_lt HK9.out.2.1
  go_wp2_with fail
  refine bodyPost_ret (v := .agg #[.slice F0 z.data.length f0, .slice F1 z.ret.length f1, .int .i32 z.a, .slice F3 z.mem.length f3, .slice F4 z.cells.length f4, .slice F5 z.vars.length f5, .slice F6 z.out.length f6, .slice F7 z.inp.length f7, .int .i64 z.fault, .int .i64 z.fuel]) (by simp [results, Tryd.results33, go_sem, b1, y1]) rfl ⟨_, rfl, ?_, ?_⟩
  · have h0 := HO.out.low (lo' := w.heap.size + 2) hl9
    have h1 : w.heap.size + 1 < w.heap.size + 2 := by omega
    have hz9 : ∀ (W : World) (u : Value), StV W (w.heap.size + 2) w9.heap.size z u → w9.heap.size = W.heap.size → StV W w.heap.size W.heap.size z u := fun W u h e => (h.low (by omega)).top (by omega) (Nat.le_refl _)
    refine hz9 _ _ ?_ (by simp)
    with_reducible repeat (first | exact h0 | refine StV.far ?_ h1 _)
  · have h0 := HB9.out
    with_reducible repeat (first | exact h0 | apply bl_set1)
set_option maxRecDepth 100000 in
set_option maxHeartbeats 4000000 in
theorem other_14 (s z : LSt) (v : Value) (w : World) (hv : StK w s v) (hs : s.small 1048576) (x y : Int) (hC : ∀ W u, StK W s u → Calls Tryd.prog 72 #[u, .int .i32 x, .int .i32 y] W fun e w' => OtherE W z e w') (hz : True) :
    Calls Tryd.prog 33 #[v, .string ⟨#[33]⟩, .int .i32 x, .int .i32 y] w fun e w' => OtherE w z e w' := by
  obtain ⟨A0, c0, A1, c1, A3, c3, A4, c4, A5, c5, A6, c6, A7, c7, rfl⟩ := hv.form
  have HV := Lib.hid hv
  have HS := Lib.hid hs
  have HZ := Lib.hid hz
  obtain ⟨w1, hW1⟩ : ∃ W, (w.alloc (.cells #[.slice A0 s.data.length c0, .slice A1 s.ret.length c1, .int .i32 s.a, .slice A3 s.mem.length c3, .slice A4 s.cells.length c4, .slice A5 s.vars.length c5, .slice A6 s.out.length c6, .slice A7 s.inp.length c7, .int .i64 s.fault, .int .i64 s.fuel] 32)).alloc (.cells #[.slice none 0 0, .slice none 0 0, .int .i32 0, .slice none 0 0, .slice none 0 0, .slice none 0 0, .slice none 0 0, .slice none 0 0, .int .i64 0, .int .i64 0] 32) = W := ⟨_, rfl⟩
  have HB1 : Hid (Below w.heap.size w w1) := Lib.hid (hW1 ▸ bl_alloc (bl_alloc (Below.refl _ _) _) _)
  have HK1 : Hid (Bx w1 w.heap.size [(#[.slice A0 s.data.length c0, .slice A1 s.ret.length c1, .int .i32 s.a, .slice A3 s.mem.length c3, .slice A4 s.cells.length c4, .slice A5 s.vars.length c5, .slice A6 s.out.length c6, .slice A7 s.inp.length c7, .int .i64 s.fault, .int .i64 s.fuel], 32), (#[.slice none 0 0, .slice none 0 0, .int .i32 0, .slice none 0 0, .slice none 0 0, .slice none 0 0, .slice none 0 0, .slice none 0 0, .int .i64 0, .int .i64 0], 32)]) := Lib.hid (hW1 ▸ (Bx.two w #[.slice A0 s.data.length c0, .slice A1 s.ret.length c1, .int .i32 s.a, .slice A3 s.mem.length c3, .slice A4 s.cells.length c4, .slice A5 s.vars.length c5, .slice A6 s.out.length c6, .slice A7 s.inp.length c7, .int .i64 s.fault, .int .i64 s.fuel] #[.slice none 0 0, .slice none 0 0, .int .i32 0, .slice none 0 0, .slice none 0 0, .slice none 0 0, .slice none 0 0, .slice none 0 0, .int .i64 0, .int .i64 0] 32 32))
  have b0 := blk_cell HK1.out.1
  have y0 := blk_lt HK1.out.1
  have b1 := blk_cell HK1.out.2.1
  have g1 := blk_frozen HK1.out.2.1
  have y1 := blk_lt HK1.out.2.1
  have hlo1 : w.heap.size + 2 ≤ w1.heap.size := by omega
  have HCC := Lib.hid hC
  clear hC
  clear hv hz
  go_enter Tryd.func33, Tryd.ntmps33
  go_wp2_with fail
  refine (HCC.out w1 _ (HV.out.keepB HB1.out)).mono ?_
  rintro e w9 ⟨v9, rfl, hO, hb⟩
  obtain ⟨F0, f0, F1, f1, F3, f3, F4, f4, F5, f5, F6, f6, F7, f7, rfl⟩ := hO.k.form
  have HO := Lib.hid hO
  have HB9 := Lib.hid (bl_call HB1.out hb)
  have HK9 := Lib.hid ((HK1.out).call hb)
  have hl9 : w.heap.size + 2 ≤ w1.heap.size := (by first | omega | (simp; omega))
  have hw9 := hb.size
  clear hO hb b0 y0 b1 g1 y1
  have b0 := blk_cell HK9.out.1
  have y0 := blk_lt HK9.out.1
  have b1 := blk_cell HK9.out.2.1
  have g1 := blk_frozen HK9.out.2.1
  have y1 := blk_lt HK9.out.2.1
  go_wp2_with fail
  refine bodyPost_ret (v := .agg #[.slice F0 z.data.length f0, .slice F1 z.ret.length f1, .int .i32 z.a, .slice F3 z.mem.length f3, .slice F4 z.cells.length f4, .slice F5 z.vars.length f5, .slice F6 z.out.length f6, .slice F7 z.inp.length f7, .int .i64 z.fault, .int .i64 z.fuel]) (by simp [results, Tryd.results33, go_sem, b1, y1]) rfl ⟨_, rfl, ?_, ?_⟩
  · have h0 := HO.out.low (lo' := w.heap.size + 2) hl9
    have h1 : w.heap.size + 1 < w.heap.size + 2 := by omega
    have hz9 : ∀ (W : World) (u : Value), StV W (w.heap.size + 2) w9.heap.size z u → w9.heap.size = W.heap.size → StV W w.heap.size W.heap.size z u := fun W u h e => (h.low (by omega)).top (by omega) (Nat.le_refl _)
    refine hz9 _ _ ?_ (by simp)
    with_reducible repeat (first | exact h0 | refine StV.far ?_ h1 _)
  · have h0 := HB9.out
    with_reducible repeat (first | exact h0 | apply bl_set1)
set_option maxRecDepth 100000 in
set_option maxHeartbeats 4000000 in
theorem other_20 (s z : LSt) (v : Value) (w : World) (hv : StK w s v) (hs : s.small 1048576) (x y : Int) (hC : ∀ W u, StK W s u → Calls Tryd.prog 75 #[u, .bool true] W fun e w' => OtherE W z e w') (hz : True) :
    Calls Tryd.prog 33 #[v, .string ⟨#[112, 111, 112]⟩, .int .i32 x, .int .i32 y] w fun e w' => OtherE w z e w' := by
  obtain ⟨A0, c0, A1, c1, A3, c3, A4, c4, A5, c5, A6, c6, A7, c7, rfl⟩ := hv.form
  have HV := Lib.hid hv
  have HS := Lib.hid hs
  have HZ := Lib.hid hz
  obtain ⟨w1, hW1⟩ : ∃ W, (w.alloc (.cells #[.slice A0 s.data.length c0, .slice A1 s.ret.length c1, .int .i32 s.a, .slice A3 s.mem.length c3, .slice A4 s.cells.length c4, .slice A5 s.vars.length c5, .slice A6 s.out.length c6, .slice A7 s.inp.length c7, .int .i64 s.fault, .int .i64 s.fuel] 32)).alloc (.cells #[.slice none 0 0, .slice none 0 0, .int .i32 0, .slice none 0 0, .slice none 0 0, .slice none 0 0, .slice none 0 0, .slice none 0 0, .int .i64 0, .int .i64 0] 32) = W := ⟨_, rfl⟩
  have HB1 : Hid (Below w.heap.size w w1) := Lib.hid (hW1 ▸ bl_alloc (bl_alloc (Below.refl _ _) _) _)
  have HK1 : Hid (Bx w1 w.heap.size [(#[.slice A0 s.data.length c0, .slice A1 s.ret.length c1, .int .i32 s.a, .slice A3 s.mem.length c3, .slice A4 s.cells.length c4, .slice A5 s.vars.length c5, .slice A6 s.out.length c6, .slice A7 s.inp.length c7, .int .i64 s.fault, .int .i64 s.fuel], 32), (#[.slice none 0 0, .slice none 0 0, .int .i32 0, .slice none 0 0, .slice none 0 0, .slice none 0 0, .slice none 0 0, .slice none 0 0, .int .i64 0, .int .i64 0], 32)]) := Lib.hid (hW1 ▸ (Bx.two w #[.slice A0 s.data.length c0, .slice A1 s.ret.length c1, .int .i32 s.a, .slice A3 s.mem.length c3, .slice A4 s.cells.length c4, .slice A5 s.vars.length c5, .slice A6 s.out.length c6, .slice A7 s.inp.length c7, .int .i64 s.fault, .int .i64 s.fuel] #[.slice none 0 0, .slice none 0 0, .int .i32 0, .slice none 0 0, .slice none 0 0, .slice none 0 0, .slice none 0 0, .slice none 0 0, .int .i64 0, .int .i64 0] 32 32))
  have b0 := blk_cell HK1.out.1
  have y0 := blk_lt HK1.out.1
  have b1 := blk_cell HK1.out.2.1
  have g1 := blk_frozen HK1.out.2.1
  have y1 := blk_lt HK1.out.2.1
  have hlo1 : w.heap.size + 2 ≤ w1.heap.size := by omega
  have HCC := Lib.hid hC
  clear hC
  clear hv hz
  go_enter Tryd.func33, Tryd.ntmps33
  go_wp2_with fail
  refine (HCC.out w1 _ (HV.out.keepB HB1.out)).mono ?_
  rintro e w9 ⟨v9, rfl, hO, hb⟩
  obtain ⟨F0, f0, F1, f1, F3, f3, F4, f4, F5, f5, F6, f6, F7, f7, rfl⟩ := hO.k.form
  have HO := Lib.hid hO
  have HB9 := Lib.hid (bl_call HB1.out hb)
  have HK9 := Lib.hid ((HK1.out).call hb)
  have hl9 : w.heap.size + 2 ≤ w1.heap.size := (by first | omega | (simp; omega))
  have hw9 := hb.size
  clear hO hb b0 y0 b1 g1 y1
  have b0 := blk_cell HK9.out.1
  have y0 := blk_lt HK9.out.1
  have b1 := blk_cell HK9.out.2.1
  have g1 := blk_frozen HK9.out.2.1
  have y1 := blk_lt HK9.out.2.1
  go_wp2_with fail
  refine bodyPost_ret (v := .agg #[.slice F0 z.data.length f0, .slice F1 z.ret.length f1, .int .i32 z.a, .slice F3 z.mem.length f3, .slice F4 z.cells.length f4, .slice F5 z.vars.length f5, .slice F6 z.out.length f6, .slice F7 z.inp.length f7, .int .i64 z.fault, .int .i64 z.fuel]) (by simp [results, Tryd.results33, go_sem, b1, y1]) rfl ⟨_, rfl, ?_, ?_⟩
  · have h0 := HO.out.low (lo' := w.heap.size + 2) hl9
    have h1 : w.heap.size + 1 < w.heap.size + 2 := by omega
    have hz9 : ∀ (W : World) (u : Value), StV W (w.heap.size + 2) w9.heap.size z u → w9.heap.size = W.heap.size → StV W w.heap.size W.heap.size z u := fun W u h e => (h.low (by omega)).top (by omega) (Nat.le_refl _)
    refine hz9 _ _ ?_ (by simp)
    with_reducible repeat (first | exact h0 | refine StV.far ?_ h1 _)
  · have h0 := HB9.out
    with_reducible repeat (first | exact h0 | apply bl_set1)
set_option maxRecDepth 100000 in
set_option maxHeartbeats 4000000 in
theorem other_21 (s z : LSt) (v : Value) (w : World) (hv : StK w s v) (hs : s.small 1048576) (x y : Int) (hC : ∀ W u, StK W s u → Calls Tryd.prog 75 #[u, .bool false] W fun e w' => OtherE W z e w') (hz : True) :
    Calls Tryd.prog 33 #[v, .string ⟨#[105]⟩, .int .i32 x, .int .i32 y] w fun e w' => OtherE w z e w' := by
  obtain ⟨A0, c0, A1, c1, A3, c3, A4, c4, A5, c5, A6, c6, A7, c7, rfl⟩ := hv.form
  have HV := Lib.hid hv
  have HS := Lib.hid hs
  have HZ := Lib.hid hz
  obtain ⟨w1, hW1⟩ : ∃ W, (w.alloc (.cells #[.slice A0 s.data.length c0, .slice A1 s.ret.length c1, .int .i32 s.a, .slice A3 s.mem.length c3, .slice A4 s.cells.length c4, .slice A5 s.vars.length c5, .slice A6 s.out.length c6, .slice A7 s.inp.length c7, .int .i64 s.fault, .int .i64 s.fuel] 32)).alloc (.cells #[.slice none 0 0, .slice none 0 0, .int .i32 0, .slice none 0 0, .slice none 0 0, .slice none 0 0, .slice none 0 0, .slice none 0 0, .int .i64 0, .int .i64 0] 32) = W := ⟨_, rfl⟩
  have HB1 : Hid (Below w.heap.size w w1) := Lib.hid (hW1 ▸ bl_alloc (bl_alloc (Below.refl _ _) _) _)
  have HK1 : Hid (Bx w1 w.heap.size [(#[.slice A0 s.data.length c0, .slice A1 s.ret.length c1, .int .i32 s.a, .slice A3 s.mem.length c3, .slice A4 s.cells.length c4, .slice A5 s.vars.length c5, .slice A6 s.out.length c6, .slice A7 s.inp.length c7, .int .i64 s.fault, .int .i64 s.fuel], 32), (#[.slice none 0 0, .slice none 0 0, .int .i32 0, .slice none 0 0, .slice none 0 0, .slice none 0 0, .slice none 0 0, .slice none 0 0, .int .i64 0, .int .i64 0], 32)]) := Lib.hid (hW1 ▸ (Bx.two w #[.slice A0 s.data.length c0, .slice A1 s.ret.length c1, .int .i32 s.a, .slice A3 s.mem.length c3, .slice A4 s.cells.length c4, .slice A5 s.vars.length c5, .slice A6 s.out.length c6, .slice A7 s.inp.length c7, .int .i64 s.fault, .int .i64 s.fuel] #[.slice none 0 0, .slice none 0 0, .int .i32 0, .slice none 0 0, .slice none 0 0, .slice none 0 0, .slice none 0 0, .slice none 0 0, .int .i64 0, .int .i64 0] 32 32))
  have b0 := blk_cell HK1.out.1
  have y0 := blk_lt HK1.out.1
  have b1 := blk_cell HK1.out.2.1
  have g1 := blk_frozen HK1.out.2.1
  have y1 := blk_lt HK1.out.2.1
  have hlo1 : w.heap.size + 2 ≤ w1.heap.size := by omega
  have HCC := Lib.hid hC
  clear hC
  clear hv hz
  go_enter Tryd.func33, Tryd.ntmps33
  go_wp2_with fail
  refine (HCC.out w1 _ (HV.out.keepB HB1.out)).mono ?_
  rintro e w9 ⟨v9, rfl, hO, hb⟩
  obtain ⟨F0, f0, F1, f1, F3, f3, F4, f4, F5, f5, F6, f6, F7, f7, rfl⟩ := hO.k.form
  have HO := Lib.hid hO
  have HB9 := Lib.hid (bl_call HB1.out hb)
  have HK9 := Lib.hid ((HK1.out).call hb)
  have hl9 : w.heap.size + 2 ≤ w1.heap.size := (by first | omega | (simp; omega))
  have hw9 := hb.size
  clear hO hb b0 y0 b1 g1 y1
  have b0 := blk_cell HK9.out.1
  have y0 := blk_lt HK9.out.1
  have b1 := blk_cell HK9.out.2.1
  have g1 := blk_frozen HK9.out.2.1
  have y1 := blk_lt HK9.out.2.1
  go_wp2_with fail
  refine bodyPost_ret (v := .agg #[.slice F0 z.data.length f0, .slice F1 z.ret.length f1, .int .i32 z.a, .slice F3 z.mem.length f3, .slice F4 z.cells.length f4, .slice F5 z.vars.length f5, .slice F6 z.out.length f6, .slice F7 z.inp.length f7, .int .i64 z.fault, .int .i64 z.fuel]) (by simp [results, Tryd.results33, go_sem, b1, y1]) rfl ⟨_, rfl, ?_, ?_⟩
  · have h0 := HO.out.low (lo' := w.heap.size + 2) hl9
    have h1 : w.heap.size + 1 < w.heap.size + 2 := by omega
    have hz9 : ∀ (W : World) (u : Value), StV W (w.heap.size + 2) w9.heap.size z u → w9.heap.size = W.heap.size → StV W w.heap.size W.heap.size z u := fun W u h e => (h.low (by omega)).top (by omega) (Nat.le_refl _)
    refine hz9 _ _ ?_ (by simp)
    with_reducible repeat (first | exact h0 | refine StV.far ?_ h1 _)
  · have h0 := HB9.out
    with_reducible repeat (first | exact h0 | apply bl_set1)
set_option maxRecDepth 100000 in
set_option maxHeartbeats 4000000 in
theorem other_15 (s z : LSt) (v : Value) (w : World) (hv : StK w s v) (hs : s.small 1048576) (x y : Int) (hz : z = putSt s 0 [s.a]) :
    Calls Tryd.prog 33 #[v, .string ⟨#[97]⟩, .int .i32 x, .int .i32 y] w fun e w' => OtherE w z e w' := by
  obtain ⟨A0, c0, A1, c1, A3, c3, A4, c4, A5, c5, A6, c6, A7, c7, rfl⟩ := hv.form
  have HV := Lib.hid hv
  have HS := Lib.hid hs
  have HZ := Lib.hid hz
  obtain ⟨w1, hW1⟩ : ∃ W, (w.alloc (.cells #[.slice A0 s.data.length c0, .slice A1 s.ret.length c1, .int .i32 s.a, .slice A3 s.mem.length c3, .slice A4 s.cells.length c4, .slice A5 s.vars.length c5, .slice A6 s.out.length c6, .slice A7 s.inp.length c7, .int .i64 s.fault, .int .i64 s.fuel] 32)).alloc (.cells #[.slice none 0 0, .slice none 0 0, .int .i32 0, .slice none 0 0, .slice none 0 0, .slice none 0 0, .slice none 0 0, .slice none 0 0, .int .i64 0, .int .i64 0] 32) = W := ⟨_, rfl⟩
  have HB1 : Hid (Below w.heap.size w w1) := Lib.hid (hW1 ▸ bl_alloc (bl_alloc (Below.refl _ _) _) _)
  have HK1 : Hid (Bx w1 w.heap.size [(#[.slice A0 s.data.length c0, .slice A1 s.ret.length c1, .int .i32 s.a, .slice A3 s.mem.length c3, .slice A4 s.cells.length c4, .slice A5 s.vars.length c5, .slice A6 s.out.length c6, .slice A7 s.inp.length c7, .int .i64 s.fault, .int .i64 s.fuel], 32), (#[.slice none 0 0, .slice none 0 0, .int .i32 0, .slice none 0 0, .slice none 0 0, .slice none 0 0, .slice none 0 0, .slice none 0 0, .int .i64 0, .int .i64 0], 32)]) := Lib.hid (hW1 ▸ (Bx.two w #[.slice A0 s.data.length c0, .slice A1 s.ret.length c1, .int .i32 s.a, .slice A3 s.mem.length c3, .slice A4 s.cells.length c4, .slice A5 s.vars.length c5, .slice A6 s.out.length c6, .slice A7 s.inp.length c7, .int .i64 s.fault, .int .i64 s.fuel] #[.slice none 0 0, .slice none 0 0, .int .i32 0, .slice none 0 0, .slice none 0 0, .slice none 0 0, .slice none 0 0, .slice none 0 0, .int .i64 0, .int .i64 0] 32 32))
  have b0 := blk_cell HK1.out.1
  have y0 := blk_lt HK1.out.1
  have b1 := blk_cell HK1.out.2.1
  have g1 := blk_frozen HK1.out.2.1
  have y1 := blk_lt HK1.out.2.1
  have hlo1 : w.heap.size + 2 ≤ w1.heap.size := by omega
  have HT : Hid (0 ≤ s.data.length) := Lib.hid (Nat.zero_le _)
  clear hv hz
  go_enter Tryd.func33, Tryd.ntmps33
  go_wp2_with fail
  have HPT := Lib.hid (l08Put_at s _ 0 1 0 (some ⟨w1.heap.size, 0, none⟩) 1 [s.a] (w1.alloc (.cells #[.int .i32 s.a] 21)) (HV.out.keepB (bl_alloc HB1.out (.cells #[.int .i32 s.a] 21))) HS.out HT.out rfl rfl (Row.made (w1) #[.int .i32 s.a] 21 1 1 (by decide) rfl).rd (by omega))
  refine (HPT.out).mono ?_
  rintro e w9 ⟨v9, rfl, hO, hb⟩
  rw [← HZ.out] at hO
  replace hO := hO.v
  obtain ⟨F0, f0, F1, f1, F3, f3, F4, f4, F5, f5, F6, f6, F7, f7, rfl⟩ := hO.k.form
  have HO := Lib.hid hO
  have HB9 := Lib.hid (bl_call (bl_alloc HB1.out (.cells #[.int .i32 s.a] 21)) hb)
  have HK9 := Lib.hid ((HK1.out.alloc (.cells #[.int .i32 s.a] 21)).call hb)
  have hl9 : w.heap.size + 2 ≤ (w1.alloc (.cells #[.int .i32 s.a] 21)).heap.size := (by first | omega | (simp; omega))
  have hw9 := hb.size
  clear hO hb b0 y0 b1 g1 y1
  have b0 := blk_cell HK9.out.1
  have y0 := blk_lt HK9.out.1
  have b1 := blk_cell HK9.out.2.1
  have g1 := blk_frozen HK9.out.2.1
  have y1 := blk_lt HK9.out.2.1
  go_wp2_with fail
  refine bodyPost_ret (v := .agg #[.slice F0 z.data.length f0, .slice F1 z.ret.length f1, .int .i32 z.a, .slice F3 z.mem.length f3, .slice F4 z.cells.length f4, .slice F5 z.vars.length f5, .slice F6 z.out.length f6, .slice F7 z.inp.length f7, .int .i64 z.fault, .int .i64 z.fuel]) (by simp [results, Tryd.results33, go_sem, b1, y1]) rfl ⟨_, rfl, ?_, ?_⟩
  · have h0 := HO.out.low (lo' := w.heap.size + 2) hl9
    have h1 : w.heap.size + 1 < w.heap.size + 2 := by omega
    have hz9 : ∀ (W : World) (u : Value), StV W (w.heap.size + 2) w9.heap.size z u → w9.heap.size = W.heap.size → StV W w.heap.size W.heap.size z u := fun W u h e => (h.low (by omega)).top (by omega) (Nat.le_refl _)
    refine hz9 _ _ ?_ (by simp)
    with_reducible repeat (first | exact h0 | refine StV.far ?_ h1 _)
  · have h0 := HB9.out
    with_reducible repeat (first | exact h0 | apply bl_set1)
set_option maxRecDepth 100000 in
set_option maxHeartbeats 4000000 in
theorem other_16 (s z : LSt) (v : Value) (w : World) (hv : StK w s v) (hs : s.small 1048576) (x y : Int) (ht : 1 ≤ s.data.length) (hd : s.data.length ≤ 16) (hz : z = { putSt s 1 [] with a := y }) :
    Calls Tryd.prog 33 #[v, .string ⟨#[97, 33]⟩, .int .i32 x, .int .i32 y] w fun e w' => OtherE w z e w' := by
  obtain ⟨A0, c0, A1, c1, A3, c3, A4, c4, A5, c5, A6, c6, A7, c7, rfl⟩ := hv.form
  have HV := Lib.hid hv
  have HS := Lib.hid hs
  have HZ := Lib.hid hz
  obtain ⟨w1, hW1⟩ : ∃ W, (w.alloc (.cells #[.slice A0 s.data.length c0, .slice A1 s.ret.length c1, .int .i32 s.a, .slice A3 s.mem.length c3, .slice A4 s.cells.length c4, .slice A5 s.vars.length c5, .slice A6 s.out.length c6, .slice A7 s.inp.length c7, .int .i64 s.fault, .int .i64 s.fuel] 32)).alloc (.cells #[.slice none 0 0, .slice none 0 0, .int .i32 0, .slice none 0 0, .slice none 0 0, .slice none 0 0, .slice none 0 0, .slice none 0 0, .int .i64 0, .int .i64 0] 32) = W := ⟨_, rfl⟩
  have HB1 : Hid (Below w.heap.size w w1) := Lib.hid (hW1 ▸ bl_alloc (bl_alloc (Below.refl _ _) _) _)
  have HK1 : Hid (Bx w1 w.heap.size [(#[.slice A0 s.data.length c0, .slice A1 s.ret.length c1, .int .i32 s.a, .slice A3 s.mem.length c3, .slice A4 s.cells.length c4, .slice A5 s.vars.length c5, .slice A6 s.out.length c6, .slice A7 s.inp.length c7, .int .i64 s.fault, .int .i64 s.fuel], 32), (#[.slice none 0 0, .slice none 0 0, .int .i32 0, .slice none 0 0, .slice none 0 0, .slice none 0 0, .slice none 0 0, .slice none 0 0, .int .i64 0, .int .i64 0], 32)]) := Lib.hid (hW1 ▸ (Bx.two w #[.slice A0 s.data.length c0, .slice A1 s.ret.length c1, .int .i32 s.a, .slice A3 s.mem.length c3, .slice A4 s.cells.length c4, .slice A5 s.vars.length c5, .slice A6 s.out.length c6, .slice A7 s.inp.length c7, .int .i64 s.fault, .int .i64 s.fuel] #[.slice none 0 0, .slice none 0 0, .int .i32 0, .slice none 0 0, .slice none 0 0, .slice none 0 0, .slice none 0 0, .slice none 0 0, .int .i64 0, .int .i64 0] 32 32))
  have b0 := blk_cell HK1.out.1
  have y0 := blk_lt HK1.out.1
  have b1 := blk_cell HK1.out.2.1
  have g1 := blk_frozen HK1.out.2.1
  have y1 := blk_lt HK1.out.2.1
  have hlo1 : w.heap.size + 2 ≤ w1.heap.size := by omega
  have HT := Lib.hid ht
  clear ht
  obtain ⟨s1, hs1⟩ : ∃ s1, putSt s 1 [] = s1 := ⟨_, rfl⟩
  have HS1 := Lib.hid hs1
  have HZ1 : Hid (z = { s1 with a := y }) := Lib.hid (by rw [hz, hs1])
  clear hs1
  clear hv hz
  go_enter Tryd.func33, Tryd.ntmps33
  go_wp2_with fail
  have HPT := Lib.hid (l08Put_at s _ 1 0 1 (some ⟨w1.heap.size, 0, none⟩) 0 [] (w1.alloc (.cells #[] 21)) (HV.out.keepB (bl_alloc HB1.out (.cells #[] 21))) HS.out HT.out rfl rfl (Row.made (w1) #[] 21 1 0 (by decide) rfl).rd (by omega))
  refine HPT.out.mono ?_
  rintro e w4 ⟨v4, rfl, hO, hb⟩
  rw [HS1.out] at hO
  obtain ⟨E0, e0, E1, e1, E3, e3, E4, e4, E5, e5, E6, e6, E7, e7, rfl⟩ := hO.k.form
  have HB4 := Lib.hid (bl_call (bl_alloc HB1.out (.cells #[] 21)) hb)
  have HK4 := Lib.hid ((HK1.out.alloc (.cells #[] 21)).call hb)
  have hl4 : w.heap.size + 2 ≤ (w1.alloc (.cells #[] 21)).heap.size := (by first | omega | (simp; omega))
  have h4 := hb.size
  obtain ⟨lo, hlo⟩ : ∃ n, (w1.alloc (.cells #[] 21)).heap.size = n := ⟨_, rfl⟩
  rw [hlo] at hO hl4 h4
  obtain ⟨W5, hW5⟩ : ∃ W, w4.alloc (.cells #[.slice E0 s1.data.length e0, .slice E1 s1.ret.length e1, .int .i32 s1.a, .slice E3 s1.mem.length e3, .slice E4 s1.cells.length e4, .slice E5 s1.vars.length e5, .slice E6 s1.out.length e6, .slice E7 s1.inp.length e7, .int .i64 s1.fault, .int .i64 s1.fuel] 32) = W := ⟨_, rfl⟩
  have HX5 : Hid (StX W5 w4.heap.size lo s1) := Lib.hid (hW5 ▸ StX.of hO)
  have hb5 : Below w4.heap.size w4 W5 := hW5 ▸ bl_alloc (Below.refl _ _) _
  have h45' : w4.heap.size < W5.heap.size := by rw [← hW5]; simp
  have HB5 := Lib.hid (bl_call HB4.out hb5)
  have HK5 := Lib.hid (HK4.out.call hb5)
  have hloW : lo ≤ W5.heap.size := by omega
  clear hO hb hb5 hlo b0 y0 b1 g1 y1
  have b0 := blk_cell HK5.out.1
  have y0 := blk_lt HK5.out.1
  have b1 := blk_cell HK5.out.2.1
  have g1 := blk_frozen HK5.out.2.1
  have y1 := blk_lt HK5.out.2.1
  obtain ⟨D0, d0, D1, d1, D3, d3, D4, d4, D5, d5, D6, d6, D7, d7, hg, -⟩ := HX5.out.cells
  have hh : StX (W5.setCell ⟨w4.heap.size, 2, none⟩ (.int .i32 y)) w4.heap.size lo z ∧ FrG w4.heap.size lo W5 (W5.setCell ⟨w4.heap.size, 2, none⟩ (.int .i32 y)) := ⟨by rw [HZ1.out]; exact HX5.out.set2 y, (FrG.refl _ _ _).set _⟩
  obtain ⟨w9, hw9⟩ : ∃ W, W5.setCell ⟨w4.heap.size, 2, none⟩ (.int .i32 y) = W := ⟨_, rfl⟩
  rw [hw9] at hh
  have cg5 := blk_cell hg
  have fg5 := blk_frozen hg
  have zg5 := blk_lt hg
  clear hg
  have HB9 := Lib.hid (FrG.below hh.2 HB5.out (by omega) (by omega) (by omega)); have HK9 := Lib.hid (HK5.out.fr hh.2 (by simp only [List.length_cons, List.length_nil]; omega) (by simp only [List.length_cons, List.length_nil]; omega)); have hsz9 := hh.2.size; obtain ⟨J0, j0, J1, j1, J3, j3, J4, j4, J5, j5, J6, j6, J7, j7, hg9, hk9⟩ := hh.1.read; have HV9 := Lib.hid hk9; have c9 := blk_cell hg9; have z9 := blk_lt hg9; have b0 := blk_cell HK9.out.1; have y0 := blk_lt HK9.out.1; have b1 := blk_cell HK9.out.2.1; have g1 := blk_frozen HK9.out.2.1; have y1 := blk_lt HK9.out.2.1; clear hg9 hk9 hh
  go_wp2_with fail
  refine bodyPost_ret (v := .agg #[.slice J0 z.data.length j0, .slice J1 z.ret.length j1, .int .i32 z.a, .slice J3 z.mem.length j3, .slice J4 z.cells.length j4, .slice J5 z.vars.length j5, .slice J6 z.out.length j6, .slice J7 z.inp.length j7, .int .i64 z.fault, .int .i64 z.fuel]) (by simp [results, Tryd.results33, go_sem, b1, y1]) rfl ⟨_, rfl, ?_, ?_⟩
  · have h0 : StV w9 (w.heap.size + 2) w9.heap.size z (.agg #[.slice J0 z.data.length j0, .slice J1 z.ret.length j1, .int .i32 z.a, .slice J3 z.mem.length j3, .slice J4 z.cells.length j4, .slice J5 z.vars.length j5, .slice J6 z.out.length j6, .slice J7 z.inp.length j7, .int .i64 z.fault, .int .i64 z.fuel]) := ⟨Nat.le_refl _, fun u1 hk => HV9.out u1 (fun x p1 p2 p3 => hk x (by omega) p2)⟩
    have h1 : w.heap.size + 1 < w.heap.size + 2 := by omega
    have hz9 : ∀ (W : World) (u : Value), StV W (w.heap.size + 2) w9.heap.size z u → w9.heap.size = W.heap.size → StV W w.heap.size W.heap.size z u := fun W u h e => (h.low (by omega)).top (by omega) (Nat.le_refl _)
    refine hz9 _ _ ?_ (by simp)
    with_reducible repeat (first | exact h0 | refine StV.far ?_ h1 _)
  · have h0 := HB9.out
    with_reducible repeat (first | exact h0 | apply bl_set1)
theorem and255 (y : Int) : IntKind.wrap .u8 (bits .and .i32 y 255) = IntKind.wrap .u8 y := by
  have h8 : ∀ n : Int, IntKind.wrap .u8 n = n % 256 := fun n => by simp [IntKind.wrap, IntKind.signed, IntKind.bits]
  have hb : bits .and .i32 y 255 = IntKind.wrap .i32 (((BitVec.ofInt 32 y &&& BitVec.ofInt 32 255).toNat : Nat) : Int) := rfl
  have h1 : ((BitVec.ofInt 32 y).toNat : Int) = y % 4294967296 := by
    rw [BitVec.toNat_ofInt]
    omega
  have h2 : (BitVec.ofInt 32 y &&& BitVec.ofInt 32 255).toNat = (BitVec.ofInt 32 y).toNat % 256 := by
    rw [BitVec.toNat_and]
    exact Nat.and_two_pow_sub_one_eq_mod _ 8
  rw [h8, h8, hb, h2]
  have hw : ∀ n : Nat, n < 256 → IntKind.wrap .i32 (n : Int) = n := fun n hn => by
    rw [iwrap32]
    unfold wrap32
    omega
  rw [hw _ (Nat.mod_lt _ (by omega))]
  omega
set_option maxRecDepth 100000 in
set_option maxHeartbeats 4000000 in
theorem other_17 (s z : LSt) (v : Value) (w : World) (hv : StK w s v) (hs : s.small 1048576) (x y : Int) (hC : ∀ W u A c, StK W s u → Rd W A ([IntKind.wrap .u8 y].map (Value.int .u8)) → Calls Tryd.prog 73 #[u, .slice A 1 c] W fun e w' => OtherE W z e w') (hz : True) :
    Calls Tryd.prog 33 #[v, .string ⟨#[101, 109, 105, 116]⟩, .int .i32 x, .int .i32 y] w fun e w' => OtherE w z e w' := by
  obtain ⟨A0, c0, A1, c1, A3, c3, A4, c4, A5, c5, A6, c6, A7, c7, rfl⟩ := hv.form
  have HV := Lib.hid hv
  have HS := Lib.hid hs
  have HZ := Lib.hid hz
  obtain ⟨w1, hW1⟩ : ∃ W, (w.alloc (.cells #[.slice A0 s.data.length c0, .slice A1 s.ret.length c1, .int .i32 s.a, .slice A3 s.mem.length c3, .slice A4 s.cells.length c4, .slice A5 s.vars.length c5, .slice A6 s.out.length c6, .slice A7 s.inp.length c7, .int .i64 s.fault, .int .i64 s.fuel] 32)).alloc (.cells #[.slice none 0 0, .slice none 0 0, .int .i32 0, .slice none 0 0, .slice none 0 0, .slice none 0 0, .slice none 0 0, .slice none 0 0, .int .i64 0, .int .i64 0] 32) = W := ⟨_, rfl⟩
  have HB1 : Hid (Below w.heap.size w w1) := Lib.hid (hW1 ▸ bl_alloc (bl_alloc (Below.refl _ _) _) _)
  have HK1 : Hid (Bx w1 w.heap.size [(#[.slice A0 s.data.length c0, .slice A1 s.ret.length c1, .int .i32 s.a, .slice A3 s.mem.length c3, .slice A4 s.cells.length c4, .slice A5 s.vars.length c5, .slice A6 s.out.length c6, .slice A7 s.inp.length c7, .int .i64 s.fault, .int .i64 s.fuel], 32), (#[.slice none 0 0, .slice none 0 0, .int .i32 0, .slice none 0 0, .slice none 0 0, .slice none 0 0, .slice none 0 0, .slice none 0 0, .int .i64 0, .int .i64 0], 32)]) := Lib.hid (hW1 ▸ (Bx.two w #[.slice A0 s.data.length c0, .slice A1 s.ret.length c1, .int .i32 s.a, .slice A3 s.mem.length c3, .slice A4 s.cells.length c4, .slice A5 s.vars.length c5, .slice A6 s.out.length c6, .slice A7 s.inp.length c7, .int .i64 s.fault, .int .i64 s.fuel] #[.slice none 0 0, .slice none 0 0, .int .i32 0, .slice none 0 0, .slice none 0 0, .slice none 0 0, .slice none 0 0, .slice none 0 0, .int .i64 0, .int .i64 0] 32 32))
  have b0 := blk_cell HK1.out.1
  have y0 := blk_lt HK1.out.1
  have b1 := blk_cell HK1.out.2.1
  have g1 := blk_frozen HK1.out.2.1
  have y1 := blk_lt HK1.out.2.1
  have hlo1 : w.heap.size + 2 ≤ w1.heap.size := by omega
  have HCC := Lib.hid hC
  have h255 := and255 y
  clear hC
  clear hv hz
  go_enter Tryd.func33, Tryd.ntmps33
  go_wp2_with fail
  refine (HCC.out (w1.alloc (.cells #[.int .u8 (IntKind.wrap .u8 y)] 5)) _ (some ⟨w1.heap.size, 0, none⟩) 1 (HV.out.keepB (bl_alloc HB1.out _)) (Row.made w1 #[.int .u8 (IntKind.wrap .u8 y)] 5 1 1 (by decide) rfl).rd).mono ?_
  rintro e w9 ⟨v9, rfl, hO, hb⟩
  obtain ⟨F0, f0, F1, f1, F3, f3, F4, f4, F5, f5, F6, f6, F7, f7, rfl⟩ := hO.k.form
  have HO := Lib.hid hO
  have HB9 := Lib.hid (bl_call (bl_alloc HB1.out (.cells #[.int .u8 (IntKind.wrap .u8 y)] 5)) hb)
  have HK9 := Lib.hid ((HK1.out.alloc (.cells #[.int .u8 (IntKind.wrap .u8 y)] 5)).call hb)
  have hl9 : w.heap.size + 2 ≤ (w1.alloc (.cells #[.int .u8 (IntKind.wrap .u8 y)] 5)).heap.size := (by first | omega | (simp; omega))
  have hw9 := hb.size
  clear hO hb b0 y0 b1 g1 y1
  have b0 := blk_cell HK9.out.1
  have y0 := blk_lt HK9.out.1
  have b1 := blk_cell HK9.out.2.1
  have g1 := blk_frozen HK9.out.2.1
  have y1 := blk_lt HK9.out.2.1
  go_wp2_with fail
  refine bodyPost_ret (v := .agg #[.slice F0 z.data.length f0, .slice F1 z.ret.length f1, .int .i32 z.a, .slice F3 z.mem.length f3, .slice F4 z.cells.length f4, .slice F5 z.vars.length f5, .slice F6 z.out.length f6, .slice F7 z.inp.length f7, .int .i64 z.fault, .int .i64 z.fuel]) (by simp [results, Tryd.results33, go_sem, b1, y1]) rfl ⟨_, rfl, ?_, ?_⟩
  · have h0 := HO.out.low (lo' := w.heap.size + 2) hl9
    have h1 : w.heap.size + 1 < w.heap.size + 2 := by omega
    have hz9 : ∀ (W : World) (u : Value), StV W (w.heap.size + 2) w9.heap.size z u → w9.heap.size = W.heap.size → StV W w.heap.size W.heap.size z u := fun W u h e => (h.low (by omega)).top (by omega) (Nat.le_refl _)
    refine hz9 _ _ ?_ (by simp)
    with_reducible repeat (first | exact h0 | refine StV.far ?_ h1 _)
  · have h0 := HB9.out
    with_reducible repeat (first | exact h0 | apply bl_set1)
set_option maxRecDepth 100000 in
set_option maxHeartbeats 4000000 in
theorem other_19_no (s z : LSt) (v : Value) (w : World) (hv : StK w s v) (hs : s.small 1048576) (x y : Int) (hn : s.ret.length = 24) (hz : z = { s with fault := 3 }) :
    Calls Tryd.prog 33 #[v, .string ⟨#[112, 117, 115, 104]⟩, .int .i32 x, .int .i32 y] w fun e w' => OtherE w z e w' := by
  obtain ⟨A0, c0, A1, c1, A3, c3, A4, c4, A5, c5, A6, c6, A7, c7, rfl⟩ := hv.form
  have HV := Lib.hid hv
  have HS := Lib.hid hs
  have HZ := Lib.hid hz
  obtain ⟨w1, hW1⟩ : ∃ W, (w.alloc (.cells #[.slice A0 s.data.length c0, .slice A1 s.ret.length c1, .int .i32 s.a, .slice A3 s.mem.length c3, .slice A4 s.cells.length c4, .slice A5 s.vars.length c5, .slice A6 s.out.length c6, .slice A7 s.inp.length c7, .int .i64 s.fault, .int .i64 s.fuel] 32)).alloc (.cells #[.slice none 0 0, .slice none 0 0, .int .i32 0, .slice none 0 0, .slice none 0 0, .slice none 0 0, .slice none 0 0, .slice none 0 0, .int .i64 0, .int .i64 0] 32) = W := ⟨_, rfl⟩
  have HB1 : Hid (Below w.heap.size w w1) := Lib.hid (hW1 ▸ bl_alloc (bl_alloc (Below.refl _ _) _) _)
  have HK1 : Hid (Bx w1 w.heap.size [(#[.slice A0 s.data.length c0, .slice A1 s.ret.length c1, .int .i32 s.a, .slice A3 s.mem.length c3, .slice A4 s.cells.length c4, .slice A5 s.vars.length c5, .slice A6 s.out.length c6, .slice A7 s.inp.length c7, .int .i64 s.fault, .int .i64 s.fuel], 32), (#[.slice none 0 0, .slice none 0 0, .int .i32 0, .slice none 0 0, .slice none 0 0, .slice none 0 0, .slice none 0 0, .slice none 0 0, .int .i64 0, .int .i64 0], 32)]) := Lib.hid (hW1 ▸ (Bx.two w #[.slice A0 s.data.length c0, .slice A1 s.ret.length c1, .int .i32 s.a, .slice A3 s.mem.length c3, .slice A4 s.cells.length c4, .slice A5 s.vars.length c5, .slice A6 s.out.length c6, .slice A7 s.inp.length c7, .int .i64 s.fault, .int .i64 s.fuel] #[.slice none 0 0, .slice none 0 0, .int .i32 0, .slice none 0 0, .slice none 0 0, .slice none 0 0, .slice none 0 0, .slice none 0 0, .int .i64 0, .int .i64 0] 32 32))
  have b0 := blk_cell HK1.out.1
  have y0 := blk_lt HK1.out.1
  have b1 := blk_cell HK1.out.2.1
  have g1 := blk_frozen HK1.out.2.1
  have y1 := blk_lt HK1.out.2.1
  have hlo1 : w.heap.size + 2 ≤ w1.heap.size := by omega
  have e24 : ((s.ret.length : Int) == 24) = true := by rw [beq_iff_eq]; omega
  clear hn
  clear hv hz
  go_enter Tryd.func33, Tryd.ntmps33
  go_wp2_with fail
  refine (l08Fault_calls s _ 3 w1 (HV.out.keepB HB1.out) HS.out).mono ?_
  rintro e w9 ⟨v9, rfl, hO, hb⟩
  rw [← HZ.out] at hO
  replace hO := hO.v
  obtain ⟨F0, f0, F1, f1, F3, f3, F4, f4, F5, f5, F6, f6, F7, f7, rfl⟩ := hO.k.form
  have HO := Lib.hid hO
  have HB9 := Lib.hid (bl_call HB1.out hb)
  have HK9 := Lib.hid ((HK1.out).call hb)
  have hl9 : w.heap.size + 2 ≤ w1.heap.size := (by first | omega | (simp; omega))
  have hw9 := hb.size
  clear hO hb b0 y0 b1 g1 y1
  have b0 := blk_cell HK9.out.1
  have y0 := blk_lt HK9.out.1
  have b1 := blk_cell HK9.out.2.1
  have g1 := blk_frozen HK9.out.2.1
  have y1 := blk_lt HK9.out.2.1
  go_wp2_with fail
  refine bodyPost_ret (v := .agg #[.slice F0 z.data.length f0, .slice F1 z.ret.length f1, .int .i32 z.a, .slice F3 z.mem.length f3, .slice F4 z.cells.length f4, .slice F5 z.vars.length f5, .slice F6 z.out.length f6, .slice F7 z.inp.length f7, .int .i64 z.fault, .int .i64 z.fuel]) (by simp [results, Tryd.results33, go_sem, b1, y1]) rfl ⟨_, rfl, ?_, ?_⟩
  · have h0 := HO.out.low (lo' := w.heap.size + 2) hl9
    have h1 : w.heap.size + 1 < w.heap.size + 2 := by omega
    have hz9 : ∀ (W : World) (u : Value), StV W (w.heap.size + 2) w9.heap.size z u → w9.heap.size = W.heap.size → StV W w.heap.size W.heap.size z u := fun W u h e => (h.low (by omega)).top (by omega) (Nat.le_refl _)
    refine hz9 _ _ ?_ (by simp)
    with_reducible repeat (first | exact h0 | refine StV.far ?_ h1 _)
  · have h0 := HB9.out
    with_reducible repeat (first | exact h0 | apply bl_set1)
set_option maxRecDepth 100000 in
set_option maxHeartbeats 4000000 in
theorem other_19_ok (s z : LSt) (v : Value) (w : World) (hv : StK w s v) (hs : s.small 1048576) (x y : Int) (ht : 1 ≤ s.data.length) (hd : s.data.length ≤ 16) (hn : s.ret.length ≠ 24) (hz : z = { putSt s 1 [] with ret := s.ret ++ [⟨0, y⟩] }) :
    Calls Tryd.prog 33 #[v, .string ⟨#[112, 117, 115, 104]⟩, .int .i32 x, .int .i32 y] w fun e w' => OtherE w z e w' := by
  obtain ⟨A0, c0, A1, c1, A3, c3, A4, c4, A5, c5, A6, c6, A7, c7, rfl⟩ := hv.form
  have HV := Lib.hid hv
  have HS := Lib.hid hs
  have HZ := Lib.hid hz
  obtain ⟨w1, hW1⟩ : ∃ W, (w.alloc (.cells #[.slice A0 s.data.length c0, .slice A1 s.ret.length c1, .int .i32 s.a, .slice A3 s.mem.length c3, .slice A4 s.cells.length c4, .slice A5 s.vars.length c5, .slice A6 s.out.length c6, .slice A7 s.inp.length c7, .int .i64 s.fault, .int .i64 s.fuel] 32)).alloc (.cells #[.slice none 0 0, .slice none 0 0, .int .i32 0, .slice none 0 0, .slice none 0 0, .slice none 0 0, .slice none 0 0, .slice none 0 0, .int .i64 0, .int .i64 0] 32) = W := ⟨_, rfl⟩
  have HB1 : Hid (Below w.heap.size w w1) := Lib.hid (hW1 ▸ bl_alloc (bl_alloc (Below.refl _ _) _) _)
  have HK1 : Hid (Bx w1 w.heap.size [(#[.slice A0 s.data.length c0, .slice A1 s.ret.length c1, .int .i32 s.a, .slice A3 s.mem.length c3, .slice A4 s.cells.length c4, .slice A5 s.vars.length c5, .slice A6 s.out.length c6, .slice A7 s.inp.length c7, .int .i64 s.fault, .int .i64 s.fuel], 32), (#[.slice none 0 0, .slice none 0 0, .int .i32 0, .slice none 0 0, .slice none 0 0, .slice none 0 0, .slice none 0 0, .slice none 0 0, .int .i64 0, .int .i64 0], 32)]) := Lib.hid (hW1 ▸ (Bx.two w #[.slice A0 s.data.length c0, .slice A1 s.ret.length c1, .int .i32 s.a, .slice A3 s.mem.length c3, .slice A4 s.cells.length c4, .slice A5 s.vars.length c5, .slice A6 s.out.length c6, .slice A7 s.inp.length c7, .int .i64 s.fault, .int .i64 s.fuel] #[.slice none 0 0, .slice none 0 0, .int .i32 0, .slice none 0 0, .slice none 0 0, .slice none 0 0, .slice none 0 0, .slice none 0 0, .int .i64 0, .int .i64 0] 32 32))
  have b0 := blk_cell HK1.out.1
  have y0 := blk_lt HK1.out.1
  have b1 := blk_cell HK1.out.2.1
  have g1 := blk_frozen HK1.out.2.1
  have y1 := blk_lt HK1.out.2.1
  have hlo1 : w.heap.size + 2 ≤ w1.heap.size := by omega
  have HT := Lib.hid ht
  clear ht
  obtain ⟨s1, hs1⟩ : ∃ s1, putSt s 1 [] = s1 := ⟨_, rfl⟩
  have HS1 := Lib.hid hs1
  have e24 : ((s.ret.length : Int) == 24) = false := by rw [beq_eq_false_iff_ne]; omega
  have hr1 : s1.ret = s.ret := by rw [← hs1, putSt_nil hd]
  have HZ1 : Hid (z = { s1 with ret := s1.ret ++ [⟨0, y⟩] }) := Lib.hid (by rw [hz, hs1, hr1])
  have hrl : s1.ret.length ≤ 1048576 := by rw [hr1]; exact hs.2.1
  clear hs1 hr1 hn
  clear hv hz
  go_enter Tryd.func33, Tryd.ntmps33
  go_wp2_with fail
  have HPT := Lib.hid (l08Put_at s _ 1 0 1 (some ⟨w1.heap.size, 0, none⟩) 0 [] (w1.alloc (.cells #[] 21)) (HV.out.keepB (bl_alloc HB1.out (.cells #[] 21))) HS.out HT.out rfl rfl (Row.made (w1) #[] 21 1 0 (by decide) rfl).rd (by omega))
  refine HPT.out.mono ?_
  rintro e w4 ⟨v4, rfl, hO, hb⟩
  rw [HS1.out] at hO
  obtain ⟨E0, e0, E1, e1, E3, e3, E4, e4, E5, e5, E6, e6, E7, e7, rfl⟩ := hO.k.form
  have HB4 := Lib.hid (bl_call (bl_alloc HB1.out (.cells #[] 21)) hb)
  have HK4 := Lib.hid ((HK1.out.alloc (.cells #[] 21)).call hb)
  have hl4 : w.heap.size + 2 ≤ (w1.alloc (.cells #[] 21)).heap.size := (by first | omega | (simp; omega))
  have h4 := hb.size
  obtain ⟨lo, hlo⟩ : ∃ n, (w1.alloc (.cells #[] 21)).heap.size = n := ⟨_, rfl⟩
  rw [hlo] at hO hl4 h4
  obtain ⟨W5, hW5⟩ : ∃ W, w4.alloc (.cells #[.slice E0 s1.data.length e0, .slice E1 s1.ret.length e1, .int .i32 s1.a, .slice E3 s1.mem.length e3, .slice E4 s1.cells.length e4, .slice E5 s1.vars.length e5, .slice E6 s1.out.length e6, .slice E7 s1.inp.length e7, .int .i64 s1.fault, .int .i64 s1.fuel] 32) = W := ⟨_, rfl⟩
  have HX5 : Hid (StX W5 w4.heap.size lo s1) := Lib.hid (hW5 ▸ StX.of hO)
  have hb5 : Below w4.heap.size w4 W5 := hW5 ▸ bl_alloc (Below.refl _ _) _
  have h45' : w4.heap.size < W5.heap.size := by rw [← hW5]; simp
  have HB5 := Lib.hid (bl_call HB4.out hb5)
  have HK5 := Lib.hid (HK4.out.call hb5)
  have hloW : lo ≤ W5.heap.size := by omega
  clear hO hb hb5 hlo b0 y0 b1 g1 y1
  have b0 := blk_cell HK5.out.1
  have y0 := blk_lt HK5.out.1
  have b1 := blk_cell HK5.out.2.1
  have g1 := blk_frozen HK5.out.2.1
  have y1 := blk_lt HK5.out.2.1
  obtain ⟨D0, d0, D1, d1, D3, d3, D4, d4, D5, d5, D6, d6, D7, d7, bb, hg, r1, L1, hK⟩ := HX5.out.rep1 hloW
  have HKK := Lib.hid hK
  have HR1 := Lib.hid r1
  have HL1 := Lib.hid L1
  have HGG := Lib.hid hg
  have cg5 := blk_cell hg
  have fg5 := blk_frozen hg
  have zg5 := blk_lt hg
  clear hg r1 L1 hK
  go_wp2_with (at_builtin; refine wp_append1s _ (m := W5.heap.size) (by first | rfl | simp) rfl _ _ 30 rfl 77 (.agg #[.int .i64 0, .int .i32 0]) 2 16 Tryd.underlying30 info_SlotB rfl (by decide) rfl HR1.out rfl rfl ?_ ?_ ?_ ?_; (intro u hu; simp at hu; rcases hu with rfl | rfl <;> rfl); (unfold maxLen; omega); omega; intro B d w8 b hR hg8 hb8; have hh := HKK.out (s1.ret ++ [⟨0, y⟩]) B d w8 b (by simpa [LSlot.enc] using hR) hg8 hb8; rw [← HZ1.out] at hh; simp only [List.length_append, List.length_cons, List.length_nil, Nat.zero_add] at hh; obtain ⟨w9, hw9⟩ : ∃ W, w8.setCell ⟨w4.heap.size, 1, none⟩ (.slice B (s1.ret.length + 1) d) = W := ⟨_, rfl⟩; rw [hw9] at hh; have K8 := (hg8.block w4.heap.size zg5 (fun e => (HL1.out _ e.symm).2 rfl)).trans HGG.out; have c8 := blk_cell K8; have f8 := blk_frozen K8; have z8 := blk_lt K8; clear hR hg8 hb8 K8 cg5 fg5 zg5; have HB9 := Lib.hid (FrG.below hh.2 HB5.out (by omega) (by omega) (by omega)); have HK9 := Lib.hid (HK5.out.fr hh.2 (by simp only [List.length_cons, List.length_nil]; omega) (by simp only [List.length_cons, List.length_nil]; omega)); have hsz9 := hh.2.size; obtain ⟨J0, j0, J1, j1, J3, j3, J4, j4, J5, j5, J6, j6, J7, j7, hg9, hk9⟩ := hh.1.read; have HV9 := Lib.hid hk9; have c9 := blk_cell hg9; have z9 := blk_lt hg9; have b0 := blk_cell HK9.out.1; have y0 := blk_lt HK9.out.1; have b1 := blk_cell HK9.out.2.1; have g1 := blk_frozen HK9.out.2.1; have y1 := blk_lt HK9.out.2.1; clear hg9 hk9 hh)
  refine bodyPost_ret (v := .agg #[.slice J0 z.data.length j0, .slice J1 z.ret.length j1, .int .i32 z.a, .slice J3 z.mem.length j3, .slice J4 z.cells.length j4, .slice J5 z.vars.length j5, .slice J6 z.out.length j6, .slice J7 z.inp.length j7, .int .i64 z.fault, .int .i64 z.fuel]) (by simp [results, Tryd.results33, go_sem, b1, y1]) rfl ⟨_, rfl, ?_, ?_⟩
  · have h0 : StV w9 (w.heap.size + 2) w9.heap.size z (.agg #[.slice J0 z.data.length j0, .slice J1 z.ret.length j1, .int .i32 z.a, .slice J3 z.mem.length j3, .slice J4 z.cells.length j4, .slice J5 z.vars.length j5, .slice J6 z.out.length j6, .slice J7 z.inp.length j7, .int .i64 z.fault, .int .i64 z.fuel]) := ⟨Nat.le_refl _, fun u1 hk => HV9.out u1 (fun x p1 p2 p3 => hk x (by omega) p2)⟩
    have h1 : w.heap.size + 1 < w.heap.size + 2 := by omega
    have hz9 : ∀ (W : World) (u : Value), StV W (w.heap.size + 2) w9.heap.size z u → w9.heap.size = W.heap.size → StV W w.heap.size W.heap.size z u := fun W u h e => (h.low (by omega)).top (by omega) (Nat.le_refl _)
    refine hz9 _ _ ?_ (by simp)
    with_reducible repeat (first | exact h0 | refine StV.far ?_ h1 _)
  · have h0 := HB9.out
    with_reducible repeat (first | exact h0 | apply bl_set1)
set_option maxRecDepth 100000 in
set_option maxHeartbeats 4000000 in
theorem other_18_none (s z : LSt) (v : Value) (w : World) (hv : StK w s v) (hs : s.small 1048576) (x y : Int) (hn : s.inp = []) (hz : z = putSt s 0 [-1]) :
    Calls Tryd.prog 33 #[v, .string ⟨#[107, 101, 121]⟩, .int .i32 x, .int .i32 y] w fun e w' => OtherE w z e w' := by
  obtain ⟨A0, c0, A1, c1, A3, c3, A4, c4, A5, c5, A6, c6, A7, c7, rfl⟩ := hv.form
  have HV := Lib.hid hv
  have HS := Lib.hid hs
  have HZ := Lib.hid hz
  obtain ⟨w1, hW1⟩ : ∃ W, (w.alloc (.cells #[.slice A0 s.data.length c0, .slice A1 s.ret.length c1, .int .i32 s.a, .slice A3 s.mem.length c3, .slice A4 s.cells.length c4, .slice A5 s.vars.length c5, .slice A6 s.out.length c6, .slice A7 s.inp.length c7, .int .i64 s.fault, .int .i64 s.fuel] 32)).alloc (.cells #[.slice none 0 0, .slice none 0 0, .int .i32 0, .slice none 0 0, .slice none 0 0, .slice none 0 0, .slice none 0 0, .slice none 0 0, .int .i64 0, .int .i64 0] 32) = W := ⟨_, rfl⟩
  have HB1 : Hid (Below w.heap.size w w1) := Lib.hid (hW1 ▸ bl_alloc (bl_alloc (Below.refl _ _) _) _)
  have HK1 : Hid (Bx w1 w.heap.size [(#[.slice A0 s.data.length c0, .slice A1 s.ret.length c1, .int .i32 s.a, .slice A3 s.mem.length c3, .slice A4 s.cells.length c4, .slice A5 s.vars.length c5, .slice A6 s.out.length c6, .slice A7 s.inp.length c7, .int .i64 s.fault, .int .i64 s.fuel], 32), (#[.slice none 0 0, .slice none 0 0, .int .i32 0, .slice none 0 0, .slice none 0 0, .slice none 0 0, .slice none 0 0, .slice none 0 0, .int .i64 0, .int .i64 0], 32)]) := Lib.hid (hW1 ▸ (Bx.two w #[.slice A0 s.data.length c0, .slice A1 s.ret.length c1, .int .i32 s.a, .slice A3 s.mem.length c3, .slice A4 s.cells.length c4, .slice A5 s.vars.length c5, .slice A6 s.out.length c6, .slice A7 s.inp.length c7, .int .i64 s.fault, .int .i64 s.fuel] #[.slice none 0 0, .slice none 0 0, .int .i32 0, .slice none 0 0, .slice none 0 0, .slice none 0 0, .slice none 0 0, .slice none 0 0, .int .i64 0, .int .i64 0] 32 32))
  have b0 := blk_cell HK1.out.1
  have y0 := blk_lt HK1.out.1
  have b1 := blk_cell HK1.out.2.1
  have g1 := blk_frozen HK1.out.2.1
  have y1 := blk_lt HK1.out.2.1
  have hlo1 : w.heap.size + 2 ≤ w1.heap.size := by omega
  have HT : Hid (0 ≤ s.data.length) := Lib.hid (Nat.zero_le _)
  have e0 : ¬ ((0 : Int) < (s.inp.length : Int)) := by rw [hn]; simp
  have HS1 : Hid (putSt s 0 [(-1)] = z) := Lib.hid hz.symm
  have hzi : z.inp = [] := by rw [hz]; unfold putSt; split <;> exact hn
  have ezl : z.inp.length = 0 := by rw [hzi]; rfl
  have HZL := Lib.hid ezl
  have e1 : ¬ ((0 : Int) < (z.inp.length : Int)) := by rw [hzi]; simp
  have hfc : (z.fault == 0) = true ∨ (z.fault == 0) = false := by cases (z.fault == 0) <;> simp
  clear hn hzi ezl
  clear hv hz
  go_enter Tryd.func33, Tryd.ntmps33
  go_wp2_with fail
  have HPT := Lib.hid (l08Put_at s _ 0 1 0 (some ⟨w1.heap.size, 0, none⟩) 1 [(-1)] (w1.alloc (.cells #[.int .i32 (-1)] 21)) (HV.out.keepB (bl_alloc HB1.out (.cells #[.int .i32 (-1)] 21))) HS.out HT.out rfl rfl (Row.made (w1) #[.int .i32 (-1)] 21 1 1 (by decide) rfl).rd (by omega))
  refine HPT.out.mono ?_
  rintro e w4 ⟨v4, rfl, hO, hb⟩
  rw [HS1.out] at hO
  obtain ⟨E0, e0, E1, e1, E3, e3, E4, e4, E5, e5, E6, e6, E7, e7, rfl⟩ := hO.k.form
  have HB4 := Lib.hid (bl_call (bl_alloc HB1.out (.cells #[.int .i32 (-1)] 21)) hb)
  have HK4 := Lib.hid ((HK1.out.alloc (.cells #[.int .i32 (-1)] 21)).call hb)
  have hl4 : w.heap.size + 2 ≤ (w1.alloc (.cells #[.int .i32 (-1)] 21)).heap.size := (by first | omega | (simp; omega))
  have h4 := hb.size
  obtain ⟨lo, hlo⟩ : ∃ n, (w1.alloc (.cells #[.int .i32 (-1)] 21)).heap.size = n := ⟨_, rfl⟩
  rw [hlo] at hO hl4 h4
  obtain ⟨W5, hW5⟩ : ∃ W, w4.alloc (.cells #[.slice E0 z.data.length e0, .slice E1 z.ret.length e1, .int .i32 z.a, .slice E3 z.mem.length e3, .slice E4 z.cells.length e4, .slice E5 z.vars.length e5, .slice E6 z.out.length e6, .slice E7 z.inp.length e7, .int .i64 z.fault, .int .i64 z.fuel] 32) = W := ⟨_, rfl⟩
  have HX5 : Hid (StX W5 w4.heap.size lo z) := Lib.hid (hW5 ▸ StX.of hO)
  have hb5 : Below w4.heap.size w4 W5 := hW5 ▸ bl_alloc (Below.refl _ _) _
  have h45' : w4.heap.size < W5.heap.size := by rw [← hW5]; simp
  have HB5 := Lib.hid (bl_call HB4.out hb5)
  have HK5 := Lib.hid (HK4.out.call hb5)
  have hloW : lo ≤ W5.heap.size := by omega
  clear hO hb hb5 hlo b0 y0 b1 g1 y1
  have b0 := blk_cell HK5.out.1
  have y0 := blk_lt HK5.out.1
  have b1 := blk_cell HK5.out.2.1
  have g1 := blk_frozen HK5.out.2.1
  have y1 := blk_lt HK5.out.2.1
  obtain ⟨J0, j0, J1, j1, J3, j3, J4, j4, J5, j5, J6, j6, J7, j7, hg9, hk9⟩ := HX5.out.read
  have HV9 := Lib.hid hk9
  have c9 := blk_cell hg9
  have z9 := blk_lt hg9
  have HB9 := HB5
  clear hg9 hk9
  rcases hfc with hfc | hfc
  · go_wp2_with fail
    refine bodyPost_ret (v := .agg #[.slice J0 z.data.length j0, .slice J1 z.ret.length j1, .int .i32 z.a, .slice J3 z.mem.length j3, .slice J4 z.cells.length j4, .slice J5 z.vars.length j5, .slice J6 z.out.length j6, .slice J7 z.inp.length j7, .int .i64 z.fault, .int .i64 z.fuel]) (by simp [results, Tryd.results33, go_sem, b1, y1]) rfl ⟨_, rfl, ?_, ?_⟩
    · have h0 : StV W5 (w.heap.size + 2) W5.heap.size z (.agg #[.slice J0 z.data.length j0, .slice J1 z.ret.length j1, .int .i32 z.a, .slice J3 z.mem.length j3, .slice J4 z.cells.length j4, .slice J5 z.vars.length j5, .slice J6 z.out.length j6, .slice J7 z.inp.length j7, .int .i64 z.fault, .int .i64 z.fuel]) := ⟨Nat.le_refl _, fun u1 hk => HV9.out u1 (fun x p1 p2 p3 => hk x (by omega) p2)⟩
      have h1 : w.heap.size + 1 < w.heap.size + 2 := by omega
      have hz9 : ∀ (W : World) (u : Value), StV W (w.heap.size + 2) W5.heap.size z u → W5.heap.size = W.heap.size → StV W w.heap.size W.heap.size z u := fun W u h e => (h.low (by omega)).top (by omega) (Nat.le_refl _)
      refine hz9 _ _ ?_ (by simp)
      with_reducible repeat (first | exact h0 | refine StV.far ?_ h1 _)
    · have h0 := HB9.out
      with_reducible repeat (first | exact h0 | apply bl_set1)
  · go_wp2_with fail
    refine bodyPost_ret (v := .agg #[.slice J0 z.data.length j0, .slice J1 z.ret.length j1, .int .i32 z.a, .slice J3 z.mem.length j3, .slice J4 z.cells.length j4, .slice J5 z.vars.length j5, .slice J6 z.out.length j6, .slice J7 z.inp.length j7, .int .i64 z.fault, .int .i64 z.fuel]) (by simp [results, Tryd.results33, go_sem, b1, y1]) rfl ⟨_, rfl, ?_, ?_⟩
    · have h0 : StV W5 (w.heap.size + 2) W5.heap.size z (.agg #[.slice J0 z.data.length j0, .slice J1 z.ret.length j1, .int .i32 z.a, .slice J3 z.mem.length j3, .slice J4 z.cells.length j4, .slice J5 z.vars.length j5, .slice J6 z.out.length j6, .slice J7 z.inp.length j7, .int .i64 z.fault, .int .i64 z.fuel]) := ⟨Nat.le_refl _, fun u1 hk => HV9.out u1 (fun x p1 p2 p3 => hk x (by omega) p2)⟩
      have h1 : w.heap.size + 1 < w.heap.size + 2 := by omega
      have hz9 : ∀ (W : World) (u : Value), StV W (w.heap.size + 2) W5.heap.size z u → W5.heap.size = W.heap.size → StV W w.heap.size W.heap.size z u := fun W u h e => (h.low (by omega)).top (by omega) (Nat.le_refl _)
      refine hz9 _ _ ?_ (by simp)
      with_reducible repeat (first | exact h0 | refine StV.far ?_ h1 _)
    · have h0 := HB9.out
      with_reducible repeat (first | exact h0 | apply bl_set1)
set_option maxRecDepth 100000 in
set_option maxHeartbeats 4000000 in
theorem other_18_full (s z : LSt) (v : Value) (w : World) (hv : StK w s v) (hs : s.small 1048576) (x y : Int) (b : Int) (r : List Int) (hn : s.inp = b :: r) (hfu : s.data.length = 16) (hz : z = { s with fault := 2 }) :
    Calls Tryd.prog 33 #[v, .string ⟨#[107, 101, 121]⟩, .int .i32 x, .int .i32 y] w fun e w' => OtherE w z e w' := by
  have hv' := hv
  obtain ⟨A0, c0, A1, c1, A3, c3, A4, c4, A5, c5, A6, c6, A7, c7, rfl, R0, R1, R3, R4, R5, R6, R7, -⟩ := hv
  rw [hn] at R7
  obtain ⟨ad, rfl, hcell⟩ := R7.at_ (j := 0) (u := .int .u8 b) rfl
  have HR7 := Lib.hid R7
  have hv := hv'
  clear hv' R0 R1 R3 R4 R5 R6 R7 hcell
  have HV := Lib.hid hv
  have HS := Lib.hid hs
  have HZ := Lib.hid hz
  obtain ⟨w1, hW1⟩ : ∃ W, (w.alloc (.cells #[.slice A0 s.data.length c0, .slice A1 s.ret.length c1, .int .i32 s.a, .slice A3 s.mem.length c3, .slice A4 s.cells.length c4, .slice A5 s.vars.length c5, .slice A6 s.out.length c6, .slice (some ad) s.inp.length c7, .int .i64 s.fault, .int .i64 s.fuel] 32)).alloc (.cells #[.slice none 0 0, .slice none 0 0, .int .i32 0, .slice none 0 0, .slice none 0 0, .slice none 0 0, .slice none 0 0, .slice none 0 0, .int .i64 0, .int .i64 0] 32) = W := ⟨_, rfl⟩
  have HB1 : Hid (Below w.heap.size w w1) := Lib.hid (hW1 ▸ bl_alloc (bl_alloc (Below.refl _ _) _) _)
  have HK1 : Hid (Bx w1 w.heap.size [(#[.slice A0 s.data.length c0, .slice A1 s.ret.length c1, .int .i32 s.a, .slice A3 s.mem.length c3, .slice A4 s.cells.length c4, .slice A5 s.vars.length c5, .slice A6 s.out.length c6, .slice (some ad) s.inp.length c7, .int .i64 s.fault, .int .i64 s.fuel], 32), (#[.slice none 0 0, .slice none 0 0, .int .i32 0, .slice none 0 0, .slice none 0 0, .slice none 0 0, .slice none 0 0, .slice none 0 0, .int .i64 0, .int .i64 0], 32)]) := Lib.hid (hW1 ▸ (Bx.two w #[.slice A0 s.data.length c0, .slice A1 s.ret.length c1, .int .i32 s.a, .slice A3 s.mem.length c3, .slice A4 s.cells.length c4, .slice A5 s.vars.length c5, .slice A6 s.out.length c6, .slice (some ad) s.inp.length c7, .int .i64 s.fault, .int .i64 s.fuel] #[.slice none 0 0, .slice none 0 0, .int .i32 0, .slice none 0 0, .slice none 0 0, .slice none 0 0, .slice none 0 0, .slice none 0 0, .int .i64 0, .int .i64 0] 32 32))
  have b0 := blk_cell HK1.out.1
  have y0 := blk_lt HK1.out.1
  have b1 := blk_cell HK1.out.2.1
  have g1 := blk_frozen HK1.out.2.1
  have y1 := blk_lt HK1.out.2.1
  have hlo1 : w.heap.size + 2 ≤ w1.heap.size := by omega
  have HT : Hid (0 ≤ s.data.length) := Lib.hid (Nat.zero_le _)
  have e0 : (0 : Int) < (s.inp.length : Int) := by rw [hn]; simp
  have e0n : 0 < s.inp.length := by rw [hn]; simp
  have hcw := (HR7.out.keepB HB1.out).some_ 0 (.int .u8 b) rfl
  have hcell1 : w1.cell? ad = some (.int .u8 b) := by rw [← Addr.add_zero' ad]; exact hcw
  have hzp : putSt s 0 [w32 b] = z := by rw [hz, putSt, if_pos (by simp; omega)]
  have HS1 : Hid (putSt s 0 [w32 b] = z) := Lib.hid hzp
  have ezf : (z.fault == 0) = false := by rw [hz]; rfl
  clear hn hfu hzp hcw
  clear hv hz
  go_enter Tryd.func33, Tryd.ntmps33
  go_wp2_with fail
  have HPT := Lib.hid (l08Put_at s _ 0 1 0 (some ⟨w1.heap.size, 0, none⟩) 1 [(w32 b)] (w1.alloc (.cells #[.int .i32 (w32 b)] 21)) (HV.out.keepB (bl_alloc HB1.out (.cells #[.int .i32 (w32 b)] 21))) HS.out HT.out rfl rfl (Row.made (w1) #[.int .i32 (w32 b)] 21 1 1 (by decide) rfl).rd (by omega))
  refine HPT.out.mono ?_
  rintro e w4 ⟨v4, rfl, hO, hb⟩
  rw [HS1.out] at hO
  obtain ⟨E0, e0, E1, e1, E3, e3, E4, e4, E5, e5, E6, e6, E7, e7, rfl⟩ := hO.k.form
  have HB4 := Lib.hid (bl_call (bl_alloc HB1.out (.cells #[.int .i32 (w32 b)] 21)) hb)
  have HK4 := Lib.hid ((HK1.out.alloc (.cells #[.int .i32 (w32 b)] 21)).call hb)
  have hl4 : w.heap.size + 2 ≤ (w1.alloc (.cells #[.int .i32 (w32 b)] 21)).heap.size := (by first | omega | (simp; omega))
  have h4 := hb.size
  obtain ⟨lo, hlo⟩ : ∃ n, (w1.alloc (.cells #[.int .i32 (w32 b)] 21)).heap.size = n := ⟨_, rfl⟩
  rw [hlo] at hO hl4 h4
  obtain ⟨W5, hW5⟩ : ∃ W, w4.alloc (.cells #[.slice E0 z.data.length e0, .slice E1 z.ret.length e1, .int .i32 z.a, .slice E3 z.mem.length e3, .slice E4 z.cells.length e4, .slice E5 z.vars.length e5, .slice E6 z.out.length e6, .slice E7 z.inp.length e7, .int .i64 z.fault, .int .i64 z.fuel] 32) = W := ⟨_, rfl⟩
  have HX5 : Hid (StX W5 w4.heap.size lo z) := Lib.hid (hW5 ▸ StX.of hO)
  have hb5 : Below w4.heap.size w4 W5 := hW5 ▸ bl_alloc (Below.refl _ _) _
  have h45' : w4.heap.size < W5.heap.size := by rw [← hW5]; simp
  have HB5 := Lib.hid (bl_call HB4.out hb5)
  have HK5 := Lib.hid (HK4.out.call hb5)
  have hloW : lo ≤ W5.heap.size := by omega
  clear hO hb hb5 hlo b0 y0 b1 g1 y1
  have b0 := blk_cell HK5.out.1
  have y0 := blk_lt HK5.out.1
  have b1 := blk_cell HK5.out.2.1
  have g1 := blk_frozen HK5.out.2.1
  have y1 := blk_lt HK5.out.2.1
  obtain ⟨J0, j0, J1, j1, J3, j3, J4, j4, J5, j5, J6, j6, J7, j7, hg9, hk9⟩ := HX5.out.read
  have HV9 := Lib.hid hk9
  have c9 := blk_cell hg9
  have z9 := blk_lt hg9
  have HB9 := HB5
  clear hg9 hk9
  go_wp2_with fail
  refine bodyPost_ret (v := .agg #[.slice J0 z.data.length j0, .slice J1 z.ret.length j1, .int .i32 z.a, .slice J3 z.mem.length j3, .slice J4 z.cells.length j4, .slice J5 z.vars.length j5, .slice J6 z.out.length j6, .slice J7 z.inp.length j7, .int .i64 z.fault, .int .i64 z.fuel]) (by simp [results, Tryd.results33, go_sem, b1, y1]) rfl ⟨_, rfl, ?_, ?_⟩
  · have h0 : StV W5 (w.heap.size + 2) W5.heap.size z (.agg #[.slice J0 z.data.length j0, .slice J1 z.ret.length j1, .int .i32 z.a, .slice J3 z.mem.length j3, .slice J4 z.cells.length j4, .slice J5 z.vars.length j5, .slice J6 z.out.length j6, .slice J7 z.inp.length j7, .int .i64 z.fault, .int .i64 z.fuel]) := ⟨Nat.le_refl _, fun u1 hk => HV9.out u1 (fun x p1 p2 p3 => hk x (by omega) p2)⟩
    have h1 : w.heap.size + 1 < w.heap.size + 2 := by omega
    have hz9 : ∀ (W : World) (u : Value), StV W (w.heap.size + 2) W5.heap.size z u → W5.heap.size = W.heap.size → StV W w.heap.size W.heap.size z u := fun W u h e => (h.low (by omega)).top (by omega) (Nat.le_refl _)
    refine hz9 _ _ ?_ (by simp)
    with_reducible repeat (first | exact h0 | refine StV.far ?_ h1 _)
  · have h0 := HB9.out
    with_reducible repeat (first | exact h0 | apply bl_set1)
set_option maxRecDepth 100000 in
set_option maxHeartbeats 4000000 in
theorem other_18_ok (s z : LSt) (v : Value) (w : World) (hv : StK w s v) (hs : s.small 1048576) (x y : Int) (b : Int) (r : List Int) (hn : s.inp = b :: r) (hf0 : s.fault = 0) (hfu : s.data.length < 16) (hz : z = { putSt s 0 [w32 b] with inp := r }) :
    Calls Tryd.prog 33 #[v, .string ⟨#[107, 101, 121]⟩, .int .i32 x, .int .i32 y] w fun e w' => OtherE w z e w' := by
  have hv' := hv
  obtain ⟨A0, c0, A1, c1, A3, c3, A4, c4, A5, c5, A6, c6, A7, c7, rfl, R0, R1, R3, R4, R5, R6, R7, -⟩ := hv
  rw [hn] at R7
  obtain ⟨ad, rfl, hcell⟩ := R7.at_ (j := 0) (u := .int .u8 b) rfl
  have HR7 := Lib.hid R7
  have hv := hv'
  clear hv' R0 R1 R3 R4 R5 R6 R7 hcell
  have HV := Lib.hid hv
  have HS := Lib.hid hs
  have HZ := Lib.hid hz
  obtain ⟨w1, hW1⟩ : ∃ W, (w.alloc (.cells #[.slice A0 s.data.length c0, .slice A1 s.ret.length c1, .int .i32 s.a, .slice A3 s.mem.length c3, .slice A4 s.cells.length c4, .slice A5 s.vars.length c5, .slice A6 s.out.length c6, .slice (some ad) s.inp.length c7, .int .i64 s.fault, .int .i64 s.fuel] 32)).alloc (.cells #[.slice none 0 0, .slice none 0 0, .int .i32 0, .slice none 0 0, .slice none 0 0, .slice none 0 0, .slice none 0 0, .slice none 0 0, .int .i64 0, .int .i64 0] 32) = W := ⟨_, rfl⟩
  have HB1 : Hid (Below w.heap.size w w1) := Lib.hid (hW1 ▸ bl_alloc (bl_alloc (Below.refl _ _) _) _)
  have HK1 : Hid (Bx w1 w.heap.size [(#[.slice A0 s.data.length c0, .slice A1 s.ret.length c1, .int .i32 s.a, .slice A3 s.mem.length c3, .slice A4 s.cells.length c4, .slice A5 s.vars.length c5, .slice A6 s.out.length c6, .slice (some ad) s.inp.length c7, .int .i64 s.fault, .int .i64 s.fuel], 32), (#[.slice none 0 0, .slice none 0 0, .int .i32 0, .slice none 0 0, .slice none 0 0, .slice none 0 0, .slice none 0 0, .slice none 0 0, .int .i64 0, .int .i64 0], 32)]) := Lib.hid (hW1 ▸ (Bx.two w #[.slice A0 s.data.length c0, .slice A1 s.ret.length c1, .int .i32 s.a, .slice A3 s.mem.length c3, .slice A4 s.cells.length c4, .slice A5 s.vars.length c5, .slice A6 s.out.length c6, .slice (some ad) s.inp.length c7, .int .i64 s.fault, .int .i64 s.fuel] #[.slice none 0 0, .slice none 0 0, .int .i32 0, .slice none 0 0, .slice none 0 0, .slice none 0 0, .slice none 0 0, .slice none 0 0, .int .i64 0, .int .i64 0] 32 32))
  have b0 := blk_cell HK1.out.1
  have y0 := blk_lt HK1.out.1
  have b1 := blk_cell HK1.out.2.1
  have g1 := blk_frozen HK1.out.2.1
  have y1 := blk_lt HK1.out.2.1
  have hlo1 : w.heap.size + 2 ≤ w1.heap.size := by omega
  have HT : Hid (0 ≤ s.data.length) := Lib.hid (Nat.zero_le _)
  have e0 : (0 : Int) < (s.inp.length : Int) := by rw [hn]; simp
  have e0n : 0 < s.inp.length := by rw [hn]; simp
  have hcw := (HR7.out.keepB HB1.out).some_ 0 (.int .u8 b) rfl
  have hcell1 : w1.cell? ad = some (.int .u8 b) := by rw [← Addr.add_zero' ad]; exact hcw
  obtain ⟨s1, hs1⟩ : ∃ s1, putSt s 0 [w32 b] = s1 := ⟨_, rfl⟩
  have HS1 := Lib.hid hs1
  have hp1 : s1 = { s with data := s.data.take (s.data.length - 0) ++ [w32 b] } := by rw [← hs1, putSt, if_neg (by simp; omega)]
  have ezf : (s1.fault == 0) = true := by rw [hp1]; simpa using hf0
  have HI1 : Hid (s1.inp = b :: r) := Lib.hid (by rw [hp1]; exact hn)
  have HZ1 : Hid (z = { s1 with inp := r }) := Lib.hid (by rw [hz, hs1])
  have hrl : r.length ≤ 1048576 := by have := hs.2.2.2.2.2.2; rw [hn] at this; simp at this; omega
  clear hn hf0 hfu hs1 hp1 hcw
  clear hv hz
  go_enter Tryd.func33, Tryd.ntmps33
  go_wp2_with fail
  have HPT := Lib.hid (l08Put_at s _ 0 1 0 (some ⟨w1.heap.size, 0, none⟩) 1 [(w32 b)] (w1.alloc (.cells #[.int .i32 (w32 b)] 21)) (HV.out.keepB (bl_alloc HB1.out (.cells #[.int .i32 (w32 b)] 21))) HS.out HT.out rfl rfl (Row.made (w1) #[.int .i32 (w32 b)] 21 1 1 (by decide) rfl).rd (by omega))
  refine HPT.out.mono ?_
  rintro e w4 ⟨v4, rfl, hO, hb⟩
  rw [HS1.out] at hO
  obtain ⟨E0, e0, E1, e1, E3, e3, E4, e4, E5, e5, E6, e6, E7, e7, rfl⟩ := hO.k.form
  have HB4 := Lib.hid (bl_call (bl_alloc HB1.out (.cells #[.int .i32 (w32 b)] 21)) hb)
  have HK4 := Lib.hid ((HK1.out.alloc (.cells #[.int .i32 (w32 b)] 21)).call hb)
  have hl4 : w.heap.size + 2 ≤ (w1.alloc (.cells #[.int .i32 (w32 b)] 21)).heap.size := (by first | omega | (simp; omega))
  have h4 := hb.size
  obtain ⟨lo, hlo⟩ : ∃ n, (w1.alloc (.cells #[.int .i32 (w32 b)] 21)).heap.size = n := ⟨_, rfl⟩
  rw [hlo] at hO hl4 h4
  obtain ⟨W5, hW5⟩ : ∃ W, w4.alloc (.cells #[.slice E0 s1.data.length e0, .slice E1 s1.ret.length e1, .int .i32 s1.a, .slice E3 s1.mem.length e3, .slice E4 s1.cells.length e4, .slice E5 s1.vars.length e5, .slice E6 s1.out.length e6, .slice E7 s1.inp.length e7, .int .i64 s1.fault, .int .i64 s1.fuel] 32) = W := ⟨_, rfl⟩
  have HX5 : Hid (StX W5 w4.heap.size lo s1) := Lib.hid (hW5 ▸ StX.of hO)
  have hb5 : Below w4.heap.size w4 W5 := hW5 ▸ bl_alloc (Below.refl _ _) _
  have h45' : w4.heap.size < W5.heap.size := by rw [← hW5]; simp
  have HB5 := Lib.hid (bl_call HB4.out hb5)
  have HK5 := Lib.hid (HK4.out.call hb5)
  have hloW : lo ≤ W5.heap.size := by omega
  clear hO hb hb5 hlo b0 y0 b1 g1 y1
  have b0 := blk_cell HK5.out.1
  have y0 := blk_lt HK5.out.1
  have b1 := blk_cell HK5.out.2.1
  have g1 := blk_frozen HK5.out.2.1
  have y1 := blk_lt HK5.out.2.1
  obtain ⟨D0, d0, D1, d1, D3, d3, D4, d4, D5, d5, D6, d6, D7, d7, hg, R7, hc7, hK⟩ := HX5.out.in7
  have hil : s1.inp.length = r.length + 1 := by rw [HI1.out]; rfl
  rw [HI1.out] at R7 hK
  rw [hil] at hc7
  have e1l : (0 : Int) < (s1.inp.length : Int) := by omega
  have hilI : (s1.inp.length : Int) - 1 = (r.length : Int) := by omega
  have hiln : s1.inp.length - 1 = r.length := by omega
  have hil1 : 1 ≤ s1.inp.length := by omega
  obtain ⟨ad2, rfl, -⟩ := R7.at_ (j := 0) (u := .int .u8 b) rfl
  have cg5 := blk_cell hg
  have fg5 := blk_frozen hg
  have zg5 := blk_lt hg
  have HIL := Lib.hid hil
  clear hg R7 hil
  have hd : d7 = 1 ∨ ∃ m, d7 = m + 2 := by
    rcases Nat.lt_or_ge d7 2 with h | h
    · exact .inl (by omega)
    · exact .inr ⟨d7 - 2, by omega⟩
  rcases hd with rfl | ⟨m, rfl⟩
  · obtain rfl : r = [] := List.eq_nil_of_length_eq_zero (by omega)
    have hh := hK [] (some ad2) 0 (by simp) (fun w1 h => Rd.nil _ _)
    rw [← HZ1.out] at hh
    obtain ⟨w9, hw9⟩ : ∃ W, W5.setCell ⟨w4.heap.size, 7, none⟩ (.slice (some ad2) 0 0) = W := ⟨_, rfl⟩
    rw [show W5.setCell ⟨w4.heap.size, 7, none⟩ (.slice (some ad2) ([] : List Int).length 0) = w9 from hw9] at hh
    clear hK
    have HB9 := Lib.hid (FrG.below hh.2 HB5.out (by omega) (by omega) (by omega)); have HK9 := Lib.hid (HK5.out.fr hh.2 (by simp only [List.length_cons, List.length_nil]; omega) (by simp only [List.length_cons, List.length_nil]; omega)); have hsz9 := hh.2.size; obtain ⟨J0, j0, J1, j1, J3, j3, J4, j4, J5, j5, J6, j6, J7, j7, hg9, hk9⟩ := hh.1.read; have HV9 := Lib.hid hk9; have c9 := blk_cell hg9; have z9 := blk_lt hg9; have b0 := blk_cell HK9.out.1; have y0 := blk_lt HK9.out.1; have b1 := blk_cell HK9.out.2.1; have g1 := blk_frozen HK9.out.2.1; have y1 := blk_lt HK9.out.2.1; clear hg9 hk9 hh
    go_wp2_with fail
    refine bodyPost_ret (v := .agg #[.slice J0 z.data.length j0, .slice J1 z.ret.length j1, .int .i32 z.a, .slice J3 z.mem.length j3, .slice J4 z.cells.length j4, .slice J5 z.vars.length j5, .slice J6 z.out.length j6, .slice J7 z.inp.length j7, .int .i64 z.fault, .int .i64 z.fuel]) (by simp [results, Tryd.results33, go_sem, b1, y1]) rfl ⟨_, rfl, ?_, ?_⟩
    · have h0 : StV w9 (w.heap.size + 2) w9.heap.size z (.agg #[.slice J0 z.data.length j0, .slice J1 z.ret.length j1, .int .i32 z.a, .slice J3 z.mem.length j3, .slice J4 z.cells.length j4, .slice J5 z.vars.length j5, .slice J6 z.out.length j6, .slice J7 z.inp.length j7, .int .i64 z.fault, .int .i64 z.fuel]) := ⟨Nat.le_refl _, fun u1 hk => HV9.out u1 (fun x p1 p2 p3 => hk x (by omega) p2)⟩
      have h1 : w.heap.size + 1 < w.heap.size + 2 := by omega
      have hz9 : ∀ (W : World) (u : Value), StV W (w.heap.size + 2) w9.heap.size z u → w9.heap.size = W.heap.size → StV W w.heap.size W.heap.size z u := fun W u h e => (h.low (by omega)).top (by omega) (Nat.le_refl _)
      refine hz9 _ _ ?_ (by simp)
      with_reducible repeat (first | exact h0 | refine StV.far ?_ h1 _)
    · have h0 := HB9.out
      with_reducible repeat (first | exact h0 | apply bl_set1)
  · skip
    have hh := hK r (some ⟨ad2.block, ad2.off + 1, none⟩) (m + 1) (by omega) (fun w1 h => by have := h.drop 1; rw [show (1 : Nat) = 0 + 1 from rfl, add_field ad2 0 1 (by omega), Addr.add_zero'] at this; simpa using this)
    rw [← HZ1.out] at hh
    obtain ⟨w9, hw9⟩ : ∃ W, W5.setCell ⟨w4.heap.size, 7, none⟩ (.slice (some ⟨ad2.block, ad2.off + 1, none⟩) r.length (m + 1)) = W := ⟨_, rfl⟩
    rw [show W5.setCell ⟨w4.heap.size, 7, none⟩ (.slice (some ⟨ad2.block, ad2.off + 1, none⟩) (r : List Int).length (m + 1)) = w9 from hw9] at hh
    clear hK
    have HB9 := Lib.hid (FrG.below hh.2 HB5.out (by omega) (by omega) (by omega)); have HK9 := Lib.hid (HK5.out.fr hh.2 (by simp only [List.length_cons, List.length_nil]; omega) (by simp only [List.length_cons, List.length_nil]; omega)); have hsz9 := hh.2.size; obtain ⟨J0, j0, J1, j1, J3, j3, J4, j4, J5, j5, J6, j6, J7, j7, hg9, hk9⟩ := hh.1.read; have HV9 := Lib.hid hk9; have c9 := blk_cell hg9; have z9 := blk_lt hg9; have b0 := blk_cell HK9.out.1; have y0 := blk_lt HK9.out.1; have b1 := blk_cell HK9.out.2.1; have g1 := blk_frozen HK9.out.2.1; have y1 := blk_lt HK9.out.2.1; clear hg9 hk9 hh
    go_wp2_with fail
    refine bodyPost_ret (v := .agg #[.slice J0 z.data.length j0, .slice J1 z.ret.length j1, .int .i32 z.a, .slice J3 z.mem.length j3, .slice J4 z.cells.length j4, .slice J5 z.vars.length j5, .slice J6 z.out.length j6, .slice J7 z.inp.length j7, .int .i64 z.fault, .int .i64 z.fuel]) (by simp [results, Tryd.results33, go_sem, b1, y1]) rfl ⟨_, rfl, ?_, ?_⟩
    · have h0 : StV w9 (w.heap.size + 2) w9.heap.size z (.agg #[.slice J0 z.data.length j0, .slice J1 z.ret.length j1, .int .i32 z.a, .slice J3 z.mem.length j3, .slice J4 z.cells.length j4, .slice J5 z.vars.length j5, .slice J6 z.out.length j6, .slice J7 z.inp.length j7, .int .i64 z.fault, .int .i64 z.fuel]) := ⟨Nat.le_refl _, fun u1 hk => HV9.out u1 (fun x p1 p2 p3 => hk x (by omega) p2)⟩
      have h1 : w.heap.size + 1 < w.heap.size + 2 := by omega
      have hz9 : ∀ (W : World) (u : Value), StV W (w.heap.size + 2) w9.heap.size z u → w9.heap.size = W.heap.size → StV W w.heap.size W.heap.size z u := fun W u h e => (h.low (by omega)).top (by omega) (Nat.le_refl _)
      refine hz9 _ _ ?_ (by simp)
      with_reducible repeat (first | exact h0 | refine StV.far ?_ h1 _)
    · have h0 := HB9.out
      with_reducible repeat (first | exact h0 | apply bl_set1)
end Go.Proofs.YtgljbcdlldhlfaaDoor

/- The reference's built-in words: contracts of l08Place, l08Divide, l08Fetch, l08Say, l08Back. -/
import Derived.Test.YtgljbcdlldhlfaaDoorSa
set_option linter.unusedVariables false
set_option linter.unusedSimpArgs false
namespace Go.Proofs.YtgljbcdlldhlfaaDoor
open Go.RowKit

/-- What a word of the reference gives back. -/
def OtherE (w : World) (z : LSt) (e : Ending) (w' : World) : Prop := ∃ v', e = .returned v' ∧ StV w' w.heap.size w'.heap.size z v' ∧ Below w.heap.size w w'
theorem iwrap32 (u : Int) : IntKind.wrap .i32 u = wrap32 u := by
  simp only [IntKind.wrap, IntKind.signed, IntKind.bits, wrap32]
  simp
  split <;> omega
theorem info_SlotB : (Tryd.prog.info? 77).map (fun i => (i.zero, i.size, i.bytes)) = some (some (.agg #[.int .i64 0, .int .i32 0]), 2, 16) := by kernel_rfl
theorem info_u8B : (Tryd.prog.info? 5).map (fun i => (i.zero, i.size, i.bytes)) = some (some (.int .u8 0), 1, 1) := by kernel_rfl
def placeI (s : LSt) (y : Int) : Int := if 0 ≤ y ∧ y ≤ 31 then y else if 1024 ≤ y ∧ y ≤ 1024 + (s.cells.length : Int) - 1 then 32 + y - 1024 else -1
set_option maxRecDepth 100000 in
set_option maxHeartbeats 1000000 in
theorem specPlace_calls (s : LSt) (v : Value) (y : Int) (w : World) (hv : StK w s v) (hs : s.small 1048576) (hy : (Lit.int .i32 y).wf = true) :
    Calls Tryd.prog 93 #[v, .int .i32 y] w fun e w' => e = .returned (.int .i64 (placeI s y)) ∧ Below w.heap.size w w' := by
  obtain ⟨A0, c0, A1, c1, A3, c3, A4, c4, A5, c5, A6, c6, A7, c7, rfl⟩ := hv.form
  have w64 := wrap64_i32 hy
  have hr := i32_range hy
  have hc : s.cells.length ≤ 1048576 := hs.2.2.2.1
  clear hv hy
  have hcases : (0 ≤ y ∧ y ≤ 31) ∨ (¬ (0 ≤ y ∧ y ≤ 31) ∧ (1024 ≤ y ∧ y ≤ 1024 + (s.cells.length : Int) - 1)) ∨ (¬ (0 ≤ y ∧ y ≤ 31) ∧ ¬ (1024 ≤ y ∧ y ≤ 1024 + (s.cells.length : Int) - 1)) := by omega
  rcases hcases with h1 | ⟨h1, h2⟩ | ⟨h1, h2⟩
  · have HP : Hid (placeI s y = y) := Lib.hid (by simp only [placeI, if_pos h1])
    have b1 : decide (0 ≤ y ∧ y ≤ 31) = true := decide_eq_true h1
    clear h1
    go_enter Tryd.func93, Tryd.ntmps93
    go_wp2_with (go_at_call 61; (with_reducible refine (specIn_calls _ _ _ _).mono ?_); rintro e w1 ⟨rfl, rfl⟩; first | rw [b1] | rw [b2])
    go_ret
    exact ⟨by rw [HP.out]; rfl, bl_alloc (Below.refl _ _) _⟩
  · have HP : Hid (placeI s y = 32 + y - 1024) := Lib.hid (by simp only [placeI, if_neg h1, if_pos h2])
    have b1 : decide (0 ≤ y ∧ y ≤ 31) = false := decide_eq_false h1
    have b2 : decide (1024 ≤ y ∧ y ≤ 1024 + (s.cells.length : Int) - 1) = true := decide_eq_true h2
    clear h1 h2
    go_enter Tryd.func93, Tryd.ntmps93
    go_wp2_with (go_at_call 61; (with_reducible refine (specIn_calls _ _ _ _).mono ?_); rintro e w1 ⟨rfl, rfl⟩; first | rw [b1] | rw [b2])
    go_ret
    exact ⟨by rw [HP.out]; rfl, bl_alloc (Below.refl _ _) _⟩
  · have HP : Hid (placeI s y = -1) := Lib.hid (by simp only [placeI, if_neg h1, if_neg h2])
    have b1 : decide (0 ≤ y ∧ y ≤ 31) = false := decide_eq_false h1
    have b2 : decide (1024 ≤ y ∧ y ≤ 1024 + (s.cells.length : Int) - 1) = false := decide_eq_false h2
    clear h1 h2
    go_enter Tryd.func93, Tryd.ntmps93
    go_wp2_with (go_at_call 61; (with_reducible refine (specIn_calls _ _ _ _).mono ?_); rintro e w1 ⟨rfl, rfl⟩; first | rw [b1] | rw [b2])
    go_ret
    exact ⟨by rw [HP.out]; rfl, bl_alloc (Below.refl _ _) _⟩
set_option maxRecDepth 100000 in
set_option maxHeartbeats 4000000 in
theorem divide_zero (s z : LSt) (v : Value) (w : World) (hv : StK w s v) (hs : s.small 1048576) (x : Int) (hz : z = { s with fault := 5 }) :
    Calls Tryd.prog 70 #[v, .int .i32 x, .int .i32 0] w fun e w' => OtherE w z e w' := by
  obtain ⟨A0, c0, A1, c1, A3, c3, A4, c4, A5, c5, A6, c6, A7, c7, rfl⟩ := hv.form
  have HV := Lib.hid hv
  have HS := Lib.hid hs
  have HZ := Lib.hid hz
  obtain ⟨w1, hW1⟩ : ∃ W, (w.alloc (.cells #[.slice A0 s.data.length c0, .slice A1 s.ret.length c1, .int .i32 s.a, .slice A3 s.mem.length c3, .slice A4 s.cells.length c4, .slice A5 s.vars.length c5, .slice A6 s.out.length c6, .slice A7 s.inp.length c7, .int .i64 s.fault, .int .i64 s.fuel] 32)).alloc (.cells #[.slice none 0 0, .slice none 0 0, .int .i32 0, .slice none 0 0, .slice none 0 0, .slice none 0 0, .slice none 0 0, .slice none 0 0, .int .i64 0, .int .i64 0] 32) = W := ⟨_, rfl⟩
  have HB1 : Hid (Below w.heap.size w w1) := Lib.hid (hW1 ▸ bl_alloc (bl_alloc (Below.refl _ _) _) _)
  have HK1 : Hid (Bx w1 w.heap.size [(#[.slice A0 s.data.length c0, .slice A1 s.ret.length c1, .int .i32 s.a, .slice A3 s.mem.length c3, .slice A4 s.cells.length c4, .slice A5 s.vars.length c5, .slice A6 s.out.length c6, .slice A7 s.inp.length c7, .int .i64 s.fault, .int .i64 s.fuel], 32), (#[.slice none 0 0, .slice none 0 0, .int .i32 0, .slice none 0 0, .slice none 0 0, .slice none 0 0, .slice none 0 0, .slice none 0 0, .int .i64 0, .int .i64 0], 32)]) := Lib.hid (hW1 ▸ (Bx.two w #[.slice A0 s.data.length c0, .slice A1 s.ret.length c1, .int .i32 s.a, .slice A3 s.mem.length c3, .slice A4 s.cells.length c4, .slice A5 s.vars.length c5, .slice A6 s.out.length c6, .slice A7 s.inp.length c7, .int .i64 s.fault, .int .i64 s.fuel] #[.slice none 0 0, .slice none 0 0, .int .i32 0, .slice none 0 0, .slice none 0 0, .slice none 0 0, .slice none 0 0, .slice none 0 0, .int .i64 0, .int .i64 0] 32 32))
  have b0 := blk_cell HK1.out.1
  have y0 := blk_lt HK1.out.1
  have b1 := blk_cell HK1.out.2.1
  have g1 := blk_frozen HK1.out.2.1
  have y1 := blk_lt HK1.out.2.1
  have hlo1 : w.heap.size + 2 ≤ w1.heap.size := by omega
  clear hv hz
  go_enter Tryd.func70, Tryd.ntmps70
  go_wp2_with fail
  refine (l08Fault_calls s _ 5 w1 (HV.out.keepB HB1.out) HS.out).mono ?_
  rintro e w9 ⟨v9, rfl, hO, hb⟩
  rw [← HZ.out] at hO
  replace hO := hO.v
  obtain ⟨F0, f0, F1, f1, F3, f3, F4, f4, F5, f5, F6, f6, F7, f7, rfl⟩ := hO.k.form
  have HO := Lib.hid hO
  have HB9 := Lib.hid (bl_call HB1.out hb)
  have HK9 := Lib.hid ((HK1.out).call hb)
  have hl9 : w.heap.size + 2 ≤ w1.heap.size := (by first | omega | (simp; omega))
  have hw9 := hb.size
  clear hO hb b0 y0 b1 g1 y1
  have b0 := blk_cell HK9.out.1
  have y0 := blk_lt HK9.out.1
  have b1 := blk_cell HK9.out.2.1
  have g1 := blk_frozen HK9.out.2.1
  have y1 := blk_lt HK9.out.2.1
  go_wp2_with fail
  refine bodyPost_ret (v := .agg #[.slice F0 z.data.length f0, .slice F1 z.ret.length f1, .int .i32 z.a, .slice F3 z.mem.length f3, .slice F4 z.cells.length f4, .slice F5 z.vars.length f5, .slice F6 z.out.length f6, .slice F7 z.inp.length f7, .int .i64 z.fault, .int .i64 z.fuel]) (by simp [results, Tryd.results70, go_sem, b1, y1]) rfl ⟨_, rfl, ?_, ?_⟩
  · have h0 := HO.out.low (lo' := w.heap.size + 2) hl9
    have h1 : w.heap.size + 1 < w.heap.size + 2 := by omega
    have hz9 : ∀ (W : World) (u : Value), StV W (w.heap.size + 2) w9.heap.size z u → w9.heap.size = W.heap.size → StV W w.heap.size W.heap.size z u := fun W u h e => (h.low (by omega)).top (by omega) (Nat.le_refl _)
    refine hz9 _ _ ?_ (by simp)
    with_reducible repeat (first | exact h0 | refine StV.far ?_ h1 _)
  · have h0 := HB9.out
    with_reducible repeat (first | exact h0 | apply bl_set1)
set_option maxRecDepth 100000 in
set_option maxHeartbeats 4000000 in
theorem divide_ok (s z : LSt) (v : Value) (w : World) (hv : StK w s v) (hs : s.small 1048576) (x y : Int) (hx : (Lit.int .i32 x).wf = true) (hyw : (Lit.int .i32 y).wf = true) (hy : y ≠ 0) (ht : 2 ≤ s.data.length) (hz : z = putSt s 2 [w32 (x.tmod y), w32 (x.tdiv y)]) :
    Calls Tryd.prog 70 #[v, .int .i32 x, .int .i32 y] w fun e w' => OtherE w z e w' := by
  obtain ⟨A0, c0, A1, c1, A3, c3, A4, c4, A5, c5, A6, c6, A7, c7, rfl⟩ := hv.form
  have HV := Lib.hid hv
  have HS := Lib.hid hs
  have HZ := Lib.hid hz
  obtain ⟨w1, hW1⟩ : ∃ W, (w.alloc (.cells #[.slice A0 s.data.length c0, .slice A1 s.ret.length c1, .int .i32 s.a, .slice A3 s.mem.length c3, .slice A4 s.cells.length c4, .slice A5 s.vars.length c5, .slice A6 s.out.length c6, .slice A7 s.inp.length c7, .int .i64 s.fault, .int .i64 s.fuel] 32)).alloc (.cells #[.slice none 0 0, .slice none 0 0, .int .i32 0, .slice none 0 0, .slice none 0 0, .slice none 0 0, .slice none 0 0, .slice none 0 0, .int .i64 0, .int .i64 0] 32) = W := ⟨_, rfl⟩
  have HB1 : Hid (Below w.heap.size w w1) := Lib.hid (hW1 ▸ bl_alloc (bl_alloc (Below.refl _ _) _) _)
  have HK1 : Hid (Bx w1 w.heap.size [(#[.slice A0 s.data.length c0, .slice A1 s.ret.length c1, .int .i32 s.a, .slice A3 s.mem.length c3, .slice A4 s.cells.length c4, .slice A5 s.vars.length c5, .slice A6 s.out.length c6, .slice A7 s.inp.length c7, .int .i64 s.fault, .int .i64 s.fuel], 32), (#[.slice none 0 0, .slice none 0 0, .int .i32 0, .slice none 0 0, .slice none 0 0, .slice none 0 0, .slice none 0 0, .slice none 0 0, .int .i64 0, .int .i64 0], 32)]) := Lib.hid (hW1 ▸ (Bx.two w #[.slice A0 s.data.length c0, .slice A1 s.ret.length c1, .int .i32 s.a, .slice A3 s.mem.length c3, .slice A4 s.cells.length c4, .slice A5 s.vars.length c5, .slice A6 s.out.length c6, .slice A7 s.inp.length c7, .int .i64 s.fault, .int .i64 s.fuel] #[.slice none 0 0, .slice none 0 0, .int .i32 0, .slice none 0 0, .slice none 0 0, .slice none 0 0, .slice none 0 0, .slice none 0 0, .int .i64 0, .int .i64 0] 32 32))
  have b0 := blk_cell HK1.out.1
  have y0 := blk_lt HK1.out.1
  have b1 := blk_cell HK1.out.2.1
  have g1 := blk_frozen HK1.out.2.1
  have y1 := blk_lt HK1.out.2.1
  have hlo1 : w.heap.size + 2 ≤ w1.heap.size := by omega
  have HT := Lib.hid ht
  clear ht
  have x64 := wrap64_i32 hx
  have y64 := wrap64_i32 hyw
  have q64 := wrap64_tdiv (y := y) hx
  have y00 : (y == 0) = false := by simpa using hy
  clear hv hz
  go_enter Tryd.func70, Tryd.ntmps70
  go_wp2_with fail
  have HPT := Lib.hid (l08Put_at s _ 2 2 2 (some ⟨w1.heap.size, 0, none⟩) 2 [(w32 (x.tmod y)), (w32 (x.tdiv y))] (w1.alloc (.cells #[.int .i32 (w32 (x.tmod y)), .int .i32 (w32 (x.tdiv y))] 21)) (HV.out.keepB (bl_alloc HB1.out (.cells #[.int .i32 (w32 (x.tmod y)), .int .i32 (w32 (x.tdiv y))] 21))) HS.out HT.out rfl rfl (Row.made (w1) #[.int .i32 (w32 (x.tmod y)), .int .i32 (w32 (x.tdiv y))] 21 1 2 (by decide) rfl).rd (by omega))
  refine (HPT.out).mono ?_
  rintro e w9 ⟨v9, rfl, hO, hb⟩
  rw [← HZ.out] at hO
  replace hO := hO.v
  obtain ⟨F0, f0, F1, f1, F3, f3, F4, f4, F5, f5, F6, f6, F7, f7, rfl⟩ := hO.k.form
  have HO := Lib.hid hO
  have HB9 := Lib.hid (bl_call (bl_alloc HB1.out (.cells #[.int .i32 (w32 (x.tmod y)), .int .i32 (w32 (x.tdiv y))] 21)) hb)
  have HK9 := Lib.hid ((HK1.out.alloc (.cells #[.int .i32 (w32 (x.tmod y)), .int .i32 (w32 (x.tdiv y))] 21)).call hb)
  have hl9 : w.heap.size + 2 ≤ (w1.alloc (.cells #[.int .i32 (w32 (x.tmod y)), .int .i32 (w32 (x.tdiv y))] 21)).heap.size := (by first | omega | (simp; omega))
  have hw9 := hb.size
  clear hO hb b0 y0 b1 g1 y1
  have b0 := blk_cell HK9.out.1
  have y0 := blk_lt HK9.out.1
  have b1 := blk_cell HK9.out.2.1
  have g1 := blk_frozen HK9.out.2.1
  have y1 := blk_lt HK9.out.2.1
  go_wp2_with fail
  refine bodyPost_ret (v := .agg #[.slice F0 z.data.length f0, .slice F1 z.ret.length f1, .int .i32 z.a, .slice F3 z.mem.length f3, .slice F4 z.cells.length f4, .slice F5 z.vars.length f5, .slice F6 z.out.length f6, .slice F7 z.inp.length f7, .int .i64 z.fault, .int .i64 z.fuel]) (by simp [results, Tryd.results70, go_sem, b1, y1]) rfl ⟨_, rfl, ?_, ?_⟩
  · have h0 := HO.out.low (lo' := w.heap.size + 2) hl9
    have h1 : w.heap.size + 1 < w.heap.size + 2 := by omega
    have hz9 : ∀ (W : World) (u : Value), StV W (w.heap.size + 2) w9.heap.size z u → w9.heap.size = W.heap.size → StV W w.heap.size W.heap.size z u := fun W u h e => (h.low (by omega)).top (by omega) (Nat.le_refl _)
    refine hz9 _ _ ?_ (by simp)
    with_reducible repeat (first | exact h0 | refine StV.far ?_ h1 _)
  · have h0 := HB9.out
    with_reducible repeat (first | exact h0 | apply bl_set1)
set_option maxRecDepth 100000 in
set_option maxHeartbeats 4000000 in
theorem fetch_bad (s z : LSt) (v : Value) (w : World) (hv : StK w s v) (hs : s.small 1048576) (y : Int) (hy : (Lit.int .i32 y).wf = true) (hp : placeI s y = -1) (hz : z = { s with fault := 4 }) :
    Calls Tryd.prog 71 #[v, .int .i32 y] w fun e w' => OtherE w z e w' := by
  obtain ⟨A0, c0, A1, c1, A3, c3, A4, c4, A5, c5, A6, c6, A7, c7, rfl⟩ := hv.form
  have HV := Lib.hid hv
  have HS := Lib.hid hs
  have HZ := Lib.hid hz
  obtain ⟨w1, hW1⟩ : ∃ W, (w.alloc (.cells #[.slice A0 s.data.length c0, .slice A1 s.ret.length c1, .int .i32 s.a, .slice A3 s.mem.length c3, .slice A4 s.cells.length c4, .slice A5 s.vars.length c5, .slice A6 s.out.length c6, .slice A7 s.inp.length c7, .int .i64 s.fault, .int .i64 s.fuel] 32)).alloc (.cells #[.slice none 0 0, .slice none 0 0, .int .i32 0, .slice none 0 0, .slice none 0 0, .slice none 0 0, .slice none 0 0, .slice none 0 0, .int .i64 0, .int .i64 0] 32) = W := ⟨_, rfl⟩
  have HB1 : Hid (Below w.heap.size w w1) := Lib.hid (hW1 ▸ bl_alloc (bl_alloc (Below.refl _ _) _) _)
  have HK1 : Hid (Bx w1 w.heap.size [(#[.slice A0 s.data.length c0, .slice A1 s.ret.length c1, .int .i32 s.a, .slice A3 s.mem.length c3, .slice A4 s.cells.length c4, .slice A5 s.vars.length c5, .slice A6 s.out.length c6, .slice A7 s.inp.length c7, .int .i64 s.fault, .int .i64 s.fuel], 32), (#[.slice none 0 0, .slice none 0 0, .int .i32 0, .slice none 0 0, .slice none 0 0, .slice none 0 0, .slice none 0 0, .slice none 0 0, .int .i64 0, .int .i64 0], 32)]) := Lib.hid (hW1 ▸ (Bx.two w #[.slice A0 s.data.length c0, .slice A1 s.ret.length c1, .int .i32 s.a, .slice A3 s.mem.length c3, .slice A4 s.cells.length c4, .slice A5 s.vars.length c5, .slice A6 s.out.length c6, .slice A7 s.inp.length c7, .int .i64 s.fault, .int .i64 s.fuel] #[.slice none 0 0, .slice none 0 0, .int .i32 0, .slice none 0 0, .slice none 0 0, .slice none 0 0, .slice none 0 0, .slice none 0 0, .int .i64 0, .int .i64 0] 32 32))
  have b0 := blk_cell HK1.out.1
  have y0 := blk_lt HK1.out.1
  have b1 := blk_cell HK1.out.2.1
  have g1 := blk_frozen HK1.out.2.1
  have y1 := blk_lt HK1.out.2.1
  have hlo1 : w.heap.size + 2 ≤ w1.heap.size := by omega
  clear hv hz
  go_enter Tryd.func71, Tryd.ntmps71
  go_wp2_with fail
  refine ((specPlace_calls s _ y w1 (HV.out.keepB HB1.out) HS.out hy)).mono ?_
  rintro e w2 ⟨rfl, hb⟩
  rw [hp]
  have HB2 := Lib.hid (bl_call HB1.out hb)
  have HK2 := Lib.hid (HK1.out.call hb)
  have hlo2 : w.heap.size + 2 ≤ w2.heap.size := Nat.le_trans hlo1 hb.size
  clear hb b0 y0 b1 g1 y1
  have b0 := blk_cell HK2.out.1
  have y0 := blk_lt HK2.out.1
  have b1 := blk_cell HK2.out.2.1
  have g1 := blk_frozen HK2.out.2.1
  have y1 := blk_lt HK2.out.2.1
  go_wp2_with fail
  refine (l08Fault_calls s _ 4 w2 (HV.out.keepB HB2.out) HS.out).mono ?_
  rintro e w9 ⟨v9, rfl, hO, hb⟩
  rw [← HZ.out] at hO
  replace hO := hO.v
  obtain ⟨F0, f0, F1, f1, F3, f3, F4, f4, F5, f5, F6, f6, F7, f7, rfl⟩ := hO.k.form
  have HO := Lib.hid hO
  have HB9 := Lib.hid (bl_call HB2.out hb)
  have HK9 := Lib.hid ((HK2.out).call hb)
  have hl9 : w.heap.size + 2 ≤ w2.heap.size := (by first | omega | (simp; omega))
  have hw9 := hb.size
  clear hO hb b0 y0 b1 g1 y1
  have b0 := blk_cell HK9.out.1
  have y0 := blk_lt HK9.out.1
  have b1 := blk_cell HK9.out.2.1
  have g1 := blk_frozen HK9.out.2.1
  have y1 := blk_lt HK9.out.2.1
  go_wp2_with fail
  refine bodyPost_ret (v := .agg #[.slice F0 z.data.length f0, .slice F1 z.ret.length f1, .int .i32 z.a, .slice F3 z.mem.length f3, .slice F4 z.cells.length f4, .slice F5 z.vars.length f5, .slice F6 z.out.length f6, .slice F7 z.inp.length f7, .int .i64 z.fault, .int .i64 z.fuel]) (by simp [results, Tryd.results71, go_sem, b1, y1]) rfl ⟨_, rfl, ?_, ?_⟩
  · have h0 := HO.out.low (lo' := w.heap.size + 2) hl9
    have h1 : w.heap.size + 1 < w.heap.size + 2 := by omega
    have hz9 : ∀ (W : World) (u : Value), StV W (w.heap.size + 2) w9.heap.size z u → w9.heap.size = W.heap.size → StV W w.heap.size W.heap.size z u := fun W u h e => (h.low (by omega)).top (by omega) (Nat.le_refl _)
    refine hz9 _ _ ?_ (by simp)
    with_reducible repeat (first | exact h0 | refine StV.far ?_ h1 _)
  · have h0 := HB9.out
    with_reducible repeat (first | exact h0 | apply bl_set1)
set_option maxRecDepth 100000 in
set_option maxHeartbeats 4000000 in
theorem fetch_mem (s z : LSt) (v : Value) (w : World) (hv : StK w s v) (hs : s.small 1048576) (n : Nat) (u : Int) (hy : (Lit.int .i32 (n : Int)).wf = true) (hn : s.mem[n]? = some u) (hp : placeI s (n : Int) = n) (h32 : n < 32) (ht : 1 ≤ s.data.length) (hz : z = putSt s 1 [u]) :
    Calls Tryd.prog 71 #[v, .int .i32 (n : Int)] w fun e w' => OtherE w z e w' := by
  have hv' := hv
  obtain ⟨A0, c0, A1, c1, A3, c3, A4, c4, A5, c5, A6, c6, A7, c7, rfl, R0, R1, R3, -⟩ := hv
  obtain ⟨ad, rfl, -⟩ := R3.at_ (j := n) (u := .int .i32 u) (by simp [hn])
  have hv := hv'
  clear hv' R0 R1
  have HV := Lib.hid hv
  have HS := Lib.hid hs
  have HZ := Lib.hid hz
  obtain ⟨w1, hW1⟩ : ∃ W, (w.alloc (.cells #[.slice A0 s.data.length c0, .slice A1 s.ret.length c1, .int .i32 s.a, .slice (some ad) s.mem.length c3, .slice A4 s.cells.length c4, .slice A5 s.vars.length c5, .slice A6 s.out.length c6, .slice A7 s.inp.length c7, .int .i64 s.fault, .int .i64 s.fuel] 32)).alloc (.cells #[.slice none 0 0, .slice none 0 0, .int .i32 0, .slice none 0 0, .slice none 0 0, .slice none 0 0, .slice none 0 0, .slice none 0 0, .int .i64 0, .int .i64 0] 32) = W := ⟨_, rfl⟩
  have HB1 : Hid (Below w.heap.size w w1) := Lib.hid (hW1 ▸ bl_alloc (bl_alloc (Below.refl _ _) _) _)
  have HK1 : Hid (Bx w1 w.heap.size [(#[.slice A0 s.data.length c0, .slice A1 s.ret.length c1, .int .i32 s.a, .slice (some ad) s.mem.length c3, .slice A4 s.cells.length c4, .slice A5 s.vars.length c5, .slice A6 s.out.length c6, .slice A7 s.inp.length c7, .int .i64 s.fault, .int .i64 s.fuel], 32), (#[.slice none 0 0, .slice none 0 0, .int .i32 0, .slice none 0 0, .slice none 0 0, .slice none 0 0, .slice none 0 0, .slice none 0 0, .int .i64 0, .int .i64 0], 32)]) := Lib.hid (hW1 ▸ (Bx.two w #[.slice A0 s.data.length c0, .slice A1 s.ret.length c1, .int .i32 s.a, .slice (some ad) s.mem.length c3, .slice A4 s.cells.length c4, .slice A5 s.vars.length c5, .slice A6 s.out.length c6, .slice A7 s.inp.length c7, .int .i64 s.fault, .int .i64 s.fuel] #[.slice none 0 0, .slice none 0 0, .int .i32 0, .slice none 0 0, .slice none 0 0, .slice none 0 0, .slice none 0 0, .slice none 0 0, .int .i64 0, .int .i64 0] 32 32))
  have b0 := blk_cell HK1.out.1
  have y0 := blk_lt HK1.out.1
  have b1 := blk_cell HK1.out.2.1
  have g1 := blk_frozen HK1.out.2.1
  have y1 := blk_lt HK1.out.2.1
  have hlo1 : w.heap.size + 2 ≤ w1.heap.size := by omega
  have HT := Lib.hid ht
  clear ht
  have hnl : n < s.mem.length := (List.getElem?_eq_some_iff.1 hn).1
  have HU : Hid ((s.mem.map (Value.int .i32))[n]? = some (.int .i32 u)) := Lib.hid (by simp [hn])
  have HR3 := Lib.hid R3
  have hni : ¬ ((n : Int) < 0) := by omega
  have hni2 : (n : Int) < 32 := by omega
  clear hn R3
  clear hv hz
  go_enter Tryd.func71, Tryd.ntmps71
  go_wp2_with fail
  refine ((specPlace_calls s _ n w1 (HV.out.keepB HB1.out) HS.out hy)).mono ?_
  rintro e w2 ⟨rfl, hb⟩
  rw [hp]
  have HB2 := Lib.hid (bl_call HB1.out hb)
  have HK2 := Lib.hid (HK1.out.call hb)
  have hlo2 : w.heap.size + 2 ≤ w2.heap.size := Nat.le_trans hlo1 hb.size
  clear hb b0 y0 b1 g1 y1
  have b0 := blk_cell HK2.out.1
  have y0 := blk_lt HK2.out.1
  have b1 := blk_cell HK2.out.2.1
  have g1 := blk_frozen HK2.out.2.1
  have y1 := blk_lt HK2.out.2.1
  have cu0 := (HR3.out.keepB HB2.out).some_ n _ HU.out
  go_wp2_with fail
  have HPT := Lib.hid (l08Put_at s _ 1 1 1 (some ⟨w2.heap.size, 0, none⟩) 1 [u] (w2.alloc (.cells #[.int .i32 u] 21)).drew (HV.out.keepB (bl_drew (bl_alloc HB2.out (.cells #[.int .i32 u] 21)))) HS.out HT.out rfl rfl (Row.made (w2) #[.int .i32 u] 21 1 1 (by decide) rfl).rd (by omega))
  go_region_with (go_at_call 32; (refine (HPT.out).mono ?_; rintro e w9 ⟨v9, rfl, hO, hb⟩; rw [← HZ.out] at hO; replace hO := hO.v; obtain ⟨F0, f0, F1, f1, F3, f3, F4, f4, F5, f5, F6, f6, F7, f7, rfl⟩ := hO.k.form; have HO := Lib.hid hO; have HB9 := Lib.hid (bl_call (bl_drew (bl_alloc HB2.out (.cells #[.int .i32 u] 21))) hb); have HK9 := Lib.hid (((HK2.out.alloc (.cells #[.int .i32 u] 21)).drew).call hb); have hl9 : w.heap.size + 2 ≤ (w2.alloc (.cells #[.int .i32 u] 21)).drew.heap.size := (by first | omega | (simp; omega)); have hw9 := hb.size; clear hO hb b0 y0 b1 g1 y1; have b0 := blk_cell HK9.out.1; have y0 := blk_lt HK9.out.1; have b1 := blk_cell HK9.out.2.1; have g1 := blk_frozen HK9.out.2.1; have y1 := blk_lt HK9.out.2.1))
  all_goals
    go_wp2_with fail
    refine bodyPost_ret (v := .agg #[.slice F0 z.data.length f0, .slice F1 z.ret.length f1, .int .i32 z.a, .slice F3 z.mem.length f3, .slice F4 z.cells.length f4, .slice F5 z.vars.length f5, .slice F6 z.out.length f6, .slice F7 z.inp.length f7, .int .i64 z.fault, .int .i64 z.fuel]) (by simp [results, Tryd.results71, go_sem, b1, y1]) rfl ⟨_, rfl, ?_, ?_⟩
    · have h0 := HO.out.low (lo' := w.heap.size + 2) hl9
      have h1 : w.heap.size + 1 < w.heap.size + 2 := by omega
      have hz9 : ∀ (W : World) (u : Value), StV W (w.heap.size + 2) w9.heap.size z u → w9.heap.size = W.heap.size → StV W w.heap.size W.heap.size z u := fun W u h e => (h.low (by omega)).top (by omega) (Nat.le_refl _)
      refine hz9 _ _ ?_ (by simp)
      with_reducible repeat (first | exact h0 | refine StV.far ?_ h1 _)
    · have h0 := HB9.out
      with_reducible repeat (first | exact h0 | apply bl_set1)
set_option maxRecDepth 100000 in
set_option maxHeartbeats 4000000 in
theorem fetch_cell (s z : LSt) (v : Value) (w : World) (hv : StK w s v) (hs : s.small 1048576) (y p : Int) (n : Nat) (u : Int) (hy : (Lit.int .i32 y).wf = true) (hn : s.cells[n]? = some u) (hp : placeI s y = p) (hpn : p = 32 + (n : Int)) (ht : 1 ≤ s.data.length) (hz : z = putSt s 1 [w32 u]) :
    Calls Tryd.prog 71 #[v, .int .i32 y] w fun e w' => OtherE w z e w' := by
  have hv' := hv
  obtain ⟨A0, c0, A1, c1, A3, c3, A4, c4, A5, c5, A6, c6, A7, c7, rfl, R0, R1, R3, R4, -⟩ := hv
  obtain ⟨ad, rfl, -⟩ := R4.at_ (j := n) (u := .int .u32 u) (by simp [hn])
  have hv := hv'
  clear hv' R0 R1 R3
  have HV := Lib.hid hv
  have HS := Lib.hid hs
  have HZ := Lib.hid hz
  obtain ⟨w1, hW1⟩ : ∃ W, (w.alloc (.cells #[.slice A0 s.data.length c0, .slice A1 s.ret.length c1, .int .i32 s.a, .slice A3 s.mem.length c3, .slice (some ad) s.cells.length c4, .slice A5 s.vars.length c5, .slice A6 s.out.length c6, .slice A7 s.inp.length c7, .int .i64 s.fault, .int .i64 s.fuel] 32)).alloc (.cells #[.slice none 0 0, .slice none 0 0, .int .i32 0, .slice none 0 0, .slice none 0 0, .slice none 0 0, .slice none 0 0, .slice none 0 0, .int .i64 0, .int .i64 0] 32) = W := ⟨_, rfl⟩
  have HB1 : Hid (Below w.heap.size w w1) := Lib.hid (hW1 ▸ bl_alloc (bl_alloc (Below.refl _ _) _) _)
  have HK1 : Hid (Bx w1 w.heap.size [(#[.slice A0 s.data.length c0, .slice A1 s.ret.length c1, .int .i32 s.a, .slice A3 s.mem.length c3, .slice (some ad) s.cells.length c4, .slice A5 s.vars.length c5, .slice A6 s.out.length c6, .slice A7 s.inp.length c7, .int .i64 s.fault, .int .i64 s.fuel], 32), (#[.slice none 0 0, .slice none 0 0, .int .i32 0, .slice none 0 0, .slice none 0 0, .slice none 0 0, .slice none 0 0, .slice none 0 0, .int .i64 0, .int .i64 0], 32)]) := Lib.hid (hW1 ▸ (Bx.two w #[.slice A0 s.data.length c0, .slice A1 s.ret.length c1, .int .i32 s.a, .slice A3 s.mem.length c3, .slice (some ad) s.cells.length c4, .slice A5 s.vars.length c5, .slice A6 s.out.length c6, .slice A7 s.inp.length c7, .int .i64 s.fault, .int .i64 s.fuel] #[.slice none 0 0, .slice none 0 0, .int .i32 0, .slice none 0 0, .slice none 0 0, .slice none 0 0, .slice none 0 0, .slice none 0 0, .int .i64 0, .int .i64 0] 32 32))
  have b0 := blk_cell HK1.out.1
  have y0 := blk_lt HK1.out.1
  have b1 := blk_cell HK1.out.2.1
  have g1 := blk_frozen HK1.out.2.1
  have y1 := blk_lt HK1.out.2.1
  have hlo1 : w.heap.size + 2 ≤ w1.heap.size := by omega
  have HT := Lib.hid ht
  clear ht
  have hnl : n < s.cells.length := (List.getElem?_eq_some_iff.1 hn).1
  have HU : Hid ((s.cells.map (Value.int .u32))[n]? = some (.int .u32 u)) := Lib.hid (by simp [hn])
  have HR3 := Lib.hid R4
  have hni : ¬ (p < 0) := by omega
  have hni2 : ¬ (p < 32) := by omega
  have hcl : s.cells.length ≤ 1048576 := hs.2.2.2.1
  have hni3 : p - 32 = (n : Int) := by omega
  have hnw : IntKind.wrap .i64 (n : Int) = (n : Int) := by simp [IntKind.wrap, IntKind.signed, IntKind.bits]; omega
  have hiw := iwrap32 u
  have hnw2 : wrap64 (n : Int) = (n : Int) := by unfold wrap64; omega
  have hn00 : (0 : Int) ≤ (n : Int) := by omega
  have hnli : (n : Int) < (s.cells.length : Int) := by omega
  have hp0 : 0 ≤ p := by omega
  have hp1 : p ≤ 2000000 := by omega
  have HPN := Lib.hid hpn
  clear hn R4 hpn
  clear hv hz
  go_enter Tryd.func71, Tryd.ntmps71
  go_wp2_with fail
  refine ((specPlace_calls s _ y w1 (HV.out.keepB HB1.out) HS.out hy)).mono ?_
  rintro e w2 ⟨rfl, hb⟩
  rw [hp]
  have HB2 := Lib.hid (bl_call HB1.out hb)
  have HK2 := Lib.hid (HK1.out.call hb)
  have hlo2 : w.heap.size + 2 ≤ w2.heap.size := Nat.le_trans hlo1 hb.size
  clear hb b0 y0 b1 g1 y1
  have b0 := blk_cell HK2.out.1
  have y0 := blk_lt HK2.out.1
  have b1 := blk_cell HK2.out.2.1
  have g1 := blk_frozen HK2.out.2.1
  have y1 := blk_lt HK2.out.2.1
  have cu0 := (HR3.out.keepB HB2.out).some_ n _ HU.out
  go_wp2_with fail
  have HPT := Lib.hid (l08Put_at s _ 1 1 1 (some ⟨w2.heap.size, 0, none⟩) 1 [(w32 u)] (w2.alloc (.cells #[.int .i32 (w32 u)] 21)).drew (HV.out.keepB (bl_drew (bl_alloc HB2.out (.cells #[.int .i32 (w32 u)] 21)))) HS.out HT.out rfl rfl (Row.made (w2) #[.int .i32 (w32 u)] 21 1 1 (by decide) rfl).rd (by omega))
  go_region_with (go_at_call 32; (refine (HPT.out).mono ?_; rintro e w9 ⟨v9, rfl, hO, hb⟩; rw [← HZ.out] at hO; replace hO := hO.v; obtain ⟨F0, f0, F1, f1, F3, f3, F4, f4, F5, f5, F6, f6, F7, f7, rfl⟩ := hO.k.form; have HO := Lib.hid hO; have HB9 := Lib.hid (bl_call (bl_drew (bl_alloc HB2.out (.cells #[.int .i32 (w32 u)] 21))) hb); have HK9 := Lib.hid (((HK2.out.alloc (.cells #[.int .i32 (w32 u)] 21)).drew).call hb); have hl9 : w.heap.size + 2 ≤ (w2.alloc (.cells #[.int .i32 (w32 u)] 21)).drew.heap.size := (by first | omega | (simp; omega)); have hw9 := hb.size; clear hO hb b0 y0 b1 g1 y1; have b0 := blk_cell HK9.out.1; have y0 := blk_lt HK9.out.1; have b1 := blk_cell HK9.out.2.1; have g1 := blk_frozen HK9.out.2.1; have y1 := blk_lt HK9.out.2.1))
  all_goals
    go_wp2_with fail
    refine bodyPost_ret (v := .agg #[.slice F0 z.data.length f0, .slice F1 z.ret.length f1, .int .i32 z.a, .slice F3 z.mem.length f3, .slice F4 z.cells.length f4, .slice F5 z.vars.length f5, .slice F6 z.out.length f6, .slice F7 z.inp.length f7, .int .i64 z.fault, .int .i64 z.fuel]) (by simp [results, Tryd.results71, go_sem, b1, y1]) rfl ⟨_, rfl, ?_, ?_⟩
    · have h0 := HO.out.low (lo' := w.heap.size + 2) hl9
      have h1 : w.heap.size + 1 < w.heap.size + 2 := by omega
      have hz9 : ∀ (W : World) (u : Value), StV W (w.heap.size + 2) w9.heap.size z u → w9.heap.size = W.heap.size → StV W w.heap.size W.heap.size z u := fun W u h e => (h.low (by omega)).top (by omega) (Nat.le_refl _)
      refine hz9 _ _ ?_ (by simp)
      with_reducible repeat (first | exact h0 | refine StV.far ?_ h1 _)
    · have h0 := HB9.out
      with_reducible repeat (first | exact h0 | apply bl_set1)
end Go.Proofs.YtgljbcdlldhlfaaDoor

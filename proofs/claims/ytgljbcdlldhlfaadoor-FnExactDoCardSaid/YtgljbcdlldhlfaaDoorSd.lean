/- The reference's built-in words: contracts of l08Say, l08Back, l08Store. -/
import Derived.Test.YtgljbcdlldhlfaaDoorSb
set_option linter.unusedVariables false
set_option linter.unusedSimpArgs false
namespace Go.Proofs.YtgljbcdlldhlfaaDoor
open Go.RowKit

set_option maxRecDepth 100000 in
set_option maxHeartbeats 4000000 in
theorem say_no (s z : LSt) (v : Value) (w : World) (hv : StK w s v) (hs : s.small 1048576) (A : Option Addr) (c : Nat) (bs : List Int) (hbl : bs.length ≤ 1048576) (hn : 400 < s.out.length + bs.length) (hz : z = { s with fault := 13 }) :
    Calls Tryd.prog 73 #[v, .slice A bs.length c] w fun e w' => OtherE w z e w' := by
  obtain ⟨A0, c0, A1, c1, A3, c3, A4, c4, A5, c5, A6, c6, A7, c7, rfl⟩ := hv.form
  have HV := Lib.hid hv
  have HS := Lib.hid hs
  have HZ := Lib.hid hz
  obtain ⟨w1, hW1⟩ : ∃ W, (w.alloc (.cells #[.slice A0 s.data.length c0, .slice A1 s.ret.length c1, .int .i32 s.a, .slice A3 s.mem.length c3, .slice A4 s.cells.length c4, .slice A5 s.vars.length c5, .slice A6 s.out.length c6, .slice A7 s.inp.length c7, .int .i64 s.fault, .int .i64 s.fuel] 32)).alloc (.cells #[.slice none 0 0, .slice none 0 0, .int .i32 0, .slice none 0 0, .slice none 0 0, .slice none 0 0, .slice none 0 0, .slice none 0 0, .int .i64 0, .int .i64 0] 32) = W := ⟨_, rfl⟩
  have HB1 : Hid (Below w.heap.size w w1) := Lib.hid (hW1 ▸ bl_alloc (bl_alloc (Below.refl _ _) _) _)
  have HK1 : Hid (Bx w1 w.heap.size [(#[.slice A0 s.data.length c0, .slice A1 s.ret.length c1, .int .i32 s.a, .slice A3 s.mem.length c3, .slice A4 s.cells.length c4, .slice A5 s.vars.length c5, .slice A6 s.out.length c6, .slice A7 s.inp.length c7, .int .i64 s.fault, .int .i64 s.fuel], 32), (#[.slice none 0 0, .slice none 0 0, .int .i32 0, .slice none 0 0, .slice none 0 0, .slice none 0 0, .slice none 0 0, .slice none 0 0, .int .i64 0, .int .i64 0], 32)]) := Lib.hid (hW1 ▸ (Bx.two w #[.slice A0 s.data.length c0, .slice A1 s.ret.length c1, .int .i32 s.a, .slice A3 s.mem.length c3, .slice A4 s.cells.length c4, .slice A5 s.vars.length c5, .slice A6 s.out.length c6, .slice A7 s.inp.length c7, .int .i64 s.fault, .int .i64 s.fuel] #[.slice none 0 0, .slice none 0 0, .int .i32 0, .slice none 0 0, .slice none 0 0, .slice none 0 0, .slice none 0 0, .slice none 0 0, .int .i64 0, .int .i64 0] 32 32))
  have b0 := blk_cell HK1.out.1
  have y0 := blk_lt HK1.out.1
  have b1 := blk_cell HK1.out.2.1
  have g1 := blk_frozen HK1.out.2.1
  have y1 := blk_lt HK1.out.2.1
  have hlo1 : w.heap.size + 2 ≤ w1.heap.size := by omega
  have h4 : (400 : Int) < (s.out.length : Int) + (bs.length : Int) := by omega
  have hol : s.out.length ≤ 1048576 := hs.2.2.2.2.2.1
  clear hv hz
  go_enter Tryd.func73, Tryd.ntmps73
  go_wp2_with fail
  refine (l08Fault_calls s _ 13 w1 (HV.out.keepB HB1.out) HS.out).mono ?_
  rintro e w9 ⟨v9, rfl, hO, hb⟩
  rw [← HZ.out] at hO
  replace hO := hO.v
  obtain ⟨F0, f0, F1, f1, F3, f3, F4, f4, F5, f5, F6, f6, F7, f7, rfl⟩ := hO.k.form
  have HO := Lib.hid hO
  have HB9 := Lib.hid (bl_call HB1.out hb)
  have HK9 := Lib.hid ((HK1.out).call hb)
  have hl9 : w.heap.size + 2 ≤ w1.heap.size := (by first | omega | (simp; omega))
  have hw9 := hb.size
  clear hO hb b0 y0 b1 g1 y1
  have b0 := blk_cell HK9.out.1
  have y0 := blk_lt HK9.out.1
  have b1 := blk_cell HK9.out.2.1
  have g1 := blk_frozen HK9.out.2.1
  have y1 := blk_lt HK9.out.2.1
  go_wp2_with fail
  refine bodyPost_ret (v := .agg #[.slice F0 z.data.length f0, .slice F1 z.ret.length f1, .int .i32 z.a, .slice F3 z.mem.length f3, .slice F4 z.cells.length f4, .slice F5 z.vars.length f5, .slice F6 z.out.length f6, .slice F7 z.inp.length f7, .int .i64 z.fault, .int .i64 z.fuel]) (by simp [results, Tryd.results73, go_sem, b1, y1]) rfl ⟨_, rfl, ?_, ?_⟩
  · have h0 := HO.out.low (lo' := w.heap.size + 2) hl9
    have h1 : w.heap.size + 1 < w.heap.size + 2 := by omega
    have hz9 : ∀ (W : World) (u : Value), StV W (w.heap.size + 2) w9.heap.size z u → w9.heap.size = W.heap.size → StV W w.heap.size W.heap.size z u := fun W u h e => (h.low (by omega)).top (by omega) (Nat.le_refl _)
    refine hz9 _ _ ?_ (by simp)
    with_reducible repeat (first | exact h0 | refine StV.far ?_ h1 _)
  · have h0 := HB9.out
    with_reducible repeat (first | exact h0 | apply bl_set1)
set_option maxRecDepth 100000 in
set_option maxHeartbeats 4000000 in
theorem say_ok (s z : LSt) (v : Value) (w : World) (hv : StK w s v) (hs : s.small 1048576) (A : Option Addr) (c : Nat) (bs : List Int) (hbr : Rd w A (bs.map (Value.int .u8))) (hn : s.out.length + bs.length ≤ 400) (ht : 1 ≤ s.data.length) (hd : s.data.length ≤ 16) (hz : z = { putSt s 1 [] with out := s.out ++ bs }) :
    Calls Tryd.prog 73 #[v, .slice A bs.length c] w fun e w' => OtherE w z e w' := by
  obtain ⟨A0, c0, A1, c1, A3, c3, A4, c4, A5, c5, A6, c6, A7, c7, rfl⟩ := hv.form
  have HV := Lib.hid hv
  have HS := Lib.hid hs
  have HZ := Lib.hid hz
  obtain ⟨w1, hW1⟩ : ∃ W, (w.alloc (.cells #[.slice A0 s.data.length c0, .slice A1 s.ret.length c1, .int .i32 s.a, .slice A3 s.mem.length c3, .slice A4 s.cells.length c4, .slice A5 s.vars.length c5, .slice A6 s.out.length c6, .slice A7 s.inp.length c7, .int .i64 s.fault, .int .i64 s.fuel] 32)).alloc (.cells #[.slice none 0 0, .slice none 0 0, .int .i32 0, .slice none 0 0, .slice none 0 0, .slice none 0 0, .slice none 0 0, .slice none 0 0, .int .i64 0, .int .i64 0] 32) = W := ⟨_, rfl⟩
  have HB1 : Hid (Below w.heap.size w w1) := Lib.hid (hW1 ▸ bl_alloc (bl_alloc (Below.refl _ _) _) _)
  have HK1 : Hid (Bx w1 w.heap.size [(#[.slice A0 s.data.length c0, .slice A1 s.ret.length c1, .int .i32 s.a, .slice A3 s.mem.length c3, .slice A4 s.cells.length c4, .slice A5 s.vars.length c5, .slice A6 s.out.length c6, .slice A7 s.inp.length c7, .int .i64 s.fault, .int .i64 s.fuel], 32), (#[.slice none 0 0, .slice none 0 0, .int .i32 0, .slice none 0 0, .slice none 0 0, .slice none 0 0, .slice none 0 0, .slice none 0 0, .int .i64 0, .int .i64 0], 32)]) := Lib.hid (hW1 ▸ (Bx.two w #[.slice A0 s.data.length c0, .slice A1 s.ret.length c1, .int .i32 s.a, .slice A3 s.mem.length c3, .slice A4 s.cells.length c4, .slice A5 s.vars.length c5, .slice A6 s.out.length c6, .slice A7 s.inp.length c7, .int .i64 s.fault, .int .i64 s.fuel] #[.slice none 0 0, .slice none 0 0, .int .i32 0, .slice none 0 0, .slice none 0 0, .slice none 0 0, .slice none 0 0, .slice none 0 0, .int .i64 0, .int .i64 0] 32 32))
  have b0 := blk_cell HK1.out.1
  have y0 := blk_lt HK1.out.1
  have b1 := blk_cell HK1.out.2.1
  have g1 := blk_frozen HK1.out.2.1
  have y1 := blk_lt HK1.out.2.1
  have hlo1 : w.heap.size + 2 ≤ w1.heap.size := by omega
  have HT := Lib.hid ht
  clear ht
  obtain ⟨s1, hs1⟩ : ∃ s1, putSt s 1 [] = s1 := ⟨_, rfl⟩
  have HS1 := Lib.hid hs1
  have ho1 : s1.out = s.out := by rw [← hs1, putSt_nil hd]
  have h4 : ¬ ((400 : Int) < (s.out.length : Int) + (bs.length : Int)) := by omega
  have HZ1 : Hid (z = { s1 with out := s1.out ++ bs }) := Lib.hid (by rw [hz, ho1, hs1])
  have HBR := Lib.hid hbr
  have HO1 := Lib.hid ho1
  clear hs1 hbr ho1
  clear hv hz
  go_enter Tryd.func73, Tryd.ntmps73
  go_wp2_with fail
  have HPT := Lib.hid (l08Put_at s _ 1 0 1 (some ⟨w1.heap.size, 0, none⟩) 0 [] (w1.alloc (.cells #[] 21)) (HV.out.keepB (bl_alloc HB1.out (.cells #[] 21))) HS.out HT.out rfl rfl (Row.made (w1) #[] 21 1 0 (by decide) rfl).rd (by omega))
  refine HPT.out.mono ?_
  rintro e w4 ⟨v4, rfl, hO, hb⟩
  rw [HS1.out] at hO
  obtain ⟨E0, e0, E1, e1, E3, e3, E4, e4, E5, e5, E6, e6, E7, e7, rfl⟩ := hO.k.form
  have HB4 := Lib.hid (bl_call (bl_alloc HB1.out (.cells #[] 21)) hb)
  have HK4 := Lib.hid ((HK1.out.alloc (.cells #[] 21)).call hb)
  have hl4 : w.heap.size + 2 ≤ (w1.alloc (.cells #[] 21)).heap.size := (by first | omega | (simp; omega))
  have h4 := hb.size
  obtain ⟨lo, hlo⟩ : ∃ n, (w1.alloc (.cells #[] 21)).heap.size = n := ⟨_, rfl⟩
  rw [hlo] at hO hl4 h4
  obtain ⟨W5, hW5⟩ : ∃ W, w4.alloc (.cells #[.slice E0 s1.data.length e0, .slice E1 s1.ret.length e1, .int .i32 s1.a, .slice E3 s1.mem.length e3, .slice E4 s1.cells.length e4, .slice E5 s1.vars.length e5, .slice E6 s1.out.length e6, .slice E7 s1.inp.length e7, .int .i64 s1.fault, .int .i64 s1.fuel] 32) = W := ⟨_, rfl⟩
  have HX5 : Hid (StX W5 w4.heap.size lo s1) := Lib.hid (hW5 ▸ StX.of hO)
  have hb5 : Below w4.heap.size w4 W5 := hW5 ▸ bl_alloc (Below.refl _ _) _
  have h45' : w4.heap.size < W5.heap.size := by rw [← hW5]; simp
  have HB5 := Lib.hid (bl_call HB4.out hb5)
  have HK5 := Lib.hid (HK4.out.call hb5)
  have hloW : lo ≤ W5.heap.size := by omega
  clear hO hb hb5 hlo b0 y0 b1 g1 y1
  have b0 := blk_cell HK5.out.1
  have y0 := blk_lt HK5.out.1
  have b1 := blk_cell HK5.out.2.1
  have g1 := blk_frozen HK5.out.2.1
  have y1 := blk_lt HK5.out.2.1
  obtain ⟨D0, d0, D1, d1, D3, d3, D4, d4, D5, d5, D6, d6, D7, d7, bb, hg, r6, L6, hK⟩ := HX5.out.rep6 hloW
  have ho6 : s1.out.length + bs.length ≤ 400 := by rw [HO1.out]; exact hn
  have HKK := Lib.hid hK
  have HR6 := Lib.hid r6
  have HL6 := Lib.hid L6
  have HGG := Lib.hid hg
  have cg5 := blk_cell hg
  have fg5 := blk_frozen hg
  have zg5 := blk_lt hg
  have HRB := Lib.hid (HBR.out.keepB HB5.out)
  clear hg r6 L6 hK
  go_wp2_with (at_builtin; refine wp_append _ rfl _ _ 26 rfl 5 (.int .u8 0) 1 1 Tryd.underlying26 info_u8B rfl (by decide) rfl HR6.out rfl (by simp) HRB.out one_map (by unfold maxLen; omega) (by omega) ?_; intro B d w8 b hR hg8 hb8; have hlen : (s1.out ++ bs).length = s1.out.length + bs.length := (by simp); have hh := HKK.out (s1.out ++ bs) B d w8 b (by rw [hlen, List.map_append]; exact hR) hg8 hb8; rw [← HZ1.out, hlen] at hh; obtain ⟨w9, hw9⟩ : ∃ W, w8.setCell ⟨w4.heap.size, 6, none⟩ (.slice B (s1.out.length + bs.length) d) = W := ⟨_, rfl⟩; rw [hw9] at hh; have K8 := (hg8.block w4.heap.size zg5 (fun e => (HL6.out _ e.symm).2 rfl)).trans HGG.out; have c8 := blk_cell K8; have f8 := blk_frozen K8; have z8 := blk_lt K8; clear hR hg8 hb8 K8 cg5 fg5 zg5; have HB9 := Lib.hid (FrG.below hh.2 HB5.out (by omega) (by omega) (by omega)); have HK9 := Lib.hid (HK5.out.fr hh.2 (by simp only [List.length_cons, List.length_nil]; omega) (by simp only [List.length_cons, List.length_nil]; omega)); have hsz9 := hh.2.size; obtain ⟨J0, j0, J1, j1, J3, j3, J4, j4, J5, j5, J6, j6, J7, j7, hg9, hk9⟩ := hh.1.read; have HV9 := Lib.hid hk9; have c9 := blk_cell hg9; have z9 := blk_lt hg9; have b0 := blk_cell HK9.out.1; have y0 := blk_lt HK9.out.1; have b1 := blk_cell HK9.out.2.1; have g1 := blk_frozen HK9.out.2.1; have y1 := blk_lt HK9.out.2.1; clear hg9 hk9 hh)
  refine bodyPost_ret (v := .agg #[.slice J0 z.data.length j0, .slice J1 z.ret.length j1, .int .i32 z.a, .slice J3 z.mem.length j3, .slice J4 z.cells.length j4, .slice J5 z.vars.length j5, .slice J6 z.out.length j6, .slice J7 z.inp.length j7, .int .i64 z.fault, .int .i64 z.fuel]) (by simp [results, Tryd.results73, go_sem, b1, y1]) rfl ⟨_, rfl, ?_, ?_⟩
  · have h0 : StV w9 (w.heap.size + 2) w9.heap.size z (.agg #[.slice J0 z.data.length j0, .slice J1 z.ret.length j1, .int .i32 z.a, .slice J3 z.mem.length j3, .slice J4 z.cells.length j4, .slice J5 z.vars.length j5, .slice J6 z.out.length j6, .slice J7 z.inp.length j7, .int .i64 z.fault, .int .i64 z.fuel]) := ⟨Nat.le_refl _, fun u1 hk => HV9.out u1 (fun x p1 p2 p3 => hk x (by omega) p2)⟩
    have h1 : w.heap.size + 1 < w.heap.size + 2 := by omega
    have hz9 : ∀ (W : World) (u : Value), StV W (w.heap.size + 2) w9.heap.size z u → w9.heap.size = W.heap.size → StV W w.heap.size W.heap.size z u := fun W u h e => (h.low (by omega)).top (by omega) (Nat.le_refl _)
    refine hz9 _ _ ?_ (by simp)
    with_reducible repeat (first | exact h0 | refine StV.far ?_ h1 _)
  · have h0 := HB9.out
    with_reducible repeat (first | exact h0 | apply bl_set1)
set_option maxRecDepth 100000 in
set_option maxHeartbeats 4000000 in
theorem back_none (s z : LSt) (v : Value) (w : World) (hv : StK w s v) (hs : s.small 1048576) (tk : Bool) (hn : s.ret.length = 0) (hz : z = { s with fault := 3 }) :
    Calls Tryd.prog 75 #[v, .bool tk] w fun e w' => OtherE w z e w' := by
  obtain ⟨A0, c0, A1, c1, A3, c3, A4, c4, A5, c5, A6, c6, A7, c7, rfl⟩ := hv.form
  have HV := Lib.hid hv
  have HS := Lib.hid hs
  have HZ := Lib.hid hz
  obtain ⟨w1, hW1⟩ : ∃ W, (w.alloc (.cells #[.slice A0 s.data.length c0, .slice A1 s.ret.length c1, .int .i32 s.a, .slice A3 s.mem.length c3, .slice A4 s.cells.length c4, .slice A5 s.vars.length c5, .slice A6 s.out.length c6, .slice A7 s.inp.length c7, .int .i64 s.fault, .int .i64 s.fuel] 32)).alloc (.cells #[.slice none 0 0, .slice none 0 0, .int .i32 0, .slice none 0 0, .slice none 0 0, .slice none 0 0, .slice none 0 0, .slice none 0 0, .int .i64 0, .int .i64 0] 32) = W := ⟨_, rfl⟩
  have HB1 : Hid (Below w.heap.size w w1) := Lib.hid (hW1 ▸ bl_alloc (bl_alloc (Below.refl _ _) _) _)
  have HK1 : Hid (Bx w1 w.heap.size [(#[.slice A0 s.data.length c0, .slice A1 s.ret.length c1, .int .i32 s.a, .slice A3 s.mem.length c3, .slice A4 s.cells.length c4, .slice A5 s.vars.length c5, .slice A6 s.out.length c6, .slice A7 s.inp.length c7, .int .i64 s.fault, .int .i64 s.fuel], 32), (#[.slice none 0 0, .slice none 0 0, .int .i32 0, .slice none 0 0, .slice none 0 0, .slice none 0 0, .slice none 0 0, .slice none 0 0, .int .i64 0, .int .i64 0], 32)]) := Lib.hid (hW1 ▸ (Bx.two w #[.slice A0 s.data.length c0, .slice A1 s.ret.length c1, .int .i32 s.a, .slice A3 s.mem.length c3, .slice A4 s.cells.length c4, .slice A5 s.vars.length c5, .slice A6 s.out.length c6, .slice A7 s.inp.length c7, .int .i64 s.fault, .int .i64 s.fuel] #[.slice none 0 0, .slice none 0 0, .int .i32 0, .slice none 0 0, .slice none 0 0, .slice none 0 0, .slice none 0 0, .slice none 0 0, .int .i64 0, .int .i64 0] 32 32))
  have b0 := blk_cell HK1.out.1
  have y0 := blk_lt HK1.out.1
  have b1 := blk_cell HK1.out.2.1
  have g1 := blk_frozen HK1.out.2.1
  have y1 := blk_lt HK1.out.2.1
  have hlo1 : w.heap.size + 2 ≤ w1.heap.size := by omega
  have e0 : ((s.ret.length : Int) == 0) = true := by rw [beq_iff_eq]; omega
  clear hn
  clear hv hz
  go_enter Tryd.func75, Tryd.ntmps75
  go_wp2_with fail
  refine (l08Fault_calls s _ 3 w1 (HV.out.keepB HB1.out) HS.out).mono ?_
  rintro e w9 ⟨v9, rfl, hO, hb⟩
  rw [← HZ.out] at hO
  replace hO := hO.v
  obtain ⟨F0, f0, F1, f1, F3, f3, F4, f4, F5, f5, F6, f6, F7, f7, rfl⟩ := hO.k.form
  have HO := Lib.hid hO
  have HB9 := Lib.hid (bl_call HB1.out hb)
  have HK9 := Lib.hid ((HK1.out).call hb)
  have hl9 : w.heap.size + 2 ≤ w1.heap.size := (by first | omega | (simp; omega))
  have hw9 := hb.size
  clear hO hb b0 y0 b1 g1 y1
  have b0 := blk_cell HK9.out.1
  have y0 := blk_lt HK9.out.1
  have b1 := blk_cell HK9.out.2.1
  have g1 := blk_frozen HK9.out.2.1
  have y1 := blk_lt HK9.out.2.1
  go_wp2_with fail
  refine bodyPost_ret (v := .agg #[.slice F0 z.data.length f0, .slice F1 z.ret.length f1, .int .i32 z.a, .slice F3 z.mem.length f3, .slice F4 z.cells.length f4, .slice F5 z.vars.length f5, .slice F6 z.out.length f6, .slice F7 z.inp.length f7, .int .i64 z.fault, .int .i64 z.fuel]) (by simp [results, Tryd.results75, go_sem, b1, y1]) rfl ⟨_, rfl, ?_, ?_⟩
  · have h0 := HO.out.low (lo' := w.heap.size + 2) hl9
    have h1 : w.heap.size + 1 < w.heap.size + 2 := by omega
    have hz9 : ∀ (W : World) (u : Value), StV W (w.heap.size + 2) w9.heap.size z u → w9.heap.size = W.heap.size → StV W w.heap.size W.heap.size z u := fun W u h e => (h.low (by omega)).top (by omega) (Nat.le_refl _)
    refine hz9 _ _ ?_ (by simp)
    with_reducible repeat (first | exact h0 | refine StV.far ?_ h1 _)
  · have h0 := HB9.out
    with_reducible repeat (first | exact h0 | apply bl_set1)
set_option maxRecDepth 100000 in
set_option maxHeartbeats 4000000 in
theorem back_two (s z : LSt) (v : Value) (w : World) (hv : StK w s v) (hs : s.small 1048576) (tk : Bool) (k : Nat) (t : LSlot) (hn1 : s.ret.length = k + 1) (ht1 : s.ret[k]? = some t) (hb1 : t.kind = 2) (hz : z = { s with fault := 11 }) :
    Calls Tryd.prog 75 #[v, .bool tk] w fun e w' => OtherE w z e w' := by
  have hv' := hv
  obtain ⟨A0, c0, A1, c1, A3, c3, A4, c4, A5, c5, A6, c6, A7, c7, rfl, R0, R1, -⟩ := hv
  obtain ⟨ad, rfl, HCE⟩ := Rd.el LSlot.enc_len R1 ht1 (by omega)
  have HR1 := Lib.hid R1
  have hv := hv'
  clear hv' R0 R1 HCE
  have HV := Lib.hid hv
  have HS := Lib.hid hs
  have HZ := Lib.hid hz
  obtain ⟨w1, hW1⟩ : ∃ W, (w.alloc (.cells #[.slice A0 s.data.length c0, .slice (some ad) s.ret.length c1, .int .i32 s.a, .slice A3 s.mem.length c3, .slice A4 s.cells.length c4, .slice A5 s.vars.length c5, .slice A6 s.out.length c6, .slice A7 s.inp.length c7, .int .i64 s.fault, .int .i64 s.fuel] 32)).alloc (.cells #[.slice none 0 0, .slice none 0 0, .int .i32 0, .slice none 0 0, .slice none 0 0, .slice none 0 0, .slice none 0 0, .slice none 0 0, .int .i64 0, .int .i64 0] 32) = W := ⟨_, rfl⟩
  have HB1 : Hid (Below w.heap.size w w1) := Lib.hid (hW1 ▸ bl_alloc (bl_alloc (Below.refl _ _) _) _)
  have HK1 : Hid (Bx w1 w.heap.size [(#[.slice A0 s.data.length c0, .slice (some ad) s.ret.length c1, .int .i32 s.a, .slice A3 s.mem.length c3, .slice A4 s.cells.length c4, .slice A5 s.vars.length c5, .slice A6 s.out.length c6, .slice A7 s.inp.length c7, .int .i64 s.fault, .int .i64 s.fuel], 32), (#[.slice none 0 0, .slice none 0 0, .int .i32 0, .slice none 0 0, .slice none 0 0, .slice none 0 0, .slice none 0 0, .slice none 0 0, .int .i64 0, .int .i64 0], 32)]) := Lib.hid (hW1 ▸ (Bx.two w #[.slice A0 s.data.length c0, .slice (some ad) s.ret.length c1, .int .i32 s.a, .slice A3 s.mem.length c3, .slice A4 s.cells.length c4, .slice A5 s.vars.length c5, .slice A6 s.out.length c6, .slice A7 s.inp.length c7, .int .i64 s.fault, .int .i64 s.fuel] #[.slice none 0 0, .slice none 0 0, .int .i32 0, .slice none 0 0, .slice none 0 0, .slice none 0 0, .slice none 0 0, .slice none 0 0, .int .i64 0, .int .i64 0] 32 32))
  have b0 := blk_cell HK1.out.1
  have y0 := blk_lt HK1.out.1
  have b1 := blk_cell HK1.out.2.1
  have g1 := blk_frozen HK1.out.2.1
  have y1 := blk_lt HK1.out.2.1
  have hlo1 : w.heap.size + 2 ≤ w1.heap.size := by omega
  have e0 : ((s.ret.length : Int) == 0) = false := by rw [beq_eq_false_iff_ne]; omega
  have ei : (s.ret.length : Int) - 1 = (k : Int) := by omega
  have hkl : k < s.ret.length := by omega
  have hrl : s.ret.length ≤ 1048576 := hs.2.1
  have HTT := Lib.hid ht1
  have HN1 := Lib.hid hn1
  have hce := (HR1.out.keepB HB1.out)
  obtain ⟨ad', ea, hce⟩ := Rd.el LSlot.enc_len hce ht1 (by omega)
  obtain rfl : ad = ad' := by injection ea
  have ce0 : w1.cell? (ad.add (k * 2)) = some (.int .i64 t.kind) := hce 0 _ rfl
  have ce1 : w1.cell? ⟨(ad.add (k * 2)).block, (ad.add (k * 2)).off + 1, none⟩ = some (.int .i32 t.n) := by rw [← add_field ad (k * 2) 1 (by omega)]; exact hce 1 _ rfl
  obtain ⟨w2, hW2⟩ : ∃ W, w1.alloc (.cells #[.int .i64 t.kind, .int .i32 t.n] 77) = W := ⟨_, rfl⟩
  have HB2 : Hid (Below w.heap.size w w2) := Lib.hid (hW2 ▸ bl_alloc HB1.out _)
  have HK2 := Lib.hid (show Bx w2 w.heap.size _ from hW2 ▸ HK1.out.alloc _)
  have hlo2 : w.heap.size + 2 ≤ w2.heap.size := by rw [← hW2]; simp; omega
  have ct := blk_cell (show w2.heap[w1.heap.size]? = some (.cells #[.int .i64 t.kind, .int .i32 t.n] 77 (0, 0)) from hW2 ▸ blk_new _ _)
  have b0' := blk_cell HK2.out.1
  have b1' := blk_cell HK2.out.2.1
  have g1' := blk_frozen HK2.out.2.1
  have y1' := blk_lt HK2.out.2.1
  have e2 : (t.kind == 2) = true := by simpa using hb1
  clear hb1
  clear ht1 hn1 hce ea
  clear hv hz
  go_enter Tryd.func75, Tryd.ntmps75
  go_wp2_with fail
  refine (l08Fault_calls s _ 11 w2 (HV.out.keepB HB2.out) HS.out).mono ?_
  rintro e w9 ⟨v9, rfl, hO, hb⟩
  rw [← HZ.out] at hO
  replace hO := hO.v
  obtain ⟨F0, f0, F1, f1, F3, f3, F4, f4, F5, f5, F6, f6, F7, f7, rfl⟩ := hO.k.form
  have HO := Lib.hid hO
  have HB9 := Lib.hid (bl_call HB2.out hb)
  have HK9 := Lib.hid ((HK2.out).call hb)
  have hl9 : w.heap.size + 2 ≤ w2.heap.size := (by first | omega | (simp; omega))
  have hw9 := hb.size
  clear hO hb b0 y0 b1 g1 y1
  have b0 := blk_cell HK9.out.1
  have y0 := blk_lt HK9.out.1
  have b1 := blk_cell HK9.out.2.1
  have g1 := blk_frozen HK9.out.2.1
  have y1 := blk_lt HK9.out.2.1
  go_wp2_with fail
  refine bodyPost_ret (v := .agg #[.slice F0 z.data.length f0, .slice F1 z.ret.length f1, .int .i32 z.a, .slice F3 z.mem.length f3, .slice F4 z.cells.length f4, .slice F5 z.vars.length f5, .slice F6 z.out.length f6, .slice F7 z.inp.length f7, .int .i64 z.fault, .int .i64 z.fuel]) (by simp [results, Tryd.results75, go_sem, b1, y1]) rfl ⟨_, rfl, ?_, ?_⟩
  · have h0 := HO.out.low (lo' := w.heap.size + 2) hl9
    have h1 : w.heap.size + 1 < w.heap.size + 2 := by omega
    have hz9 : ∀ (W : World) (u : Value), StV W (w.heap.size + 2) w9.heap.size z u → w9.heap.size = W.heap.size → StV W w.heap.size W.heap.size z u := fun W u h e => (h.low (by omega)).top (by omega) (Nat.le_refl _)
    refine hz9 _ _ ?_ (by simp)
    with_reducible repeat (first | exact h0 | refine StV.far ?_ h1 _)
  · have h0 := HB9.out
    with_reducible repeat (first | exact h0 | apply bl_set1)
set_option maxRecDepth 100000 in
set_option maxHeartbeats 4000000 in
theorem back_bad (s z : LSt) (v : Value) (w : World) (hv : StK w s v) (hs : s.small 1048576) (k : Nat) (t : LSlot) (hn1 : s.ret.length = k + 1) (ht1 : s.ret[k]? = some t) (hb1 : t.kind ≠ 2) (hb2 : t.kind ≠ 0) (hz : z = { s with fault := 11 }) :
    Calls Tryd.prog 75 #[v, .bool true] w fun e w' => OtherE w z e w' := by
  have hv' := hv
  obtain ⟨A0, c0, A1, c1, A3, c3, A4, c4, A5, c5, A6, c6, A7, c7, rfl, R0, R1, -⟩ := hv
  obtain ⟨ad, rfl, HCE⟩ := Rd.el LSlot.enc_len R1 ht1 (by omega)
  have HR1 := Lib.hid R1
  have hv := hv'
  clear hv' R0 R1 HCE
  have HV := Lib.hid hv
  have HS := Lib.hid hs
  have HZ := Lib.hid hz
  obtain ⟨w1, hW1⟩ : ∃ W, (w.alloc (.cells #[.slice A0 s.data.length c0, .slice (some ad) s.ret.length c1, .int .i32 s.a, .slice A3 s.mem.length c3, .slice A4 s.cells.length c4, .slice A5 s.vars.length c5, .slice A6 s.out.length c6, .slice A7 s.inp.length c7, .int .i64 s.fault, .int .i64 s.fuel] 32)).alloc (.cells #[.slice none 0 0, .slice none 0 0, .int .i32 0, .slice none 0 0, .slice none 0 0, .slice none 0 0, .slice none 0 0, .slice none 0 0, .int .i64 0, .int .i64 0] 32) = W := ⟨_, rfl⟩
  have HB1 : Hid (Below w.heap.size w w1) := Lib.hid (hW1 ▸ bl_alloc (bl_alloc (Below.refl _ _) _) _)
  have HK1 : Hid (Bx w1 w.heap.size [(#[.slice A0 s.data.length c0, .slice (some ad) s.ret.length c1, .int .i32 s.a, .slice A3 s.mem.length c3, .slice A4 s.cells.length c4, .slice A5 s.vars.length c5, .slice A6 s.out.length c6, .slice A7 s.inp.length c7, .int .i64 s.fault, .int .i64 s.fuel], 32), (#[.slice none 0 0, .slice none 0 0, .int .i32 0, .slice none 0 0, .slice none 0 0, .slice none 0 0, .slice none 0 0, .slice none 0 0, .int .i64 0, .int .i64 0], 32)]) := Lib.hid (hW1 ▸ (Bx.two w #[.slice A0 s.data.length c0, .slice (some ad) s.ret.length c1, .int .i32 s.a, .slice A3 s.mem.length c3, .slice A4 s.cells.length c4, .slice A5 s.vars.length c5, .slice A6 s.out.length c6, .slice A7 s.inp.length c7, .int .i64 s.fault, .int .i64 s.fuel] #[.slice none 0 0, .slice none 0 0, .int .i32 0, .slice none 0 0, .slice none 0 0, .slice none 0 0, .slice none 0 0, .slice none 0 0, .int .i64 0, .int .i64 0] 32 32))
  have b0 := blk_cell HK1.out.1
  have y0 := blk_lt HK1.out.1
  have b1 := blk_cell HK1.out.2.1
  have g1 := blk_frozen HK1.out.2.1
  have y1 := blk_lt HK1.out.2.1
  have hlo1 : w.heap.size + 2 ≤ w1.heap.size := by omega
  have e0 : ((s.ret.length : Int) == 0) = false := by rw [beq_eq_false_iff_ne]; omega
  have ei : (s.ret.length : Int) - 1 = (k : Int) := by omega
  have hkl : k < s.ret.length := by omega
  have hrl : s.ret.length ≤ 1048576 := hs.2.1
  have HTT := Lib.hid ht1
  have HN1 := Lib.hid hn1
  have hce := (HR1.out.keepB HB1.out)
  obtain ⟨ad', ea, hce⟩ := Rd.el LSlot.enc_len hce ht1 (by omega)
  obtain rfl : ad = ad' := by injection ea
  have ce0 : w1.cell? (ad.add (k * 2)) = some (.int .i64 t.kind) := hce 0 _ rfl
  have ce1 : w1.cell? ⟨(ad.add (k * 2)).block, (ad.add (k * 2)).off + 1, none⟩ = some (.int .i32 t.n) := by rw [← add_field ad (k * 2) 1 (by omega)]; exact hce 1 _ rfl
  obtain ⟨w2, hW2⟩ : ∃ W, w1.alloc (.cells #[.int .i64 t.kind, .int .i32 t.n] 77) = W := ⟨_, rfl⟩
  have HB2 : Hid (Below w.heap.size w w2) := Lib.hid (hW2 ▸ bl_alloc HB1.out _)
  have HK2 := Lib.hid (show Bx w2 w.heap.size _ from hW2 ▸ HK1.out.alloc _)
  have hlo2 : w.heap.size + 2 ≤ w2.heap.size := by rw [← hW2]; simp; omega
  have ct := blk_cell (show w2.heap[w1.heap.size]? = some (.cells #[.int .i64 t.kind, .int .i32 t.n] 77 (0, 0)) from hW2 ▸ blk_new _ _)
  have b0' := blk_cell HK2.out.1
  have b1' := blk_cell HK2.out.2.1
  have g1' := blk_frozen HK2.out.2.1
  have y1' := blk_lt HK2.out.2.1
  have e2 : (t.kind == 2) = false := by simpa using hb1
  have e3 : (t.kind != 0) = true := by simpa using hb2
  clear hb1 hb2
  clear ht1 hn1 hce ea
  clear hv hz
  go_enter Tryd.func75, Tryd.ntmps75
  go_wp2_with fail
  refine (l08Fault_calls s _ 11 w2 (HV.out.keepB HB2.out) HS.out).mono ?_
  rintro e w9 ⟨v9, rfl, hO, hb⟩
  rw [← HZ.out] at hO
  replace hO := hO.v
  obtain ⟨F0, f0, F1, f1, F3, f3, F4, f4, F5, f5, F6, f6, F7, f7, rfl⟩ := hO.k.form
  have HO := Lib.hid hO
  have HB9 := Lib.hid (bl_call HB2.out hb)
  have HK9 := Lib.hid ((HK2.out).call hb)
  have hl9 : w.heap.size + 2 ≤ w2.heap.size := (by first | omega | (simp; omega))
  have hw9 := hb.size
  clear hO hb b0 y0 b1 g1 y1
  have b0 := blk_cell HK9.out.1
  have y0 := blk_lt HK9.out.1
  have b1 := blk_cell HK9.out.2.1
  have g1 := blk_frozen HK9.out.2.1
  have y1 := blk_lt HK9.out.2.1
  go_wp2_with fail
  refine bodyPost_ret (v := .agg #[.slice F0 z.data.length f0, .slice F1 z.ret.length f1, .int .i32 z.a, .slice F3 z.mem.length f3, .slice F4 z.cells.length f4, .slice F5 z.vars.length f5, .slice F6 z.out.length f6, .slice F7 z.inp.length f7, .int .i64 z.fault, .int .i64 z.fuel]) (by simp [results, Tryd.results75, go_sem, b1, y1]) rfl ⟨_, rfl, ?_, ?_⟩
  · have h0 := HO.out.low (lo' := w.heap.size + 2) hl9
    have h1 : w.heap.size + 1 < w.heap.size + 2 := by omega
    have hz9 : ∀ (W : World) (u : Value), StV W (w.heap.size + 2) w9.heap.size z u → w9.heap.size = W.heap.size → StV W w.heap.size W.heap.size z u := fun W u h e => (h.low (by omega)).top (by omega) (Nat.le_refl _)
    refine hz9 _ _ ?_ (by simp)
    with_reducible repeat (first | exact h0 | refine StV.far ?_ h1 _)
  · have h0 := HB9.out
    with_reducible repeat (first | exact h0 | apply bl_set1)
set_option maxRecDepth 100000 in
set_option maxHeartbeats 4000000 in
theorem back_peek (s z : LSt) (v : Value) (w : World) (hv : StK w s v) (hs : s.small 1048576) (k : Nat) (t : LSlot) (hn1 : s.ret.length = k + 1) (ht1 : s.ret[k]? = some t) (hb1 : t.kind ≠ 2) (hz : z = putSt s 0 [t.n]) :
    Calls Tryd.prog 75 #[v, .bool false] w fun e w' => OtherE w z e w' := by
  have hv' := hv
  obtain ⟨A0, c0, A1, c1, A3, c3, A4, c4, A5, c5, A6, c6, A7, c7, rfl, R0, R1, -⟩ := hv
  obtain ⟨ad, rfl, HCE⟩ := Rd.el LSlot.enc_len R1 ht1 (by omega)
  have HR1 := Lib.hid R1
  have hv := hv'
  clear hv' R0 R1 HCE
  have HV := Lib.hid hv
  have HS := Lib.hid hs
  have HZ := Lib.hid hz
  obtain ⟨w1, hW1⟩ : ∃ W, (w.alloc (.cells #[.slice A0 s.data.length c0, .slice (some ad) s.ret.length c1, .int .i32 s.a, .slice A3 s.mem.length c3, .slice A4 s.cells.length c4, .slice A5 s.vars.length c5, .slice A6 s.out.length c6, .slice A7 s.inp.length c7, .int .i64 s.fault, .int .i64 s.fuel] 32)).alloc (.cells #[.slice none 0 0, .slice none 0 0, .int .i32 0, .slice none 0 0, .slice none 0 0, .slice none 0 0, .slice none 0 0, .slice none 0 0, .int .i64 0, .int .i64 0] 32) = W := ⟨_, rfl⟩
  have HB1 : Hid (Below w.heap.size w w1) := Lib.hid (hW1 ▸ bl_alloc (bl_alloc (Below.refl _ _) _) _)
  have HK1 : Hid (Bx w1 w.heap.size [(#[.slice A0 s.data.length c0, .slice (some ad) s.ret.length c1, .int .i32 s.a, .slice A3 s.mem.length c3, .slice A4 s.cells.length c4, .slice A5 s.vars.length c5, .slice A6 s.out.length c6, .slice A7 s.inp.length c7, .int .i64 s.fault, .int .i64 s.fuel], 32), (#[.slice none 0 0, .slice none 0 0, .int .i32 0, .slice none 0 0, .slice none 0 0, .slice none 0 0, .slice none 0 0, .slice none 0 0, .int .i64 0, .int .i64 0], 32)]) := Lib.hid (hW1 ▸ (Bx.two w #[.slice A0 s.data.length c0, .slice (some ad) s.ret.length c1, .int .i32 s.a, .slice A3 s.mem.length c3, .slice A4 s.cells.length c4, .slice A5 s.vars.length c5, .slice A6 s.out.length c6, .slice A7 s.inp.length c7, .int .i64 s.fault, .int .i64 s.fuel] #[.slice none 0 0, .slice none 0 0, .int .i32 0, .slice none 0 0, .slice none 0 0, .slice none 0 0, .slice none 0 0, .slice none 0 0, .int .i64 0, .int .i64 0] 32 32))
  have b0 := blk_cell HK1.out.1
  have y0 := blk_lt HK1.out.1
  have b1 := blk_cell HK1.out.2.1
  have g1 := blk_frozen HK1.out.2.1
  have y1 := blk_lt HK1.out.2.1
  have hlo1 : w.heap.size + 2 ≤ w1.heap.size := by omega
  have HT : Hid (0 ≤ s.data.length) := Lib.hid (Nat.zero_le _)
  have e0 : ((s.ret.length : Int) == 0) = false := by rw [beq_eq_false_iff_ne]; omega
  have ei : (s.ret.length : Int) - 1 = (k : Int) := by omega
  have hkl : k < s.ret.length := by omega
  have hrl : s.ret.length ≤ 1048576 := hs.2.1
  have HTT := Lib.hid ht1
  have HN1 := Lib.hid hn1
  have hce := (HR1.out.keepB HB1.out)
  obtain ⟨ad', ea, hce⟩ := Rd.el LSlot.enc_len hce ht1 (by omega)
  obtain rfl : ad = ad' := by injection ea
  have ce0 : w1.cell? (ad.add (k * 2)) = some (.int .i64 t.kind) := hce 0 _ rfl
  have ce1 : w1.cell? ⟨(ad.add (k * 2)).block, (ad.add (k * 2)).off + 1, none⟩ = some (.int .i32 t.n) := by rw [← add_field ad (k * 2) 1 (by omega)]; exact hce 1 _ rfl
  obtain ⟨w2, hW2⟩ : ∃ W, w1.alloc (.cells #[.int .i64 t.kind, .int .i32 t.n] 77) = W := ⟨_, rfl⟩
  have HB2 : Hid (Below w.heap.size w w2) := Lib.hid (hW2 ▸ bl_alloc HB1.out _)
  have HK2 := Lib.hid (show Bx w2 w.heap.size _ from hW2 ▸ HK1.out.alloc _)
  have hlo2 : w.heap.size + 2 ≤ w2.heap.size := by rw [← hW2]; simp; omega
  have ct := blk_cell (show w2.heap[w1.heap.size]? = some (.cells #[.int .i64 t.kind, .int .i32 t.n] 77 (0, 0)) from hW2 ▸ blk_new _ _)
  have b0' := blk_cell HK2.out.1
  have b1' := blk_cell HK2.out.2.1
  have g1' := blk_frozen HK2.out.2.1
  have y1' := blk_lt HK2.out.2.1
  have e2 : (t.kind == 2) = false := by simpa using hb1
  have HS1 : Hid (putSt s 0 [t.n] = z) := Lib.hid hz.symm
  clear hb1
  clear ht1 hn1 hce ea
  clear hv hz
  go_enter Tryd.func75, Tryd.ntmps75
  go_wp2_with fail
  have HPT := Lib.hid (l08Put_at s _ 0 1 0 (some ⟨w2.heap.size, 0, none⟩) 1 [t.n] (w2.alloc (.cells #[.int .i32 t.n] 21)) (HV.out.keepB (bl_alloc HB2.out (.cells #[.int .i32 t.n] 21))) HS.out HT.out rfl rfl (Row.made (w2) #[.int .i32 t.n] 21 1 1 (by decide) rfl).rd (by omega))
  refine HPT.out.mono ?_
  rintro e w4 ⟨v4, rfl, hO, hb⟩
  rw [HS1.out] at hO
  obtain ⟨E0, e0, E1, e1, E3, e3, E4, e4, E5, e5, E6, e6, E7, e7, rfl⟩ := hO.k.form
  have HB4 := Lib.hid (bl_call (bl_alloc HB2.out (.cells #[.int .i32 t.n] 21)) hb)
  have HK4 := Lib.hid ((HK2.out.alloc (.cells #[.int .i32 t.n] 21)).call hb)
  have hl4 : w.heap.size + 2 ≤ (w2.alloc (.cells #[.int .i32 t.n] 21)).heap.size := (by first | omega | (simp; omega))
  have h4 := hb.size
  obtain ⟨lo, hlo⟩ : ∃ n, (w2.alloc (.cells #[.int .i32 t.n] 21)).heap.size = n := ⟨_, rfl⟩
  rw [hlo] at hO hl4 h4
  obtain ⟨W5, hW5⟩ : ∃ W, w4.alloc (.cells #[.slice E0 z.data.length e0, .slice E1 z.ret.length e1, .int .i32 z.a, .slice E3 z.mem.length e3, .slice E4 z.cells.length e4, .slice E5 z.vars.length e5, .slice E6 z.out.length e6, .slice E7 z.inp.length e7, .int .i64 z.fault, .int .i64 z.fuel] 32) = W := ⟨_, rfl⟩
  have HX5 : Hid (StX W5 w4.heap.size lo z) := Lib.hid (hW5 ▸ StX.of hO)
  have hb5 : Below w4.heap.size w4 W5 := hW5 ▸ bl_alloc (Below.refl _ _) _
  have h45' : w4.heap.size < W5.heap.size := by rw [← hW5]; simp
  have HB5 := Lib.hid (bl_call HB4.out hb5)
  have HK5 := Lib.hid (HK4.out.call hb5)
  have hloW : lo ≤ W5.heap.size := by omega
  clear hO hb hb5 hlo b0 y0 b1 g1 y1
  have b0 := blk_cell HK5.out.1
  have y0 := blk_lt HK5.out.1
  have b1 := blk_cell HK5.out.2.1
  have g1 := blk_frozen HK5.out.2.1
  have y1 := blk_lt HK5.out.2.1
  obtain ⟨J0, j0, J1, j1, J3, j3, J4, j4, J5, j5, J6, j6, J7, j7, hg9, hk9⟩ := HX5.out.read
  have HV9 := Lib.hid hk9
  have c9 := blk_cell hg9
  have z9 := blk_lt hg9
  have HB9 := HB5
  clear hg9 hk9
  go_wp2_with fail
  refine bodyPost_ret (v := .agg #[.slice J0 z.data.length j0, .slice J1 z.ret.length j1, .int .i32 z.a, .slice J3 z.mem.length j3, .slice J4 z.cells.length j4, .slice J5 z.vars.length j5, .slice J6 z.out.length j6, .slice J7 z.inp.length j7, .int .i64 z.fault, .int .i64 z.fuel]) (by simp [results, Tryd.results75, go_sem, b1, y1]) rfl ⟨_, rfl, ?_, ?_⟩
  · have h0 : StV W5 (w.heap.size + 2) W5.heap.size z (.agg #[.slice J0 z.data.length j0, .slice J1 z.ret.length j1, .int .i32 z.a, .slice J3 z.mem.length j3, .slice J4 z.cells.length j4, .slice J5 z.vars.length j5, .slice J6 z.out.length j6, .slice J7 z.inp.length j7, .int .i64 z.fault, .int .i64 z.fuel]) := ⟨Nat.le_refl _, fun u1 hk => HV9.out u1 (fun x p1 p2 p3 => hk x (by omega) p2)⟩
    have h1 : w.heap.size + 1 < w.heap.size + 2 := by omega
    have hz9 : ∀ (W : World) (u : Value), StV W (w.heap.size + 2) W5.heap.size z u → W5.heap.size = W.heap.size → StV W w.heap.size W.heap.size z u := fun W u h e => (h.low (by omega)).top (by omega) (Nat.le_refl _)
    refine hz9 _ _ ?_ (by simp)
    with_reducible repeat (first | exact h0 | refine StV.far ?_ h1 _)
  · have h0 := HB9.out
    with_reducible repeat (first | exact h0 | apply bl_set1)
set_option maxRecDepth 100000 in
set_option maxHeartbeats 4000000 in
theorem back_full (s z : LSt) (v : Value) (w : World) (hv : StK w s v) (hs : s.small 1048576) (k : Nat) (t : LSlot) (hn1 : s.ret.length = k + 1) (ht1 : s.ret[k]? = some t) (hb1 : t.kind = 0) (hfu : s.data.length = 16) (hz : z = { s with fault := 2 }) :
    Calls Tryd.prog 75 #[v, .bool true] w fun e w' => OtherE w z e w' := by
  have hv' := hv
  obtain ⟨A0, c0, A1, c1, A3, c3, A4, c4, A5, c5, A6, c6, A7, c7, rfl, R0, R1, -⟩ := hv
  obtain ⟨ad, rfl, HCE⟩ := Rd.el LSlot.enc_len R1 ht1 (by omega)
  have HR1 := Lib.hid R1
  have hv := hv'
  clear hv' R0 R1 HCE
  have HV := Lib.hid hv
  have HS := Lib.hid hs
  have HZ := Lib.hid hz
  obtain ⟨w1, hW1⟩ : ∃ W, (w.alloc (.cells #[.slice A0 s.data.length c0, .slice (some ad) s.ret.length c1, .int .i32 s.a, .slice A3 s.mem.length c3, .slice A4 s.cells.length c4, .slice A5 s.vars.length c5, .slice A6 s.out.length c6, .slice A7 s.inp.length c7, .int .i64 s.fault, .int .i64 s.fuel] 32)).alloc (.cells #[.slice none 0 0, .slice none 0 0, .int .i32 0, .slice none 0 0, .slice none 0 0, .slice none 0 0, .slice none 0 0, .slice none 0 0, .int .i64 0, .int .i64 0] 32) = W := ⟨_, rfl⟩
  have HB1 : Hid (Below w.heap.size w w1) := Lib.hid (hW1 ▸ bl_alloc (bl_alloc (Below.refl _ _) _) _)
  have HK1 : Hid (Bx w1 w.heap.size [(#[.slice A0 s.data.length c0, .slice (some ad) s.ret.length c1, .int .i32 s.a, .slice A3 s.mem.length c3, .slice A4 s.cells.length c4, .slice A5 s.vars.length c5, .slice A6 s.out.length c6, .slice A7 s.inp.length c7, .int .i64 s.fault, .int .i64 s.fuel], 32), (#[.slice none 0 0, .slice none 0 0, .int .i32 0, .slice none 0 0, .slice none 0 0, .slice none 0 0, .slice none 0 0, .slice none 0 0, .int .i64 0, .int .i64 0], 32)]) := Lib.hid (hW1 ▸ (Bx.two w #[.slice A0 s.data.length c0, .slice (some ad) s.ret.length c1, .int .i32 s.a, .slice A3 s.mem.length c3, .slice A4 s.cells.length c4, .slice A5 s.vars.length c5, .slice A6 s.out.length c6, .slice A7 s.inp.length c7, .int .i64 s.fault, .int .i64 s.fuel] #[.slice none 0 0, .slice none 0 0, .int .i32 0, .slice none 0 0, .slice none 0 0, .slice none 0 0, .slice none 0 0, .slice none 0 0, .int .i64 0, .int .i64 0] 32 32))
  have b0 := blk_cell HK1.out.1
  have y0 := blk_lt HK1.out.1
  have b1 := blk_cell HK1.out.2.1
  have g1 := blk_frozen HK1.out.2.1
  have y1 := blk_lt HK1.out.2.1
  have hlo1 : w.heap.size + 2 ≤ w1.heap.size := by omega
  have HT : Hid (0 ≤ s.data.length) := Lib.hid (Nat.zero_le _)
  have e0 : ((s.ret.length : Int) == 0) = false := by rw [beq_eq_false_iff_ne]; omega
  have ei : (s.ret.length : Int) - 1 = (k : Int) := by omega
  have hkl : k < s.ret.length := by omega
  have hrl : s.ret.length ≤ 1048576 := hs.2.1
  have HTT := Lib.hid ht1
  have HN1 := Lib.hid hn1
  have hce := (HR1.out.keepB HB1.out)
  obtain ⟨ad', ea, hce⟩ := Rd.el LSlot.enc_len hce ht1 (by omega)
  obtain rfl : ad = ad' := by injection ea
  have ce0 : w1.cell? (ad.add (k * 2)) = some (.int .i64 t.kind) := hce 0 _ rfl
  have ce1 : w1.cell? ⟨(ad.add (k * 2)).block, (ad.add (k * 2)).off + 1, none⟩ = some (.int .i32 t.n) := by rw [← add_field ad (k * 2) 1 (by omega)]; exact hce 1 _ rfl
  obtain ⟨w2, hW2⟩ : ∃ W, w1.alloc (.cells #[.int .i64 t.kind, .int .i32 t.n] 77) = W := ⟨_, rfl⟩
  have HB2 : Hid (Below w.heap.size w w2) := Lib.hid (hW2 ▸ bl_alloc HB1.out _)
  have HK2 := Lib.hid (show Bx w2 w.heap.size _ from hW2 ▸ HK1.out.alloc _)
  have hlo2 : w.heap.size + 2 ≤ w2.heap.size := by rw [← hW2]; simp; omega
  have ct := blk_cell (show w2.heap[w1.heap.size]? = some (.cells #[.int .i64 t.kind, .int .i32 t.n] 77 (0, 0)) from hW2 ▸ blk_new _ _)
  have b0' := blk_cell HK2.out.1
  have b1' := blk_cell HK2.out.2.1
  have g1' := blk_frozen HK2.out.2.1
  have y1' := blk_lt HK2.out.2.1
  have e2 : (t.kind == 2) = false := by rw [hb1]; rfl
  have e3 : (t.kind != 0) = false := by simpa using hb1
  have hzp : putSt s 0 [t.n] = z := by rw [hz, putSt, if_pos (by simp; omega)]
  have HS1 : Hid (putSt s 0 [t.n] = z) := Lib.hid hzp
  have ezf : (z.fault == 0) = false := by rw [hz]; rfl
  clear hb1 hfu hzp
  clear ht1 hn1 hce ea
  clear hv hz
  go_enter Tryd.func75, Tryd.ntmps75
  go_wp2_with fail
  have HPT := Lib.hid (l08Put_at s _ 0 1 0 (some ⟨w2.heap.size, 0, none⟩) 1 [t.n] (w2.alloc (.cells #[.int .i32 t.n] 21)) (HV.out.keepB (bl_alloc HB2.out (.cells #[.int .i32 t.n] 21))) HS.out HT.out rfl rfl (Row.made (w2) #[.int .i32 t.n] 21 1 1 (by decide) rfl).rd (by omega))
  refine HPT.out.mono ?_
  rintro e w4 ⟨v4, rfl, hO, hb⟩
  rw [HS1.out] at hO
  obtain ⟨E0, e0, E1, e1, E3, e3, E4, e4, E5, e5, E6, e6, E7, e7, rfl⟩ := hO.k.form
  have HB4 := Lib.hid (bl_call (bl_alloc HB2.out (.cells #[.int .i32 t.n] 21)) hb)
  have HK4 := Lib.hid ((HK2.out.alloc (.cells #[.int .i32 t.n] 21)).call hb)
  have hl4 : w.heap.size + 2 ≤ (w2.alloc (.cells #[.int .i32 t.n] 21)).heap.size := (by first | omega | (simp; omega))
  have h4 := hb.size
  obtain ⟨lo, hlo⟩ : ∃ n, (w2.alloc (.cells #[.int .i32 t.n] 21)).heap.size = n := ⟨_, rfl⟩
  rw [hlo] at hO hl4 h4
  obtain ⟨W5, hW5⟩ : ∃ W, w4.alloc (.cells #[.slice E0 z.data.length e0, .slice E1 z.ret.length e1, .int .i32 z.a, .slice E3 z.mem.length e3, .slice E4 z.cells.length e4, .slice E5 z.vars.length e5, .slice E6 z.out.length e6, .slice E7 z.inp.length e7, .int .i64 z.fault, .int .i64 z.fuel] 32) = W := ⟨_, rfl⟩
  have HX5 : Hid (StX W5 w4.heap.size lo z) := Lib.hid (hW5 ▸ StX.of hO)
  have hb5 : Below w4.heap.size w4 W5 := hW5 ▸ bl_alloc (Below.refl _ _) _
  have h45' : w4.heap.size < W5.heap.size := by rw [← hW5]; simp
  have HB5 := Lib.hid (bl_call HB4.out hb5)
  have HK5 := Lib.hid (HK4.out.call hb5)
  have hloW : lo ≤ W5.heap.size := by omega
  clear hO hb hb5 hlo b0 y0 b1 g1 y1
  have b0 := blk_cell HK5.out.1
  have y0 := blk_lt HK5.out.1
  have b1 := blk_cell HK5.out.2.1
  have g1 := blk_frozen HK5.out.2.1
  have y1 := blk_lt HK5.out.2.1
  obtain ⟨J0, j0, J1, j1, J3, j3, J4, j4, J5, j5, J6, j6, J7, j7, hg9, hk9⟩ := HX5.out.read
  have HV9 := Lib.hid hk9
  have c9 := blk_cell hg9
  have z9 := blk_lt hg9
  have HB9 := HB5
  clear hg9 hk9
  go_wp2_with fail
  refine bodyPost_ret (v := .agg #[.slice J0 z.data.length j0, .slice J1 z.ret.length j1, .int .i32 z.a, .slice J3 z.mem.length j3, .slice J4 z.cells.length j4, .slice J5 z.vars.length j5, .slice J6 z.out.length j6, .slice J7 z.inp.length j7, .int .i64 z.fault, .int .i64 z.fuel]) (by simp [results, Tryd.results75, go_sem, b1, y1]) rfl ⟨_, rfl, ?_, ?_⟩
  · have h0 : StV W5 (w.heap.size + 2) W5.heap.size z (.agg #[.slice J0 z.data.length j0, .slice J1 z.ret.length j1, .int .i32 z.a, .slice J3 z.mem.length j3, .slice J4 z.cells.length j4, .slice J5 z.vars.length j5, .slice J6 z.out.length j6, .slice J7 z.inp.length j7, .int .i64 z.fault, .int .i64 z.fuel]) := ⟨Nat.le_refl _, fun u1 hk => HV9.out u1 (fun x p1 p2 p3 => hk x (by omega) p2)⟩
    have h1 : w.heap.size + 1 < w.heap.size + 2 := by omega
    have hz9 : ∀ (W : World) (u : Value), StV W (w.heap.size + 2) W5.heap.size z u → W5.heap.size = W.heap.size → StV W w.heap.size W.heap.size z u := fun W u h e => (h.low (by omega)).top (by omega) (Nat.le_refl _)
    refine hz9 _ _ ?_ (by simp)
    with_reducible repeat (first | exact h0 | refine StV.far ?_ h1 _)
  · have h0 := HB9.out
    with_reducible repeat (first | exact h0 | apply bl_set1)
set_option maxRecDepth 100000 in
set_option maxHeartbeats 4000000 in
theorem back_pop (s z : LSt) (v : Value) (w : World) (hv : StK w s v) (hs : s.small 1048576) (k : Nat) (t : LSlot) (hn1 : s.ret.length = k + 1) (ht1 : s.ret[k]? = some t) (hb1 : t.kind = 0) (hf0 : s.fault = 0) (hfu : s.data.length < 16) (hz : z = { putSt s 0 [t.n] with ret := s.ret.take k }) :
    Calls Tryd.prog 75 #[v, .bool true] w fun e w' => OtherE w z e w' := by
  have hv' := hv
  obtain ⟨A0, c0, A1, c1, A3, c3, A4, c4, A5, c5, A6, c6, A7, c7, rfl, R0, R1, -⟩ := hv
  obtain ⟨ad, rfl, HCE⟩ := Rd.el LSlot.enc_len R1 ht1 (by omega)
  have HR1 := Lib.hid R1
  have hv := hv'
  clear hv' R0 R1 HCE
  have HV := Lib.hid hv
  have HS := Lib.hid hs
  have HZ := Lib.hid hz
  obtain ⟨w1, hW1⟩ : ∃ W, (w.alloc (.cells #[.slice A0 s.data.length c0, .slice (some ad) s.ret.length c1, .int .i32 s.a, .slice A3 s.mem.length c3, .slice A4 s.cells.length c4, .slice A5 s.vars.length c5, .slice A6 s.out.length c6, .slice A7 s.inp.length c7, .int .i64 s.fault, .int .i64 s.fuel] 32)).alloc (.cells #[.slice none 0 0, .slice none 0 0, .int .i32 0, .slice none 0 0, .slice none 0 0, .slice none 0 0, .slice none 0 0, .slice none 0 0, .int .i64 0, .int .i64 0] 32) = W := ⟨_, rfl⟩
  have HB1 : Hid (Below w.heap.size w w1) := Lib.hid (hW1 ▸ bl_alloc (bl_alloc (Below.refl _ _) _) _)
  have HK1 : Hid (Bx w1 w.heap.size [(#[.slice A0 s.data.length c0, .slice (some ad) s.ret.length c1, .int .i32 s.a, .slice A3 s.mem.length c3, .slice A4 s.cells.length c4, .slice A5 s.vars.length c5, .slice A6 s.out.length c6, .slice A7 s.inp.length c7, .int .i64 s.fault, .int .i64 s.fuel], 32), (#[.slice none 0 0, .slice none 0 0, .int .i32 0, .slice none 0 0, .slice none 0 0, .slice none 0 0, .slice none 0 0, .slice none 0 0, .int .i64 0, .int .i64 0], 32)]) := Lib.hid (hW1 ▸ (Bx.two w #[.slice A0 s.data.length c0, .slice (some ad) s.ret.length c1, .int .i32 s.a, .slice A3 s.mem.length c3, .slice A4 s.cells.length c4, .slice A5 s.vars.length c5, .slice A6 s.out.length c6, .slice A7 s.inp.length c7, .int .i64 s.fault, .int .i64 s.fuel] #[.slice none 0 0, .slice none 0 0, .int .i32 0, .slice none 0 0, .slice none 0 0, .slice none 0 0, .slice none 0 0, .slice none 0 0, .int .i64 0, .int .i64 0] 32 32))
  have b0 := blk_cell HK1.out.1
  have y0 := blk_lt HK1.out.1
  have b1 := blk_cell HK1.out.2.1
  have g1 := blk_frozen HK1.out.2.1
  have y1 := blk_lt HK1.out.2.1
  have hlo1 : w.heap.size + 2 ≤ w1.heap.size := by omega
  have HT : Hid (0 ≤ s.data.length) := Lib.hid (Nat.zero_le _)
  have e0 : ((s.ret.length : Int) == 0) = false := by rw [beq_eq_false_iff_ne]; omega
  have ei : (s.ret.length : Int) - 1 = (k : Int) := by omega
  have hkl : k < s.ret.length := by omega
  have hrl : s.ret.length ≤ 1048576 := hs.2.1
  have HTT := Lib.hid ht1
  have HN1 := Lib.hid hn1
  have hce := (HR1.out.keepB HB1.out)
  obtain ⟨ad', ea, hce⟩ := Rd.el LSlot.enc_len hce ht1 (by omega)
  obtain rfl : ad = ad' := by injection ea
  have ce0 : w1.cell? (ad.add (k * 2)) = some (.int .i64 t.kind) := hce 0 _ rfl
  have ce1 : w1.cell? ⟨(ad.add (k * 2)).block, (ad.add (k * 2)).off + 1, none⟩ = some (.int .i32 t.n) := by rw [← add_field ad (k * 2) 1 (by omega)]; exact hce 1 _ rfl
  obtain ⟨w2, hW2⟩ : ∃ W, w1.alloc (.cells #[.int .i64 t.kind, .int .i32 t.n] 77) = W := ⟨_, rfl⟩
  have HB2 : Hid (Below w.heap.size w w2) := Lib.hid (hW2 ▸ bl_alloc HB1.out _)
  have HK2 := Lib.hid (show Bx w2 w.heap.size _ from hW2 ▸ HK1.out.alloc _)
  have hlo2 : w.heap.size + 2 ≤ w2.heap.size := by rw [← hW2]; simp; omega
  have ct := blk_cell (show w2.heap[w1.heap.size]? = some (.cells #[.int .i64 t.kind, .int .i32 t.n] 77 (0, 0)) from hW2 ▸ blk_new _ _)
  have b0' := blk_cell HK2.out.1
  have b1' := blk_cell HK2.out.2.1
  have g1' := blk_frozen HK2.out.2.1
  have y1' := blk_lt HK2.out.2.1
  have e2 : (t.kind == 2) = false := by rw [hb1]; rfl
  have e3 : (t.kind != 0) = false := by simpa using hb1
  obtain ⟨s1, hs1⟩ : ∃ s1, putSt s 0 [t.n] = s1 := ⟨_, rfl⟩
  have HS1 := Lib.hid hs1
  have hp1 : s1 = { s with data := s.data.take (s.data.length - 0) ++ [t.n] } := by rw [← hs1, putSt, if_neg (by simp; omega)]
  have ezf : (s1.fault == 0) = true := by rw [hp1]; simpa using hf0
  have HRT : Hid (s1.ret = s.ret) := Lib.hid (by rw [hp1])
  have HZ1 : Hid (z = { s1 with ret := s1.ret.take k }) := Lib.hid (by rw [hz, hs1, HRT.out])
  clear hb1 hfu hs1 hp1 hf0
  clear ht1 hn1 hce ea
  clear hv hz
  go_enter Tryd.func75, Tryd.ntmps75
  go_wp2_with fail
  have HPT := Lib.hid (l08Put_at s _ 0 1 0 (some ⟨w2.heap.size, 0, none⟩) 1 [t.n] (w2.alloc (.cells #[.int .i32 t.n] 21)) (HV.out.keepB (bl_alloc HB2.out (.cells #[.int .i32 t.n] 21))) HS.out HT.out rfl rfl (Row.made (w2) #[.int .i32 t.n] 21 1 1 (by decide) rfl).rd (by omega))
  refine HPT.out.mono ?_
  rintro e w4 ⟨v4, rfl, hO, hb⟩
  rw [HS1.out] at hO
  obtain ⟨E0, e0, E1, e1, E3, e3, E4, e4, E5, e5, E6, e6, E7, e7, rfl⟩ := hO.k.form
  have HB4 := Lib.hid (bl_call (bl_alloc HB2.out (.cells #[.int .i32 t.n] 21)) hb)
  have HK4 := Lib.hid ((HK2.out.alloc (.cells #[.int .i32 t.n] 21)).call hb)
  have hl4 : w.heap.size + 2 ≤ (w2.alloc (.cells #[.int .i32 t.n] 21)).heap.size := (by first | omega | (simp; omega))
  have h4 := hb.size
  obtain ⟨lo, hlo⟩ : ∃ n, (w2.alloc (.cells #[.int .i32 t.n] 21)).heap.size = n := ⟨_, rfl⟩
  rw [hlo] at hO hl4 h4
  obtain ⟨W5, hW5⟩ : ∃ W, w4.alloc (.cells #[.slice E0 s1.data.length e0, .slice E1 s1.ret.length e1, .int .i32 s1.a, .slice E3 s1.mem.length e3, .slice E4 s1.cells.length e4, .slice E5 s1.vars.length e5, .slice E6 s1.out.length e6, .slice E7 s1.inp.length e7, .int .i64 s1.fault, .int .i64 s1.fuel] 32) = W := ⟨_, rfl⟩
  have HX5 : Hid (StX W5 w4.heap.size lo s1) := Lib.hid (hW5 ▸ StX.of hO)
  have hb5 : Below w4.heap.size w4 W5 := hW5 ▸ bl_alloc (Below.refl _ _) _
  have h45' : w4.heap.size < W5.heap.size := by rw [← hW5]; simp
  have HB5 := Lib.hid (bl_call HB4.out hb5)
  have HK5 := Lib.hid (HK4.out.call hb5)
  have hloW : lo ≤ W5.heap.size := by omega
  clear hO hb hb5 hlo b0 y0 b1 g1 y1
  have b0 := blk_cell HK5.out.1
  have y0 := blk_lt HK5.out.1
  have b1 := blk_cell HK5.out.2.1
  have g1 := blk_frozen HK5.out.2.1
  have y1 := blk_lt HK5.out.2.1
  obtain ⟨D0, d0, D1, d1, D3, d3, D4, d4, D5, d5, D6, d6, D7, d7, bb, hg, r1, L1, hK⟩ := HX5.out.rep1 hloW
  have hk1 : k ≤ s1.ret.length := by rw [HRT.out]; omega
  have hkd : k ≤ d1 := by have := r1.le; omega
  have hkdi : (k : Int) ≤ (d1 : Int) := by omega
  have HTK : Hid ((s1.ret.take k).length = k) := Lib.hid (by rw [List.length_take]; omega)
  have hh := hK (s1.ret.take k) D1 d1 W5 bb (by rw [HTK.out, List.flatMap_take_two]; exact r1.shorter hk1) (grownBy_refl _ _) (.inl rfl)
  rw [← HZ1.out, HTK.out] at hh
  obtain ⟨w9, hw9⟩ : ∃ W, W5.setCell ⟨w4.heap.size, 1, none⟩ (.slice D1 k d1) = W := ⟨_, rfl⟩
  rw [hw9] at hh
  have cg5 := blk_cell hg
  have fg5 := blk_frozen hg
  have zg5 := blk_lt hg
  clear hg r1 L1 hK
  have HB9 := Lib.hid (FrG.below hh.2 HB5.out (by omega) (by omega) (by omega)); have HK9 := Lib.hid (HK5.out.fr hh.2 (by simp only [List.length_cons, List.length_nil]; omega) (by simp only [List.length_cons, List.length_nil]; omega)); have hsz9 := hh.2.size; obtain ⟨J0, j0, J1, j1, J3, j3, J4, j4, J5, j5, J6, j6, J7, j7, hg9, hk9⟩ := hh.1.read; have HV9 := Lib.hid hk9; have c9 := blk_cell hg9; have z9 := blk_lt hg9; have b0 := blk_cell HK9.out.1; have y0 := blk_lt HK9.out.1; have b1 := blk_cell HK9.out.2.1; have g1 := blk_frozen HK9.out.2.1; have y1 := blk_lt HK9.out.2.1; clear hg9 hk9 hh
  go_wp2_with fail
  refine bodyPost_ret (v := .agg #[.slice J0 z.data.length j0, .slice J1 z.ret.length j1, .int .i32 z.a, .slice J3 z.mem.length j3, .slice J4 z.cells.length j4, .slice J5 z.vars.length j5, .slice J6 z.out.length j6, .slice J7 z.inp.length j7, .int .i64 z.fault, .int .i64 z.fuel]) (by simp [results, Tryd.results75, go_sem, b1, y1]) rfl ⟨_, rfl, ?_, ?_⟩
  · have h0 : StV w9 (w.heap.size + 2) w9.heap.size z (.agg #[.slice J0 z.data.length j0, .slice J1 z.ret.length j1, .int .i32 z.a, .slice J3 z.mem.length j3, .slice J4 z.cells.length j4, .slice J5 z.vars.length j5, .slice J6 z.out.length j6, .slice J7 z.inp.length j7, .int .i64 z.fault, .int .i64 z.fuel]) := ⟨Nat.le_refl _, fun u1 hk => HV9.out u1 (fun x p1 p2 p3 => hk x (by omega) p2)⟩
    have h1 : w.heap.size + 1 < w.heap.size + 2 := by omega
    have hz9 : ∀ (W : World) (u : Value), StV W (w.heap.size + 2) w9.heap.size z u → w9.heap.size = W.heap.size → StV W w.heap.size W.heap.size z u := fun W u h e => (h.low (by omega)).top (by omega) (Nat.le_refl _)
    refine hz9 _ _ ?_ (by simp)
    with_reducible repeat (first | exact h0 | refine StV.far ?_ h1 _)
  · have h0 := HB9.out
    with_reducible repeat (first | exact h0 | apply bl_set1)
end Go.Proofs.YtgljbcdlldhlfaaDoor

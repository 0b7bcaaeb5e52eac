/- The reference's built-in words: contracts of l08Store. -/
import Derived.Test.YtgljbcdlldhlfaaDoorSd
set_option linter.unusedVariables false
set_option linter.unusedSimpArgs false
namespace Go.Proofs.YtgljbcdlldhlfaaDoor
open Go.RowKit

set_option maxRecDepth 100000 in
set_option maxHeartbeats 4000000 in
theorem store_mem (s z : LSt) (v : Value) (w : World) (hv : StK w s v) (hs : s.small 1048576) (x : Int) (n : Nat) (hy : (Lit.int .i32 (n : Int)).wf = true) (ht : 2 ≤ s.data.length) (hd : s.data.length ≤ 16) (hn : n < 32) (hm : s.mem.length = 32) (hp : placeI s (n : Int) = n) (hz : z = { putSt s 2 [] with mem := s.mem.set n x }) :
    Calls Tryd.prog 72 #[v, .int .i32 x, .int .i32 (n : Int)] w fun e w' => OtherE w z e w' := by
  have hv' := hv
  obtain ⟨A0, c0, A1, c1, A3, c3, A4, c4, A5, c5, A6, c6, A7, c7, rfl, R0, R1, R3, R4, R5, -⟩ := hv
  have HR5 := Lib.hid R5
  have hv := hv'
  clear hv' R0 R1 R3 R4 R5
  have HV := Lib.hid hv
  have HS := Lib.hid hs
  have HZ := Lib.hid hz
  obtain ⟨w1, hW1⟩ : ∃ W, (w.alloc (.cells #[.slice A0 s.data.length c0, .slice A1 s.ret.length c1, .int .i32 s.a, .slice A3 s.mem.length c3, .slice A4 s.cells.length c4, .slice A5 s.vars.length c5, .slice A6 s.out.length c6, .slice A7 s.inp.length c7, .int .i64 s.fault, .int .i64 s.fuel] 32)).alloc (.cells #[.slice none 0 0, .slice none 0 0, .int .i32 0, .slice none 0 0, .slice none 0 0, .slice none 0 0, .slice none 0 0, .slice none 0 0, .int .i64 0, .int .i64 0] 32) = W := ⟨_, rfl⟩
  have HB1 : Hid (Below w.heap.size w w1) := Lib.hid (hW1 ▸ bl_alloc (bl_alloc (Below.refl _ _) _) _)
  have HK1 : Hid (Bx w1 w.heap.size [(#[.slice A0 s.data.length c0, .slice A1 s.ret.length c1, .int .i32 s.a, .slice A3 s.mem.length c3, .slice A4 s.cells.length c4, .slice A5 s.vars.length c5, .slice A6 s.out.length c6, .slice A7 s.inp.length c7, .int .i64 s.fault, .int .i64 s.fuel], 32), (#[.slice none 0 0, .slice none 0 0, .int .i32 0, .slice none 0 0, .slice none 0 0, .slice none 0 0, .slice none 0 0, .slice none 0 0, .int .i64 0, .int .i64 0], 32)]) := Lib.hid (hW1 ▸ (Bx.two w #[.slice A0 s.data.length c0, .slice A1 s.ret.length c1, .int .i32 s.a, .slice A3 s.mem.length c3, .slice A4 s.cells.length c4, .slice A5 s.vars.length c5, .slice A6 s.out.length c6, .slice A7 s.inp.length c7, .int .i64 s.fault, .int .i64 s.fuel] #[.slice none 0 0, .slice none 0 0, .int .i32 0, .slice none 0 0, .slice none 0 0, .slice none 0 0, .slice none 0 0, .slice none 0 0, .int .i64 0, .int .i64 0] 32 32))
  have b0 := blk_cell HK1.out.1
  have y0 := blk_lt HK1.out.1
  have b1 := blk_cell HK1.out.2.1
  have g1 := blk_frozen HK1.out.2.1
  have y1 := blk_lt HK1.out.2.1
  have hlo1 : w.heap.size + 2 ≤ w1.heap.size := by omega
  have HT := Lib.hid ht
  clear ht
  obtain ⟨s1, hs1⟩ : ∃ s1, putSt s 2 [] = s1 := ⟨_, rfl⟩
  have HS1 := Lib.hid hs1
  have hp1 : s1 = { s with data := s.data.take (s.data.length - 2) } := by rw [← hs1, putSt_nil hd]
  have hvl : s.vars.length ≤ 1048576 := hs.2.2.2.2.1
  have hin : decide (0 ≤ (n : Int) ∧ (n : Int) ≤ 31) = true := decide_eq_true (by omega)
  have hm1 : s1.mem = s.mem := by rw [hp1]
  have HZ1 : Hid (z = { s1 with mem := s1.mem.set n x }) := Lib.hid (by rw [hz, hs1, hm1])
  have HM1 : Hid (s1.mem.length = 32) := Lib.hid (by rw [hm1]; exact hm)
  clear hs1 hp1 hm1 hm
  clear hv hz
  go_enter Tryd.func72, Tryd.ntmps72
  go_wp2_with fail
  refine ((specPlace_calls s _ n w1 (HV.out.keepB HB1.out) HS.out hy)).mono ?_
  rintro e w2 ⟨rfl, hb⟩
  rw [hp]
  have HB2 := Lib.hid (bl_call HB1.out hb)
  have HK2 := Lib.hid (HK1.out.call hb)
  have hlo2 : w.heap.size + 2 ≤ w2.heap.size := Nat.le_trans hlo1 hb.size
  clear hb b0 y0 b1 g1 y1
  have b0 := blk_cell HK2.out.1
  have y0 := blk_lt HK2.out.1
  have b1 := blk_cell HK2.out.2.1
  have g1 := blk_frozen HK2.out.2.1
  have y1 := blk_lt HK2.out.2.1
  go_wp2_with fail
  have HPT := Lib.hid (l08Put_at s _ 2 0 2 (some ⟨w2.heap.size, 0, none⟩) 0 [] (w2.alloc (.cells #[] 21)) (HV.out.keepB (bl_alloc HB2.out (.cells #[] 21))) HS.out HT.out rfl rfl (Row.made (w2) #[] 21 1 0 (by decide) rfl).rd (by omega))
  refine HPT.out.mono ?_
  rintro e w4 ⟨v4, rfl, hO, hb⟩
  rw [HS1.out] at hO
  obtain ⟨E0, e0, E1, e1, E3, e3, E4, e4, E5, e5, E6, e6, E7, e7, rfl⟩ := hO.k.form
  have HB4 := Lib.hid (bl_call (bl_alloc HB2.out (.cells #[] 21)) hb)
  have HK4 := Lib.hid ((HK2.out.alloc (.cells #[] 21)).call hb)
  have hl4 : w.heap.size + 2 ≤ (w2.alloc (.cells #[] 21)).heap.size := (by first | omega | (simp; omega))
  have h4 := hb.size
  obtain ⟨lo, hlo⟩ : ∃ n, (w2.alloc (.cells #[] 21)).heap.size = n := ⟨_, rfl⟩
  rw [hlo] at hO hl4 h4
  obtain ⟨W5, hW5⟩ : ∃ W, w4.alloc (.cells #[.slice E0 s1.data.length e0, .slice E1 s1.ret.length e1, .int .i32 s1.a, .slice E3 s1.mem.length e3, .slice E4 s1.cells.length e4, .slice E5 s1.vars.length e5, .slice E6 s1.out.length e6, .slice E7 s1.inp.length e7, .int .i64 s1.fault, .int .i64 s1.fuel] 32) = W := ⟨_, rfl⟩
  have HX5 : Hid (StX W5 w4.heap.size lo s1) := Lib.hid (hW5 ▸ StX.of hO)
  have hb5 : Below w4.heap.size w4 W5 := hW5 ▸ bl_alloc (Below.refl _ _) _
  have h45' : w4.heap.size < W5.heap.size := by rw [← hW5]; simp
  have HB5 := Lib.hid (bl_call HB4.out hb5)
  have HK5 := Lib.hid (HK4.out.call hb5)
  have hloW : lo ≤ W5.heap.size := by omega
  clear hO hb hb5 hlo b0 y0 b1 g1 y1
  have b0 := blk_cell HK5.out.1
  have y0 := blk_lt HK5.out.1
  have b1 := blk_cell HK5.out.2.1
  have g1 := blk_frozen HK5.out.2.1
  have y1 := blk_lt HK5.out.2.1
  obtain ⟨D0, d0, D1, d1, D3, d3, D4, d4, D5, d5, D6, d6, D7, d7, bb, hg, r3, L3, hK⟩ := HX5.out.put3
  have hm5 := HM1.out
  obtain ⟨g3, rfl, rfl⟩ := r3.pos (by omega)
  have hnm : n < s1.mem.length := by omega
  obtain ⟨u0, cu0⟩ := r3.isCell (j := n) (by omega)
  have fu0 := r3.frozen n
  have zu0 := r3.lt g3 rfl
  have hh := hK (s1.mem.set n x) (W5.setCell ⟨g3, n, none⟩ (.int .i32 x)) (by simp) (by have := r3.stored n (.int .i32 x); rw [List.map_set]; exact this) (grownBy_setCell _ _ _)
  rw [← HZ1.out] at hh
  obtain ⟨w9, hw9⟩ : ∃ W, W5.setCell ⟨g3, n, none⟩ (.int .i32 x) = W := ⟨_, rfl⟩
  rw [hw9] at hh
  have cg5 := blk_cell hg
  have fg5 := blk_frozen hg
  have zg5 := blk_lt hg
  clear hg r3 L3 hK hm5
  have HB9 := Lib.hid (FrG.below hh.2 HB5.out (by omega) (by omega) (by omega)); have HK9 := Lib.hid (HK5.out.fr hh.2 (by simp only [List.length_cons, List.length_nil]; omega) (by simp only [List.length_cons, List.length_nil]; omega)); have hsz9 := hh.2.size; obtain ⟨J0, j0, J1, j1, J3, j3, J4, j4, J5, j5, J6, j6, J7, j7, hg9, hk9⟩ := hh.1.read; have HV9 := Lib.hid hk9; have c9 := blk_cell hg9; have z9 := blk_lt hg9; have b0 := blk_cell HK9.out.1; have y0 := blk_lt HK9.out.1; have b1 := blk_cell HK9.out.2.1; have g1 := blk_frozen HK9.out.2.1; have y1 := blk_lt HK9.out.2.1; clear hg9 hk9 hh
  go_wp2_with (go_at_call 61; (with_reducible refine (specIn_calls _ _ _ _).mono ?_); rintro e wq ⟨rfl, rfl⟩; rw [hin])
  refine bodyPost_ret (v := .agg #[.slice J0 z.data.length j0, .slice J1 z.ret.length j1, .int .i32 z.a, .slice J3 z.mem.length j3, .slice J4 z.cells.length j4, .slice J5 z.vars.length j5, .slice J6 z.out.length j6, .slice J7 z.inp.length j7, .int .i64 z.fault, .int .i64 z.fuel]) (by simp [results, Tryd.results72, go_sem, b1, y1]) rfl ⟨_, rfl, ?_, ?_⟩
  · have h0 : StV w9 (w.heap.size + 2) w9.heap.size z (.agg #[.slice J0 z.data.length j0, .slice J1 z.ret.length j1, .int .i32 z.a, .slice J3 z.mem.length j3, .slice J4 z.cells.length j4, .slice J5 z.vars.length j5, .slice J6 z.out.length j6, .slice J7 z.inp.length j7, .int .i64 z.fault, .int .i64 z.fuel]) := ⟨Nat.le_refl _, fun u1 hk => HV9.out u1 (fun x p1 p2 p3 => hk x (by omega) p2)⟩
    have h1 : w.heap.size + 1 < w.heap.size + 2 := by omega
    have hz9 : ∀ (W : World) (u : Value), StV W (w.heap.size + 2) w9.heap.size z u → w9.heap.size = W.heap.size → StV W w.heap.size W.heap.size z u := fun W u h e => (h.low (by omega)).top (by omega) (Nat.le_refl _)
    refine hz9 _ _ ?_ (by simp)
    with_reducible repeat (first | exact h0 | refine StV.far ?_ h1 _)
  · have h0 := HB9.out
    with_reducible repeat (first | exact h0 | apply bl_set1)
set_option maxRecDepth 100000 in
set_option maxHeartbeats 4000000 in
theorem store_bad (s z : LSt) (v : Value) (w : World) (hv : StK w s v) (hs : s.small 1048576) (x y : Int) (hy : (Lit.int .i32 y).wf = true) (ht : 2 ≤ s.data.length) (hd : s.data.length ≤ 16) (hp : placeI s y = -1) (hz : z = { s with fault := 4 }) :
    Calls Tryd.prog 72 #[v, .int .i32 x, .int .i32 y] w fun e w' => OtherE w z e w' := by
  have hv' := hv
  obtain ⟨A0, c0, A1, c1, A3, c3, A4, c4, A5, c5, A6, c6, A7, c7, rfl, R0, R1, R3, R4, R5, -⟩ := hv
  have HR5 := Lib.hid R5
  have hv := hv'
  clear hv' R0 R1 R3 R4 R5
  have HV := Lib.hid hv
  have HS := Lib.hid hs
  have HZ := Lib.hid hz
  obtain ⟨w1, hW1⟩ : ∃ W, (w.alloc (.cells #[.slice A0 s.data.length c0, .slice A1 s.ret.length c1, .int .i32 s.a, .slice A3 s.mem.length c3, .slice A4 s.cells.length c4, .slice A5 s.vars.length c5, .slice A6 s.out.length c6, .slice A7 s.inp.length c7, .int .i64 s.fault, .int .i64 s.fuel] 32)).alloc (.cells #[.slice none 0 0, .slice none 0 0, .int .i32 0, .slice none 0 0, .slice none 0 0, .slice none 0 0, .slice none 0 0, .slice none 0 0, .int .i64 0, .int .i64 0] 32) = W := ⟨_, rfl⟩
  have HB1 : Hid (Below w.heap.size w w1) := Lib.hid (hW1 ▸ bl_alloc (bl_alloc (Below.refl _ _) _) _)
  have HK1 : Hid (Bx w1 w.heap.size [(#[.slice A0 s.data.length c0, .slice A1 s.ret.length c1, .int .i32 s.a, .slice A3 s.mem.length c3, .slice A4 s.cells.length c4, .slice A5 s.vars.length c5, .slice A6 s.out.length c6, .slice A7 s.inp.length c7, .int .i64 s.fault, .int .i64 s.fuel], 32), (#[.slice none 0 0, .slice none 0 0, .int .i32 0, .slice none 0 0, .slice none 0 0, .slice none 0 0, .slice none 0 0, .slice none 0 0, .int .i64 0, .int .i64 0], 32)]) := Lib.hid (hW1 ▸ (Bx.two w #[.slice A0 s.data.length c0, .slice A1 s.ret.length c1, .int .i32 s.a, .slice A3 s.mem.length c3, .slice A4 s.cells.length c4, .slice A5 s.vars.length c5, .slice A6 s.out.length c6, .slice A7 s.inp.length c7, .int .i64 s.fault, .int .i64 s.fuel] #[.slice none 0 0, .slice none 0 0, .int .i32 0, .slice none 0 0, .slice none 0 0, .slice none 0 0, .slice none 0 0, .slice none 0 0, .int .i64 0, .int .i64 0] 32 32))
  have b0 := blk_cell HK1.out.1
  have y0 := blk_lt HK1.out.1
  have b1 := blk_cell HK1.out.2.1
  have g1 := blk_frozen HK1.out.2.1
  have y1 := blk_lt HK1.out.2.1
  have hlo1 : w.heap.size + 2 ≤ w1.heap.size := by omega
  have HT := Lib.hid ht
  clear ht
  obtain ⟨s1, hs1⟩ : ∃ s1, putSt s 2 [] = s1 := ⟨_, rfl⟩
  have HS1 := Lib.hid hs1
  have hp1 : s1 = { s with data := s.data.take (s.data.length - 2) } := by rw [← hs1, putSt_nil hd]
  have hvl : s.vars.length ≤ 1048576 := hs.2.2.2.2.1
  have hin : decide (0 ≤ (-1 : Int) ∧ (-1 : Int) ≤ 31) = false := decide_eq_false (by omega)
  obtain ⟨q, hq⟩ : ∃ q, ∀ u ∈ s.vars, u ≠ q := by
    refine ⟨(s.vars.foldr (fun a b => max a b) 0) + 1, fun u hu e => ?_⟩
    have : ∀ l : List Int, u ∈ l → u ≤ l.foldr (fun a b => max a b) 0 := by
      intro l
      induction l with
      | nil => intro h; cases h
      | cons a l ih =>
        intro h
        rcases List.mem_cons.1 h with rfl | h
        · simp only [List.foldr_cons]; omega
        · have := ih h; simp only [List.foldr_cons]; omega
    have := this _ hu
    omega
  have HQ := Lib.hid hq
  clear hs1 hp1 hq
  clear hv hz
  go_enter Tryd.func72, Tryd.ntmps72
  go_wp2_with fail
  refine ((specPlace_calls s _ y w1 (HV.out.keepB HB1.out) HS.out hy)).mono ?_
  rintro e w2 ⟨rfl, hb⟩
  rw [hp]
  have HB2 := Lib.hid (bl_call HB1.out hb)
  have HK2 := Lib.hid (HK1.out.call hb)
  have hlo2 : w.heap.size + 2 ≤ w2.heap.size := Nat.le_trans hlo1 hb.size
  clear hb b0 y0 b1 g1 y1
  have b0 := blk_cell HK2.out.1
  have y0 := blk_lt HK2.out.1
  have b1 := blk_cell HK2.out.2.1
  have g1 := blk_frozen HK2.out.2.1
  have y1 := blk_lt HK2.out.2.1
  go_wp2_with fail
  have HPT := Lib.hid (l08Put_at s _ 2 0 2 (some ⟨w2.heap.size, 0, none⟩) 0 [] (w2.alloc (.cells #[] 21)) (HV.out.keepB (bl_alloc HB2.out (.cells #[] 21))) HS.out HT.out rfl rfl (Row.made (w2) #[] 21 1 0 (by decide) rfl).rd (by omega))
  refine HPT.out.mono ?_
  rintro e w4 ⟨v4, rfl, hO, hb⟩
  rw [HS1.out] at hO
  obtain ⟨E0, e0, E1, e1, E3, e3, E4, e4, E5, e5, E6, e6, E7, e7, rfl⟩ := hO.k.form
  have HB4 := Lib.hid (bl_call (bl_alloc HB2.out (.cells #[] 21)) hb)
  have HK4 := Lib.hid ((HK2.out.alloc (.cells #[] 21)).call hb)
  have hl4 : w.heap.size + 2 ≤ (w2.alloc (.cells #[] 21)).heap.size := (by first | omega | (simp; omega))
  have h4 := hb.size
  obtain ⟨lo, hlo⟩ : ∃ n, (w2.alloc (.cells #[] 21)).heap.size = n := ⟨_, rfl⟩
  rw [hlo] at hO hl4 h4
  obtain ⟨W5, hW5⟩ : ∃ W, w4.alloc (.cells #[.slice E0 s1.data.length e0, .slice E1 s1.ret.length e1, .int .i32 s1.a, .slice E3 s1.mem.length e3, .slice E4 s1.cells.length e4, .slice E5 s1.vars.length e5, .slice E6 s1.out.length e6, .slice E7 s1.inp.length e7, .int .i64 s1.fault, .int .i64 s1.fuel] 32) = W := ⟨_, rfl⟩
  have HX5 : Hid (StX W5 w4.heap.size lo s1) := Lib.hid (hW5 ▸ StX.of hO)
  have hb5 : Below w4.heap.size w4 W5 := hW5 ▸ bl_alloc (Below.refl _ _) _
  have h45' : w4.heap.size < W5.heap.size := by rw [← hW5]; simp
  have HB5 := Lib.hid (bl_call HB4.out hb5)
  have HK5 := Lib.hid (HK4.out.call hb5)
  have hloW : lo ≤ W5.heap.size := by omega
  clear hO hb hb5 hlo b0 y0 b1 g1 y1
  have b0 := blk_cell HK5.out.1
  have y0 := blk_lt HK5.out.1
  have b1 := blk_cell HK5.out.2.1
  have g1 := blk_frozen HK5.out.2.1
  have y1 := blk_lt HK5.out.2.1
  have HRW := Lib.hid (HR5.out.keepB HB5.out)
  go_wp2_with (go_at_call 61; (with_reducible refine (specIn_calls _ _ _ _).mono ?_); rintro e wq ⟨rfl, rfl⟩; rw [hin])
  go_loop [9] (fun i => ∃ k : Nat, k ≤ s.vars.length ∧ i = .int .i64 k ∧ Hid (∀ u ∈ s.vars.take k, u ≠ q)) (fun i => s.vars.length - (intOf i).toNat)
  case atStart => exact ⟨0, Nat.zero_le _, rfl, Lib.hid (by simp)⟩
  case round =>
    obtain ⟨k, hk, rfl, HK⟩ := hrel
    by_cases hlt : k < s.vars.length
    · have hu : (s.vars.map (Value.int .i64))[k]? = some (.int .i64 s.vars[k]) := by simp [hlt]
      obtain ⟨ad, rfl, hc⟩ := HRW.out.at_ hu
      have hne := HQ.out _ (List.getElem_mem hlt)
      clear hu
      have HK2 := Lib.hid (take_all_snoc HK.out (List.getElem?_eq_getElem hlt) hne)
      clear hne
      go_wp2
      go_round
      case rel => exact ⟨k + 1, by omega, by go_num, HK2⟩
      case measure => simp [intOf]; omega
    · have : k = s.vars.length := by omega
      subst this
      go_wp2_with fail
      refine (l08Fault_calls s _ 4 W5 (HV.out.keepB HB5.out) HS.out).mono ?_
      rintro e w9 ⟨v9, rfl, hO, hb⟩
      rw [← HZ.out] at hO
      replace hO := hO.v
      obtain ⟨F0, f0, F1, f1, F3, f3, F4, f4, F5, f5, F6, f6, F7, f7, rfl⟩ := hO.k.form
      have HO := Lib.hid hO
      have HB9 := Lib.hid (bl_call HB5.out hb)
      have HK9 := Lib.hid ((HK5.out).call hb)
      have hl9 : w.heap.size + 2 ≤ W5.heap.size := (by first | omega | (simp; omega))
      have hw9 := hb.size
      clear hO hb b0 y0 b1 g1 y1
      have b0 := blk_cell HK9.out.1
      have y0 := blk_lt HK9.out.1
      have b1 := blk_cell HK9.out.2.1
      have g1 := blk_frozen HK9.out.2.1
      have y1 := blk_lt HK9.out.2.1
      go_wp2_with fail
      refine bodyPost_ret (v := .agg #[.slice F0 z.data.length f0, .slice F1 z.ret.length f1, .int .i32 z.a, .slice F3 z.mem.length f3, .slice F4 z.cells.length f4, .slice F5 z.vars.length f5, .slice F6 z.out.length f6, .slice F7 z.inp.length f7, .int .i64 z.fault, .int .i64 z.fuel]) (by simp [results, Tryd.results72, go_sem, b1, y1]) rfl ⟨_, rfl, ?_, ?_⟩
      · have h0 := HO.out.low (lo' := w.heap.size + 2) hl9
        have h1 : w.heap.size + 1 < w.heap.size + 2 := by omega
        have hz9 : ∀ (W : World) (u : Value), StV W (w.heap.size + 2) w9.heap.size z u → w9.heap.size = W.heap.size → StV W w.heap.size W.heap.size z u := fun W u h e => (h.low (by omega)).top (by omega) (Nat.le_refl _)
        refine hz9 _ _ ?_ (by simp)
        with_reducible repeat (first | exact h0 | refine StV.far ?_ h1 _)
      · have h0 := HB9.out
        with_reducible repeat (first | exact h0 | apply bl_set1)
set_option maxRecDepth 100000 in
set_option maxHeartbeats 4000000 in
theorem store_no (s z : LSt) (v : Value) (w : World) (hv : StK w s v) (hs : s.small 1048576) (x y : Int) (hy : (Lit.int .i32 y).wf = true) (ht : 2 ≤ s.data.length) (hd : s.data.length ≤ 16) (p q : Int) (hp : placeI s y = p) (hpn : p = 32 + q) (hq0 : 0 ≤ q) (hq1 : q ≤ 1000000) (hv0 : q ∉ s.vars) (hz : z = { s with fault := 4 }) :
    Calls Tryd.prog 72 #[v, .int .i32 x, .int .i32 y] w fun e w' => OtherE w z e w' := by
  have hv' := hv
  obtain ⟨A0, c0, A1, c1, A3, c3, A4, c4, A5, c5, A6, c6, A7, c7, rfl, R0, R1, R3, R4, R5, -⟩ := hv
  have HR5 := Lib.hid R5
  have hv := hv'
  clear hv' R0 R1 R3 R4 R5
  have HV := Lib.hid hv
  have HS := Lib.hid hs
  have HZ := Lib.hid hz
  obtain ⟨w1, hW1⟩ : ∃ W, (w.alloc (.cells #[.slice A0 s.data.length c0, .slice A1 s.ret.length c1, .int .i32 s.a, .slice A3 s.mem.length c3, .slice A4 s.cells.length c4, .slice A5 s.vars.length c5, .slice A6 s.out.length c6, .slice A7 s.inp.length c7, .int .i64 s.fault, .int .i64 s.fuel] 32)).alloc (.cells #[.slice none 0 0, .slice none 0 0, .int .i32 0, .slice none 0 0, .slice none 0 0, .slice none 0 0, .slice none 0 0, .slice none 0 0, .int .i64 0, .int .i64 0] 32) = W := ⟨_, rfl⟩
  have HB1 : Hid (Below w.heap.size w w1) := Lib.hid (hW1 ▸ bl_alloc (bl_alloc (Below.refl _ _) _) _)
  have HK1 : Hid (Bx w1 w.heap.size [(#[.slice A0 s.data.length c0, .slice A1 s.ret.length c1, .int .i32 s.a, .slice A3 s.mem.length c3, .slice A4 s.cells.length c4, .slice A5 s.vars.length c5, .slice A6 s.out.length c6, .slice A7 s.inp.length c7, .int .i64 s.fault, .int .i64 s.fuel], 32), (#[.slice none 0 0, .slice none 0 0, .int .i32 0, .slice none 0 0, .slice none 0 0, .slice none 0 0, .slice none 0 0, .slice none 0 0, .int .i64 0, .int .i64 0], 32)]) := Lib.hid (hW1 ▸ (Bx.two w #[.slice A0 s.data.length c0, .slice A1 s.ret.length c1, .int .i32 s.a, .slice A3 s.mem.length c3, .slice A4 s.cells.length c4, .slice A5 s.vars.length c5, .slice A6 s.out.length c6, .slice A7 s.inp.length c7, .int .i64 s.fault, .int .i64 s.fuel] #[.slice none 0 0, .slice none 0 0, .int .i32 0, .slice none 0 0, .slice none 0 0, .slice none 0 0, .slice none 0 0, .slice none 0 0, .int .i64 0, .int .i64 0] 32 32))
  have b0 := blk_cell HK1.out.1
  have y0 := blk_lt HK1.out.1
  have b1 := blk_cell HK1.out.2.1
  have g1 := blk_frozen HK1.out.2.1
  have y1 := blk_lt HK1.out.2.1
  have hlo1 : w.heap.size + 2 ≤ w1.heap.size := by omega
  have HT := Lib.hid ht
  clear ht
  obtain ⟨s1, hs1⟩ : ∃ s1, putSt s 2 [] = s1 := ⟨_, rfl⟩
  have HS1 := Lib.hid hs1
  have hp1 : s1 = { s with data := s.data.take (s.data.length - 2) } := by rw [← hs1, putSt_nil hd]
  have hvl : s.vars.length ≤ 1048576 := hs.2.2.2.2.1
  have hni3 : p - 32 = (q : Int) := by omega
  have hp0 : 0 ≤ p := by omega
  have hp1' : p ≤ 2000000 := by omega
  have hin : decide (0 ≤ p ∧ p ≤ 31) = false := decide_eq_false (by omega)
  have HPQ := Lib.hid hpn
  have HQ : Hid (∀ u ∈ s.vars, u ≠ q) := Lib.hid (fun u hu e => hv0 (e ▸ hu))
  clear hs1 hp1 hv0 hpn
  clear hv hz
  go_enter Tryd.func72, Tryd.ntmps72
  go_wp2_with fail
  refine ((specPlace_calls s _ y w1 (HV.out.keepB HB1.out) HS.out hy)).mono ?_
  rintro e w2 ⟨rfl, hb⟩
  rw [hp]
  have HB2 := Lib.hid (bl_call HB1.out hb)
  have HK2 := Lib.hid (HK1.out.call hb)
  have hlo2 : w.heap.size + 2 ≤ w2.heap.size := Nat.le_trans hlo1 hb.size
  clear hb b0 y0 b1 g1 y1
  have b0 := blk_cell HK2.out.1
  have y0 := blk_lt HK2.out.1
  have b1 := blk_cell HK2.out.2.1
  have g1 := blk_frozen HK2.out.2.1
  have y1 := blk_lt HK2.out.2.1
  go_wp2_with fail
  have HPT := Lib.hid (l08Put_at s _ 2 0 2 (some ⟨w2.heap.size, 0, none⟩) 0 [] (w2.alloc (.cells #[] 21)) (HV.out.keepB (bl_alloc HB2.out (.cells #[] 21))) HS.out HT.out rfl rfl (Row.made (w2) #[] 21 1 0 (by decide) rfl).rd (by omega))
  refine HPT.out.mono ?_
  rintro e w4 ⟨v4, rfl, hO, hb⟩
  rw [HS1.out] at hO
  obtain ⟨E0, e0, E1, e1, E3, e3, E4, e4, E5, e5, E6, e6, E7, e7, rfl⟩ := hO.k.form
  have HB4 := Lib.hid (bl_call (bl_alloc HB2.out (.cells #[] 21)) hb)
  have HK4 := Lib.hid ((HK2.out.alloc (.cells #[] 21)).call hb)
  have hl4 : w.heap.size + 2 ≤ (w2.alloc (.cells #[] 21)).heap.size := (by first | omega | (simp; omega))
  have h4 := hb.size
  obtain ⟨lo, hlo⟩ : ∃ n, (w2.alloc (.cells #[] 21)).heap.size = n := ⟨_, rfl⟩
  rw [hlo] at hO hl4 h4
  obtain ⟨W5, hW5⟩ : ∃ W, w4.alloc (.cells #[.slice E0 s1.data.length e0, .slice E1 s1.ret.length e1, .int .i32 s1.a, .slice E3 s1.mem.length e3, .slice E4 s1.cells.length e4, .slice E5 s1.vars.length e5, .slice E6 s1.out.length e6, .slice E7 s1.inp.length e7, .int .i64 s1.fault, .int .i64 s1.fuel] 32) = W := ⟨_, rfl⟩
  have HX5 : Hid (StX W5 w4.heap.size lo s1) := Lib.hid (hW5 ▸ StX.of hO)
  have hb5 : Below w4.heap.size w4 W5 := hW5 ▸ bl_alloc (Below.refl _ _) _
  have h45' : w4.heap.size < W5.heap.size := by rw [← hW5]; simp
  have HB5 := Lib.hid (bl_call HB4.out hb5)
  have HK5 := Lib.hid (HK4.out.call hb5)
  have hloW : lo ≤ W5.heap.size := by omega
  clear hO hb hb5 hlo b0 y0 b1 g1 y1
  have b0 := blk_cell HK5.out.1
  have y0 := blk_lt HK5.out.1
  have b1 := blk_cell HK5.out.2.1
  have g1 := blk_frozen HK5.out.2.1
  have y1 := blk_lt HK5.out.2.1
  have HRW := Lib.hid (HR5.out.keepB HB5.out)
  go_wp2_with (go_at_call 61; (with_reducible refine (specIn_calls _ _ _ _).mono ?_); rintro e wq ⟨rfl, rfl⟩; rw [hin])
  go_loop [9] (fun i => ∃ k : Nat, k ≤ s.vars.length ∧ i = .int .i64 k ∧ Hid (∀ u ∈ s.vars.take k, u ≠ q)) (fun i => s.vars.length - (intOf i).toNat)
  case atStart => exact ⟨0, Nat.zero_le _, rfl, Lib.hid (by simp)⟩
  case round =>
    obtain ⟨k, hk, rfl, HK⟩ := hrel
    by_cases hlt : k < s.vars.length
    · have hu : (s.vars.map (Value.int .i64))[k]? = some (.int .i64 s.vars[k]) := by simp [hlt]
      obtain ⟨ad, rfl, hc⟩ := HRW.out.at_ hu
      have hne := HQ.out _ (List.getElem_mem hlt)
      have hdd : (s.vars[k] == q) = false := by simpa using hne
      clear hu
      have HK2 := Lib.hid (take_all_snoc HK.out (List.getElem?_eq_getElem hlt) hne)
      clear hne
      go_wp2
      go_round
      case rel => exact ⟨k + 1, by omega, by go_num, HK2⟩
      case measure => simp [intOf]; omega
    · have : k = s.vars.length := by omega
      subst this
      go_wp2_with fail
      refine (l08Fault_calls s _ 4 W5 (HV.out.keepB HB5.out) HS.out).mono ?_
      rintro e w9 ⟨v9, rfl, hO, hb⟩
      rw [← HZ.out] at hO
      replace hO := hO.v
      obtain ⟨F0, f0, F1, f1, F3, f3, F4, f4, F5, f5, F6, f6, F7, f7, rfl⟩ := hO.k.form
      have HO := Lib.hid hO
      have HB9 := Lib.hid (bl_call HB5.out hb)
      have HK9 := Lib.hid ((HK5.out).call hb)
      have hl9 : w.heap.size + 2 ≤ W5.heap.size := (by first | omega | (simp; omega))
      have hw9 := hb.size
      clear hO hb b0 y0 b1 g1 y1
      have b0 := blk_cell HK9.out.1
      have y0 := blk_lt HK9.out.1
      have b1 := blk_cell HK9.out.2.1
      have g1 := blk_frozen HK9.out.2.1
      have y1 := blk_lt HK9.out.2.1
      go_wp2_with fail
      refine bodyPost_ret (v := .agg #[.slice F0 z.data.length f0, .slice F1 z.ret.length f1, .int .i32 z.a, .slice F3 z.mem.length f3, .slice F4 z.cells.length f4, .slice F5 z.vars.length f5, .slice F6 z.out.length f6, .slice F7 z.inp.length f7, .int .i64 z.fault, .int .i64 z.fuel]) (by simp [results, Tryd.results72, go_sem, b1, y1]) rfl ⟨_, rfl, ?_, ?_⟩
      · have h0 := HO.out.low (lo' := w.heap.size + 2) hl9
        have h1 : w.heap.size + 1 < w.heap.size + 2 := by omega
        have hz9 : ∀ (W : World) (u : Value), StV W (w.heap.size + 2) w9.heap.size z u → w9.heap.size = W.heap.size → StV W w.heap.size W.heap.size z u := fun W u h e => (h.low (by omega)).top (by omega) (Nat.le_refl _)
        refine hz9 _ _ ?_ (by simp)
        with_reducible repeat (first | exact h0 | refine StV.far ?_ h1 _)
      · have h0 := HB9.out
        with_reducible repeat (first | exact h0 | apply bl_set1)
set_option maxRecDepth 100000 in
set_option maxHeartbeats 4000000 in
theorem store_cell (s z : LSt) (v : Value) (w : World) (hv : StK w s v) (hs : s.small 1048576) (x y : Int) (hy : (Lit.int .i32 y).wf = true) (ht : 2 ≤ s.data.length) (hd : s.data.length ≤ 16) (p q : Int) (m : Nat) (hqm : q = (m : Int)) (hp : placeI s y = p) (hpn : p = 32 + q) (hmc : m < s.cells.length) (hv0 : q ∈ s.vars) (hz : z = { putSt s 2 [] with cells := s.cells.set m (IntKind.wrap .u32 x) }) :
    Calls Tryd.prog 72 #[v, .int .i32 x, .int .i32 y] w fun e w' => OtherE w z e w' := by
  have hv' := hv
  obtain ⟨A0, c0, A1, c1, A3, c3, A4, c4, A5, c5, A6, c6, A7, c7, rfl, R0, R1, R3, R4, R5, -⟩ := hv
  have HR5 := Lib.hid R5
  have hv := hv'
  clear hv' R0 R1 R3 R4 R5
  have HV := Lib.hid hv
  have HS := Lib.hid hs
  have HZ := Lib.hid hz
  obtain ⟨w1, hW1⟩ : ∃ W, (w.alloc (.cells #[.slice A0 s.data.length c0, .slice A1 s.ret.length c1, .int .i32 s.a, .slice A3 s.mem.length c3, .slice A4 s.cells.length c4, .slice A5 s.vars.length c5, .slice A6 s.out.length c6, .slice A7 s.inp.length c7, .int .i64 s.fault, .int .i64 s.fuel] 32)).alloc (.cells #[.slice none 0 0, .slice none 0 0, .int .i32 0, .slice none 0 0, .slice none 0 0, .slice none 0 0, .slice none 0 0, .slice none 0 0, .int .i64 0, .int .i64 0] 32) = W := ⟨_, rfl⟩
  have HB1 : Hid (Below w.heap.size w w1) := Lib.hid (hW1 ▸ bl_alloc (bl_alloc (Below.refl _ _) _) _)
  have HK1 : Hid (Bx w1 w.heap.size [(#[.slice A0 s.data.length c0, .slice A1 s.ret.length c1, .int .i32 s.a, .slice A3 s.mem.length c3, .slice A4 s.cells.length c4, .slice A5 s.vars.length c5, .slice A6 s.out.length c6, .slice A7 s.inp.length c7, .int .i64 s.fault, .int .i64 s.fuel], 32), (#[.slice none 0 0, .slice none 0 0, .int .i32 0, .slice none 0 0, .slice none 0 0, .slice none 0 0, .slice none 0 0, .slice none 0 0, .int .i64 0, .int .i64 0], 32)]) := Lib.hid (hW1 ▸ (Bx.two w #[.slice A0 s.data.length c0, .slice A1 s.ret.length c1, .int .i32 s.a, .slice A3 s.mem.length c3, .slice A4 s.cells.length c4, .slice A5 s.vars.length c5, .slice A6 s.out.length c6, .slice A7 s.inp.length c7, .int .i64 s.fault, .int .i64 s.fuel] #[.slice none 0 0, .slice none 0 0, .int .i32 0, .slice none 0 0, .slice none 0 0, .slice none 0 0, .slice none 0 0, .slice none 0 0, .int .i64 0, .int .i64 0] 32 32))
  have b0 := blk_cell HK1.out.1
  have y0 := blk_lt HK1.out.1
  have b1 := blk_cell HK1.out.2.1
  have g1 := blk_frozen HK1.out.2.1
  have y1 := blk_lt HK1.out.2.1
  have hlo1 : w.heap.size + 2 ≤ w1.heap.size := by omega
  have HT := Lib.hid ht
  clear ht
  obtain ⟨s1, hs1⟩ : ∃ s1, putSt s 2 [] = s1 := ⟨_, rfl⟩
  have HS1 := Lib.hid hs1
  have hp1 : s1 = { s with data := s.data.take (s.data.length - 2) } := by rw [← hs1, putSt_nil hd]
  have hvl : s.vars.length ≤ 1048576 := hs.2.2.2.2.1
  have hcl : s.cells.length ≤ 1048576 := hs.2.2.2.1
  have hni3 : p - 32 = (q : Int) := by omega
  have hp0 : 0 ≤ p := by omega
  have hp1' : p ≤ 2000000 := by omega
  have hin : decide (0 ≤ p ∧ p ≤ 31) = false := decide_eq_false (by omega)
  have HPQ := Lib.hid hpn
  have hm1 : s1.cells = s.cells := by rw [hp1]
  have HZ1 : Hid (z = { s1 with cells := s1.cells.set m (IntKind.wrap .u32 x) }) := Lib.hid (by rw [hz, hs1, hm1])
  have HM1 : Hid (m < s1.cells.length) := Lib.hid (by rw [hm1]; exact hmc)
  have HQV := Lib.hid hv0
  have HQM := Lib.hid hqm
  clear hs1 hp1 hm1 hmc hv0 hpn hqm
  clear hv hz
  go_enter Tryd.func72, Tryd.ntmps72
  go_wp2_with fail
  refine ((specPlace_calls s _ y w1 (HV.out.keepB HB1.out) HS.out hy)).mono ?_
  rintro e w2 ⟨rfl, hb⟩
  rw [hp]
  have HB2 := Lib.hid (bl_call HB1.out hb)
  have HK2 := Lib.hid (HK1.out.call hb)
  have hlo2 : w.heap.size + 2 ≤ w2.heap.size := Nat.le_trans hlo1 hb.size
  clear hb b0 y0 b1 g1 y1
  have b0 := blk_cell HK2.out.1
  have y0 := blk_lt HK2.out.1
  have b1 := blk_cell HK2.out.2.1
  have g1 := blk_frozen HK2.out.2.1
  have y1 := blk_lt HK2.out.2.1
  go_wp2_with fail
  have HPT := Lib.hid (l08Put_at s _ 2 0 2 (some ⟨w2.heap.size, 0, none⟩) 0 [] (w2.alloc (.cells #[] 21)) (HV.out.keepB (bl_alloc HB2.out (.cells #[] 21))) HS.out HT.out rfl rfl (Row.made (w2) #[] 21 1 0 (by decide) rfl).rd (by omega))
  refine HPT.out.mono ?_
  rintro e w4 ⟨v4, rfl, hO, hb⟩
  rw [HS1.out] at hO
  obtain ⟨E0, e0, E1, e1, E3, e3, E4, e4, E5, e5, E6, e6, E7, e7, rfl⟩ := hO.k.form
  have HB4 := Lib.hid (bl_call (bl_alloc HB2.out (.cells #[] 21)) hb)
  have HK4 := Lib.hid ((HK2.out.alloc (.cells #[] 21)).call hb)
  have hl4 : w.heap.size + 2 ≤ (w2.alloc (.cells #[] 21)).heap.size := (by first | omega | (simp; omega))
  have h4 := hb.size
  obtain ⟨lo, hlo⟩ : ∃ n, (w2.alloc (.cells #[] 21)).heap.size = n := ⟨_, rfl⟩
  rw [hlo] at hO hl4 h4
  obtain ⟨W5, hW5⟩ : ∃ W, w4.alloc (.cells #[.slice E0 s1.data.length e0, .slice E1 s1.ret.length e1, .int .i32 s1.a, .slice E3 s1.mem.length e3, .slice E4 s1.cells.length e4, .slice E5 s1.vars.length e5, .slice E6 s1.out.length e6, .slice E7 s1.inp.length e7, .int .i64 s1.fault, .int .i64 s1.fuel] 32) = W := ⟨_, rfl⟩
  have HX5 : Hid (StX W5 w4.heap.size lo s1) := Lib.hid (hW5 ▸ StX.of hO)
  have hb5 : Below w4.heap.size w4 W5 := hW5 ▸ bl_alloc (Below.refl _ _) _
  have h45' : w4.heap.size < W5.heap.size := by rw [← hW5]; simp
  have HB5 := Lib.hid (bl_call HB4.out hb5)
  have HK5 := Lib.hid (HK4.out.call hb5)
  have hloW : lo ≤ W5.heap.size := by omega
  clear hO hb hb5 hlo b0 y0 b1 g1 y1
  have b0 := blk_cell HK5.out.1
  have y0 := blk_lt HK5.out.1
  have b1 := blk_cell HK5.out.2.1
  have g1 := blk_frozen HK5.out.2.1
  have y1 := blk_lt HK5.out.2.1
  have HRW := Lib.hid (HR5.out.keepB HB5.out)
  go_wp2_with (go_at_call 61; (with_reducible refine (specIn_calls _ _ _ _).mono ?_); rintro e wq ⟨rfl, rfl⟩; rw [hin])
  go_loop [9] (fun i => ∃ k : Nat, k ≤ s.vars.length ∧ i = .int .i64 k ∧ Hid (∀ u ∈ s.vars.take k, u ≠ q)) (fun i => s.vars.length - (intOf i).toNat)
  case atStart => exact ⟨0, Nat.zero_le _, rfl, Lib.hid (by simp)⟩
  case round =>
    obtain ⟨k, hk, rfl, HK⟩ := hrel
    by_cases hlt : k < s.vars.length
    · have hu : (s.vars.map (Value.int .i64))[k]? = some (.int .i64 s.vars[k]) := by simp [hlt]
      by_cases hne : s.vars[k] = q
      · have hdd : (q == q) = true := by simp
        rw [hne, HQM.out] at hu
        obtain ⟨ad, rfl, hc⟩ := HRW.out.at_ hu
        have hqq : q = (m : Int) := HQM.out
        obtain ⟨D0, d0, D1, d1, D3, d3, D4, d4, D5, d5, D6, d6, D7, d7, bb, hg, r4, L4, hK⟩ := HX5.out.put4
        have hm5 := HM1.out
        obtain ⟨g4, rfl, rfl⟩ := r4.pos (by omega)
        obtain ⟨u0, cu0⟩ := r4.isCell (j := m) (by omega)
        have fu0 := r4.frozen m
        have zu0 := r4.lt g4 rfl
        have hml : (m : Int) < (s1.cells.length : Int) := by omega
        have hm00 : (0 : Int) ≤ (m : Int) := by omega
        have hh0 := hK (s1.cells.set m (IntKind.wrap .u32 x)) (W5.setCell ⟨g4, m, none⟩ (.int .u32 (IntKind.wrap .u32 x))) (by simp) (by have := r4.stored m (.int .u32 (IntKind.wrap .u32 x)); rw [List.map_set]; exact this) (grownBy_setCell _ _ _)
        rw [← HZ1.out] at hh0
        obtain ⟨w9, hw9⟩ : ∃ W, (W5.setCell ⟨g4, m, none⟩ (.int .u32 (IntKind.wrap .u32 x))).drew = W := ⟨_, rfl⟩
        have hh : StX w9 w4.heap.size lo z ∧ FrG w4.heap.size lo W5 w9 := hw9 ▸ ⟨hh0.1.call (bl_drew (Below.refl _ _)), FrG.trans hh0.2 (FrG.ofBelow (bl_drew (Below.refl _ _)))⟩
        have cg5 := blk_cell hg
        have fg5 := blk_frozen hg
        have zg5 := blk_lt hg
        clear hg r4 L4 hK hm5 hh0 hu hne
        have HB9 := Lib.hid (FrG.below hh.2 HB5.out (by omega) (by omega) (by omega)); have HK9 := Lib.hid (HK5.out.fr hh.2 (by simp only [List.length_cons, List.length_nil]; omega) (by simp only [List.length_cons, List.length_nil]; omega)); have hsz9 := hh.2.size; obtain ⟨J0, j0, J1, j1, J3, j3, J4, j4, J5, j5, J6, j6, J7, j7, hg9, hk9⟩ := hh.1.read; have HV9 := Lib.hid hk9; have c9 := blk_cell hg9; have z9 := blk_lt hg9; have b0 := blk_cell HK9.out.1; have y0 := blk_lt HK9.out.1; have b1 := blk_cell HK9.out.2.1; have g1 := blk_frozen HK9.out.2.1; have y1 := blk_lt HK9.out.2.1; clear hg9 hk9 hh
        go_wp2_with fail
        go_region_with fail
        all_goals
          go_wp2_with fail
          refine bodyPost_ret (v := .agg #[.slice J0 z.data.length j0, .slice J1 z.ret.length j1, .int .i32 z.a, .slice J3 z.mem.length j3, .slice J4 z.cells.length j4, .slice J5 z.vars.length j5, .slice J6 z.out.length j6, .slice J7 z.inp.length j7, .int .i64 z.fault, .int .i64 z.fuel]) (by simp [results, Tryd.results72, go_sem, b1, y1]) rfl ⟨_, rfl, ?_, ?_⟩
          · have h0 : StV w9 (w.heap.size + 2) w9.heap.size z (.agg #[.slice J0 z.data.length j0, .slice J1 z.ret.length j1, .int .i32 z.a, .slice J3 z.mem.length j3, .slice J4 z.cells.length j4, .slice J5 z.vars.length j5, .slice J6 z.out.length j6, .slice J7 z.inp.length j7, .int .i64 z.fault, .int .i64 z.fuel]) := ⟨Nat.le_refl _, fun u1 hk => HV9.out u1 (fun x p1 p2 p3 => hk x (by omega) p2)⟩
            have h1 : w.heap.size + 1 < w.heap.size + 2 := by omega
            have hz9 : ∀ (W : World) (u : Value), StV W (w.heap.size + 2) w9.heap.size z u → w9.heap.size = W.heap.size → StV W w.heap.size W.heap.size z u := fun W u h e => (h.low (by omega)).top (by omega) (Nat.le_refl _)
            refine hz9 _ _ ?_ (by simp)
            with_reducible repeat (first | exact h0 | refine StV.far ?_ h1 _)
          · have h0 := HB9.out
            with_reducible repeat (first | exact h0 | apply bl_set1)
      · obtain ⟨ad, rfl, hc⟩ := HRW.out.at_ hu
        have hdd : (s.vars[k] == q) = false := by simpa using hne
        clear hu
        have HK2 := Lib.hid (take_all_snoc HK.out (List.getElem?_eq_getElem hlt) hne)
        clear hne
        go_wp2
        go_round
        case rel => exact ⟨k + 1, by omega, by go_num, HK2⟩
        case measure => simp [intOf]; omega
    · exfalso
      have hk2 : k = s.vars.length := by omega
      exact HK.out q (by rw [hk2, List.take_length]; exact HQV.out) rfl
end Go.Proofs.YtgljbcdlldhlfaaDoor

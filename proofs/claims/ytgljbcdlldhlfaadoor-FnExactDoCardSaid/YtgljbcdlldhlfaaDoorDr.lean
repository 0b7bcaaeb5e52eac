/- Built-in words: does where it goes on. -/
import Derived.Test.YtgljbcdlldhlfaaDoorDn
set_option linter.unusedVariables false
set_option linter.unusedSimpArgs false
namespace Go.Proofs.YtgljbcdlldhlfaaDoor
open Go.RowKit Go.Sort

theorem Bx.fr {w w1 : World} {g lo n : Nat} {l : List (Array Value × TypeId)} (h : Bx w n l) (hf : FrG g lo w w1) (h1 : n + l.length ≤ lo) (h2 : n + l.length ≤ g) : Bx w1 n l :=
  h.keep fun g' o a b hg => (hf.block g' (blk_lt hg) (by omega) (by omega)).trans hg
theorem below_grownBy {w w1 : World} (h : Below w.heap.size w w1) (row : Option Nat) : w.grownBy w1 row := ⟨h.os, h.tape, h.output, h.size, fun k hk _ => h.block k hk⟩
def resK (s : LSt) (t : Nat) (r : LSt × List Int × Int) : LSt :=
  if r.2.2 ≠ 0 then { s with fault := r.2.2 } else if 16 < s.data.length - t + r.2.1.length then { s with fault := 2 } else { r.1 with data := s.data.take (s.data.length - t) ++ r.2.1 }
set_option maxRecDepth 100000 in
set_option maxHeartbeats 4000000 in
theorem does_run0 (k : Int) (nm : ByteArray) (t : Nat) (s : LSt) (v : Value) (w : World) (hv : StK w s v) (hs : s.small 1048576) (hA : Asc w)
    (hN : ∀ W, Asc W → Calls Tryd.prog 67 #[.int .i64 k] W fun e w' => e = .returned (.string nm) ∧ Below W.heap.size W w')
    (hW : ∀ W, Asc W → Calls Tryd.prog 84 #[.int .i64 k] W fun e w' => e = .returned (.int .i64 t) ∧ Below W.heap.size W w') (hnm : nm.toList.isEmpty = false) (hge : t ≤ s.data.length) (hd16 : s.data.length ≤ 16) (hP : Pow w) (x y : Int) (hx : topX s = x) (hy : topY s = y) (r : LSt × List Int × Int) (hr3 : r.2.1.length ≤ 3) (hrd : r.1.data = s.data)
    (hE : ∀ W g lo, StX W g lo s → lo ≤ W.heap.size → Pow W → Calls Tryd.prog 85 #[.pointer (some ⟨g, 0, none⟩), .string nm, .int .i32 x, .int .i32 y] W fun e w' => EffE W g lo r e w') (hn : s.data.length = 0) :
    Calls Tryd.prog 42 #[v, .int .i64 k] w fun e w' => ∃ v', e = .returned v' ∧ StV w' w.heap.size w'.heap.size (resK s t r) v' ∧ Below w.heap.size w w' := by
  have hv' := hv
  obtain ⟨A0, c0, A1, c1, A3, c3, A4, c4, A5, c5, A6, c6, A7, c7, rfl, R0, -⟩ := hv
  have HRD := Lib.hid hrd
  have HE := Lib.hid hE
  have HPP := Lib.hid hP
  clear hE hP hrd
  obtain rfl : x = 0 := by rw [← hx, topX, if_neg (by omega)]
  obtain rfl : y = 0 := by rw [← hy, topY, if_neg (by omega)]
  have p0 : ¬ ((0 : Int) < (s.data.length : Int)) := by omega
  have p1 : ¬ ((1 : Int) < (s.data.length : Int)) := by omega
  have HN0 := Lib.hid hn
  clear hx hy hn R0
  have hv := hv'
  clear hv'
  have HV := Lib.hid hv
  have HNN := Lib.hid hN
  have HWW := Lib.hid hW
  have HAS := Lib.hid hA
  obtain ⟨W, hW1⟩ : ∃ W, (w.alloc (.cells #[.slice A0 s.data.length c0, .slice A1 s.ret.length c1, .int .i32 s.a, .slice A3 s.mem.length c3, .slice A4 s.cells.length c4, .slice A5 s.vars.length c5, .slice A6 s.out.length c6, .slice A7 s.inp.length c7, .int .i64 s.fault, .int .i64 s.fuel] 32)).alloc (.cells #[.slice none 0 0, .slice none 0 0, .int .i32 0, .slice none 0 0, .slice none 0 0, .slice none 0 0, .slice none 0 0, .slice none 0 0, .int .i64 0, .int .i64 0] 32) = W := ⟨_, rfl⟩
  have HB1 : Hid (Below w.heap.size w W) := Lib.hid (hW1 ▸ bl_alloc (bl_alloc (Below.refl _ _) _) _)
  have HK1 : Hid (Bx W w.heap.size [(#[.slice A0 s.data.length c0, .slice A1 s.ret.length c1, .int .i32 s.a, .slice A3 s.mem.length c3, .slice A4 s.cells.length c4, .slice A5 s.vars.length c5, .slice A6 s.out.length c6, .slice A7 s.inp.length c7, .int .i64 s.fault, .int .i64 s.fuel], 32), (#[.slice none 0 0, .slice none 0 0, .int .i32 0, .slice none 0 0, .slice none 0 0, .slice none 0 0, .slice none 0 0, .slice none 0 0, .int .i64 0, .int .i64 0], 32)]) := Lib.hid (hW1 ▸ (Bx.two w #[.slice A0 s.data.length c0, .slice A1 s.ret.length c1, .int .i32 s.a, .slice A3 s.mem.length c3, .slice A4 s.cells.length c4, .slice A5 s.vars.length c5, .slice A6 s.out.length c6, .slice A7 s.inp.length c7, .int .i64 s.fault, .int .i64 s.fuel] #[.slice none 0 0, .slice none 0 0, .int .i32 0, .slice none 0 0, .slice none 0 0, .slice none 0 0, .slice none 0 0, .slice none 0 0, .int .i64 0, .int .i64 0] 32 32))
  have hmf : ∀ (fn : Fn) (first cap : Array Value) (w : World), (Instr.makeFunc fn first cap).run Tryd.prog w = .ok (.func fn first cap) w := fun _ _ _ _ => by simp [Instr.makeFunc]
  clear hv hN hW hA
  go_enter Tryd.func42, Tryd.ntmps42
  go_wp2_with fail
  have q0 := fun d os => blk_cell ((HK1.out.call (below_regrown W d os)).1)
  have TP0 : ∀ d os, Calls Tryd.prog 67 #[.int .i64 k] (grow (redrawn W d) os) fun e w'' => e = .returned (.string nm) ∧ ∃ p : Regrown, w'' = grow (redrawn W p.d) p.os := fun d os => Calls.regrown_of (HNN.out _ (HAS.out.call (bl_call HB1.out (below_regrown W d os))))
  have TP := Lib.hid TP0
  clear TP0
  refine wp_region_quiet_below (by kernel_rfl) (by kernel_rfl) ?_
  repeat (quiet_step (first | (with_reducible exact TP.out _ _)))
  refine wpQuiet_nil ?_
  intro w2 hw'
  obtain ⟨⟨dq, osq⟩, hw''⟩ := hw'
  have hb : Below W.heap.size W w2 := by rw [hw'']; exact below_regrown W dq osq
  have HB2 := Lib.hid (bl_call HB1.out hb)
  have HK2 := Lib.hid (HK1.out.call hb)
  clear hw'' q0 TP hb hW1 HB1 HK1
  have b0 := blk_cell HK2.out.1
  have y0 := blk_lt HK2.out.1
  have b1 := blk_cell HK2.out.2.1
  have g1 := blk_frozen HK2.out.2.1
  have y1 := blk_lt HK2.out.2.1
  have h1 : ¬ ((s.data.length : Int) < (t : Int)) := by omega
  go_wp2_with fail
  refine (HWW.out _ (HAS.out.call HB2.out)).mono ?_
  rintro e w3 ⟨rfl, hb⟩
  have HB3 := Lib.hid (bl_call HB2.out hb)
  have HK3 := Lib.hid (HK2.out.call hb)
  clear hb b0 y0 b1 g1 y1
  have b0 := blk_cell HK3.out.1
  have y0 := blk_lt HK3.out.1
  have b1 := blk_cell HK3.out.2.1
  have g1 := blk_frozen HK3.out.2.1
  have y1 := blk_lt HK3.out.2.1
  go_wp2_with fail
  refine (ownSt_calls s _ w3 (HV.out.keepB HB3.out) hs).mono ?_
  rintro e w4 ⟨v4, rfl, hO, hb⟩
  obtain ⟨E0, e0, E1, e1, E3, e3, E4, e4, E5, e5, E6, e6, E7, e7, rfl⟩ := hO.k.form
  have HB4 := Lib.hid (bl_call HB3.out hb)
  have HK4 := Lib.hid (HK3.out.call hb)
  have h34 := hb.size
  have h13 : w.heap.size + 2 ≤ w3.heap.size := by have := blk_lt HK3.out.2.1; omega
  clear hb b0 y0 b1 g1 y1
  have b0 := blk_cell HK4.out.1
  have y0 := blk_lt HK4.out.1
  have b1 := blk_cell HK4.out.2.1
  have g1 := blk_frozen HK4.out.2.1
  have y1 := blk_lt HK4.out.2.1
  obtain ⟨W5, hW5⟩ : ∃ W, w4.alloc (.cells #[.slice E0 s.data.length e0, .slice E1 s.ret.length e1, .int .i32 s.a, .slice E3 s.mem.length e3, .slice E4 s.cells.length e4, .slice E5 s.vars.length e5, .slice E6 s.out.length e6, .slice E7 s.inp.length e7, .int .i64 s.fault, .int .i64 s.fuel] 32) = W := ⟨_, rfl⟩
  have HX5 : Hid (StX W5 w4.heap.size w3.heap.size s) := Lib.hid (hW5 ▸ StX.of hO)
  have hb5 : Below w4.heap.size w4 W5 := hW5 ▸ bl_alloc (Below.refl _ _) _
  have h45 := hb5.size
  have h45' : w4.heap.size < W5.heap.size := by rw [← hW5]; simp
  have HB5 := Lib.hid (bl_call HB4.out hb5)
  have HK5 := Lib.hid (HK4.out.call hb5)
  clear hb5 hO b0 y0 b1 g1 y1
  have b0 := blk_cell HK5.out.1
  have y0 := blk_lt HK5.out.1
  have b1 := blk_cell HK5.out.2.1
  have g1 := blk_frozen HK5.out.2.1
  have y1 := blk_lt HK5.out.2.1
  go_wp2_with fail
  refine (HE.out W5 _ _ HX5.out (by omega) (HPP.out.call HB5.out)).mono ?_
  rintro e w6 ⟨A, c, rfl, hX, hF, hRd⟩
  obtain ⟨D0, d0, D1, d1, D3, d3, D4, d4, D5, d5, D6, d6, D7, d7, bb, hg, r0, L0, hK⟩ := hX.rep0 (by have := hF.size; omega)
  rw [HRD.out] at hg r0
  have h56 := hF.size
  have HB6 := Lib.hid (FrG.below hF HB5.out (by omega) (by omega) (by omega))
  have HK6 := Lib.hid (HK5.out.fr hF (by simp only [List.length_cons, List.length_nil]; omega) (by simp only [List.length_cons, List.length_nil]; omega))
  have HKK := Lib.hid hK
  have HR0 := Lib.hid r0
  have HL0 := Lib.hid L0
  have HGG := Lib.hid hg
  have HRA := Lib.hid hRd
  have hd0 := r0.le
  obtain ⟨m, hm⟩ : ∃ m, s.data.length - t = m := ⟨_, rfl⟩
  have hmi : (s.data.length : Int) - (t : Int) = (m : Int) := by omega
  have hmd : m ≤ d0 := by omega
  have hmdi : (m : Int) ≤ (d0 : Int) := by omega
  have hmn : m ≤ s.data.length := by omega
  have hmw : IntKind.wrap .i64 (m : Int) = (m : Int) := by simp [IntKind.wrap, IntKind.signed, IntKind.bits]; omega
  have hm0 : (0 : Int) ≤ (m : Int) := by omega
  have HM := Lib.hid hm
  clear hX hF hRd hg r0 L0 hK b0 y0 b1 g1 y1 hm
  have gg := blk_lt HGG.out
  go_wp2_with fail
  have q0 := fun d os => blk_cell (blk_call HGG.out (below_regrown w6 d os))
  have TW0 : ∀ d os, Calls Tryd.prog 84 #[.int .i64 k] (grow (redrawn w6 d) os) fun e w'' => e = .returned (.int .i64 t) ∧ ∃ p : Regrown, w'' = grow (redrawn w6 p.d) p.os := fun d os => Calls.regrown_of (HWW.out _ (HAS.out.call (bl_call HB6.out (below_regrown w6 d os))))
  have TW := Lib.hid TW0
  clear TW0
  refine wp_region_below_tail 8 (by kernel_rfl) (by kernel_rfl) ?_
  simp only [List.take_succ_cons, List.take_zero, List.drop_succ_cons, List.drop_zero]
  repeat (quiet_step (first | (with_reducible exact TW.out _ _)))
  refine wpQuiet_nil ?_
  intro w7 hw'
  obtain ⟨⟨dq, osq⟩, hw''⟩ := hw'
  have hb : Below w6.heap.size w6 w7 := by rw [hw'']; exact below_regrown w6 dq osq
  have HBQ := Lib.hid hb
  have h67 := hb.size
  clear hw'' q0 TW hb
  have cg7 := blk_cell (blk_call HGG.out HBQ.out)
  have fg7 := blk_frozen (blk_call HGG.out HBQ.out)
  have zg7 := blk_lt (blk_call HGG.out HBQ.out)
  have HSH := Lib.hid ((HR0.out.call HBQ.out).shorter hmn)
  have HRA7 := Lib.hid (HRA.out.call HBQ.out)
  have hcs : (r.2.2 ≠ 0) ∨ (r.2.2 = 0 ∧ 16 < m + r.2.1.length) ∨ (r.2.2 = 0 ∧ ¬ 16 < m + r.2.1.length) := by
    by_cases h : r.2.2 = 0
    · by_cases h2 : 16 < m + r.2.1.length
      · exact .inr (.inl ⟨h, h2⟩)
      · exact .inr (.inr ⟨h, h2⟩)
    · exact .inl h
  rcases hcs with hc | ⟨hc, hc2⟩ | ⟨hc, hc2⟩
  · have HRES : Hid (resK s t r = { s with fault := r.2.2 }) := Lib.hid (by simp only [resK]; rw [if_pos hc])
    have e1 : (r.2.2 != 0) = true := by simpa using hc
    clear hc
    go_wp2_with (at_builtin; refine wp_append _ rfl _ _ 22 rfl 21 (.int .i32 0) 1 4 Tryd.underlying22 info_Int32 rfl (by decide) rfl HSH.out rfl (by simp) HRA7.out one_map (by unfold maxLen; omega) (by omega) ?_; intro B d w8 b hR hg8 hb8; have hlen : (s.data.take m ++ r.2.1).length = m + r.2.1.length := (by simp; omega); have hh := HKK.out (s.data.take m ++ r.2.1) B d w8 b (by rw [hlen, List.map_append, List.map_take]; simpa using hR) (World.grownBy.trans (below_grownBy HBQ.out _) hg8) (hb8.imp id (fun ⟨y, h1, h2⟩ => ⟨y, h1, by omega⟩)); obtain ⟨s9, hs9⟩ : ∃ s9, ({ r.1 with data := s.data.take m ++ r.2.1 } : LSt) = s9 := ⟨_, rfl⟩; have hn9 : s9.data.length = m + r.2.1.length := (by rw [← hs9]; exact hlen); rw [hs9, hlen] at hh; obtain ⟨w9, hw9⟩ : ∃ W, w8.setCell ⟨w4.heap.size, 0, none⟩ (.slice B (m + r.2.1.length) d) = W := ⟨_, rfl⟩; rw [hw9] at hh; have HS9 := Lib.hid hs9; have HB9 := Lib.hid (FrG.below hh.2 HB6.out (by omega) (by omega) (by omega)); have HK9 := Lib.hid (HK6.out.fr hh.2 (by simp only [List.length_cons, List.length_nil]; omega) (by simp only [List.length_cons, List.length_nil]; omega)); have HX9 := Lib.hid hh.1; have hsz9 := hh.2.size; obtain ⟨J0, j0, J1, j1, J3, j3, J4, j4, J5, j5, J6, j6, J7, j7, hg9, hk9⟩ := hh.1.read; have HV9 := Lib.hid hk9; rw [hn9] at hg9; have K8 := (hg8.block w4.heap.size zg7 (fun e => (HL0.out _ e.symm).2 rfl)).trans (blk_call HGG.out HBQ.out); have c8 := blk_cell K8; have f8 := blk_frozen K8; have z8 := blk_lt K8; have c9 := blk_cell hg9; have z9 := blk_lt hg9; have b0 := blk_cell HK9.out.1; have y0 := blk_lt HK9.out.1; have b1 := blk_cell HK9.out.2.1; have g1 := blk_frozen HK9.out.2.1; have y1 := blk_lt HK9.out.2.1; have HN9 := Lib.hid hn9; clear hR hg8 hb8 hh hg9 hk9 K8 hs9 hn9 cg7 fg7 zg7)
    refine (fails_calls s r.2.2 w.heap.size w9 HK9.out.1 (HV.out.keepB HB9.out) hs).mono ?_
    rintro e w10 ⟨v10, rfl, hO, hb⟩
    obtain ⟨F0, f0, F1, f1, F3, f3, F4, f4, F5, f5, F6, f6, F7, f7, rfl⟩ := hO.k.form
    have HO := Lib.hid hO
    have HB10 := Lib.hid (bl_call HB9.out hb)
    have HK10 := Lib.hid (HK9.out.call hb)
    have hi := HB9.out.size
    have hlo : w.heap.size + 1 < w9.heap.size := blk_lt HK9.out.2.1
    have cz := blk_cell HK10.out.2.1
    have fz := blk_frozen HK10.out.2.1
    have zz := blk_lt HK10.out.2.1
    clear hO hb b1 g1 y1
    go_wp2_with fail
    refine bodyPost_ret (v := .agg #[.slice F0 s.data.length f0, .slice F1 s.ret.length f1, .int .i32 s.a, .slice F3 s.mem.length f3, .slice F4 s.cells.length f4, .slice F5 s.vars.length f5, .slice F6 s.out.length f6, .slice F7 s.inp.length f7, .int .i64 r.2.2, .int .i64 s.fuel]) (by simp [results, Tryd.results42, go_sem, cz, zz]) rfl ⟨_, rfl, ?_, ?_⟩
    · rw [HRES.out]
      have h0 := (HO.out.v).low (lo' := w.heap.size + 2) (by omega)
      have h1 : w.heap.size + 1 < w.heap.size + 2 := by omega
      have hz : ∀ W : World, StV W (w.heap.size + 2) w10.heap.size { s with fault := r.2.2 } (.agg #[.slice F0 s.data.length f0, .slice F1 s.ret.length f1, .int .i32 s.a, .slice F3 s.mem.length f3, .slice F4 s.cells.length f4, .slice F5 s.vars.length f5, .slice F6 s.out.length f6, .slice F7 s.inp.length f7, .int .i64 r.2.2, .int .i64 s.fuel]) → w10.heap.size = W.heap.size → StV W w.heap.size W.heap.size { s with fault := r.2.2 } (.agg #[.slice F0 s.data.length f0, .slice F1 s.ret.length f1, .int .i32 s.a, .slice F3 s.mem.length f3, .slice F4 s.cells.length f4, .slice F5 s.vars.length f5, .slice F6 s.out.length f6, .slice F7 s.inp.length f7, .int .i64 r.2.2, .int .i64 s.fuel]) := fun W h e => (h.low (by omega)).top (by omega) (Nat.le_refl _)
      refine hz _ ?_ (by simp)
      with_reducible repeat (first | exact h0 | refine StV.far ?_ h1 _)
    · have h0 := HB10.out
      with_reducible repeat (first | exact h0 | apply bl_set1)
  · exfalso
    have := HN0.out
    omega
  · have HRES : Hid (resK s t r = { r.1 with data := s.data.take m ++ r.2.1 }) := Lib.hid (by simp only [resK]; rw [if_neg (by simpa using hc), HM.out, if_neg hc2])
    have e1 : (r.2.2 != 0) = false := by simpa using hc
    have h16 : ¬ ((16 : Int) < (m : Int) + (r.2.1.length : Int)) := by omega
    clear hc hc2
    go_wp2_with (at_builtin; refine wp_append _ rfl _ _ 22 rfl 21 (.int .i32 0) 1 4 Tryd.underlying22 info_Int32 rfl (by decide) rfl HSH.out rfl (by simp) HRA7.out one_map (by unfold maxLen; omega) (by omega) ?_; intro B d w8 b hR hg8 hb8; have hlen : (s.data.take m ++ r.2.1).length = m + r.2.1.length := (by simp; omega); have hh := HKK.out (s.data.take m ++ r.2.1) B d w8 b (by rw [hlen, List.map_append, List.map_take]; simpa using hR) (World.grownBy.trans (below_grownBy HBQ.out _) hg8) (hb8.imp id (fun ⟨y, h1, h2⟩ => ⟨y, h1, by omega⟩)); obtain ⟨s9, hs9⟩ : ∃ s9, ({ r.1 with data := s.data.take m ++ r.2.1 } : LSt) = s9 := ⟨_, rfl⟩; have hn9 : s9.data.length = m + r.2.1.length := (by rw [← hs9]; exact hlen); rw [hs9, hlen] at hh; obtain ⟨w9, hw9⟩ : ∃ W, w8.setCell ⟨w4.heap.size, 0, none⟩ (.slice B (m + r.2.1.length) d) = W := ⟨_, rfl⟩; rw [hw9] at hh; have HS9 := Lib.hid hs9; have HB9 := Lib.hid (FrG.below hh.2 HB6.out (by omega) (by omega) (by omega)); have HK9 := Lib.hid (HK6.out.fr hh.2 (by simp only [List.length_cons, List.length_nil]; omega) (by simp only [List.length_cons, List.length_nil]; omega)); have HX9 := Lib.hid hh.1; have hsz9 := hh.2.size; obtain ⟨J0, j0, J1, j1, J3, j3, J4, j4, J5, j5, J6, j6, J7, j7, hg9, hk9⟩ := hh.1.read; have HV9 := Lib.hid hk9; rw [hn9] at hg9; have K8 := (hg8.block w4.heap.size zg7 (fun e => (HL0.out _ e.symm).2 rfl)).trans (blk_call HGG.out HBQ.out); have c8 := blk_cell K8; have f8 := blk_frozen K8; have z8 := blk_lt K8; have c9 := blk_cell hg9; have z9 := blk_lt hg9; have b0 := blk_cell HK9.out.1; have y0 := blk_lt HK9.out.1; have b1 := blk_cell HK9.out.2.1; have g1 := blk_frozen HK9.out.2.1; have y1 := blk_lt HK9.out.2.1; have HN9 := Lib.hid hn9; clear hR hg8 hb8 hh hg9 hk9 K8 hs9 hn9 cg7 fg7 zg7)
    have hi := HB9.out.size
    refine bodyPost_ret (v := .agg #[.slice J0 (m + r.2.1.length) j0, .slice J1 s9.ret.length j1, .int .i32 s9.a, .slice J3 s9.mem.length j3, .slice J4 s9.cells.length j4, .slice J5 s9.vars.length j5, .slice J6 s9.out.length j6, .slice J7 s9.inp.length j7, .int .i64 s9.fault, .int .i64 s9.fuel]) (by simp [results, Tryd.results42, go_sem, b1, y1]) rfl ⟨_, rfl, ?_, ?_⟩
    · rw [HRES.out, HS9.out]
      have h0 : StV w9 (w.heap.size + 2) w9.heap.size s9 (.agg #[.slice J0 (m + r.2.1.length) j0, .slice J1 s9.ret.length j1, .int .i32 s9.a, .slice J3 s9.mem.length j3, .slice J4 s9.cells.length j4, .slice J5 s9.vars.length j5, .slice J6 s9.out.length j6, .slice J7 s9.inp.length j7, .int .i64 s9.fault, .int .i64 s9.fuel]) := ⟨Nat.le_refl _, fun w1 hk => by have := HV9.out w1 (fun x p1 p2 p3 => hk x (by omega) p2); rwa [HN9.out] at this⟩
      have h1 : w.heap.size + 1 < w.heap.size + 2 := by omega
      have hz : ∀ (W : World) (u : Value), StV W (w.heap.size + 2) w9.heap.size s9 u → w9.heap.size = W.heap.size → StV W w.heap.size W.heap.size s9 u := fun W u h e => (h.low (by omega)).top (by omega) (Nat.le_refl _)
      refine hz _ _ ?_ (by simp)
      with_reducible repeat (first | exact h0 | refine StV.far ?_ h1 _)
    · have h0 := HB9.out
      with_reducible repeat (first | exact h0 | apply bl_set1)
set_option maxRecDepth 100000 in
set_option maxHeartbeats 4000000 in
theorem does_run1 (k : Int) (nm : ByteArray) (t : Nat) (s : LSt) (v : Value) (w : World) (hv : StK w s v) (hs : s.small 1048576) (hA : Asc w)
    (hN : ∀ W, Asc W → Calls Tryd.prog 67 #[.int .i64 k] W fun e w' => e = .returned (.string nm) ∧ Below W.heap.size W w')
    (hW : ∀ W, Asc W → Calls Tryd.prog 84 #[.int .i64 k] W fun e w' => e = .returned (.int .i64 t) ∧ Below W.heap.size W w') (hnm : nm.toList.isEmpty = false) (hge : t ≤ s.data.length) (hd16 : s.data.length ≤ 16) (hP : Pow w) (x y : Int) (hx : topX s = x) (hy : topY s = y) (r : LSt × List Int × Int) (hr3 : r.2.1.length ≤ 3) (hrd : r.1.data = s.data)
    (hE : ∀ W g lo, StX W g lo s → lo ≤ W.heap.size → Pow W → Calls Tryd.prog 85 #[.pointer (some ⟨g, 0, none⟩), .string nm, .int .i32 x, .int .i32 y] W fun e w' => EffE W g lo r e w') (hn : s.data.length = 1) :
    Calls Tryd.prog 42 #[v, .int .i64 k] w fun e w' => ∃ v', e = .returned v' ∧ StV w' w.heap.size w'.heap.size (resK s t r) v' ∧ Below w.heap.size w w' := by
  have hv' := hv
  obtain ⟨A0, c0, A1, c1, A3, c3, A4, c4, A5, c5, A6, c6, A7, c7, rfl, R0, -⟩ := hv
  have HRD := Lib.hid hrd
  have HE := Lib.hid hE
  have HPP := Lib.hid hP
  clear hE hP hrd
  obtain ⟨j, hj⟩ : ∃ j, s.data.length = j + 1 := ⟨s.data.length - 1, by omega⟩
  have ej : (s.data.length : Int) - 1 = (j : Int) := by omega
  have hjn : j < s.data.length := by omega
  have hyj : s.data[j]? = some y := by rw [← hy, topY, if_pos (by omega), hj, Nat.add_sub_cancel, List.getD, List.getElem?_eq_getElem hjn]; rfl
  obtain ⟨ad, rfl, -⟩ := R0.at_ (j := j) (u := .int .i32 y) (by simp [hyj])
  have HRR := Lib.hid R0
  have HYJ : Hid ((s.data.map (Value.int .i32))[j]? = some (.int .i32 y)) := Lib.hid (by simp [hyj])
  have p0 : (0 : Int) < (s.data.length : Int) := by omega
  have hj64 : j ≤ 16 := by omega
  obtain rfl : x = 0 := by rw [← hx, topX, if_neg (by omega)]
  have p1 : ¬ ((1 : Int) < (s.data.length : Int)) := by omega
  have HN0 := Lib.hid hn
  have HJJ := Lib.hid hj
  clear hx hy hn hj hyj R0
  have hv := hv'
  clear hv'
  have HV := Lib.hid hv
  have HNN := Lib.hid hN
  have HWW := Lib.hid hW
  have HAS := Lib.hid hA
  obtain ⟨W, hW1⟩ : ∃ W, (w.alloc (.cells #[.slice (some ad) s.data.length c0, .slice A1 s.ret.length c1, .int .i32 s.a, .slice A3 s.mem.length c3, .slice A4 s.cells.length c4, .slice A5 s.vars.length c5, .slice A6 s.out.length c6, .slice A7 s.inp.length c7, .int .i64 s.fault, .int .i64 s.fuel] 32)).alloc (.cells #[.slice none 0 0, .slice none 0 0, .int .i32 0, .slice none 0 0, .slice none 0 0, .slice none 0 0, .slice none 0 0, .slice none 0 0, .int .i64 0, .int .i64 0] 32) = W := ⟨_, rfl⟩
  have HB1 : Hid (Below w.heap.size w W) := Lib.hid (hW1 ▸ bl_alloc (bl_alloc (Below.refl _ _) _) _)
  have HK1 : Hid (Bx W w.heap.size [(#[.slice (some ad) s.data.length c0, .slice A1 s.ret.length c1, .int .i32 s.a, .slice A3 s.mem.length c3, .slice A4 s.cells.length c4, .slice A5 s.vars.length c5, .slice A6 s.out.length c6, .slice A7 s.inp.length c7, .int .i64 s.fault, .int .i64 s.fuel], 32), (#[.slice none 0 0, .slice none 0 0, .int .i32 0, .slice none 0 0, .slice none 0 0, .slice none 0 0, .slice none 0 0, .slice none 0 0, .int .i64 0, .int .i64 0], 32)]) := Lib.hid (hW1 ▸ (Bx.two w #[.slice (some ad) s.data.length c0, .slice A1 s.ret.length c1, .int .i32 s.a, .slice A3 s.mem.length c3, .slice A4 s.cells.length c4, .slice A5 s.vars.length c5, .slice A6 s.out.length c6, .slice A7 s.inp.length c7, .int .i64 s.fault, .int .i64 s.fuel] #[.slice none 0 0, .slice none 0 0, .int .i32 0, .slice none 0 0, .slice none 0 0, .slice none 0 0, .slice none 0 0, .slice none 0 0, .int .i64 0, .int .i64 0] 32 32))
  have hmf : ∀ (fn : Fn) (first cap : Array Value) (w : World), (Instr.makeFunc fn first cap).run Tryd.prog w = .ok (.func fn first cap) w := fun _ _ _ _ => by simp [Instr.makeFunc]
  clear hv hN hW hA
  go_enter Tryd.func42, Tryd.ntmps42
  go_wp2_with fail
  have q0 := fun d os => blk_cell ((HK1.out.call (below_regrown W d os)).1)
  have TP0 : ∀ d os, Calls Tryd.prog 67 #[.int .i64 k] (grow (redrawn W d) os) fun e w'' => e = .returned (.string nm) ∧ ∃ p : Regrown, w'' = grow (redrawn W p.d) p.os := fun d os => Calls.regrown_of (HNN.out _ (HAS.out.call (bl_call HB1.out (below_regrown W d os))))
  have TP := Lib.hid TP0
  clear TP0
  refine wp_region_quiet_below (by kernel_rfl) (by kernel_rfl) ?_
  repeat (quiet_step (first | (with_reducible exact TP.out _ _)))
  refine wpQuiet_nil ?_
  intro w2 hw'
  obtain ⟨⟨dq, osq⟩, hw''⟩ := hw'
  have hb : Below W.heap.size W w2 := by rw [hw'']; exact below_regrown W dq osq
  have HB2 := Lib.hid (bl_call HB1.out hb)
  have HK2 := Lib.hid (HK1.out.call hb)
  clear hw'' q0 TP hb hW1 HB1 HK1
  have b0 := blk_cell HK2.out.1
  have y0 := blk_lt HK2.out.1
  have b1 := blk_cell HK2.out.2.1
  have g1 := blk_frozen HK2.out.2.1
  have y1 := blk_lt HK2.out.2.1
  have h1 : ¬ ((s.data.length : Int) < (t : Int)) := by omega
  go_wp2_with fail
  refine (HWW.out _ (HAS.out.call HB2.out)).mono ?_
  rintro e w3 ⟨rfl, hb⟩
  have HB3 := Lib.hid (bl_call HB2.out hb)
  have HK3 := Lib.hid (HK2.out.call hb)
  clear hb b0 y0 b1 g1 y1
  have b0 := blk_cell HK3.out.1
  have y0 := blk_lt HK3.out.1
  have b1 := blk_cell HK3.out.2.1
  have g1 := blk_frozen HK3.out.2.1
  have y1 := blk_lt HK3.out.2.1
  go_wp2_with fail
  refine (ownSt_calls s _ w3 (HV.out.keepB HB3.out) hs).mono ?_
  rintro e w4 ⟨v4, rfl, hO, hb⟩
  obtain ⟨E0, e0, E1, e1, E3, e3, E4, e4, E5, e5, E6, e6, E7, e7, rfl⟩ := hO.k.form
  have HB4 := Lib.hid (bl_call HB3.out hb)
  have HK4 := Lib.hid (HK3.out.call hb)
  have h34 := hb.size
  have h13 : w.heap.size + 2 ≤ w3.heap.size := by have := blk_lt HK3.out.2.1; omega
  clear hb b0 y0 b1 g1 y1
  have b0 := blk_cell HK4.out.1
  have y0 := blk_lt HK4.out.1
  have b1 := blk_cell HK4.out.2.1
  have g1 := blk_frozen HK4.out.2.1
  have y1 := blk_lt HK4.out.2.1
  obtain ⟨W5, hW5⟩ : ∃ W, w4.alloc (.cells #[.slice E0 s.data.length e0, .slice E1 s.ret.length e1, .int .i32 s.a, .slice E3 s.mem.length e3, .slice E4 s.cells.length e4, .slice E5 s.vars.length e5, .slice E6 s.out.length e6, .slice E7 s.inp.length e7, .int .i64 s.fault, .int .i64 s.fuel] 32) = W := ⟨_, rfl⟩
  have HX5 : Hid (StX W5 w4.heap.size w3.heap.size s) := Lib.hid (hW5 ▸ StX.of hO)
  have hb5 : Below w4.heap.size w4 W5 := hW5 ▸ bl_alloc (Below.refl _ _) _
  have h45 := hb5.size
  have h45' : w4.heap.size < W5.heap.size := by rw [← hW5]; simp
  have HB5 := Lib.hid (bl_call HB4.out hb5)
  have HK5 := Lib.hid (HK4.out.call hb5)
  clear hb5 hO b0 y0 b1 g1 y1
  have b0 := blk_cell HK5.out.1
  have y0 := blk_lt HK5.out.1
  have b1 := blk_cell HK5.out.2.1
  have g1 := blk_frozen HK5.out.2.1
  have y1 := blk_lt HK5.out.2.1
  have cy0 := (HRR.out.keepB HB5.out).some_ j _ HYJ.out
  go_wp2_with fail
  refine (HE.out W5 _ _ HX5.out (by omega) (HPP.out.call HB5.out)).mono ?_
  rintro e w6 ⟨A, c, rfl, hX, hF, hRd⟩
  obtain ⟨D0, d0, D1, d1, D3, d3, D4, d4, D5, d5, D6, d6, D7, d7, bb, hg, r0, L0, hK⟩ := hX.rep0 (by have := hF.size; omega)
  rw [HRD.out] at hg r0
  have h56 := hF.size
  have HB6 := Lib.hid (FrG.below hF HB5.out (by omega) (by omega) (by omega))
  have HK6 := Lib.hid (HK5.out.fr hF (by simp only [List.length_cons, List.length_nil]; omega) (by simp only [List.length_cons, List.length_nil]; omega))
  have HKK := Lib.hid hK
  have HR0 := Lib.hid r0
  have HL0 := Lib.hid L0
  have HGG := Lib.hid hg
  have HRA := Lib.hid hRd
  have hd0 := r0.le
  obtain ⟨m, hm⟩ : ∃ m, s.data.length - t = m := ⟨_, rfl⟩
  have hmi : (s.data.length : Int) - (t : Int) = (m : Int) := by omega
  have hmd : m ≤ d0 := by omega
  have hmdi : (m : Int) ≤ (d0 : Int) := by omega
  have hmn : m ≤ s.data.length := by omega
  have hmw : IntKind.wrap .i64 (m : Int) = (m : Int) := by simp [IntKind.wrap, IntKind.signed, IntKind.bits]; omega
  have hm0 : (0 : Int) ≤ (m : Int) := by omega
  have HM := Lib.hid hm
  clear hX hF hRd hg r0 L0 hK b0 y0 b1 g1 y1 hm cy0
  have gg := blk_lt HGG.out
  go_wp2_with fail
  have q0 := fun d os => blk_cell (blk_call HGG.out (below_regrown w6 d os))
  have TW0 : ∀ d os, Calls Tryd.prog 84 #[.int .i64 k] (grow (redrawn w6 d) os) fun e w'' => e = .returned (.int .i64 t) ∧ ∃ p : Regrown, w'' = grow (redrawn w6 p.d) p.os := fun d os => Calls.regrown_of (HWW.out _ (HAS.out.call (bl_call HB6.out (below_regrown w6 d os))))
  have TW := Lib.hid TW0
  clear TW0
  refine wp_region_below_tail 8 (by kernel_rfl) (by kernel_rfl) ?_
  simp only [List.take_succ_cons, List.take_zero, List.drop_succ_cons, List.drop_zero]
  repeat (quiet_step (first | (with_reducible exact TW.out _ _)))
  refine wpQuiet_nil ?_
  intro w7 hw'
  obtain ⟨⟨dq, osq⟩, hw''⟩ := hw'
  have hb : Below w6.heap.size w6 w7 := by rw [hw'']; exact below_regrown w6 dq osq
  have HBQ := Lib.hid hb
  have h67 := hb.size
  clear hw'' q0 TW hb
  have cg7 := blk_cell (blk_call HGG.out HBQ.out)
  have fg7 := blk_frozen (blk_call HGG.out HBQ.out)
  have zg7 := blk_lt (blk_call HGG.out HBQ.out)
  have HSH := Lib.hid ((HR0.out.call HBQ.out).shorter hmn)
  have HRA7 := Lib.hid (HRA.out.call HBQ.out)
  have hcs : (r.2.2 ≠ 0) ∨ (r.2.2 = 0 ∧ 16 < m + r.2.1.length) ∨ (r.2.2 = 0 ∧ ¬ 16 < m + r.2.1.length) := by
    by_cases h : r.2.2 = 0
    · by_cases h2 : 16 < m + r.2.1.length
      · exact .inr (.inl ⟨h, h2⟩)
      · exact .inr (.inr ⟨h, h2⟩)
    · exact .inl h
  rcases hcs with hc | ⟨hc, hc2⟩ | ⟨hc, hc2⟩
  · have HRES : Hid (resK s t r = { s with fault := r.2.2 }) := Lib.hid (by simp only [resK]; rw [if_pos hc])
    have e1 : (r.2.2 != 0) = true := by simpa using hc
    clear hc
    go_wp2_with (at_builtin; refine wp_append _ rfl _ _ 22 rfl 21 (.int .i32 0) 1 4 Tryd.underlying22 info_Int32 rfl (by decide) rfl HSH.out rfl (by simp) HRA7.out one_map (by unfold maxLen; omega) (by omega) ?_; intro B d w8 b hR hg8 hb8; have hlen : (s.data.take m ++ r.2.1).length = m + r.2.1.length := (by simp; omega); have hh := HKK.out (s.data.take m ++ r.2.1) B d w8 b (by rw [hlen, List.map_append, List.map_take]; simpa using hR) (World.grownBy.trans (below_grownBy HBQ.out _) hg8) (hb8.imp id (fun ⟨y, h1, h2⟩ => ⟨y, h1, by omega⟩)); obtain ⟨s9, hs9⟩ : ∃ s9, ({ r.1 with data := s.data.take m ++ r.2.1 } : LSt) = s9 := ⟨_, rfl⟩; have hn9 : s9.data.length = m + r.2.1.length := (by rw [← hs9]; exact hlen); rw [hs9, hlen] at hh; obtain ⟨w9, hw9⟩ : ∃ W, w8.setCell ⟨w4.heap.size, 0, none⟩ (.slice B (m + r.2.1.length) d) = W := ⟨_, rfl⟩; rw [hw9] at hh; have HS9 := Lib.hid hs9; have HB9 := Lib.hid (FrG.below hh.2 HB6.out (by omega) (by omega) (by omega)); have HK9 := Lib.hid (HK6.out.fr hh.2 (by simp only [List.length_cons, List.length_nil]; omega) (by simp only [List.length_cons, List.length_nil]; omega)); have HX9 := Lib.hid hh.1; have hsz9 := hh.2.size; obtain ⟨J0, j0, J1, j1, J3, j3, J4, j4, J5, j5, J6, j6, J7, j7, hg9, hk9⟩ := hh.1.read; have HV9 := Lib.hid hk9; rw [hn9] at hg9; have K8 := (hg8.block w4.heap.size zg7 (fun e => (HL0.out _ e.symm).2 rfl)).trans (blk_call HGG.out HBQ.out); have c8 := blk_cell K8; have f8 := blk_frozen K8; have z8 := blk_lt K8; have c9 := blk_cell hg9; have z9 := blk_lt hg9; have b0 := blk_cell HK9.out.1; have y0 := blk_lt HK9.out.1; have b1 := blk_cell HK9.out.2.1; have g1 := blk_frozen HK9.out.2.1; have y1 := blk_lt HK9.out.2.1; have HN9 := Lib.hid hn9; clear hR hg8 hb8 hh hg9 hk9 K8 hs9 hn9 cg7 fg7 zg7)
    refine (fails_calls s r.2.2 w.heap.size w9 HK9.out.1 (HV.out.keepB HB9.out) hs).mono ?_
    rintro e w10 ⟨v10, rfl, hO, hb⟩
    obtain ⟨F0, f0, F1, f1, F3, f3, F4, f4, F5, f5, F6, f6, F7, f7, rfl⟩ := hO.k.form
    have HO := Lib.hid hO
    have HB10 := Lib.hid (bl_call HB9.out hb)
    have HK10 := Lib.hid (HK9.out.call hb)
    have hi := HB9.out.size
    have hlo : w.heap.size + 1 < w9.heap.size := blk_lt HK9.out.2.1
    have cz := blk_cell HK10.out.2.1
    have fz := blk_frozen HK10.out.2.1
    have zz := blk_lt HK10.out.2.1
    clear hO hb b1 g1 y1
    go_wp2_with fail
    refine bodyPost_ret (v := .agg #[.slice F0 s.data.length f0, .slice F1 s.ret.length f1, .int .i32 s.a, .slice F3 s.mem.length f3, .slice F4 s.cells.length f4, .slice F5 s.vars.length f5, .slice F6 s.out.length f6, .slice F7 s.inp.length f7, .int .i64 r.2.2, .int .i64 s.fuel]) (by simp [results, Tryd.results42, go_sem, cz, zz]) rfl ⟨_, rfl, ?_, ?_⟩
    · rw [HRES.out]
      have h0 := (HO.out.v).low (lo' := w.heap.size + 2) (by omega)
      have h1 : w.heap.size + 1 < w.heap.size + 2 := by omega
      have hz : ∀ W : World, StV W (w.heap.size + 2) w10.heap.size { s with fault := r.2.2 } (.agg #[.slice F0 s.data.length f0, .slice F1 s.ret.length f1, .int .i32 s.a, .slice F3 s.mem.length f3, .slice F4 s.cells.length f4, .slice F5 s.vars.length f5, .slice F6 s.out.length f6, .slice F7 s.inp.length f7, .int .i64 r.2.2, .int .i64 s.fuel]) → w10.heap.size = W.heap.size → StV W w.heap.size W.heap.size { s with fault := r.2.2 } (.agg #[.slice F0 s.data.length f0, .slice F1 s.ret.length f1, .int .i32 s.a, .slice F3 s.mem.length f3, .slice F4 s.cells.length f4, .slice F5 s.vars.length f5, .slice F6 s.out.length f6, .slice F7 s.inp.length f7, .int .i64 r.2.2, .int .i64 s.fuel]) := fun W h e => (h.low (by omega)).top (by omega) (Nat.le_refl _)
      refine hz _ ?_ (by simp)
      with_reducible repeat (first | exact h0 | refine StV.far ?_ h1 _)
    · have h0 := HB10.out
      with_reducible repeat (first | exact h0 | apply bl_set1)
  · exfalso
    have := HN0.out
    omega
  · have HRES : Hid (resK s t r = { r.1 with data := s.data.take m ++ r.2.1 }) := Lib.hid (by simp only [resK]; rw [if_neg (by simpa using hc), HM.out, if_neg hc2])
    have e1 : (r.2.2 != 0) = false := by simpa using hc
    have h16 : ¬ ((16 : Int) < (m : Int) + (r.2.1.length : Int)) := by omega
    clear hc hc2
    go_wp2_with (at_builtin; refine wp_append _ rfl _ _ 22 rfl 21 (.int .i32 0) 1 4 Tryd.underlying22 info_Int32 rfl (by decide) rfl HSH.out rfl (by simp) HRA7.out one_map (by unfold maxLen; omega) (by omega) ?_; intro B d w8 b hR hg8 hb8; have hlen : (s.data.take m ++ r.2.1).length = m + r.2.1.length := (by simp; omega); have hh := HKK.out (s.data.take m ++ r.2.1) B d w8 b (by rw [hlen, List.map_append, List.map_take]; simpa using hR) (World.grownBy.trans (below_grownBy HBQ.out _) hg8) (hb8.imp id (fun ⟨y, h1, h2⟩ => ⟨y, h1, by omega⟩)); obtain ⟨s9, hs9⟩ : ∃ s9, ({ r.1 with data := s.data.take m ++ r.2.1 } : LSt) = s9 := ⟨_, rfl⟩; have hn9 : s9.data.length = m + r.2.1.length := (by rw [← hs9]; exact hlen); rw [hs9, hlen] at hh; obtain ⟨w9, hw9⟩ : ∃ W, w8.setCell ⟨w4.heap.size, 0, none⟩ (.slice B (m + r.2.1.length) d) = W := ⟨_, rfl⟩; rw [hw9] at hh; have HS9 := Lib.hid hs9; have HB9 := Lib.hid (FrG.below hh.2 HB6.out (by omega) (by omega) (by omega)); have HK9 := Lib.hid (HK6.out.fr hh.2 (by simp only [List.length_cons, List.length_nil]; omega) (by simp only [List.length_cons, List.length_nil]; omega)); have HX9 := Lib.hid hh.1; have hsz9 := hh.2.size; obtain ⟨J0, j0, J1, j1, J3, j3, J4, j4, J5, j5, J6, j6, J7, j7, hg9, hk9⟩ := hh.1.read; have HV9 := Lib.hid hk9; rw [hn9] at hg9; have K8 := (hg8.block w4.heap.size zg7 (fun e => (HL0.out _ e.symm).2 rfl)).trans (blk_call HGG.out HBQ.out); have c8 := blk_cell K8; have f8 := blk_frozen K8; have z8 := blk_lt K8; have c9 := blk_cell hg9; have z9 := blk_lt hg9; have b0 := blk_cell HK9.out.1; have y0 := blk_lt HK9.out.1; have b1 := blk_cell HK9.out.2.1; have g1 := blk_frozen HK9.out.2.1; have y1 := blk_lt HK9.out.2.1; have HN9 := Lib.hid hn9; clear hR hg8 hb8 hh hg9 hk9 K8 hs9 hn9 cg7 fg7 zg7)
    have hi := HB9.out.size
    refine bodyPost_ret (v := .agg #[.slice J0 (m + r.2.1.length) j0, .slice J1 s9.ret.length j1, .int .i32 s9.a, .slice J3 s9.mem.length j3, .slice J4 s9.cells.length j4, .slice J5 s9.vars.length j5, .slice J6 s9.out.length j6, .slice J7 s9.inp.length j7, .int .i64 s9.fault, .int .i64 s9.fuel]) (by simp [results, Tryd.results42, go_sem, b1, y1]) rfl ⟨_, rfl, ?_, ?_⟩
    · rw [HRES.out, HS9.out]
      have h0 : StV w9 (w.heap.size + 2) w9.heap.size s9 (.agg #[.slice J0 (m + r.2.1.length) j0, .slice J1 s9.ret.length j1, .int .i32 s9.a, .slice J3 s9.mem.length j3, .slice J4 s9.cells.length j4, .slice J5 s9.vars.length j5, .slice J6 s9.out.length j6, .slice J7 s9.inp.length j7, .int .i64 s9.fault, .int .i64 s9.fuel]) := ⟨Nat.le_refl _, fun w1 hk => by have := HV9.out w1 (fun x p1 p2 p3 => hk x (by omega) p2); rwa [HN9.out] at this⟩
      have h1 : w.heap.size + 1 < w.heap.size + 2 := by omega
      have hz : ∀ (W : World) (u : Value), StV W (w.heap.size + 2) w9.heap.size s9 u → w9.heap.size = W.heap.size → StV W w.heap.size W.heap.size s9 u := fun W u h e => (h.low (by omega)).top (by omega) (Nat.le_refl _)
      refine hz _ _ ?_ (by simp)
      with_reducible repeat (first | exact h0 | refine StV.far ?_ h1 _)
    · have h0 := HB9.out
      with_reducible repeat (first | exact h0 | apply bl_set1)
set_option maxRecDepth 100000 in
set_option maxHeartbeats 4000000 in
theorem does_run2 (k : Int) (nm : ByteArray) (t : Nat) (s : LSt) (v : Value) (w : World) (hv : StK w s v) (hs : s.small 1048576) (hA : Asc w)
    (hN : ∀ W, Asc W → Calls Tryd.prog 67 #[.int .i64 k] W fun e w' => e = .returned (.string nm) ∧ Below W.heap.size W w')
    (hW : ∀ W, Asc W → Calls Tryd.prog 84 #[.int .i64 k] W fun e w' => e = .returned (.int .i64 t) ∧ Below W.heap.size W w') (hnm : nm.toList.isEmpty = false) (hge : t ≤ s.data.length) (hd16 : s.data.length ≤ 16) (hP : Pow w) (x y : Int) (hx : topX s = x) (hy : topY s = y) (r : LSt × List Int × Int) (hr3 : r.2.1.length ≤ 3) (hrd : r.1.data = s.data)
    (hE : ∀ W g lo, StX W g lo s → lo ≤ W.heap.size → Pow W → Calls Tryd.prog 85 #[.pointer (some ⟨g, 0, none⟩), .string nm, .int .i32 x, .int .i32 y] W fun e w' => EffE W g lo r e w') (hn : 2 ≤ s.data.length) :
    Calls Tryd.prog 42 #[v, .int .i64 k] w fun e w' => ∃ v', e = .returned v' ∧ StV w' w.heap.size w'.heap.size (resK s t r) v' ∧ Below w.heap.size w w' := by
  have hv' := hv
  obtain ⟨A0, c0, A1, c1, A3, c3, A4, c4, A5, c5, A6, c6, A7, c7, rfl, R0, -⟩ := hv
  have HRD := Lib.hid hrd
  have HE := Lib.hid hE
  have HPP := Lib.hid hP
  clear hE hP hrd
  obtain ⟨j, hj⟩ : ∃ j, s.data.length = j + 1 := ⟨s.data.length - 1, by omega⟩
  have ej : (s.data.length : Int) - 1 = (j : Int) := by omega
  have hjn : j < s.data.length := by omega
  have hyj : s.data[j]? = some y := by rw [← hy, topY, if_pos (by omega), hj, Nat.add_sub_cancel, List.getD, List.getElem?_eq_getElem hjn]; rfl
  obtain ⟨ad, rfl, -⟩ := R0.at_ (j := j) (u := .int .i32 y) (by simp [hyj])
  have HRR := Lib.hid R0
  have HYJ : Hid ((s.data.map (Value.int .i32))[j]? = some (.int .i32 y)) := Lib.hid (by simp [hyj])
  have p0 : (0 : Int) < (s.data.length : Int) := by omega
  have hj64 : j ≤ 16 := by omega
  obtain ⟨i, hi⟩ : ∃ i, s.data.length = i + 2 := ⟨s.data.length - 2, by omega⟩
  have ei : (s.data.length : Int) - 2 = (i : Int) := by omega
  have hin : i < s.data.length := by omega
  have hxi : s.data[i]? = some x := by rw [← hx, topX, if_pos (by omega), hi, Nat.add_sub_cancel, List.getD, List.getElem?_eq_getElem hin]; rfl
  have HXI : Hid ((s.data.map (Value.int .i32))[i]? = some (.int .i32 x)) := Lib.hid (by simp [hxi])
  have p1 : (1 : Int) < (s.data.length : Int) := by omega
  have HN0 := Lib.hid hn
  have HJJ := Lib.hid hj
  have HII := Lib.hid hi
  clear hx hy hn hj hi hyj hxi R0
  have hv := hv'
  clear hv'
  have HV := Lib.hid hv
  have HNN := Lib.hid hN
  have HWW := Lib.hid hW
  have HAS := Lib.hid hA
  obtain ⟨W, hW1⟩ : ∃ W, (w.alloc (.cells #[.slice (some ad) s.data.length c0, .slice A1 s.ret.length c1, .int .i32 s.a, .slice A3 s.mem.length c3, .slice A4 s.cells.length c4, .slice A5 s.vars.length c5, .slice A6 s.out.length c6, .slice A7 s.inp.length c7, .int .i64 s.fault, .int .i64 s.fuel] 32)).alloc (.cells #[.slice none 0 0, .slice none 0 0, .int .i32 0, .slice none 0 0, .slice none 0 0, .slice none 0 0, .slice none 0 0, .slice none 0 0, .int .i64 0, .int .i64 0] 32) = W := ⟨_, rfl⟩
  have HB1 : Hid (Below w.heap.size w W) := Lib.hid (hW1 ▸ bl_alloc (bl_alloc (Below.refl _ _) _) _)
  have HK1 : Hid (Bx W w.heap.size [(#[.slice (some ad) s.data.length c0, .slice A1 s.ret.length c1, .int .i32 s.a, .slice A3 s.mem.length c3, .slice A4 s.cells.length c4, .slice A5 s.vars.length c5, .slice A6 s.out.length c6, .slice A7 s.inp.length c7, .int .i64 s.fault, .int .i64 s.fuel], 32), (#[.slice none 0 0, .slice none 0 0, .int .i32 0, .slice none 0 0, .slice none 0 0, .slice none 0 0, .slice none 0 0, .slice none 0 0, .int .i64 0, .int .i64 0], 32)]) := Lib.hid (hW1 ▸ (Bx.two w #[.slice (some ad) s.data.length c0, .slice A1 s.ret.length c1, .int .i32 s.a, .slice A3 s.mem.length c3, .slice A4 s.cells.length c4, .slice A5 s.vars.length c5, .slice A6 s.out.length c6, .slice A7 s.inp.length c7, .int .i64 s.fault, .int .i64 s.fuel] #[.slice none 0 0, .slice none 0 0, .int .i32 0, .slice none 0 0, .slice none 0 0, .slice none 0 0, .slice none 0 0, .slice none 0 0, .int .i64 0, .int .i64 0] 32 32))
  have hmf : ∀ (fn : Fn) (first cap : Array Value) (w : World), (Instr.makeFunc fn first cap).run Tryd.prog w = .ok (.func fn first cap) w := fun _ _ _ _ => by simp [Instr.makeFunc]
  clear hv hN hW hA
  go_enter Tryd.func42, Tryd.ntmps42
  go_wp2_with fail
  have q0 := fun d os => blk_cell ((HK1.out.call (below_regrown W d os)).1)
  have TP0 : ∀ d os, Calls Tryd.prog 67 #[.int .i64 k] (grow (redrawn W d) os) fun e w'' => e = .returned (.string nm) ∧ ∃ p : Regrown, w'' = grow (redrawn W p.d) p.os := fun d os => Calls.regrown_of (HNN.out _ (HAS.out.call (bl_call HB1.out (below_regrown W d os))))
  have TP := Lib.hid TP0
  clear TP0
  refine wp_region_quiet_below (by kernel_rfl) (by kernel_rfl) ?_
  repeat (quiet_step (first | (with_reducible exact TP.out _ _)))
  refine wpQuiet_nil ?_
  intro w2 hw'
  obtain ⟨⟨dq, osq⟩, hw''⟩ := hw'
  have hb : Below W.heap.size W w2 := by rw [hw'']; exact below_regrown W dq osq
  have HB2 := Lib.hid (bl_call HB1.out hb)
  have HK2 := Lib.hid (HK1.out.call hb)
  clear hw'' q0 TP hb hW1 HB1 HK1
  have b0 := blk_cell HK2.out.1
  have y0 := blk_lt HK2.out.1
  have b1 := blk_cell HK2.out.2.1
  have g1 := blk_frozen HK2.out.2.1
  have y1 := blk_lt HK2.out.2.1
  have h1 : ¬ ((s.data.length : Int) < (t : Int)) := by omega
  go_wp2_with fail
  refine (HWW.out _ (HAS.out.call HB2.out)).mono ?_
  rintro e w3 ⟨rfl, hb⟩
  have HB3 := Lib.hid (bl_call HB2.out hb)
  have HK3 := Lib.hid (HK2.out.call hb)
  clear hb b0 y0 b1 g1 y1
  have b0 := blk_cell HK3.out.1
  have y0 := blk_lt HK3.out.1
  have b1 := blk_cell HK3.out.2.1
  have g1 := blk_frozen HK3.out.2.1
  have y1 := blk_lt HK3.out.2.1
  go_wp2_with fail
  refine (ownSt_calls s _ w3 (HV.out.keepB HB3.out) hs).mono ?_
  rintro e w4 ⟨v4, rfl, hO, hb⟩
  obtain ⟨E0, e0, E1, e1, E3, e3, E4, e4, E5, e5, E6, e6, E7, e7, rfl⟩ := hO.k.form
  have HB4 := Lib.hid (bl_call HB3.out hb)
  have HK4 := Lib.hid (HK3.out.call hb)
  have h34 := hb.size
  have h13 : w.heap.size + 2 ≤ w3.heap.size := by have := blk_lt HK3.out.2.1; omega
  clear hb b0 y0 b1 g1 y1
  have b0 := blk_cell HK4.out.1
  have y0 := blk_lt HK4.out.1
  have b1 := blk_cell HK4.out.2.1
  have g1 := blk_frozen HK4.out.2.1
  have y1 := blk_lt HK4.out.2.1
  obtain ⟨W5, hW5⟩ : ∃ W, w4.alloc (.cells #[.slice E0 s.data.length e0, .slice E1 s.ret.length e1, .int .i32 s.a, .slice E3 s.mem.length e3, .slice E4 s.cells.length e4, .slice E5 s.vars.length e5, .slice E6 s.out.length e6, .slice E7 s.inp.length e7, .int .i64 s.fault, .int .i64 s.fuel] 32) = W := ⟨_, rfl⟩
  have HX5 : Hid (StX W5 w4.heap.size w3.heap.size s) := Lib.hid (hW5 ▸ StX.of hO)
  have hb5 : Below w4.heap.size w4 W5 := hW5 ▸ bl_alloc (Below.refl _ _) _
  have h45 := hb5.size
  have h45' : w4.heap.size < W5.heap.size := by rw [← hW5]; simp
  have HB5 := Lib.hid (bl_call HB4.out hb5)
  have HK5 := Lib.hid (HK4.out.call hb5)
  clear hb5 hO b0 y0 b1 g1 y1
  have b0 := blk_cell HK5.out.1
  have y0 := blk_lt HK5.out.1
  have b1 := blk_cell HK5.out.2.1
  have g1 := blk_frozen HK5.out.2.1
  have y1 := blk_lt HK5.out.2.1
  have cy0 := (HRR.out.keepB HB5.out).some_ j _ HYJ.out
  have cx0 := (HRR.out.keepB HB5.out).some_ i _ HXI.out
  go_wp2_with fail
  refine (HE.out W5 _ _ HX5.out (by omega) (HPP.out.call HB5.out)).mono ?_
  rintro e w6 ⟨A, c, rfl, hX, hF, hRd⟩
  obtain ⟨D0, d0, D1, d1, D3, d3, D4, d4, D5, d5, D6, d6, D7, d7, bb, hg, r0, L0, hK⟩ := hX.rep0 (by have := hF.size; omega)
  rw [HRD.out] at hg r0
  have h56 := hF.size
  have HB6 := Lib.hid (FrG.below hF HB5.out (by omega) (by omega) (by omega))
  have HK6 := Lib.hid (HK5.out.fr hF (by simp only [List.length_cons, List.length_nil]; omega) (by simp only [List.length_cons, List.length_nil]; omega))
  have HKK := Lib.hid hK
  have HR0 := Lib.hid r0
  have HL0 := Lib.hid L0
  have HGG := Lib.hid hg
  have HRA := Lib.hid hRd
  have hd0 := r0.le
  obtain ⟨m, hm⟩ : ∃ m, s.data.length - t = m := ⟨_, rfl⟩
  have hmi : (s.data.length : Int) - (t : Int) = (m : Int) := by omega
  have hmd : m ≤ d0 := by omega
  have hmdi : (m : Int) ≤ (d0 : Int) := by omega
  have hmn : m ≤ s.data.length := by omega
  have hmw : IntKind.wrap .i64 (m : Int) = (m : Int) := by simp [IntKind.wrap, IntKind.signed, IntKind.bits]; omega
  have hm0 : (0 : Int) ≤ (m : Int) := by omega
  have HM := Lib.hid hm
  clear hX hF hRd hg r0 L0 hK b0 y0 b1 g1 y1 hm cx0 cy0
  have gg := blk_lt HGG.out
  go_wp2_with fail
  have q0 := fun d os => blk_cell (blk_call HGG.out (below_regrown w6 d os))
  have TW0 : ∀ d os, Calls Tryd.prog 84 #[.int .i64 k] (grow (redrawn w6 d) os) fun e w'' => e = .returned (.int .i64 t) ∧ ∃ p : Regrown, w'' = grow (redrawn w6 p.d) p.os := fun d os => Calls.regrown_of (HWW.out _ (HAS.out.call (bl_call HB6.out (below_regrown w6 d os))))
  have TW := Lib.hid TW0
  clear TW0
  refine wp_region_below_tail 8 (by kernel_rfl) (by kernel_rfl) ?_
  simp only [List.take_succ_cons, List.take_zero, List.drop_succ_cons, List.drop_zero]
  repeat (quiet_step (first | (with_reducible exact TW.out _ _)))
  refine wpQuiet_nil ?_
  intro w7 hw'
  obtain ⟨⟨dq, osq⟩, hw''⟩ := hw'
  have hb : Below w6.heap.size w6 w7 := by rw [hw'']; exact below_regrown w6 dq osq
  have HBQ := Lib.hid hb
  have h67 := hb.size
  clear hw'' q0 TW hb
  have cg7 := blk_cell (blk_call HGG.out HBQ.out)
  have fg7 := blk_frozen (blk_call HGG.out HBQ.out)
  have zg7 := blk_lt (blk_call HGG.out HBQ.out)
  have HSH := Lib.hid ((HR0.out.call HBQ.out).shorter hmn)
  have HRA7 := Lib.hid (HRA.out.call HBQ.out)
  have hcs : (r.2.2 ≠ 0) ∨ (r.2.2 = 0 ∧ 16 < m + r.2.1.length) ∨ (r.2.2 = 0 ∧ ¬ 16 < m + r.2.1.length) := by
    by_cases h : r.2.2 = 0
    · by_cases h2 : 16 < m + r.2.1.length
      · exact .inr (.inl ⟨h, h2⟩)
      · exact .inr (.inr ⟨h, h2⟩)
    · exact .inl h
  rcases hcs with hc | ⟨hc, hc2⟩ | ⟨hc, hc2⟩
  · have HRES : Hid (resK s t r = { s with fault := r.2.2 }) := Lib.hid (by simp only [resK]; rw [if_pos hc])
    have e1 : (r.2.2 != 0) = true := by simpa using hc
    clear hc
    go_wp2_with (at_builtin; refine wp_append _ rfl _ _ 22 rfl 21 (.int .i32 0) 1 4 Tryd.underlying22 info_Int32 rfl (by decide) rfl HSH.out rfl (by simp) HRA7.out one_map (by unfold maxLen; omega) (by omega) ?_; intro B d w8 b hR hg8 hb8; have hlen : (s.data.take m ++ r.2.1).length = m + r.2.1.length := (by simp; omega); have hh := HKK.out (s.data.take m ++ r.2.1) B d w8 b (by rw [hlen, List.map_append, List.map_take]; simpa using hR) (World.grownBy.trans (below_grownBy HBQ.out _) hg8) (hb8.imp id (fun ⟨y, h1, h2⟩ => ⟨y, h1, by omega⟩)); obtain ⟨s9, hs9⟩ : ∃ s9, ({ r.1 with data := s.data.take m ++ r.2.1 } : LSt) = s9 := ⟨_, rfl⟩; have hn9 : s9.data.length = m + r.2.1.length := (by rw [← hs9]; exact hlen); rw [hs9, hlen] at hh; obtain ⟨w9, hw9⟩ : ∃ W, w8.setCell ⟨w4.heap.size, 0, none⟩ (.slice B (m + r.2.1.length) d) = W := ⟨_, rfl⟩; rw [hw9] at hh; have HS9 := Lib.hid hs9; have HB9 := Lib.hid (FrG.below hh.2 HB6.out (by omega) (by omega) (by omega)); have HK9 := Lib.hid (HK6.out.fr hh.2 (by simp only [List.length_cons, List.length_nil]; omega) (by simp only [List.length_cons, List.length_nil]; omega)); have HX9 := Lib.hid hh.1; have hsz9 := hh.2.size; obtain ⟨J0, j0, J1, j1, J3, j3, J4, j4, J5, j5, J6, j6, J7, j7, hg9, hk9⟩ := hh.1.read; have HV9 := Lib.hid hk9; rw [hn9] at hg9; have K8 := (hg8.block w4.heap.size zg7 (fun e => (HL0.out _ e.symm).2 rfl)).trans (blk_call HGG.out HBQ.out); have c8 := blk_cell K8; have f8 := blk_frozen K8; have z8 := blk_lt K8; have c9 := blk_cell hg9; have z9 := blk_lt hg9; have b0 := blk_cell HK9.out.1; have y0 := blk_lt HK9.out.1; have b1 := blk_cell HK9.out.2.1; have g1 := blk_frozen HK9.out.2.1; have y1 := blk_lt HK9.out.2.1; have HN9 := Lib.hid hn9; clear hR hg8 hb8 hh hg9 hk9 K8 hs9 hn9 cg7 fg7 zg7)
    refine (fails_calls s r.2.2 w.heap.size w9 HK9.out.1 (HV.out.keepB HB9.out) hs).mono ?_
    rintro e w10 ⟨v10, rfl, hO, hb⟩
    obtain ⟨F0, f0, F1, f1, F3, f3, F4, f4, F5, f5, F6, f6, F7, f7, rfl⟩ := hO.k.form
    have HO := Lib.hid hO
    have HB10 := Lib.hid (bl_call HB9.out hb)
    have HK10 := Lib.hid (HK9.out.call hb)
    have hi := HB9.out.size
    have hlo : w.heap.size + 1 < w9.heap.size := blk_lt HK9.out.2.1
    have cz := blk_cell HK10.out.2.1
    have fz := blk_frozen HK10.out.2.1
    have zz := blk_lt HK10.out.2.1
    clear hO hb b1 g1 y1
    go_wp2_with fail
    refine bodyPost_ret (v := .agg #[.slice F0 s.data.length f0, .slice F1 s.ret.length f1, .int .i32 s.a, .slice F3 s.mem.length f3, .slice F4 s.cells.length f4, .slice F5 s.vars.length f5, .slice F6 s.out.length f6, .slice F7 s.inp.length f7, .int .i64 r.2.2, .int .i64 s.fuel]) (by simp [results, Tryd.results42, go_sem, cz, zz]) rfl ⟨_, rfl, ?_, ?_⟩
    · rw [HRES.out]
      have h0 := (HO.out.v).low (lo' := w.heap.size + 2) (by omega)
      have h1 : w.heap.size + 1 < w.heap.size + 2 := by omega
      have hz : ∀ W : World, StV W (w.heap.size + 2) w10.heap.size { s with fault := r.2.2 } (.agg #[.slice F0 s.data.length f0, .slice F1 s.ret.length f1, .int .i32 s.a, .slice F3 s.mem.length f3, .slice F4 s.cells.length f4, .slice F5 s.vars.length f5, .slice F6 s.out.length f6, .slice F7 s.inp.length f7, .int .i64 r.2.2, .int .i64 s.fuel]) → w10.heap.size = W.heap.size → StV W w.heap.size W.heap.size { s with fault := r.2.2 } (.agg #[.slice F0 s.data.length f0, .slice F1 s.ret.length f1, .int .i32 s.a, .slice F3 s.mem.length f3, .slice F4 s.cells.length f4, .slice F5 s.vars.length f5, .slice F6 s.out.length f6, .slice F7 s.inp.length f7, .int .i64 r.2.2, .int .i64 s.fuel]) := fun W h e => (h.low (by omega)).top (by omega) (Nat.le_refl _)
      refine hz _ ?_ (by simp)
      with_reducible repeat (first | exact h0 | refine StV.far ?_ h1 _)
    · have h0 := HB10.out
      with_reducible repeat (first | exact h0 | apply bl_set1)
  · have HRES : Hid (resK s t r = { s with fault := 2 }) := Lib.hid (by simp only [resK]; rw [if_neg (by simpa using hc), HM.out, if_pos hc2])
    have e1 : (r.2.2 != 0) = false := by simpa using hc
    have h16 : (16 : Int) < (m : Int) + (r.2.1.length : Int) := by omega
    clear hc hc2
    go_wp2_with (at_builtin; refine wp_append _ rfl _ _ 22 rfl 21 (.int .i32 0) 1 4 Tryd.underlying22 info_Int32 rfl (by decide) rfl HSH.out rfl (by simp) HRA7.out one_map (by unfold maxLen; omega) (by omega) ?_; intro B d w8 b hR hg8 hb8; have hlen : (s.data.take m ++ r.2.1).length = m + r.2.1.length := (by simp; omega); have hh := HKK.out (s.data.take m ++ r.2.1) B d w8 b (by rw [hlen, List.map_append, List.map_take]; simpa using hR) (World.grownBy.trans (below_grownBy HBQ.out _) hg8) (hb8.imp id (fun ⟨y, h1, h2⟩ => ⟨y, h1, by omega⟩)); obtain ⟨s9, hs9⟩ : ∃ s9, ({ r.1 with data := s.data.take m ++ r.2.1 } : LSt) = s9 := ⟨_, rfl⟩; have hn9 : s9.data.length = m + r.2.1.length := (by rw [← hs9]; exact hlen); rw [hs9, hlen] at hh; obtain ⟨w9, hw9⟩ : ∃ W, w8.setCell ⟨w4.heap.size, 0, none⟩ (.slice B (m + r.2.1.length) d) = W := ⟨_, rfl⟩; rw [hw9] at hh; have HS9 := Lib.hid hs9; have HB9 := Lib.hid (FrG.below hh.2 HB6.out (by omega) (by omega) (by omega)); have HK9 := Lib.hid (HK6.out.fr hh.2 (by simp only [List.length_cons, List.length_nil]; omega) (by simp only [List.length_cons, List.length_nil]; omega)); have HX9 := Lib.hid hh.1; have hsz9 := hh.2.size; obtain ⟨J0, j0, J1, j1, J3, j3, J4, j4, J5, j5, J6, j6, J7, j7, hg9, hk9⟩ := hh.1.read; have HV9 := Lib.hid hk9; rw [hn9] at hg9; have K8 := (hg8.block w4.heap.size zg7 (fun e => (HL0.out _ e.symm).2 rfl)).trans (blk_call HGG.out HBQ.out); have c8 := blk_cell K8; have f8 := blk_frozen K8; have z8 := blk_lt K8; have c9 := blk_cell hg9; have z9 := blk_lt hg9; have b0 := blk_cell HK9.out.1; have y0 := blk_lt HK9.out.1; have b1 := blk_cell HK9.out.2.1; have g1 := blk_frozen HK9.out.2.1; have y1 := blk_lt HK9.out.2.1; have HN9 := Lib.hid hn9; clear hR hg8 hb8 hh hg9 hk9 K8 hs9 hn9 cg7 fg7 zg7)
    refine (fails_calls s 2 w.heap.size w9 HK9.out.1 (HV.out.keepB HB9.out) hs).mono ?_
    rintro e w10 ⟨v10, rfl, hO, hb⟩
    obtain ⟨F0, f0, F1, f1, F3, f3, F4, f4, F5, f5, F6, f6, F7, f7, rfl⟩ := hO.k.form
    have HO := Lib.hid hO
    have HB10 := Lib.hid (bl_call HB9.out hb)
    have HK10 := Lib.hid (HK9.out.call hb)
    have hi := HB9.out.size
    have hlo : w.heap.size + 1 < w9.heap.size := blk_lt HK9.out.2.1
    have cz := blk_cell HK10.out.2.1
    have fz := blk_frozen HK10.out.2.1
    have zz := blk_lt HK10.out.2.1
    clear hO hb b1 g1 y1
    go_wp2_with fail
    refine bodyPost_ret (v := .agg #[.slice F0 s.data.length f0, .slice F1 s.ret.length f1, .int .i32 s.a, .slice F3 s.mem.length f3, .slice F4 s.cells.length f4, .slice F5 s.vars.length f5, .slice F6 s.out.length f6, .slice F7 s.inp.length f7, .int .i64 2, .int .i64 s.fuel]) (by simp [results, Tryd.results42, go_sem, cz, zz]) rfl ⟨_, rfl, ?_, ?_⟩
    · rw [HRES.out]
      have h0 := (HO.out.v).low (lo' := w.heap.size + 2) (by omega)
      have h1 : w.heap.size + 1 < w.heap.size + 2 := by omega
      have hz : ∀ W : World, StV W (w.heap.size + 2) w10.heap.size { s with fault := 2 } (.agg #[.slice F0 s.data.length f0, .slice F1 s.ret.length f1, .int .i32 s.a, .slice F3 s.mem.length f3, .slice F4 s.cells.length f4, .slice F5 s.vars.length f5, .slice F6 s.out.length f6, .slice F7 s.inp.length f7, .int .i64 2, .int .i64 s.fuel]) → w10.heap.size = W.heap.size → StV W w.heap.size W.heap.size { s with fault := 2 } (.agg #[.slice F0 s.data.length f0, .slice F1 s.ret.length f1, .int .i32 s.a, .slice F3 s.mem.length f3, .slice F4 s.cells.length f4, .slice F5 s.vars.length f5, .slice F6 s.out.length f6, .slice F7 s.inp.length f7, .int .i64 2, .int .i64 s.fuel]) := fun W h e => (h.low (by omega)).top (by omega) (Nat.le_refl _)
      refine hz _ ?_ (by simp)
      with_reducible repeat (first | exact h0 | refine StV.far ?_ h1 _)
    · have h0 := HB10.out
      with_reducible repeat (first | exact h0 | apply bl_set1)
  · have HRES : Hid (resK s t r = { r.1 with data := s.data.take m ++ r.2.1 }) := Lib.hid (by simp only [resK]; rw [if_neg (by simpa using hc), HM.out, if_neg hc2])
    have e1 : (r.2.2 != 0) = false := by simpa using hc
    have h16 : ¬ ((16 : Int) < (m : Int) + (r.2.1.length : Int)) := by omega
    clear hc hc2
    go_wp2_with (at_builtin; refine wp_append _ rfl _ _ 22 rfl 21 (.int .i32 0) 1 4 Tryd.underlying22 info_Int32 rfl (by decide) rfl HSH.out rfl (by simp) HRA7.out one_map (by unfold maxLen; omega) (by omega) ?_; intro B d w8 b hR hg8 hb8; have hlen : (s.data.take m ++ r.2.1).length = m + r.2.1.length := (by simp; omega); have hh := HKK.out (s.data.take m ++ r.2.1) B d w8 b (by rw [hlen, List.map_append, List.map_take]; simpa using hR) (World.grownBy.trans (below_grownBy HBQ.out _) hg8) (hb8.imp id (fun ⟨y, h1, h2⟩ => ⟨y, h1, by omega⟩)); obtain ⟨s9, hs9⟩ : ∃ s9, ({ r.1 with data := s.data.take m ++ r.2.1 } : LSt) = s9 := ⟨_, rfl⟩; have hn9 : s9.data.length = m + r.2.1.length := (by rw [← hs9]; exact hlen); rw [hs9, hlen] at hh; obtain ⟨w9, hw9⟩ : ∃ W, w8.setCell ⟨w4.heap.size, 0, none⟩ (.slice B (m + r.2.1.length) d) = W := ⟨_, rfl⟩; rw [hw9] at hh; have HS9 := Lib.hid hs9; have HB9 := Lib.hid (FrG.below hh.2 HB6.out (by omega) (by omega) (by omega)); have HK9 := Lib.hid (HK6.out.fr hh.2 (by simp only [List.length_cons, List.length_nil]; omega) (by simp only [List.length_cons, List.length_nil]; omega)); have HX9 := Lib.hid hh.1; have hsz9 := hh.2.size; obtain ⟨J0, j0, J1, j1, J3, j3, J4, j4, J5, j5, J6, j6, J7, j7, hg9, hk9⟩ := hh.1.read; have HV9 := Lib.hid hk9; rw [hn9] at hg9; have K8 := (hg8.block w4.heap.size zg7 (fun e => (HL0.out _ e.symm).2 rfl)).trans (blk_call HGG.out HBQ.out); have c8 := blk_cell K8; have f8 := blk_frozen K8; have z8 := blk_lt K8; have c9 := blk_cell hg9; have z9 := blk_lt hg9; have b0 := blk_cell HK9.out.1; have y0 := blk_lt HK9.out.1; have b1 := blk_cell HK9.out.2.1; have g1 := blk_frozen HK9.out.2.1; have y1 := blk_lt HK9.out.2.1; have HN9 := Lib.hid hn9; clear hR hg8 hb8 hh hg9 hk9 K8 hs9 hn9 cg7 fg7 zg7)
    have hi := HB9.out.size
    refine bodyPost_ret (v := .agg #[.slice J0 (m + r.2.1.length) j0, .slice J1 s9.ret.length j1, .int .i32 s9.a, .slice J3 s9.mem.length j3, .slice J4 s9.cells.length j4, .slice J5 s9.vars.length j5, .slice J6 s9.out.length j6, .slice J7 s9.inp.length j7, .int .i64 s9.fault, .int .i64 s9.fuel]) (by simp [results, Tryd.results42, go_sem, b1, y1]) rfl ⟨_, rfl, ?_, ?_⟩
    · rw [HRES.out, HS9.out]
      have h0 : StV w9 (w.heap.size + 2) w9.heap.size s9 (.agg #[.slice J0 (m + r.2.1.length) j0, .slice J1 s9.ret.length j1, .int .i32 s9.a, .slice J3 s9.mem.length j3, .slice J4 s9.cells.length j4, .slice J5 s9.vars.length j5, .slice J6 s9.out.length j6, .slice J7 s9.inp.length j7, .int .i64 s9.fault, .int .i64 s9.fuel]) := ⟨Nat.le_refl _, fun w1 hk => by have := HV9.out w1 (fun x p1 p2 p3 => hk x (by omega) p2); rwa [HN9.out] at this⟩
      have h1 : w.heap.size + 1 < w.heap.size + 2 := by omega
      have hz : ∀ (W : World) (u : Value), StV W (w.heap.size + 2) w9.heap.size s9 u → w9.heap.size = W.heap.size → StV W w.heap.size W.heap.size s9 u := fun W u h e => (h.low (by omega)).top (by omega) (Nat.le_refl _)
      refine hz _ _ ?_ (by simp)
      with_reducible repeat (first | exact h0 | refine StV.far ?_ h1 _)
    · have h0 := HB9.out
      with_reducible repeat (first | exact h0 | apply bl_set1)
end Go.Proofs.YtgljbcdlldhlfaaDoor

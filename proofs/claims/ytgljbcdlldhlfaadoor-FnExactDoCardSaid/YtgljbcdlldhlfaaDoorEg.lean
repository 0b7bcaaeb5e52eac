/- What a built-in word does: contracts of effect, the words that are not about numbers alone. -/
import Derived.Test.YtgljbcdlldhlfaaDoorEf
set_option linter.unusedVariables false
set_option linter.unusedSimpArgs false
namespace Go.Proofs.YtgljbcdlldhlfaaDoor
open Go.RowKit

set_option maxRecDepth 100000 in
set_option maxHeartbeats 2000000 in
theorem effect_13_bad (s : LSt) (g lo : Nat) (x y : Int) (w : World) (hG : StX w g lo s) (hlo : lo ≤ w.heap.size) (hs : s.small 1048576) (hx : (Lit.int .i32 x).wf = true) (hy : (Lit.int .i32 y).wf = true) (hb1 : ¬ (0 ≤ y ∧ y ≤ 31)) (hb2 : ¬ (0 ≤ y - 1024 ∧ y - 1024 ≤ (s.cells.length : Int) - 1)) :
    Calls Tryd.prog 85 #[.pointer (some ⟨g, 0, none⟩), .string ⟨#[64]⟩, .int .i32 x, .int .i32 y] w fun e w' => EffE w g lo (eff 13 s x y) e w' := by
  have HE : Hid (eff 13 s x y = (s, [], 4)) := Lib.hid (by simp only [eff, if_neg hb1, if_neg hb2])
  have hpl : placeL s y = .tuple #[.int .i64 0, .bool false, .bool false] := by simp only [placeL, if_neg hb1, if_neg hb2]
  have HPL : Hid (Calls Tryd.prog 96 #[.pointer (some ⟨g, 0, none⟩), .int .i32 y] w fun e w' => e = .returned (.tuple #[.int .i64 0, .bool false, .bool false]) ∧ w = w') := Lib.hid (by have := place_calls s g lo y w hG hs.2.2.2.1 hy; rw [hpl] at this; exact this)
  clear hb1 hb2 hpl
  obtain ⟨D0, d0, D1, d1, D3, d3, D4, d4, D5, d5, D6, d6, D7, d7, hg, R0, R1, R3, R4, R5, R6, R7, hc7⟩ := hG.cells
  have cc := blk_cell hg
  have ff := blk_frozen hg
  have zz := blk_lt hg
  have HG := Lib.hid hG
  clear hG hg R0 R1 R3 R4 R5 R6 R7
  go_enter Tryd.func85, Tryd.ntmps85
  go_wp2_with fail
  refine HPL.out.mono ?_
  rintro e w1 ⟨rfl, rfl⟩
  go_wp2
  refine bodyPost_ret (v := .tuple #[.slice none 0 0, .int .i64 4]) (by simp [results, Tryd.results85, go_sem]) rfl ⟨none, 0, ?_, ?_, ?_, ?_⟩
  · rw [HE.out]; rfl
  · rw [HE.out]; exact HG.out
  · exact FrG.refl _ _ _
  · rw [HE.out]; exact Rd.nil _ _
set_option maxRecDepth 100000 in
set_option maxHeartbeats 2000000 in
theorem effect_13_mem (s : LSt) (g lo : Nat) (x y : Int) (w : World) (hG : StX w g lo s) (hlo : lo ≤ w.heap.size) (hs : s.small 1048576) (hx : (Lit.int .i32 x).wf = true) (hy : (Lit.int .i32 y).wf = true) (hb1 : 0 ≤ y ∧ y ≤ 31) (hm : s.mem.length = 32) :
    Calls Tryd.prog 85 #[.pointer (some ⟨g, 0, none⟩), .string ⟨#[64]⟩, .int .i32 x, .int .i32 y] w fun e w' => EffE w g lo (eff 13 s x y) e w' := by
  obtain ⟨n, rfl⟩ := Int.eq_ofNat_of_zero_le hb1.1
  have hn : n < s.mem.length := by omega
  have hgd : s.mem.getD (n : Int).toNat 0 = s.mem[n] := by simp [List.getD, List.getElem?_eq_getElem hn]
  have HE : Hid (eff 13 s x n = (s, [s.mem[n]], 0)) := Lib.hid (by simp only [eff, placeL, if_pos hb1, hgd])
  have HPL : Hid (Calls Tryd.prog 96 #[.pointer (some ⟨g, 0, none⟩), .int .i32 n] w fun e w' => e = .returned (.tuple #[.int .i64 n, .bool true, .bool true]) ∧ w = w') := Lib.hid (by have := place_calls s g lo n w hG hs.2.2.2.1 hy; rw [show placeL s n = .tuple #[.int .i64 n, .bool true, .bool true] by simp only [eff, placeL, if_pos hb1, hgd]] at this; exact this)
  obtain ⟨D0, d0, D1, d1, D3, d3, D4, d4, D5, d5, D6, d6, D7, d7, hg, R0, R1, R3, R4, R5, R6, R7, hc7⟩ := hG.cells
  have cc := blk_cell hg
  have ff := blk_frozen hg
  have zz := blk_lt hg
  have HG := Lib.hid hG
  obtain ⟨ad, rfl, hcell⟩ := R3.at_ (j := n) (u := .int .i32 s.mem[n]) (by simp [hn])
  clear hG hg R0 R1 R3 R4 R5 R6 R7
  clear hb1 hgd
  go_enter Tryd.func85, Tryd.ntmps85
  go_wp2_with fail
  refine HPL.out.mono ?_
  rintro e w1 ⟨rfl, rfl⟩
  go_wp2
  refine bodyPost_ret (v := .tuple #[.slice (some ⟨w.heap.size, 0, none⟩) 1 1, .int .i64 0]) (by simp [results, Tryd.results85, go_sem]) rfl ⟨(some ⟨w.heap.size, 0, none⟩), 1, ?_, ?_, ?_, ?_⟩
  · rw [HE.out]; rfl
  · rw [HE.out]; exact HG.out.alloc _
  · exact FrG.ofBelow (bl_alloc (Below.refl _ _) _)
  · rw [HE.out]; exact (Row.made w _ 21 1 1 (by decide) (by rfl)).rd
set_option maxRecDepth 100000 in
set_option maxHeartbeats 2000000 in
theorem effect_13_cell (s : LSt) (g lo : Nat) (x y : Int) (w : World) (hG : StX w g lo s) (hlo : lo ≤ w.heap.size) (hs : s.small 1048576) (hx : (Lit.int .i32 x).wf = true) (hy : (Lit.int .i32 y).wf = true) (hb1 : ¬ (0 ≤ y ∧ y ≤ 31)) (hb2 : 0 ≤ y - 1024 ∧ y - 1024 ≤ (s.cells.length : Int) - 1) :
    Calls Tryd.prog 85 #[.pointer (some ⟨g, 0, none⟩), .string ⟨#[64]⟩, .int .i32 x, .int .i32 y] w fun e w' => EffE w g lo (eff 13 s x y) e w' := by
  obtain ⟨n, hn0⟩ := Int.eq_ofNat_of_zero_le hb2.1
  have hn : n < s.cells.length := by omega
  have hgd : s.cells.getD (y - 1024).toNat 0 = s.cells[n] := by rw [hn0]; simp [List.getD, List.getElem?_eq_getElem hn]
  have HE : Hid (eff 13 s x y = (s, [w32 s.cells[n]], 0)) := Lib.hid (by simp only [eff, if_neg hb1, if_pos hb2, hgd])
  have HPL : Hid (Calls Tryd.prog 96 #[.pointer (some ⟨g, 0, none⟩), .int .i32 y] w fun e w' => e = .returned (.tuple #[.int .i64 (n : Int), .bool false, .bool true]) ∧ w = w') := Lib.hid (by have := place_calls s g lo y w hG hs.2.2.2.1 hy; rw [show placeL s y = .tuple #[.int .i64 (n : Int), .bool false, .bool true] by rw [placeL, if_neg hb1, if_pos hb2, hn0]] at this; exact this)
  obtain ⟨D0, d0, D1, d1, D3, d3, D4, d4, D5, d5, D6, d6, D7, d7, hg, R0, R1, R3, R4, R5, R6, R7, hc7⟩ := hG.cells
  have cc := blk_cell hg
  have ff := blk_frozen hg
  have zz := blk_lt hg
  have HG := Lib.hid hG
  obtain ⟨ad, rfl, hcell⟩ := R4.at_ (j := n) (u := .int .u32 s.cells[n]) (by simp [hn])
  clear hG hg R0 R1 R3 R4 R5 R6 R7
  clear hb1 hb2 hgd hn0
  go_enter Tryd.func85, Tryd.ntmps85
  go_wp2_with fail
  refine HPL.out.mono ?_
  rintro e w1 ⟨rfl, rfl⟩
  go_wp2
  refine bodyPost_ret (v := .tuple #[.slice (some ⟨w.heap.size, 0, none⟩) 1 1, .int .i64 0]) (by simp [results, Tryd.results85, go_sem]) rfl ⟨(some ⟨w.heap.size, 0, none⟩), 1, ?_, ?_, ?_, ?_⟩
  · rw [HE.out]; rfl
  · rw [HE.out]; exact HG.out.alloc _
  · exact FrG.ofBelow (bl_alloc (Below.refl _ _) _)
  · rw [HE.out]; exact (Row.made w _ 21 1 1 (by decide) (by rfl)).rd
set_option maxRecDepth 100000 in
set_option maxHeartbeats 2000000 in
theorem effect_14_bad (s : LSt) (g lo : Nat) (x y : Int) (w : World) (hG : StX w g lo s) (hlo : lo ≤ w.heap.size) (hs : s.small 1048576) (hx : (Lit.int .i32 x).wf = true) (hy : (Lit.int .i32 y).wf = true) (hb1 : ¬ (0 ≤ y ∧ y ≤ 31)) (hb2 : ¬ (0 ≤ y - 1024 ∧ y - 1024 ≤ (s.cells.length : Int) - 1)) :
    Calls Tryd.prog 85 #[.pointer (some ⟨g, 0, none⟩), .string ⟨#[33]⟩, .int .i32 x, .int .i32 y] w fun e w' => EffE w g lo (eff 14 s x y) e w' := by
  have HE : Hid (eff 14 s x y = (s, [], 4)) := Lib.hid (by simp only [eff, if_neg hb1, hb2, false_and, if_false])
  have hpl : placeL s y = .tuple #[.int .i64 0, .bool false, .bool false] := by simp only [placeL, if_neg hb1, if_neg hb2]
  have HPL : Hid (Calls Tryd.prog 96 #[.pointer (some ⟨g, 0, none⟩), .int .i32 y] w fun e w' => e = .returned (.tuple #[.int .i64 0, .bool false, .bool false]) ∧ w = w') := Lib.hid (by have := place_calls s g lo y w hG hs.2.2.2.1 hy; rw [hpl] at this; exact this)
  clear hb1 hb2 hpl
  obtain ⟨D0, d0, D1, d1, D3, d3, D4, d4, D5, d5, D6, d6, D7, d7, hg, R0, R1, R3, R4, R5, R6, R7, hc7⟩ := hG.cells
  have cc := blk_cell hg
  have ff := blk_frozen hg
  have zz := blk_lt hg
  have HG := Lib.hid hG
  clear hG hg R0 R1 R3 R4 R5 R6 R7
  go_enter Tryd.func85, Tryd.ntmps85
  go_wp2_with fail
  refine HPL.out.mono ?_
  rintro e w1 ⟨rfl, rfl⟩
  go_wp2
  refine bodyPost_ret (v := .tuple #[.slice none 0 0, .int .i64 4]) (by simp [results, Tryd.results85, go_sem]) rfl ⟨none, 0, ?_, ?_, ?_, ?_⟩
  · rw [HE.out]; rfl
  · rw [HE.out]; exact HG.out
  · exact FrG.refl _ _ _
  · rw [HE.out]; exact Rd.nil _ _
set_option maxRecDepth 100000 in
set_option maxHeartbeats 2000000 in
theorem effect_14_mem (s : LSt) (g lo : Nat) (x y : Int) (w : World) (hG : StX w g lo s) (hlo : lo ≤ w.heap.size) (hs : s.small 1048576) (hx : (Lit.int .i32 x).wf = true) (hy : (Lit.int .i32 y).wf = true) (hb1 : 0 ≤ y ∧ y ≤ 31) (hm : s.mem.length = 32) :
    Calls Tryd.prog 85 #[.pointer (some ⟨g, 0, none⟩), .string ⟨#[33]⟩, .int .i32 x, .int .i32 y] w fun e w' => EffE w g lo (eff 14 s x y) e w' := by
  obtain ⟨n, rfl⟩ := Int.eq_ofNat_of_zero_le hb1.1
  have hn : n < s.mem.length := by omega
  have HE : Hid (eff 14 s x n = ({ s with mem := s.mem.set n x }, [], 0)) := Lib.hid (by simp only [eff, placeL, if_pos hb1, Int.toNat_natCast])
  have HPL : Hid (Calls Tryd.prog 96 #[.pointer (some ⟨g, 0, none⟩), .int .i32 n] w fun e w' => e = .returned (.tuple #[.int .i64 n, .bool true, .bool true]) ∧ w = w') := Lib.hid (by have := place_calls s g lo n w hG hs.2.2.2.1 hy; rw [show placeL s n = .tuple #[.int .i64 n, .bool true, .bool true] by simp only [eff, placeL, if_pos hb1, Int.toNat_natCast]] at this; exact this)
  obtain ⟨D0, d0, D1, d1, D3, d3, D4, d4, D5, d5, D6, d6, D7, d7, b3, hg, r3, L3, hK⟩ := hG.put3
  have cc := blk_cell hg
  have ff := blk_frozen hg
  have zz := blk_lt hg
  obtain ⟨g3, rfl, rfl⟩ := r3.pos (by omega)
  obtain ⟨u0, cu0⟩ := r3.isCell (j := n) (by omega)
  have fu0 := r3.frozen n
  have zu0 := r3.lt g3 rfl
  have HK := Lib.hid hK
  have HR := Lib.hid r3
  clear hG hg r3 hK L3
  clear hb1
  go_enter Tryd.func85, Tryd.ntmps85
  go_wp2_with fail
  refine HPL.out.mono ?_
  rintro e w1 ⟨rfl, rfl⟩
  go_wp2
  have hh := HK.out (s.mem.set n x) (w.setCell ⟨g3, n, none⟩ (.int .i32 x)) (by simp) (by have := HR.out.stored n (.int .i32 x); rw [List.map_set]; exact this) (grownBy_setCell _ _ _)
  refine bodyPost_ret (v := .tuple #[.slice none 0 0, .int .i64 0]) (by simp [results, Tryd.results85, go_sem]) rfl ⟨none, 0, ?_, ?_, ?_, ?_⟩
  · rw [HE.out]; rfl
  · rw [HE.out]; exact hh.1
  · exact hh.2
  · rw [HE.out]; exact Rd.nil _ _
set_option maxRecDepth 100000 in
set_option maxHeartbeats 2000000 in
theorem effect_14_no (s : LSt) (g lo : Nat) (x y : Int) (w : World) (hG : StX w g lo s) (hlo : lo ≤ w.heap.size) (hs : s.small 1048576) (hx : (Lit.int .i32 x).wf = true) (hy : (Lit.int .i32 y).wf = true) (hb1 : ¬ (0 ≤ y ∧ y ≤ 31)) (hb2 : 0 ≤ y - 1024 ∧ y - 1024 ≤ (s.cells.length : Int) - 1) (hv : y - 1024 ∉ s.vars) :
    Calls Tryd.prog 85 #[.pointer (some ⟨g, 0, none⟩), .string ⟨#[33]⟩, .int .i32 x, .int .i32 y] w fun e w' => EffE w g lo (eff 14 s x y) e w' := by
  obtain ⟨n, hn0⟩ := Int.eq_ofNat_of_zero_le hb2.1
  have HE : Hid (eff 14 s x y = (s, [], 4)) := Lib.hid (by simp only [eff, if_neg hb1, hv, and_false, if_false])
  have HPL : Hid (Calls Tryd.prog 96 #[.pointer (some ⟨g, 0, none⟩), .int .i32 y] w fun e w' => e = .returned (.tuple #[.int .i64 (n : Int), .bool false, .bool true]) ∧ w = w') := Lib.hid (by have := place_calls s g lo y w hG hs.2.2.2.1 hy; rw [show placeL s y = .tuple #[.int .i64 (n : Int), .bool false, .bool true] by rw [placeL, if_neg hb1, if_pos hb2, hn0]] at this; exact this)
  obtain ⟨D0, d0, D1, d1, D3, d3, D4, d4, D5, d5, D6, d6, D7, d7, hg, R0, R1, R3, R4, R5, R6, R7, hc7⟩ := hG.cells
  have cc := blk_cell hg
  have ff := blk_frozen hg
  have zz := blk_lt hg
  have HG := Lib.hid hG
  have HCO : Hid (Calls Tryd.prog 95 #[.slice D5 s.vars.length d5, .int .i64 (n : Int)] w fun e w' => e = .returned (.bool (decide ((n : Int) ∈ s.vars))) ∧ w = w') := Lib.hid (containsInts_calls D5 d5 s.vars n w R5 (by have := hs.2.2.2.2.1; omega))
  have hmem : decide ((n : Int) ∈ s.vars) = false := decide_eq_false (by rw [← hn0]; exact hv)
  clear hG hg R0 R1 R3 R4 R5 R6 R7
  clear hb1 hb2 hn0 hv
  go_enter Tryd.func85, Tryd.ntmps85
  go_wp2_with (first | (go_at_call 96; (with_reducible refine HPL.out.mono ?_); rintro e w1 ⟨rfl, rfl⟩) | (go_at_call 95; (with_reducible refine HCO.out.mono ?_); rintro e w1 ⟨rfl, rfl⟩; rw [hmem]))
  refine bodyPost_ret (v := .tuple #[.slice none 0 0, .int .i64 4]) (by simp [results, Tryd.results85, go_sem]) rfl ⟨none, 0, ?_, ?_, ?_, ?_⟩
  · rw [HE.out]; rfl
  · rw [HE.out]; exact HG.out
  · exact FrG.refl _ _ _
  · rw [HE.out]; exact Rd.nil _ _
set_option maxRecDepth 100000 in
set_option maxHeartbeats 2000000 in
theorem effect_14_cell (s : LSt) (g lo : Nat) (x y : Int) (w : World) (hG : StX w g lo s) (hlo : lo ≤ w.heap.size) (hs : s.small 1048576) (hx : (Lit.int .i32 x).wf = true) (hy : (Lit.int .i32 y).wf = true) (hb1 : ¬ (0 ≤ y ∧ y ≤ 31)) (hb2 : 0 ≤ y - 1024 ∧ y - 1024 ≤ (s.cells.length : Int) - 1) (hv : y - 1024 ∈ s.vars) :
    Calls Tryd.prog 85 #[.pointer (some ⟨g, 0, none⟩), .string ⟨#[33]⟩, .int .i32 x, .int .i32 y] w fun e w' => EffE w g lo (eff 14 s x y) e w' := by
  obtain ⟨n, hn0⟩ := Int.eq_ofNat_of_zero_le hb2.1
  have hn : n < s.cells.length := by omega
  have HE : Hid (eff 14 s x y = ({ s with cells := s.cells.set n (IntKind.wrap .u32 x) }, [], 0)) := Lib.hid (by rw [eff, if_neg hb1, if_pos ⟨hb2, hv⟩, hn0]; rfl)
  have HPL : Hid (Calls Tryd.prog 96 #[.pointer (some ⟨g, 0, none⟩), .int .i32 y] w fun e w' => e = .returned (.tuple #[.int .i64 (n : Int), .bool false, .bool true]) ∧ w = w') := Lib.hid (by have := place_calls s g lo y w hG hs.2.2.2.1 hy; rw [show placeL s y = .tuple #[.int .i64 (n : Int), .bool false, .bool true] by rw [placeL, if_neg hb1, if_pos hb2, hn0]] at this; exact this)
  obtain ⟨E0, e0, E1, e1, E3, e3, E4, e4, E5, e5, E6, e6, E7, e7, hg0, -, -, -, -, R5, -⟩ := hG.cells
  obtain ⟨D0, d0, D1, d1, D3, d3, D4, d4, D5, d5, D6, d6, D7, d7, b4, hg, r4, L4, hK⟩ := hG.put4
  have ea : E5 = D5 ∧ e5 = d5 := by
    have := hg0.symm.trans hg
    simp only [Option.some.injEq, Obj.cells.injEq, Array.mk.injEq, List.cons.injEq, Value.slice.injEq, and_true, true_and] at this
    exact ⟨this.2.2.2.2.1.1, this.2.2.2.2.1.2⟩
  obtain ⟨rfl, rfl⟩ := ea
  have HCO : Hid (Calls Tryd.prog 95 #[.slice E5 s.vars.length e5, .int .i64 (n : Int)] w fun e w' => e = .returned (.bool (decide ((n : Int) ∈ s.vars))) ∧ w = w') := Lib.hid (containsInts_calls E5 e5 s.vars n w R5 (by have := hs.2.2.2.2.1; omega))
  have hmem : decide ((n : Int) ∈ s.vars) = true := decide_eq_true (by rw [← hn0]; exact hv)
  have cc := blk_cell hg
  have ff := blk_frozen hg
  have zz := blk_lt hg
  obtain ⟨g3, rfl, rfl⟩ := r4.pos (by omega)
  obtain ⟨u0, cu0⟩ := r4.isCell (j := n) (by omega)
  have fu0 := r4.frozen n
  have zu0 := r4.lt g3 rfl
  have HK := Lib.hid hK
  have HR := Lib.hid r4
  clear hG hg r4 hK L4
  clear hb1 hb2 hn0 hv hg0 R5
  go_enter Tryd.func85, Tryd.ntmps85
  go_wp2_with (first | (go_at_call 96; (with_reducible refine HPL.out.mono ?_); rintro e w1 ⟨rfl, rfl⟩) | (go_at_call 95; (with_reducible refine HCO.out.mono ?_); rintro e w1 ⟨rfl, rfl⟩; rw [hmem]))
  have hh := HK.out (s.cells.set n (IntKind.wrap .u32 x)) (w.setCell ⟨g3, n, none⟩ (.int .u32 (IntKind.wrap .u32 x))) (by simp) (by have := HR.out.stored n (.int .u32 (IntKind.wrap .u32 x)); rw [List.map_set]; exact this) (grownBy_setCell _ _ _)
  refine bodyPost_ret (v := .tuple #[.slice none 0 0, .int .i64 0]) (by simp [results, Tryd.results85, go_sem]) rfl ⟨none, 0, ?_, ?_, ?_, ?_⟩
  · rw [HE.out]; rfl
  · rw [HE.out]; exact hh.1
  · exact hh.2
  · rw [HE.out]; exact Rd.nil _ _
set_option maxRecDepth 100000 in
set_option maxHeartbeats 2000000 in
theorem effect_15 (s : LSt) (g lo : Nat) (x y : Int) (w : World) (hG : StX w g lo s) (hlo : lo ≤ w.heap.size) (hs : s.small 1048576) (hx : (Lit.int .i32 x).wf = true) (hy : (Lit.int .i32 y).wf = true) :
    Calls Tryd.prog 85 #[.pointer (some ⟨g, 0, none⟩), .string ⟨#[97]⟩, .int .i32 x, .int .i32 y] w fun e w' => EffE w g lo (eff 15 s x y) e w' := by
  obtain ⟨D0, d0, D1, d1, D3, d3, D4, d4, D5, d5, D6, d6, D7, d7, hg, R0, R1, R3, R4, R5, R6, R7, hc7⟩ := hG.cells
  have cc := blk_cell hg
  have ff := blk_frozen hg
  have zz := blk_lt hg
  have HG := Lib.hid hG
  clear hG hg R0 R1 R3 R4 R5 R6 R7
  go_enter Tryd.func85, Tryd.ntmps85
  go_wp2
  refine bodyPost_ret (v := .tuple #[.slice (some ⟨w.heap.size, 0, none⟩) 1 1, .int .i64 0]) (by simp [results, Tryd.results85, go_sem]) rfl ⟨(some ⟨w.heap.size, 0, none⟩), 1, ?_, ?_, ?_, ?_⟩
  · rfl
  · exact HG.out.alloc _
  · exact FrG.ofBelow (bl_alloc (Below.refl _ _) _)
  · exact (Row.made w _ 21 1 1 (by decide) (by rfl)).rd
set_option maxRecDepth 100000 in
set_option maxHeartbeats 2000000 in
theorem effect_16 (s : LSt) (g lo : Nat) (x y : Int) (w : World) (hG : StX w g lo s) (hlo : lo ≤ w.heap.size) (hs : s.small 1048576) (hx : (Lit.int .i32 x).wf = true) (hy : (Lit.int .i32 y).wf = true) :
    Calls Tryd.prog 85 #[.pointer (some ⟨g, 0, none⟩), .string ⟨#[97, 33]⟩, .int .i32 x, .int .i32 y] w fun e w' => EffE w g lo (eff 16 s x y) e w' := by
  obtain ⟨D0, d0, D1, d1, D3, d3, D4, d4, D5, d5, D6, d6, D7, d7, hg, R0, R1, R3, R4, R5, R6, R7, hc7⟩ := hG.cells
  have cc := blk_cell hg
  have ff := blk_frozen hg
  have zz := blk_lt hg
  have HG := Lib.hid hG
  clear hG hg R0 R1 R3 R4 R5 R6 R7
  go_enter Tryd.func85, Tryd.ntmps85
  go_wp2
  refine bodyPost_ret (v := .tuple #[.slice none 0 0, .int .i64 0]) (by simp [results, Tryd.results85, go_sem]) rfl ⟨none, 0, ?_, ?_, ?_, ?_⟩
  · rfl
  · exact HG.out.set2 y
  · exact (FrG.refl _ _ _).set _
  · exact Rd.nil _ _
end Go.Proofs.YtgljbcdlldhlfaaDoor

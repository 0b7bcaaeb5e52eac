/- Built-in words: contracts of does and Do, the program's. -/
import Derived.Test.YtgljbcdlldhlfaaDoorEg
import Derived.Test.YtgljbcdlldhlfaaDoorEh
import Derived.Test.YtgljbcdlldhlfaaDoorV
set_option linter.unusedVariables false
set_option linter.unusedSimpArgs false
namespace Go.Proofs.YtgljbcdlldhlfaaDoor
open Go.RowKit

theorem below_n {n : Nat} {W w1 : World} (hb : Below W.heap.size W w1) (h : n ≤ W.heap.size) : n ≤ w1.heap.size := Nat.le_trans h hb.size
theorem topX_wf {s : LSt} (h : s.wf) : (Lit.int .i32 (topX s)).wf = true := by
  unfold topX
  split
  · next hl => rw [List.getD, List.getElem?_eq_getElem (by omega)]; exact h.data _ (List.getElem_mem _)
  · decide
theorem topY_wf {s : LSt} (h : s.wf) : (Lit.int .i32 (topY s)).wf = true := by
  unfold topY
  split
  · next hl => rw [List.getD, List.getElem?_eq_getElem (by omega)]; exact h.data _ (List.getElem_mem _)
  · decide
theorem eff_short (k : Nat) (s : LSt) (x y : Int) : (eff k s x y).2.1.length ≤ 3 := by
  unfold eff
  split <;> (try simp) <;> (repeat' split) <;> simp
theorem eff_data (k : Nat) (s : LSt) (x y : Int) : (eff k s x y).1.data = s.data := by
  unfold eff
  split <;> (try rfl) <;> (repeat' split) <;> rfl
theorem effect_calls (s : LSt) (g lo k : Nat) (hk : k ≤ 23) (x y : Int) (w : World) (hG : StX w g lo s) (hlo : lo ≤ w.heap.size) (hs : s.small 1048576) (hm : s.mem.length = 32) (ho : s.out.length ≤ 400) (hP : Pow w) (hx : (Lit.int .i32 x).wf = true) (hy : (Lit.int .i32 y).wf = true) :
    Calls Tryd.prog 85 #[.pointer (some ⟨g, 0, none⟩), .string (primName k), .int .i32 x, .int .i32 y] w fun e w' => EffE w g lo (eff k s x y) e w' := by
  have hc : k = 0 ∨ k = 1 ∨ k = 2 ∨ k = 3 ∨ k = 4 ∨ k = 5 ∨ k = 6 ∨ k = 7 ∨ k = 8 ∨ k = 9 ∨ k = 10 ∨ k = 11 ∨ k = 12 ∨ k = 13 ∨ k = 14 ∨ k = 15 ∨ k = 16 ∨ k = 17 ∨ k = 18 ∨ k = 19 ∨ k = 20 ∨ k = 21 ∨ k = 22 ∨ k = 23 := by omega
  rcases hc with rfl | rfl | rfl | rfl | rfl | rfl | rfl | rfl | rfl | rfl | rfl | rfl | rfl | rfl | rfl | rfl | rfl | rfl | rfl | rfl | rfl | rfl | rfl | rfl
  · exact effect_0 s g lo x y w hG hlo hs hx hy
  · exact effect_1 s g lo x y w hG hlo hs hx hy
  · exact effect_2 s g lo x y w hG hlo hs hx hy
  · exact effect_3 s g lo x y w hG hlo hs hx hy
  · exact effect_4 s g lo x y w hG hlo hs hx hy
  · exact effect_5 s g lo x y w hG hlo hs hx hy
  · exact effect_6 s g lo x y w hG hlo hs hx hy
  · exact effect_7 s g lo x y w hG hlo hs hx hy
  · exact effect_8 s g lo x y w hG hlo hs hx hy
  · exact effect_9 s g lo x y w hG hlo hs hx hy
  · exact effect_10 s g lo x y w hG hlo hs hx hy
  · exact effect_11 s g lo x y w hG hlo hs hx hy
  · by_cases h : y = 0
    · exact effect_12_zero s g lo x y w hG hlo hs hx hy h
    · exact effect_12_div s g lo x y w hG hlo hs hx hy h
  · by_cases h1 : 0 ≤ y ∧ y ≤ 31
    · exact effect_13_mem s g lo x y w hG hlo hs hx hy h1 hm
    · by_cases h2 : 0 ≤ y - 1024 ∧ y - 1024 ≤ (s.cells.length : Int) - 1
      · exact effect_13_cell s g lo x y w hG hlo hs hx hy h1 h2
      · exact effect_13_bad s g lo x y w hG hlo hs hx hy h1 h2
  · by_cases h1 : 0 ≤ y ∧ y ≤ 31
    · exact effect_14_mem s g lo x y w hG hlo hs hx hy h1 hm
    · by_cases h2 : 0 ≤ y - 1024 ∧ y - 1024 ≤ (s.cells.length : Int) - 1
      · by_cases h3 : y - 1024 ∈ s.vars
        · exact effect_14_cell s g lo x y w hG hlo hs hx hy h1 h2 h3
        · exact effect_14_no s g lo x y w hG hlo hs hx hy h1 h2 h3
      · exact effect_14_bad s g lo x y w hG hlo hs hx hy h1 h2
  · exact effect_15 s g lo x y w hG hlo hs hx hy
  · exact effect_16 s g lo x y w hG hlo hs hx hy
  · by_cases h : 400 < s.out.length + 1
    · exact effect_17_no s g lo x y w hG hlo hs hx hy h
    · exact effect_17_ok s g lo x y w hG hlo hs hx hy (by omega)
  · cases h : s.inp with
    | nil => exact effect_18_none s g lo x y w hG hlo hs hx hy h
    | cons b r => exact effect_18_some s g lo x y w hG hlo hs hx hy b r h
  · by_cases h : s.ret.length = 24
    · exact effect_19_no s g lo x y w hG hlo hs hx hy h
    · exact effect_19_ok s g lo x y w hG hlo hs hx hy h
  · by_cases h : s.ret.length = 0
    · exact effect_20_none s g lo x y w hG hlo hs hx hy h
    · obtain ⟨n, hn⟩ : ∃ n, s.ret.length = n + 1 := ⟨s.ret.length - 1, by omega⟩
      have ht : s.ret[n]? = some s.ret[n] := List.getElem?_eq_getElem (by omega)
      by_cases hb : s.ret[n].kind = 0
      · exact effect_20_ok s g lo x y w hG hlo hs hx hy n _ hn ht hb
      · exact effect_20_bad s g lo x y w hG hlo hs hx hy n _ hn ht hb
  · by_cases h : s.ret.length = 0
    · exact effect_21_none s g lo x y w hG hlo hs hx hy h
    · obtain ⟨n, hn⟩ : ∃ n, s.ret.length = n + 1 := ⟨s.ret.length - 1, by omega⟩
      have ht : s.ret[n]? = some s.ret[n] := List.getElem?_eq_getElem (by omega)
      by_cases hb : s.ret[n].kind = 2
      · exact effect_21_bad s g lo x y w hG hlo hs hx hy n _ hn ht hb
      · exact effect_21_ok s g lo x y w hG hlo hs hx hy n _ hn ht hb
  · by_cases h : 400 < s.out.length + (dotT y).length
    · exact effect_22_no s g lo x y w hG hlo hs hx hy hP h
    · exact effect_22_ok s g lo x y w hG hlo hs hx hy hP (by omega)
  · exact effect_23 s g lo x y w hG hlo hs hx hy
set_option maxRecDepth 100000 in
set_option maxHeartbeats 1000000 in
theorem fails_calls (s : LSt) (f : Int) (gb : Nat) {A0 : Option Addr} {c0 : Nat} {A1 : Option Addr} {c1 : Nat} {A3 : Option Addr} {c3 : Nat} {A4 : Option Addr} {c4 : Nat} {A5 : Option Addr} {c5 : Nat} {A6 : Option Addr} {c6 : Nat} {A7 : Option Addr} {c7 : Nat} (w : World) (hb : w.heap[gb]? = some (.cells #[.slice A0 s.data.length c0, .slice A1 s.ret.length c1, .int .i32 s.a, .slice A3 s.mem.length c3, .slice A4 s.cells.length c4, .slice A5 s.vars.length c5, .slice A6 s.out.length c6, .slice A7 s.inp.length c7, .int .i64 s.fault, .int .i64 s.fuel] 32 (0, 0))) (hv : StK w s (.agg #[.slice A0 s.data.length c0, .slice A1 s.ret.length c1, .int .i32 s.a, .slice A3 s.mem.length c3, .slice A4 s.cells.length c4, .slice A5 s.vars.length c5, .slice A6 s.out.length c6, .slice A7 s.inp.length c7, .int .i64 s.fault, .int .i64 s.fuel])) (hs : s.small 1048576) :
    Calls Tryd.prog 83 #[.int .i64 f, .pointer (some ⟨gb, 0, none⟩)] w fun e w' => ∃ v', e = .returned v' ∧ StO w' w.heap.size { s with fault := f } v' ∧ Below w.heap.size w w' := by
  have HV := Lib.hid hv
  have HB := Lib.hid hb
  have KZ := Lib.hid (blk_new w (.cells #[.slice none 0 0, .slice none 0 0, .int .i32 0, .slice none 0 0, .slice none 0 0, .slice none 0 0, .slice none 0 0, .slice none 0 0, .int .i64 0, .int .i64 0] 32))
  have cb := blk_cell hb
  have zb := blk_lt hb
  clear hv hb
  go_enter Tryd.func83, Tryd.ntmps83
  go_wp2_with fail
  refine (ownSt_calls s _ _ (HV.out.keepB (bl_alloc (Below.refl _ _) _)) hs).mono ?_
  rintro e w1 ⟨v1, rfl, hO, hb⟩
  obtain ⟨E0, e0, E1, e1, E3, e3, E4, e4, E5, e5, E6, e6, E7, e7, rfl⟩ := hO.k.form
  have HO := Lib.hid (show StO w1 (w.heap.size + 1) { s with fault := f } (.agg #[.slice E0 s.data.length e0, .slice E1 s.ret.length e1, .int .i32 s.a, .slice E3 s.mem.length e3, .slice E4 s.cells.length e4, .slice E5 s.vars.length e5, .slice E6 s.out.length e6, .slice E7 s.inp.length e7, .int .i64 f, .int .i64 s.fuel]) from by
    obtain ⟨A0, c0, A1, c1, A3, c3, A4, c4, A5, c5, A6, c6, A7, c7, b0, b1, b3, b4, b5, b6, b7, he, r0, r1, r3, r4, r5, r6, r7, hl, d1, d2⟩ := hO
    injection he with he
    injection he with he
    simp only [List.cons.injEq, Value.slice.injEq, and_true, true_and] at he
    obtain ⟨⟨rfl, rfl⟩, ⟨rfl, rfl⟩, ⟨rfl, rfl⟩, ⟨rfl, rfl⟩, ⟨rfl, rfl⟩, ⟨rfl, rfl⟩, rfl, rfl⟩ := he
    exact ⟨_, _, _, _, _, _, _, _, _, _, _, _, _, _, b0, b1, b3, b4, b5, b6, b7, rfl, r0, r1, r3, r4, r5, r6, r7, fun b hb x hx => by have := hl b hb x hx; simpa using this, d1, d2⟩)
  have KZ := Lib.hid (blk_alloc (blk_call KZ.out hb) (.cells #[.slice E0 s.data.length e0, .slice E1 s.ret.length e1, .int .i32 s.a, .slice E3 s.mem.length e3, .slice E4 s.cells.length e4, .slice E5 s.vars.length e5, .slice E6 s.out.length e6, .slice E7 s.inp.length e7, .int .i64 f, .int .i64 s.fuel] 32))
  have HBB := Lib.hid (bl_call (bl_alloc (Below.refl _ w) _) hb)
  have hz := hb.size
  simp at hz
  have cz := blk_cell KZ.out
  have fz := blk_frozen KZ.out
  have zz := blk_lt KZ.out
  clear hO hb cb zb
  go_wp2_with fail
  refine bodyPost_ret (v := .agg #[.slice E0 s.data.length e0, .slice E1 s.ret.length e1, .int .i32 s.a, .slice E3 s.mem.length e3, .slice E4 s.cells.length e4, .slice E5 s.vars.length e5, .slice E6 s.out.length e6, .slice E7 s.inp.length e7, .int .i64 f, .int .i64 s.fuel]) (by simp [results, Tryd.results83, go_sem, cz, zz]) rfl ⟨_, rfl, ?_, ?_⟩
  · refine StO.low (lo := w.heap.size + 1) ?_ (by omega)
    have h0 := HO.out
    with_reducible repeat (first | exact h0 | refine StO.far ?_ (by simp only; omega) _ | refine StO.alloc ?_ _)
  · have h0 := HBB.out
    with_reducible repeat (first | exact h0 | apply bl_set0 | apply bl_alloc | refine Below.setCell ?_ (by simp only; omega) _)
end Go.Proofs.YtgljbcdlldhlfaaDoor

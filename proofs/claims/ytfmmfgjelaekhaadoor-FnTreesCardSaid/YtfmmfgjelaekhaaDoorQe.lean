/- The reference's draw of an effect, of two effects; a cursor made. -/
import Derived.Test.YtfmmfgjelaekhaaDoorQ
import Derived.Test.YtfmmfgjelaekhaaDoorTh
import Derived.Deep.RegionWith
import Derived.Outline
set_option linter.unusedVariables false
set_option linter.unusedSimpArgs false
namespace Go.Proofs.YtfmmfgjelaekhaaDoor
open Go.RowKit

/-- What an effect that was drawn is like. -/
def EffDrawn (x : LEffect) : Prop := 0 ≤ x.most ∧ x.most ≤ 3 ∧ -9223372036854775808 ≤ x.need ∧ x.need ≤ 9223372036854775807 ∧ -9223372036854775808 ≤ x.gain ∧ x.gain ≤ 9223372036854775807
set_option maxRecDepth 100000 in
set_option maxHeartbeats 2000000 in
theorem l14Effect_calls (g : Nat) (w : World) (hC : Cur w g) : Calls Tryd.prog 67 #[.pointer (some ⟨g, 0, none⟩)] w fun e w' => ∃ x : LEffect, e = .returned (.agg #[.bool x.ok, .int .i64 x.need, .int .i64 x.most, .int .i64 x.gain]) ∧ EffDrawn x ∧ Cur w' g ∧ Dr g w w' := by
  have hlt := hC.lt
  have n0 : ¬ (w.heap.size = g) := by omega
  have n1 : ¬ (w.heap.size + 1 = g) := by omega
  have n2 : ¬ (w.heap.size + 1 + 1 = g) := by omega
  have HC := Lib.hid hC
  have HD := Lib.hid (Dr.refl hC)
  clear hC
  go_enter Tryd.func67, Tryd.ntmps67
  go_wp2_with fail
  refine (l01Below_calls g 4 _ (by omega) (by omega) (by repeat (first | exact HC.out | apply Cur.alloc))).mono ?_
  rintro e w1 ⟨x1, rfl, h1a, h1b, hC1, hT1⟩
  obtain ⟨q1, f1⟩ := hT1.cells
  have z1 := hT1.2.2.2.1.symm
  have HB1 : Hid (w1.heap[w.heap.size]? = some (.cells #[.bool false, .int .i64 0, .int .i64 0, .int .i64 0] 25 (0, 0))) := Lib.hid ((hT1.2.2.2.2 _ n0).trans (blk_new _ _))
  replace HD := Lib.hid (Dr.turned (by repeat (first | exact HD.out | apply Dr.alloc)) hT1)
  replace HC := Lib.hid hC1
  clear hC1 hT1
  go_wp2_with fail
  refine (l01Below_calls g 4 _ (by omega) (by omega) (by repeat (first | exact HC.out | apply Cur.alloc))).mono ?_
  rintro e w2 ⟨x2, rfl, h2a, h2b, hC1, hT1⟩
  obtain ⟨q2, f2⟩ := hT1.cells
  have z2 := hT1.2.2.2.1.symm
  have HB2 : Hid (w2.heap[w.heap.size]? = some (.cells #[.bool false, .int .i64 0, .int .i64 0, .int .i64 0] 25 (0, 0))) := Lib.hid ((hT1.2.2.2.2 _ n0).trans (HB1.out))
  replace HD := Lib.hid (Dr.turned (by repeat (first | exact HD.out | apply Dr.alloc)) hT1)
  replace HC := Lib.hid hC1
  clear hC1 hT1
  go_wp2_with fail
  refine (l01Below_calls g 7 _ (by omega) (by omega) (by repeat (first | exact HC.out | apply Cur.alloc))).mono ?_
  rintro e w3 ⟨x3, rfl, h3a, h3b, hC1, hT1⟩
  obtain ⟨q3, f3⟩ := hT1.cells
  have z3 := hT1.2.2.2.1.symm
  have HB3 : Hid (w3.heap[w.heap.size]? = some (.cells #[.bool false, .int .i64 0, .int .i64 0, .int .i64 0] 25 (0, 0))) := Lib.hid ((hT1.2.2.2.2 _ n0).trans (HB2.out))
  replace HD := Lib.hid (Dr.turned (by repeat (first | exact HD.out | apply Dr.alloc)) hT1)
  replace HC := Lib.hid hC1
  clear hC1 hT1
  go_wp2_with fail
  refine (l14OfX_calls _ _ _ _).mono ?_
  rintro e w4 ⟨rfl, rfl⟩
  go_wp2_with fail
  refine (l01Below_calls g 12 _ (by omega) (by omega) (by repeat (first | exact HC.out | apply Cur.alloc))).mono ?_
  rintro e w4 ⟨x4, rfl, h4a, h4b, hC1, hT1⟩
  obtain ⟨q4, f4⟩ := hT1.cells
  have z4 := hT1.2.2.2.1.symm
  have HB4 : Hid (w4.heap[w.heap.size]? = some (.cells #[.bool false, .int .i64 0, .int .i64 0, .int .i64 0] 25 (0, 0))) := Lib.hid ((hT1.2.2.2.2 _ n0).trans (blk_alloc (blk_alloc (HB3.out) _) _))
  replace HD := Lib.hid (Dr.turned (by repeat (first | exact HD.out | apply Dr.alloc)) hT1)
  replace HC := Lib.hid hC1
  clear hC1 hT1
  have c4 := blk_cell HB4.out
  go_wp2_with (go_at_call 113; (first | (refine (l01PickInt_calls g _ _ [1000, 1001, -1000, -1001, 9223372036854775807] _ ?_ ?_ ?_ ?_ ?_).mono ?_; decide; decide; exact rd_alloc (by simp [*]) rfl) | (refine (l01PickInt_calls g _ _ [1000, 1001, -1000, -1001, -9223372036854775808] _ ?_ ?_ ?_ ?_ ?_).mono ?_; decide; decide; exact rd_alloc (by simp [*]) rfl)); (intro a ea; injection ea with ea; subst ea; simp only; omega); exact HC.out.alloc _; rintro e w5 ⟨x5, rfl, hx, hC1, hT1⟩; obtain ⟨q5, f5⟩ := hT1.cells; have z5 := hT1.2.2.2.1.symm; have HX := Lib.hid hx; have HC5 := Lib.hid hC1; have HD5 := Lib.hid (Dr.turned (by (repeat (first | exact HD.out | apply Dr.alloc))) hT1); have c5 := fun i => (q5 _ i n0).trans (blk_cell (blk_alloc HB4.out _) i); clear hC1 hT1 hx)
  · refine bodyPost_ret (v := .agg #[.bool false, .int .i64 x1, .int .i64 x2, .int .i64 (x3 - 3)]) (by simp [results, Tryd.results67, go_sem, c4]) rfl ⟨⟨false, x1, x2, x3 - 3⟩, rfl, by unfold EffDrawn; simp only; omega, ?_, ?_⟩
    · with_reducible repeat (first | exact HC.out | refine Cur.set ?_ (by omega) _)
    · with_reducible repeat (first | exact HD.out | refine Dr.set ?_ (by omega) _)
  · refine bodyPost_ret (v := .agg #[.bool true, .int .i64 x5, .int .i64 x2, .int .i64 (x3 - 3)]) (by simp [results, Tryd.results67, go_sem, c5]) rfl ⟨⟨true, x5, x2, x3 - 3⟩, rfl, ?_, ?_, ?_⟩
    · have := HX.out; simp only [List.mem_cons, List.not_mem_nil, or_false] at this; unfold EffDrawn; simp only; omega
    · with_reducible repeat (first | exact HC5.out | refine Cur.set ?_ (by omega) _)
    · with_reducible repeat (first | exact HD5.out | refine Dr.set ?_ (by omega) _)
  · refine bodyPost_ret (v := .agg #[.bool true, .int .i64 x1, .int .i64 x2, .int .i64 x5]) (by simp [results, Tryd.results67, go_sem, c5]) rfl ⟨⟨true, x1, x2, x5⟩, rfl, ?_, ?_, ?_⟩
    · have := HX.out; simp only [List.mem_cons, List.not_mem_nil, or_false] at this; unfold EffDrawn; simp only; omega
    · with_reducible repeat (first | exact HC5.out | refine Cur.set ?_ (by omega) _)
    · with_reducible repeat (first | exact HD5.out | refine Dr.set ?_ (by omega) _)
  · refine bodyPost_ret (v := .agg #[.bool true, .int .i64 x1, .int .i64 x2, .int .i64 (x3 - 3)]) (by simp [results, Tryd.results67, go_sem, c4]) rfl ⟨⟨true, x1, x2, x3 - 3⟩, rfl, by unfold EffDrawn; simp only; omega, ?_, ?_⟩
    · with_reducible repeat (first | exact HC.out | refine Cur.set ?_ (by omega) _)
    · with_reducible repeat (first | exact HD.out | refine Dr.set ?_ (by omega) _)
set_option maxRecDepth 100000 in
theorem l01New_calls (A : Option Addr) (c : Nat) (xs : List Int) (w : World) (hr : Rd w A (xs.map (Value.int .u8))) (hx : ∀ x ∈ xs, 0 ≤ x ∧ x ≤ 255) (hn : xs.length ≤ 1048576) :
    Calls Tryd.prog 66 #[.slice A xs.length c] w fun e w' => e = .returned (.pointer (some ⟨w.heap.size, 0, none⟩)) ∧ Cur w' w.heap.size ∧ Below w.heap.size w w' := by
  have HX := Lib.hid hx
  have HR := Lib.hid hr
  have HA : Hid (xs ≠ [] → ∀ a, A = some a → a.block < w.heap.size) := Lib.hid (fun h a e => by
    obtain ⟨ad, e', hc⟩ := hr 0 _ (List.getElem?_eq_getElem (by simpa using List.length_pos_iff.2 h))
    rw [e] at e'
    cases e'
    have := World.block_lt_of_cell? w _ hc
    rwa [block_of_add] at this)
  clear hx
  go_enter Tryd.func66, Tryd.ntmps66
  go_wp2
  go_loop [3, 4] (fun hv i => ∃ (h : Int) (k : Nat), k ≤ xs.length ∧ i = .int .i64 k ∧ hv = .int .i64 h) (fun _ i => xs.length - (intOf i).toNat)
  case atStart => exact ⟨_, 0, Nat.zero_le _, rfl, rfl⟩
  case round =>
    obtain ⟨h, k, hk, rfl, rfl⟩ := hrel
    by_cases hlt : k < xs.length ∧ k < 4000
    · obtain ⟨ad, hA, hcell⟩ := hr k (.int .u8 xs[k]) (by simp [List.getElem?_eq_getElem hlt.1])
      subst hA
      have hx8 := HX.out xs[k] (List.getElem_mem hlt.1)
      generalize xs[k] = b at hcell hx8
      have h1 : (k : Int) < (xs.length : Int) := by omega
      have h2 : (k : Int) < 4000 := by omega
      have h3 := hlt.1
      clear hlt hr
      go_wp2
      go_round
      case rel => exact ⟨_, k + 1, by omega, by go_num, rfl⟩
      case measure => simp [intOf]; omega
    · have hc : ¬ ((k : Int) < (xs.length : Int)) ∨ ((k : Int) < (xs.length : Int) ∧ ¬ ((k : Int) < 4000)) := by omega
      rcases hc with hc | ⟨hc, hc'⟩
      all_goals
        go_wp2
        go_ret
        refine ⟨rfl, ⟨A, c, xs, 0, h, blk_new _ _, by omega, by omega, hn, HR.out.call (bl_alloc (Below.refl _ _) _), HA.out, HX.out⟩, bl_alloc (Below.refl _ _) _⟩
set_option maxRecDepth 100000 in
set_option maxHeartbeats 1000000 in
theorem DrawThen_calls (A : Option Addr) (c : Nat) (xs : List Int) (w : World) (hr : Rd w A (xs.map (Value.int .u8))) (hx : ∀ x ∈ xs, 0 ≤ x ∧ x ≤ 255) (hn : xs.length ≤ 1048576) :
    Calls Tryd.prog 16 #[.slice A xs.length c] w fun e w' => ∃ a b : LEffect, e = .returned (.tuple #[.agg #[.bool a.ok, .int .i64 a.need, .int .i64 a.most, .int .i64 a.gain], .agg #[.bool b.ok, .int .i64 b.need, .int .i64 b.most, .int .i64 b.gain]]) ∧ EffDrawn a ∧ EffDrawn b ∧ Below w.heap.size w w' := by
  have HX := Lib.hid hx
  have HR := Lib.hid hr
  clear hx hr
  go_enter Tryd.func16, Tryd.ntmps16
  go_wp2_with fail
  refine (l01New_calls A c xs _ ((HR.out.call (bl_alloc (Below.refl _ _) _)).call (bl_alloc (Below.refl _ _) _)) HX.out hn).mono ?_
  rintro e w1 ⟨rfl, hC, hb⟩
  have hsz := hb.size
  simp at hC hsz
  have hlt := hC.lt
  have HB1 := Lib.hid (bl_call (bl_alloc (bl_alloc (Below.refl _ w) _) _) hb)
  have K0 : Hid (w1.heap[w.heap.size]? = some (.cells #[.bool false, .int .i64 0, .int .i64 0, .int .i64 0] 25 (0, 0))) := Lib.hid (blk_call (blk_alloc (blk_new _ _) _) hb)
  have K1 : Hid (w1.heap[w.heap.size + 1]? = some (.cells #[.bool false, .int .i64 0, .int .i64 0, .int .i64 0] 25 (0, 0))) := Lib.hid (blk_call (by simpa using blk_new (w.alloc _) _) hb)
  have HC := Lib.hid hC
  clear hb
  go_wp2_with fail
  refine (l14Effect_calls _ _ HC.out).mono ?_
  rintro e w2 ⟨x, rfl, hx, hC2, hD2⟩
  have z2 := hD2.size
  replace K0 := Lib.hid (hD2.blk (by omega) K0.out)
  replace K1 := Lib.hid (hD2.blk (by omega) K1.out)
  have c0 := blk_cell K0.out
  have c1 := blk_cell K1.out
  have g0 := blk_frozen K0.out
  have g1 := blk_frozen K1.out
  have HX2 := Lib.hid hx
  have HC2 := Lib.hid hC2
  have HD2 := Lib.hid hD2
  clear hx hC2 hD2 hC HC
  go_wp2_with fail
  go_region_with (go_at_call 67; ((with_reducible refine (l14Effect_calls (w.heap.size + 1 + 1) _ ?_).mono ?_); (with_reducible repeat (first | exact HC2.out | refine Cur.set ?_ (by omega) _ | apply Cur.draw1 | apply Cur.draw | apply Cur.alloc)); rintro e w3 ⟨y, rfl, hy, hC3, hD3⟩; have z3 := hD3.size; have J0 := Lib.hid (hD3.blk (n := w.heap.size) (by omega) (by with_reducible repeat (first | exact K0.out | apply blk_drew | apply blk_alloc))); have J1 := Lib.hid (hD3.blk (n := w.heap.size + 1) (by omega) (by with_reducible repeat (first | exact K1.out | apply blk_drew | apply blk_alloc))); have J2 := Lib.hid (hD3.blk (n := w2.heap.size) (by omega) (blk_drew (blk_new w2 _))); have c0 := blk_cell J0.out; have c1 := blk_cell J1.out; have c2 := blk_cell J2.out; have g0 := blk_frozen J0.out; have g1 := blk_frozen J1.out; have HX3 := Lib.hid hy; have HD3 := Lib.hid hD3; clear hy hC3 hD3))
  all_goals
    have HB3 := Lib.hid (HD3.out.below (w := w) (by omega) (bl_drew (bl_alloc (HD2.out.below (w := w) (by omega) HB1.out) _)))
    go_wp2_with fail
    refine bodyPost_ret (v := .tuple #[.agg #[.bool x.ok, .int .i64 x.need, .int .i64 x.most, .int .i64 x.gain], .agg #[.bool y.ok, .int .i64 y.need, .int .i64 y.most, .int .i64 y.gain]]) (by simp [results, Tryd.results16, go_sem, c0, c1]) rfl ⟨x, y, rfl, HX2.out, HX3.out, ?_⟩
    with_reducible repeat (first | exact HB3.out | refine bl_set1 ?_ _ | refine bl_set0 ?_ _)
end Go.Proofs.YtfmmfgjelaekhaaDoor

/- The law FnThen, walked: big, at; the two effects drawn, put together in either order of brackets. -/
import Derived.Test.YtfmmfgjelaekhaaDoorQe
import Derived.Test.YtfmmfgjelaekhaaDoorTh
import Derived.Test.YtfmmfgjelaekhaaDoorPf
set_option linter.unusedVariables false
set_option linter.unusedSimpArgs false
namespace Go.Proofs.YtfmmfgjelaekhaaDoor
open Go.RowKit Go.Sort

theorem big_calls (A : Option Addr) (n c : Nat) (w : World) (hn : n ≤ 140737488355328) : Calls Tryd.prog 15 #[.slice A n c] w fun e w' => e = .returned (.bool (decide (1048576 < n))) ∧ w = w' := by
  by_cases h : 1048576 < n
  all_goals
    go_enter Tryd.func15, Tryd.ntmps15
    go_wp2
    go_ret
    exact ⟨ret_bool (by simp; omega), rfl⟩
set_option maxRecDepth 100000 in
theorem at_calls (A : Option Addr) (c : Nat) (xs : List Int) (i : Int) (w : World) (hr : Rd w A (xs.map (Value.int .u8))) (hx : ∀ x ∈ xs, 0 ≤ x ∧ x ≤ 255) (hn : xs.length ≤ 1048576) (h0 : 0 ≤ i) (h1 : i ≤ 100) :
    Calls Tryd.prog 18 #[.slice A xs.length c, .int .i64 i] w fun e w' => ∃ x : Int, e = .returned (.int .i64 x) ∧ 0 ≤ x ∧ x ≤ 255 ∧ w = w' := by
  obtain ⟨k, rfl⟩ := Int.eq_ofNat_of_zero_le h0
  by_cases h : k < xs.length
  · obtain ⟨ad, rfl, hc⟩ := hr k (.int .u8 xs[k]) (by simp [h])
    have hb := hx xs[k] (List.getElem_mem h)
    have h2 : (k : Int) < (xs.length : Int) := by omega
    generalize xs[k] = b at hc hb
    clear hx
    go_enter Tryd.func18, Tryd.ntmps18
    go_wp2
    go_ret
    exact ⟨b, rfl, hb.1, hb.2, rfl⟩
  · have h2 : ¬ (k : Int) < (xs.length : Int) := by omega
    have HX := Lib.hid hx
    clear hx hr
    go_enter Tryd.func18, Tryd.ntmps18
    go_wp2
    go_ret
    exact ⟨_, rfl, by omega, by omega, rfl⟩
theorem primEff_small (k : Int) : SmallE (primEff k) := by
  by_cases h : 0 ≤ k ∧ k ≤ 23
  · rcases prim_cases h with rfl | rfl | rfl | rfl | rfl | rfl | rfl | rfl | rfl | rfl | rfl | rfl | rfl | rfl | rfl | rfl | rfl | rfl | rfl | rfl | rfl | rfl | rfl | rfl
    all_goals (refine ⟨?_, ?_, ?_⟩ <;> decide)
  · rw [primEff_out h]
    exact ⟨by decide, by decide, by decide⟩
set_option maxRecDepth 100000 in
set_option maxHeartbeats 2000000 in
theorem FnThen_calls (A : Option Addr) (c : Nat) (xs : List Int) (w : World) (hA : Asc w) (hr : Rd w A (xs.map (Value.int .u8))) (hx : ∀ x ∈ xs, 0 ≤ x ∧ x ≤ 255) (hn : xs.length ≤ 140737488355328) :
    Calls Tryd.prog 3 #[.slice A xs.length c] w fun e w' => e = .returned (.bool true) ∧ Below w.heap.size w w' := by
  by_cases hbig : 1048576 < xs.length
  · have d0 : decide (1048576 < xs.length) = true := decide_eq_true hbig
    clear hr hx
    go_enter Tryd.func3, Tryd.ntmps3
    go_wp2_with (go_at_call 15; refine (big_calls _ _ _ _ hn).mono ?_; rintro e w' ⟨rfl, rfl⟩)
    go_ret
    exact ⟨rfl, Below.refl _ _⟩
  have d0 : decide (1048576 < xs.length) = false := decide_eq_false hbig
  have HX := Lib.hid hx
  have HR := Lib.hid hr
  have HA := Lib.hid hA
  clear hx hr hA
  go_enter Tryd.func3, Tryd.ntmps3
  go_wp2_with (first | (go_at_call 15; refine (big_calls _ _ _ _ hn).mono ?_; rintro e w' ⟨rfl, rfl⟩))
  refine (DrawThen_calls A c xs _ HR.out HX.out (by omega)).mono ?_
  rintro e w1 ⟨a, b, rfl, ha, hb, hB⟩
  have HEA := Lib.hid ha
  have HEB := Lib.hid hb
  have HB := Lib.hid hB
  have HR1 := Lib.hid (HR.out.call hB)
  have HA1 := Lib.hid (HA.out.call hB)
  clear ha hb hB
  go_wp2_with fail
  refine (at_calls A c xs 3 _ ((HR1.out.call (bl_alloc (Below.refl _ _) _)).call (bl_alloc (Below.refl _ _) _)) HX.out (by omega) (by omega) (by omega)).mono ?_
  rintro e w2 ⟨k, rfl, hk0, hk1, rfl⟩
  go_wp2_with fail
  refine (primEffect_calls _ _ ((HA1.out.call (bl_alloc (Below.refl _ _) _)).call (bl_alloc (Below.refl _ _) _))).mono ?_
  rintro e w3 ⟨rfl, hb⟩
  have HK : Hid (Bx w3 w1.heap.size [(#[.bool a.ok, .int .i64 a.need, .int .i64 a.most, .int .i64 a.gain], 25), (#[.bool b.ok, .int .i64 b.need, .int .i64 b.most, .int .i64 b.gain], 25)]) := Lib.hid ((Bx.two w1 _ _ _ _).call hb)
  have HB := Lib.hid (bl_call (bl_alloc (bl_alloc HB.out _) _) hb)
  have HA2 := Lib.hid (((HA1.out.call (bl_alloc (Below.refl _ _) _)).call (bl_alloc (Below.refl _ _) _)).call hb)
  have HSM := Lib.hid (primEff_small (k % 26))
  generalize primEff (k % 26) = p at HSM ⊢
  obtain ⟨k0, k1, -⟩ := HK.out
  have c0 := blk_cell k0
  have c1 := blk_cell k1
  have z0 := blk_lt k0
  have z1 := blk_lt k1
  clear hb k0 k1
  go_wp2_with fail
  refine (Then_calls a b _).mono ?_
  rintro e w4 ⟨rfl, hb⟩
  have HK := Lib.hid ((HK.out.alloc _).call hb)
  have HP : Hid (Bx w4 w3.heap.size [(#[.bool p.ok, .int .i64 p.need, .int .i64 p.most, .int .i64 p.gain], 25)]) := Lib.hid ((Bx.one w3 _ _).call hb)
  have HB := Lib.hid (bl_call (bl_alloc HB.out _) hb)
  obtain ⟨k0, k1, -⟩ := HK.out
  obtain ⟨k2, -⟩ := HP.out
  have c0 := blk_cell k0
  have c1 := blk_cell k1
  have c2 := blk_cell k2
  have z0 := blk_lt k0
  have z1 := blk_lt k1
  have z2 := blk_lt k2
  clear hb k0 k1 k2
  go_wp2_with fail
  obtain ⟨W5, hW5⟩ : ∃ W, w4.alloc (.cells #[.bool (thenL a b).ok, .int .i64 (thenL a b).need, .int .i64 (thenL a b).most, .int .i64 (thenL a b).gain] 25) = W := ⟨_, rfl⟩
  have HK := Lib.hid (HK.out.alloc (.cells #[.bool (thenL a b).ok, .int .i64 (thenL a b).need, .int .i64 (thenL a b).most, .int .i64 (thenL a b).gain] 25))
  have HP := Lib.hid (HP.out.alloc (.cells #[.bool (thenL a b).ok, .int .i64 (thenL a b).need, .int .i64 (thenL a b).most, .int .i64 (thenL a b).gain] 25))
  have HQ := Lib.hid (Bx.one w4 #[.bool (thenL a b).ok, .int .i64 (thenL a b).need, .int .i64 (thenL a b).most, .int .i64 (thenL a b).gain] 25)
  have HB := Lib.hid (bl_alloc HB.out (.cells #[.bool (thenL a b).ok, .int .i64 (thenL a b).need, .int .i64 (thenL a b).most, .int .i64 (thenL a b).gain] 25))
  rw [hW5] at HK HP HQ HB ⊢
  clear hW5 c0 c1 c2
  have qHK0 := fun d os => blk_cell (((HK.out.call (below_regrown W5 d os))).1)
  have qHK1 := fun d os => blk_cell (((HK.out.call (below_regrown W5 d os))).2.1)
  have qHQ0 := fun d os => blk_cell (((HQ.out.call (below_regrown W5 d os))).1)
  have TS0 : ∀ d os, Calls Tryd.prog 20 #[.agg #[.bool a.ok, .int .i64 a.need, .int .i64 a.most, .int .i64 a.gain], .agg #[.bool b.ok, .int .i64 b.need, .int .i64 b.most, .int .i64 b.gain]] (grow (redrawn W5 d) os) fun e w'' => e = .returned (.agg #[.bool (thenL a b).ok, .int .i64 (thenL a b).need, .int .i64 (thenL a b).most, .int .i64 (thenL a b).gain]) ∧ ∃ p : Regrown, w'' = grow (redrawn W5 p.d) p.os := fun d os => Calls.regrown_of (specThen_calls a b _)
  have TS := Lib.hid TS0
  clear TS0
  refine wp_region_quiet_below (by kernel_rfl) (by kernel_rfl) ?_
  repeat (quiet_step (first | (with_reducible exact TS.out _ _)))
  refine wpQuiet_nil ?_
  intro w6 hw'
  obtain ⟨⟨dq, osq⟩, hw''⟩ := hw'
  have hb : Below W5.heap.size W5 w6 := by rw [hw'']; exact below_regrown W5 dq osq
  clear hw'' qHK0 qHK1 qHQ0 TS
  have HK := Lib.hid (HK.out.call hb)
  have HP := Lib.hid (HP.out.call hb)
  have HQ := Lib.hid (HQ.out.call hb)
  have HB := Lib.hid (bl_call HB.out hb)
  clear hb
  obtain ⟨k0, k1, -⟩ := HK.out
  have c0 := blk_cell k0
  have c1 := blk_cell k1
  clear k0 k1
  rcases (by omega : (300 < a.need) ∨ (a.need ≤ 300 ∧ a.need < -300) ∨ (a.need ≤ 300 ∧ -300 ≤ a.need ∧ 300 < a.gain) ∨ (a.need ≤ 300 ∧ -300 ≤ a.need ∧ a.gain ≤ 300 ∧ a.gain < -300) ∨ (a.need ≤ 300 ∧ -300 ≤ a.need ∧ a.gain ≤ 300 ∧ -300 ≤ a.gain ∧ 300 < b.need) ∨ (a.need ≤ 300 ∧ -300 ≤ a.need ∧ a.gain ≤ 300 ∧ -300 ≤ a.gain ∧ b.need ≤ 300 ∧ b.need < -300) ∨ (a.need ≤ 300 ∧ -300 ≤ a.need ∧ a.gain ≤ 300 ∧ -300 ≤ a.gain ∧ b.need ≤ 300 ∧ -300 ≤ b.need ∧ 300 < b.gain) ∨ (a.need ≤ 300 ∧ -300 ≤ a.need ∧ a.gain ≤ 300 ∧ -300 ≤ a.gain ∧ b.need ≤ 300 ∧ -300 ≤ b.need ∧ b.gain ≤ 300 ∧ b.gain < -300) ∨ (a.need ≤ 300 ∧ -300 ≤ a.need ∧ a.gain ≤ 300 ∧ -300 ≤ a.gain ∧ b.need ≤ 300 ∧ -300 ≤ b.need ∧ b.gain ≤ 300 ∧ -300 ≤ b.gain)) with e0 | ⟨e0, e1⟩ | ⟨e0, e1, e2⟩ | ⟨e0, e1, e2, e3⟩ | ⟨e0, e1, e2, e3, e4⟩ | ⟨e0, e1, e2, e3, e4, e5⟩ | ⟨e0, e1, e2, e3, e4, e5, e6⟩ | ⟨e0, e1, e2, e3, e4, e5, e6, e7⟩ | ⟨e0, e1, e2, e3, e4, e5, e6, e7⟩
  · go_wp2_with fail
    go_ret
    exact ⟨rfl, HB.out⟩
  · go_wp2_with fail
    go_ret
    exact ⟨rfl, HB.out⟩
  · go_wp2_with fail
    go_ret
    exact ⟨rfl, HB.out⟩
  · go_wp2_with fail
    go_ret
    exact ⟨rfl, HB.out⟩
  · go_wp2_with fail
    go_ret
    exact ⟨rfl, HB.out⟩
  · go_wp2_with fail
    go_ret
    exact ⟨rfl, HB.out⟩
  · go_wp2_with fail
    go_ret
    exact ⟨rfl, HB.out⟩
  · go_wp2_with fail
    go_ret
    exact ⟨rfl, HB.out⟩
  · have HS : Hid (thenL (thenL a b) p = thenL a (thenL b p)) := Lib.hid (thenL_assoc ⟨by omega, ⟨HEA.out.1, HEA.out.2.1⟩, by omega⟩ ⟨by omega, ⟨HEB.out.1, HEB.out.2.1⟩, by omega⟩ HSM.out)
    go_wp2_with fail
    clear c0 c1
    have qHK0 := fun d os => blk_cell (((HK.out.call (below_regrown w6 d os))).1)
    have qHK1 := fun d os => blk_cell (((HK.out.call (below_regrown w6 d os))).2.1)
    have qHQ0 := fun d os => blk_cell (((HQ.out.call (below_regrown w6 d os))).1)
    have qHP0 := fun d os => blk_cell (((HP.out.call (below_regrown w6 d os))).1)
    have T10 : ∀ d os, Calls Tryd.prog 19 #[.agg #[.bool (thenL a b).ok, .int .i64 (thenL a b).need, .int .i64 (thenL a b).most, .int .i64 (thenL a b).gain], .agg #[.bool p.ok, .int .i64 p.need, .int .i64 p.most, .int .i64 p.gain]] (grow (redrawn w6 d) os) fun e w'' => e = .returned (.agg #[.bool (thenL (thenL a b) p).ok, .int .i64 (thenL (thenL a b) p).need, .int .i64 (thenL (thenL a b) p).most, .int .i64 (thenL (thenL a b) p).gain]) ∧ ∃ p : Regrown, w'' = grow (redrawn w6 p.d) p.os := fun d os => Calls.regrown_of (Then_calls (thenL a b) p _)
    have T1 := Lib.hid T10
    clear T10
    have T20 : ∀ d os, Calls Tryd.prog 19 #[.agg #[.bool b.ok, .int .i64 b.need, .int .i64 b.most, .int .i64 b.gain], .agg #[.bool p.ok, .int .i64 p.need, .int .i64 p.most, .int .i64 p.gain]] (grow (redrawn w6 d) os) fun e w'' => e = .returned (.agg #[.bool (thenL b p).ok, .int .i64 (thenL b p).need, .int .i64 (thenL b p).most, .int .i64 (thenL b p).gain]) ∧ ∃ p : Regrown, w'' = grow (redrawn w6 p.d) p.os := fun d os => Calls.regrown_of (Then_calls b p _)
    have T2 := Lib.hid T20
    clear T20
    have T30 : ∀ d os, Calls Tryd.prog 19 #[.agg #[.bool a.ok, .int .i64 a.need, .int .i64 a.most, .int .i64 a.gain], .agg #[.bool (thenL b p).ok, .int .i64 (thenL b p).need, .int .i64 (thenL b p).most, .int .i64 (thenL b p).gain]] (grow (redrawn w6 d) os) fun e w'' => e = .returned (.agg #[.bool (thenL (thenL a b) p).ok, .int .i64 (thenL (thenL a b) p).need, .int .i64 (thenL (thenL a b) p).most, .int .i64 (thenL (thenL a b) p).gain]) ∧ ∃ p : Regrown, w'' = grow (redrawn w6 p.d) p.os := by rw [HS.out]; intro d os; exact Calls.regrown_of (Then_calls a (thenL b p) _)
    have T3 := Lib.hid T30
    clear T30
    refine wp_region_quiet_below (by kernel_rfl) (by kernel_rfl) ?_
    repeat (quiet_step (first | (with_reducible exact T1.out _ _) | (with_reducible exact T2.out _ _) | (with_reducible exact T3.out _ _)))
    refine wpQuiet_nil ?_
    intro w7 hw'
    obtain ⟨⟨dq, osq⟩, hw''⟩ := hw'
    have hb : Below w6.heap.size w6 w7 := by rw [hw'']; exact below_regrown w6 dq osq
    clear hw'' qHK0 qHK1 qHQ0 qHP0 T1 T2 T3
    go_wp2_with fail
    go_ret
    exact ⟨rfl, bl_call HB.out hb⟩
end Go.Proofs.YtfmmfgjelaekhaaDoor

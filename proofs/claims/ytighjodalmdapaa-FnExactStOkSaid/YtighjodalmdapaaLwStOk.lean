/- The law FnExactStOk: its walk. -/
import Derived.Test.YtighjodalmdapaaT
import Derived.Test.YtighjodalmdapaaZ
import Derived.Test.YtighjodalmdapaaOj
import Derived.Deep.RegionWith
set_option linter.unusedVariables false
set_option linter.unusedSimpArgs false
namespace Go.Proofs.Ytighjodalmdapaa
open Go.RowKit

set_option maxRecDepth 100000 in
set_option maxHeartbeats 2000000 in
theorem lawStOk_calls (s : LSt) (v : Value) (w : World) (hv : StK w s v) (hs : s.small 140737488355328) :
    Calls Try.prog 4 #[v] w fun e w' => e = .returned (.bool true) ∧ Below w.heap.size w w' := by
  obtain ⟨A0, c0, A1, c1, A3, c3, A4, c4, A5, c5, A6, c6, A7, c7, rfl⟩ := hv.form
  have HV := Lib.hid hv
  have HS := Lib.hid hs
  clear hv hs
  go_enter Try.func4, Try.ntmps4
  go_wp2_with fail
  refine (szSt_calls s _ _ _ (HV.out.keepB (bl_alloc (Below.refl _ _) _)) (by omega) (by omega) HS.out).mono ?_
  rintro e w1 ⟨⟨r, rfl, hr⟩, hb1⟩
  rcases hr with ⟨rfl, -⟩ | ⟨rfl, hl⟩
  · go_wp2
    go_ret
    exact ⟨rfl, bl_call (bl_alloc (Below.refl _ _) _) hb1⟩
  · have hsm := Lib.hid (LSt.small_of_bulk (s := s) (n := 1048576) (by omega))
    have hn : ¬ ((1048576 : Int) - s.bulk < 0) := by omega
    have B1 := Lib.hid (blk_call (blk_new w _) hb1)
    have HB1 := Lib.hid (bl_call (bl_alloc (Below.refl _ w) _) hb1)
    have q1 := blk_cell B1.out
    clear hb1
    go_wp2_with fail
    refine (toSt_calls s _ _ (HV.out.keepB HB1.out) hsm.out).mono ?_
    rintro e w2 ⟨v2, rfl, O2, hb2⟩
    obtain ⟨D20, e20, D21, e21, D23, e23, D24, e24, D25, e25, D26, e26, D27, e27, rfl⟩ := O2.k.form
    have B2 := Lib.hid (blk_call B1.out hb2)
    have HB2 := Lib.hid (bl_call HB1.out hb2)
    have q2 := blk_cell B2.out
    have K2 := Lib.hid O2.k
    clear q1 B1 hb2 O2
    go_wp2_with fail
    refine (specStOk_calls s _ _ K2.out HS.out).mono ?_
    rintro e w3 ⟨rfl, hb3⟩
    have B3 := Lib.hid (blk_call B2.out hb3)
    have HB3 := Lib.hid (bl_call HB2.out hb3)
    have q3 := blk_cell B3.out
    clear q2 B2 hb3 K2
    go_wp2_with fail
    refine (toSt_calls s _ _ (HV.out.keepB HB3.out) hsm.out).mono ?_
    rintro e w4 ⟨v4, rfl, O4, hb4⟩
    obtain ⟨D40, e40, D41, e41, D43, e43, D44, e44, D45, e45, D46, e46, D47, e47, rfl⟩ := O4.k.form
    have B4 := Lib.hid (blk_call B3.out hb4)
    have HB4 := Lib.hid (bl_call HB3.out hb4)
    have q4 := blk_cell B4.out
    have K4 := Lib.hid O4.k
    clear q3 B3 hb4 O4
    go_wp2_with fail
    refine (implStOk_calls s _ _ (K4.out.keepB (bl_alloc (Below.refl _ _) _)) HS.out).mono ?_
    rintro e w5 ⟨rfl, hb5⟩
    have B5 := Lib.hid (blk_call (blk_alloc B4.out _) hb5)
    have X5 := Lib.hid (blk_call (blk_new w4 _) hb5)
    have HB5 := Lib.hid (bl_call (bl_alloc HB4.out _) hb5)
    have HX5 := Lib.hid (bl_call (bl_alloc (Below.refl _ w4) _) hb5)
    have q5 := blk_cell B5.out
    have x5 := blk_cell X5.out
    clear q4 B4 hb5
    go_wp2_with fail
    go_region_with (first
      | (go_at_call 13; refine (toSt_calls s _ _ (HV.out.keepB ?_) hsm.out).mono ?_; exact (by repeat (first | exact HB5.out | apply bl_drew | apply bl_drewN)); rintro e w6 ⟨v6, rfl, O6, hb6⟩; obtain ⟨D60, e60, D61, e61, D63, e63, D64, e64, D65, e65, D66, e66, D67, e67, rfl⟩ := O6.k.form; have B6 := Lib.hid (blk_after hb6 B5.out); have X6 := Lib.hid (blk_after hb6 X5.out); have HB6 := Lib.hid (bl_call (by repeat (first | exact HB5.out | apply bl_drew | apply bl_drewN)) hb6); have HX6 := Lib.hid (bl_call (by repeat (first | exact HX5.out | apply bl_drew | apply bl_drewN)) hb6); have K6 := Lib.hid O6.k; have q6 := blk_cell B6.out; have x6 := blk_cell X6.out; clear hb6 O6)
      | (go_at_call 15; refine (eqSt_calls s _ _ _ (K4.out.keepB HX6.out) K6.out HS.out).mono ?_; rintro e w7 ⟨rfl, hb7⟩; have HB7 := Lib.hid (bl_call HB6.out hb7); clear hb7))
    all_goals
      go_wp2
      go_ret
      exact ⟨rfl, HB7.out⟩
end Go.Proofs.Ytighjodalmdapaa

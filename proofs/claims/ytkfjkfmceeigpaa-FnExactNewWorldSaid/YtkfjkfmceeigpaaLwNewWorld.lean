/- The law FnExactNewWorld, walked. -/
import Derived.Test.YtkfjkfmceeigpaaT
import Derived.Test.YtkfjkfmceeigpaaZ
import Derived.Test.YtkfjkfmceeigpaaW0
import Derived.Deep.RegionWith
import Derived.Deep.Cut
import Derived.Deep.CutRange
set_option linter.unusedVariables false
set_option linter.unusedSimpArgs false
namespace Go.Proofs.Ytkfjkfmceeigpaa
open Go.RowKit

theorem newworld_small {cells inp : List Int} {fuel : Int} (h : cells.length ≤ 1048576) (k : inp.length ≤ 1048576) : (newSt cells inp fuel).small 140737488355328 := by
  unfold newSt
  split
  · unfold LSt.small newS
    simp
    omega
  · unfold LSt.small zeroSt
    simp
set_option maxRecDepth 100000 in
set_option maxHeartbeats 4000000 in
theorem lawNewWorld_calls (A0 : Option Addr) (c0 : Nat) (xs : List Int) (A1 : Option Addr) (c1 : Nat) (ys : List Int) (a2 : Int) (w : World) (hr : Rd w A0 (xs.map (Value.int .u32))) (hi : Rd w A1 (ys.map (Value.int .u8))) (hm : xs.length ≤ 140737488355328) (hn : ys.length ≤ 140737488355328) :
    Calls Try.prog 7 #[.agg #[.slice A0 xs.length c0], .slice A1 ys.length c1, .int .i64 a2] w fun e w' => e = .returned (.bool true) ∧ Below w.heap.size w w' := by
  have HXS := Lib.hid hr
  have HYS := Lib.hid hi
  have KA := Lib.hid (blk_new w (.cells #[.slice A0 xs.length c0] 24))
  have HB := Lib.hid (bl_alloc (Below.refl _ w) (.cells #[.slice A0 xs.length c0] 24))
  clear hr hi
  by_cases hy1 : 1048576 < ys.length
  · have dy : (1048576 : Int) < (ys.length : Int) := by omega
    go_enter Try.func7, Try.ntmps7
    go_wp2_with fail
    go_ret
    exact ⟨rfl, HB.out⟩
  have dy : ¬ ((1048576 : Int) < (ys.length : Int)) := by omega
  by_cases hx1 : 1048576 < xs.length
  · go_enter Try.func7, Try.ntmps7
    go_wp2_with fail
    refine (szStore_no A0 xs.length c0 1048576 _ (by omega) (by omega) (by omega)).mono ?_
    rintro e w1 ⟨rfl, hb⟩
    replace HB := Lib.hid (bl_call HB.out hb)
    clear hb
    go_wp2
    go_ret
    exact ⟨rfl, HB.out⟩
  · have hx := Lib.hid (show xs.length ≤ 1048576 by omega)
    have hy := Lib.hid (show ys.length ≤ 1048576 by omega)
    have hfs := Lib.hid (show (newSt xs ys a2).small 140737488355328 from newworld_small hx.out hy.out)
    have hn0 : ¬ ((1048576 : Int) - xs.length < 0) := by omega
    go_enter Try.func7, Try.ntmps7
    go_wp2_with fail
    refine (szStore_ok A0 xs.length c0 1048576 _ (by omega) (by omega)).mono ?_
    rintro e w1 ⟨rfl, hb⟩
    replace KA := Lib.hid (blk_call KA.out hb)
    replace HB := Lib.hid (bl_call HB.out hb)
    have cKA := blk_cell KA.out
    have fKA := blk_frozen KA.out
    have zKA := blk_lt KA.out
    clear hb
    go_wp2_with fail
    refine (toStore_calls A0 c0 xs _ (HXS.out.keepB HB.out) hx.out).mono ?_
    rintro e w2 ⟨g2, rfl, R, lo2, hb⟩
    clear cKA fKA zKA
    replace KA := Lib.hid (blk_call KA.out hb)
    replace HB := Lib.hid (bl_call HB.out hb)
    have T2 := Lib.hid R
    clear R
    clear hb
    have cKA := blk_cell KA.out
    have fKA := blk_frozen KA.out
    have zKA := blk_lt KA.out
    go_wp2_with fail
    refine (toByteS_calls A1 c1 ys _ (HYS.out.keepB HB.out) hy.out).mono ?_
    rintro e w3 ⟨g3, rfl, R, lo3, hb⟩
    clear cKA fKA zKA
    replace KA := Lib.hid (blk_call KA.out hb)
    replace T2 := Lib.hid (T2.out.call hb)
    replace HB := Lib.hid (bl_call HB.out hb)
    have T3 := Lib.hid R
    clear R
    clear hb
    have cKA := blk_cell KA.out
    have fKA := blk_frozen KA.out
    have zKA := blk_lt KA.out
    go_wp2_with fail
    refine (specNewWorld_calls (some ⟨g2, 0, none⟩) xs.length xs (some ⟨g3, 0, none⟩) ys.length ys a2 _ T2.out.rd T3.out.rd hx.out hy.out).mono ?_
    rintro e w4 ⟨v, rfl, O, hb⟩
    clear cKA fKA zKA
    replace KA := Lib.hid (blk_call KA.out hb)
    replace T2 := Lib.hid (T2.out.call hb)
    replace T3 := Lib.hid (T3.out.call hb)
    replace HB := Lib.hid (bl_call HB.out hb)
    obtain ⟨E0, e0, E1, e1, E3, e3, E4, e4, E5, e5, E6, e6, E7, e7, rfl⟩ := O.k.form
    have HW := Lib.hid O.i
    clear O
    clear hb
    have cKA := blk_cell KA.out
    have fKA := blk_frozen KA.out
    have zKA := blk_lt KA.out
    clear T2
    clear T3
    have zw := HB.out.size
    clear cKA fKA zKA
    have cKA := blk_cell KA.out
    have fKA := blk_frozen KA.out
    have zKA := blk_lt KA.out
    replace KA := Lib.hid (blk_alloc KA.out (.cells #[.slice none 0 0, .slice none 0 0, .slice E0 (newSt xs ys a2).data.length e0, .slice E1 (newSt xs ys a2).ret.length e1, .int .i32 (newSt xs ys a2).a, .slice E3 (newSt xs ys a2).mem.length e3, .slice E4 (newSt xs ys a2).cells.length e4, .slice E5 (newSt xs ys a2).vars.length e5, .slice E6 (newSt xs ys a2).out.length e6, .slice E7 (newSt xs ys a2).inp.length e7, .int .i64 (newSt xs ys a2).fault, .int .i64 (newSt xs ys a2).fuel, .bool false, .bool false] 58))
    have KW := Lib.hid (blk_new w4 (.cells #[.slice none 0 0, .slice none 0 0, .slice E0 (newSt xs ys a2).data.length e0, .slice E1 (newSt xs ys a2).ret.length e1, .int .i32 (newSt xs ys a2).a, .slice E3 (newSt xs ys a2).mem.length e3, .slice E4 (newSt xs ys a2).cells.length e4, .slice E5 (newSt xs ys a2).vars.length e5, .slice E6 (newSt xs ys a2).out.length e6, .slice E7 (newSt xs ys a2).inp.length e7, .int .i64 (newSt xs ys a2).fault, .int .i64 (newSt xs ys a2).fuel, .bool false, .bool false] 58))
    replace HW := Lib.hid (HW.out.call (bl_alloc (Below.refl _ _) (.cells #[.slice none 0 0, .slice none 0 0, .slice E0 (newSt xs ys a2).data.length e0, .slice E1 (newSt xs ys a2).ret.length e1, .int .i32 (newSt xs ys a2).a, .slice E3 (newSt xs ys a2).mem.length e3, .slice E4 (newSt xs ys a2).cells.length e4, .slice E5 (newSt xs ys a2).vars.length e5, .slice E6 (newSt xs ys a2).out.length e6, .slice E7 (newSt xs ys a2).inp.length e7, .int .i64 (newSt xs ys a2).fault, .int .i64 (newSt xs ys a2).fuel, .bool false, .bool false] 58)))
    replace HB := Lib.hid (bl_alloc HB.out (.cells #[.slice none 0 0, .slice none 0 0, .slice E0 (newSt xs ys a2).data.length e0, .slice E1 (newSt xs ys a2).ret.length e1, .int .i32 (newSt xs ys a2).a, .slice E3 (newSt xs ys a2).mem.length e3, .slice E4 (newSt xs ys a2).cells.length e4, .slice E5 (newSt xs ys a2).vars.length e5, .slice E6 (newSt xs ys a2).out.length e6, .slice E7 (newSt xs ys a2).inp.length e7, .int .i64 (newSt xs ys a2).fault, .int .i64 (newSt xs ys a2).fuel, .bool false, .bool false] 58))
    go_wp2_with fail
    refine (toStore_calls A0 c0 xs _ (HXS.out.keepB HB.out) hx.out).mono ?_
    rintro e w5 ⟨gx, rfl, R, lox, hb⟩
    clear cKA fKA zKA
    replace KA := Lib.hid (blk_call KA.out hb)
    replace KW := Lib.hid (blk_call KW.out hb)
    replace HW := Lib.hid (HW.out.call hb)
    replace HB := Lib.hid (bl_call HB.out hb)
    have TX := Lib.hid R
    have zx5 := R.lt _ rfl
    have hs5 := hb.size
    simp at hs5 lox
    clear R
    clear hb
    have cKA := blk_cell KA.out
    have fKA := blk_frozen KA.out
    have zKA := blk_lt KA.out
    have cKW := blk_cell KW.out
    have fKW := blk_frozen KW.out
    have zKW := blk_lt KW.out
    clear cKA fKA zKA cKW fKW zKW
    have cKA := blk_cell KA.out
    have fKA := blk_frozen KA.out
    have zKA := blk_lt KA.out
    have cKW := blk_cell KW.out
    have fKW := blk_frozen KW.out
    have zKW := blk_lt KW.out
    replace KA := Lib.hid (blk_alloc KA.out (.cells #[.slice (some ⟨gx, 0, none⟩) xs.length xs.length] 33))
    replace KW := Lib.hid (blk_alloc KW.out (.cells #[.slice (some ⟨gx, 0, none⟩) xs.length xs.length] 33))
    have KX := Lib.hid (blk_new w5 (.cells #[.slice (some ⟨gx, 0, none⟩) xs.length xs.length] 33))
    replace HW := Lib.hid (HW.out.call (bl_alloc (Below.refl _ _) (.cells #[.slice (some ⟨gx, 0, none⟩) xs.length xs.length] 33)))
    replace TX := Lib.hid (TX.out.call (bl_alloc (Below.refl _ _) (.cells #[.slice (some ⟨gx, 0, none⟩) xs.length xs.length] 33)))
    replace HB := Lib.hid (bl_alloc HB.out (.cells #[.slice (some ⟨gx, 0, none⟩) xs.length xs.length] 33))
    go_wp2_with fail
    refine (toByteS_calls A1 c1 ys _ (HYS.out.keepB HB.out) hy.out).mono ?_
    rintro e w6 ⟨gy, rfl, R, loy, hb⟩
    clear cKA fKA zKA cKW fKW zKW
    replace KA := Lib.hid (blk_call KA.out hb)
    replace KW := Lib.hid (blk_call KW.out hb)
    replace KX := Lib.hid (blk_call KX.out hb)
    replace HW := Lib.hid (HW.out.call hb)
    replace TX := Lib.hid (TX.out.call hb)
    replace HB := Lib.hid (bl_call HB.out hb)
    have TY := Lib.hid R
    have zy6 := R.lt _ rfl
    have hs6 := hb.size
    simp at hs6 loy
    clear R
    clear hb
    have cKA := blk_cell KA.out
    have fKA := blk_frozen KA.out
    have zKA := blk_lt KA.out
    have cKW := blk_cell KW.out
    have fKW := blk_frozen KW.out
    have zKW := blk_lt KW.out
    have cKX := blk_cell KX.out
    have fKX := blk_frozen KX.out
    have zKX := blk_lt KX.out
    go_wp2_with fail
    refine (NewWorld_calls (some ⟨gx, 0, none⟩) xs.length xs (some ⟨gy, 0, none⟩) ys.length ys a2 _ TX.out.rd TY.out.rd hx.out hy.out).mono ?_
    rintro e w7 ⟨v, rfl, O, hb⟩
    clear cKA fKA zKA cKW fKW zKW cKX fKX zKX
    replace KA := Lib.hid (blk_call KA.out hb)
    replace KW := Lib.hid (blk_call KW.out hb)
    replace KX := Lib.hid (blk_call KX.out hb)
    replace HW := Lib.hid (HW.out.call hb)
    replace TX := Lib.hid (TX.out.call hb)
    replace TY := Lib.hid (TY.out.call hb)
    replace HB := Lib.hid (bl_call HB.out hb)
    obtain ⟨Q0, q0, Q1, q1, Q3, q3, Q4, q4, Q5, q5, Q6, q6, Q7, q7, rfl⟩ := O.k.form
    have HG := Lib.hid O.i
    have hs7 := hb.size
    clear O
    clear hb
    have cKA := blk_cell KA.out
    have fKA := blk_frozen KA.out
    have zKA := blk_lt KA.out
    have cKW := blk_cell KW.out
    have fKW := blk_frozen KW.out
    have zKW := blk_lt KW.out
    have cKX := blk_cell KX.out
    have fKX := blk_frozen KX.out
    have zKX := blk_lt KX.out
    clear cKA fKA zKA cKW fKW zKW cKX fKX zKX
    have cKA := blk_cell KA.out
    have fKA := blk_frozen KA.out
    have zKA := blk_lt KA.out
    have cKW := blk_cell KW.out
    have fKW := blk_frozen KW.out
    have zKW := blk_lt KW.out
    have cKX := blk_cell KX.out
    have fKX := blk_frozen KX.out
    have zKX := blk_lt KX.out
    replace KA := Lib.hid (blk_alloc KA.out (.cells #[.slice none 0 0, .slice none 0 0, .slice Q0 (newSt xs ys a2).data.length q0, .slice Q1 (newSt xs ys a2).ret.length q1, .int .i32 (newSt xs ys a2).a, .slice Q3 (newSt xs ys a2).mem.length q3, .slice Q4 (newSt xs ys a2).cells.length q4, .slice Q5 (newSt xs ys a2).vars.length q5, .slice Q6 (newSt xs ys a2).out.length q6, .slice Q7 (newSt xs ys a2).inp.length q7, .int .i64 (newSt xs ys a2).fault, .int .i64 (newSt xs ys a2).fuel, .bool false, .bool false] 58))
    replace KW := Lib.hid (blk_alloc KW.out (.cells #[.slice none 0 0, .slice none 0 0, .slice Q0 (newSt xs ys a2).data.length q0, .slice Q1 (newSt xs ys a2).ret.length q1, .int .i32 (newSt xs ys a2).a, .slice Q3 (newSt xs ys a2).mem.length q3, .slice Q4 (newSt xs ys a2).cells.length q4, .slice Q5 (newSt xs ys a2).vars.length q5, .slice Q6 (newSt xs ys a2).out.length q6, .slice Q7 (newSt xs ys a2).inp.length q7, .int .i64 (newSt xs ys a2).fault, .int .i64 (newSt xs ys a2).fuel, .bool false, .bool false] 58))
    replace KX := Lib.hid (blk_alloc KX.out (.cells #[.slice none 0 0, .slice none 0 0, .slice Q0 (newSt xs ys a2).data.length q0, .slice Q1 (newSt xs ys a2).ret.length q1, .int .i32 (newSt xs ys a2).a, .slice Q3 (newSt xs ys a2).mem.length q3, .slice Q4 (newSt xs ys a2).cells.length q4, .slice Q5 (newSt xs ys a2).vars.length q5, .slice Q6 (newSt xs ys a2).out.length q6, .slice Q7 (newSt xs ys a2).inp.length q7, .int .i64 (newSt xs ys a2).fault, .int .i64 (newSt xs ys a2).fuel, .bool false, .bool false] 58))
    have KG := Lib.hid (blk_new w7 (.cells #[.slice none 0 0, .slice none 0 0, .slice Q0 (newSt xs ys a2).data.length q0, .slice Q1 (newSt xs ys a2).ret.length q1, .int .i32 (newSt xs ys a2).a, .slice Q3 (newSt xs ys a2).mem.length q3, .slice Q4 (newSt xs ys a2).cells.length q4, .slice Q5 (newSt xs ys a2).vars.length q5, .slice Q6 (newSt xs ys a2).out.length q6, .slice Q7 (newSt xs ys a2).inp.length q7, .int .i64 (newSt xs ys a2).fault, .int .i64 (newSt xs ys a2).fuel, .bool false, .bool false] 58))
    replace HW := Lib.hid (HW.out.call (bl_alloc (Below.refl _ _) (.cells #[.slice none 0 0, .slice none 0 0, .slice Q0 (newSt xs ys a2).data.length q0, .slice Q1 (newSt xs ys a2).ret.length q1, .int .i32 (newSt xs ys a2).a, .slice Q3 (newSt xs ys a2).mem.length q3, .slice Q4 (newSt xs ys a2).cells.length q4, .slice Q5 (newSt xs ys a2).vars.length q5, .slice Q6 (newSt xs ys a2).out.length q6, .slice Q7 (newSt xs ys a2).inp.length q7, .int .i64 (newSt xs ys a2).fault, .int .i64 (newSt xs ys a2).fuel, .bool false, .bool false] 58)))
    replace TX := Lib.hid (TX.out.call (bl_alloc (Below.refl _ _) (.cells #[.slice none 0 0, .slice none 0 0, .slice Q0 (newSt xs ys a2).data.length q0, .slice Q1 (newSt xs ys a2).ret.length q1, .int .i32 (newSt xs ys a2).a, .slice Q3 (newSt xs ys a2).mem.length q3, .slice Q4 (newSt xs ys a2).cells.length q4, .slice Q5 (newSt xs ys a2).vars.length q5, .slice Q6 (newSt xs ys a2).out.length q6, .slice Q7 (newSt xs ys a2).inp.length q7, .int .i64 (newSt xs ys a2).fault, .int .i64 (newSt xs ys a2).fuel, .bool false, .bool false] 58)))
    replace TY := Lib.hid (TY.out.call (bl_alloc (Below.refl _ _) (.cells #[.slice none 0 0, .slice none 0 0, .slice Q0 (newSt xs ys a2).data.length q0, .slice Q1 (newSt xs ys a2).ret.length q1, .int .i32 (newSt xs ys a2).a, .slice Q3 (newSt xs ys a2).mem.length q3, .slice Q4 (newSt xs ys a2).cells.length q4, .slice Q5 (newSt xs ys a2).vars.length q5, .slice Q6 (newSt xs ys a2).out.length q6, .slice Q7 (newSt xs ys a2).inp.length q7, .int .i64 (newSt xs ys a2).fault, .int .i64 (newSt xs ys a2).fuel, .bool false, .bool false] 58)))
    replace HG := Lib.hid (HG.out.call (bl_alloc (Below.refl _ _) (.cells #[.slice none 0 0, .slice none 0 0, .slice Q0 (newSt xs ys a2).data.length q0, .slice Q1 (newSt xs ys a2).ret.length q1, .int .i32 (newSt xs ys a2).a, .slice Q3 (newSt xs ys a2).mem.length q3, .slice Q4 (newSt xs ys a2).cells.length q4, .slice Q5 (newSt xs ys a2).vars.length q5, .slice Q6 (newSt xs ys a2).out.length q6, .slice Q7 (newSt xs ys a2).inp.length q7, .int .i64 (newSt xs ys a2).fault, .int .i64 (newSt xs ys a2).fuel, .bool false, .bool false] 58)))
    replace HB := Lib.hid (bl_alloc HB.out (.cells #[.slice none 0 0, .slice none 0 0, .slice Q0 (newSt xs ys a2).data.length q0, .slice Q1 (newSt xs ys a2).ret.length q1, .int .i32 (newSt xs ys a2).a, .slice Q3 (newSt xs ys a2).mem.length q3, .slice Q4 (newSt xs ys a2).cells.length q4, .slice Q5 (newSt xs ys a2).vars.length q5, .slice Q6 (newSt xs ys a2).out.length q6, .slice Q7 (newSt xs ys a2).inp.length q7, .int .i64 (newSt xs ys a2).fault, .int .i64 (newSt xs ys a2).fuel, .bool false, .bool false] 58))
    go_wp2_with fail
    refine (eqWorld0_calls (newSt xs ys a2) _ _ _ HG.out.o.k HW.out.o.k hfs.out).mono ?_
    rintro e w8 ⟨rfl, hb⟩
    clear cKA fKA zKA cKW fKW zKW cKX fKX zKX
    replace KA := Lib.hid (blk_call KA.out hb)
    replace KW := Lib.hid (blk_call KW.out hb)
    replace KX := Lib.hid (blk_call KX.out hb)
    replace KG := Lib.hid (blk_call KG.out hb)
    replace HW := Lib.hid (HW.out.call hb)
    replace TX := Lib.hid (TX.out.call hb)
    replace TY := Lib.hid (TY.out.call hb)
    replace HG := Lib.hid (HG.out.call hb)
    replace HB := Lib.hid (bl_call HB.out hb)
    have hs8 := hb.size
    simp at hs8
    clear hb
    have cKA := blk_cell KA.out
    have fKA := blk_frozen KA.out
    have zKA := blk_lt KA.out
    have cKW := blk_cell KW.out
    have fKW := blk_frozen KW.out
    have zKW := blk_lt KW.out
    have cKX := blk_cell KX.out
    have fKX := blk_frozen KX.out
    have zKX := blk_lt KX.out
    have cKG := blk_cell KG.out
    have fKG := blk_frozen KG.out
    have zKG := blk_lt KG.out
    go_upto_region 13 with fail
    go_cut [46] from 42 to 45 (fun rv wx => rv = .bool false ∧ Hid (Below w8.heap.size w8 wx))
    case first =>
      go_region_with (first
        | (go_at_call 10; refine (toStore_calls A0 c0 xs _ (HXS.out.keepB ?_) hx.out).mono ?_; exact (by with_reducible repeat (first | exact HB.out | apply bl_drew | apply bl_drewN)); rintro e wr ⟨gr, rfl, R, -, hb8⟩; have HX8 := Lib.hid (show Below w8.heap.size w8 wr from bl_call (by with_reducible repeat (first | exact Below.refl _ _ | apply bl_drew | apply bl_drewN)) hb8); have K8 := Lib.hid R; have cX8 := blk_cell (blk_call KX.out HX8.out); have fX8 := blk_frozen (blk_call KX.out HX8.out); have zX8 := blk_lt (blk_call KX.out HX8.out); clear R hb8)
        | (go_at_call 14; refine (eqStore_calls _ _ _ _ xs _ (TX.out.rd.call HX8.out) K8.out.rd (by omega)).mono ?_; rintro e ws ⟨rfl, hb9⟩; have HX9 := Lib.hid (bl_call HX8.out hb9); clear hb9))
      all_goals
        go_wp2_with fail
        go_meet
        exact ⟨rfl, HX9⟩
    case rest =>
      obtain ⟨rfl, HX9⟩ := hcut
      clear cKA fKA zKA cKW fKW zKW cKX fKX zKX cKG fKG zKG
      replace KA := Lib.hid (blk_call KA.out HX9.out)
      replace KW := Lib.hid (blk_call KW.out HX9.out)
      replace KX := Lib.hid (blk_call KX.out HX9.out)
      replace KG := Lib.hid (blk_call KG.out HX9.out)
      replace HW := Lib.hid (HW.out.call HX9.out)
      replace TX := Lib.hid (TX.out.call HX9.out)
      replace TY := Lib.hid (TY.out.call HX9.out)
      replace HG := Lib.hid (HG.out.call HX9.out)
      replace HB := Lib.hid (bl_call HB.out HX9.out)
      have hsr := HX9.out.size
      clear HX9
      have cKA := blk_cell KA.out
      have fKA := blk_frozen KA.out
      have zKA := blk_lt KA.out
      have cKW := blk_cell KW.out
      have fKW := blk_frozen KW.out
      have zKW := blk_lt KW.out
      have cKX := blk_cell KX.out
      have fKX := blk_frozen KX.out
      have zKX := blk_lt KX.out
      have cKG := blk_cell KG.out
      have fKG := blk_frozen KG.out
      have zKG := blk_lt KG.out
      go_wp2_with fail
      refine (toByteS_calls A1 c1 ys _ (HYS.out.keepB HB.out) hy.out).mono ?_
      rintro e w101 ⟨gz, rfl, R, -, hb⟩
      clear cKA fKA zKA cKW fKW zKW cKX fKX zKX cKG fKG zKG
      replace KA := Lib.hid (blk_call KA.out hb)
      replace KW := Lib.hid (blk_call KW.out hb)
      replace KX := Lib.hid (blk_call KX.out hb)
      replace KG := Lib.hid (blk_call KG.out hb)
      replace HW := Lib.hid (HW.out.call hb)
      replace TX := Lib.hid (TX.out.call hb)
      replace TY := Lib.hid (TY.out.call hb)
      replace HG := Lib.hid (HG.out.call hb)
      replace HB := Lib.hid (bl_call HB.out hb)
      have hs101 := hb.size
      have K8 := Lib.hid R
      clear R
      clear hb
      have cKA := blk_cell KA.out
      have fKA := blk_frozen KA.out
      have zKA := blk_lt KA.out
      have cKW := blk_cell KW.out
      have fKW := blk_frozen KW.out
      have zKW := blk_lt KW.out
      have cKX := blk_cell KX.out
      have fKX := blk_frozen KX.out
      have zKX := blk_lt KX.out
      have cKG := blk_cell KG.out
      have fKG := blk_frozen KG.out
      have zKG := blk_lt KG.out
      go_wp2_with fail
      refine (eqByteS_calls _ _ _ _ ys _ TY.out.rd K8.out.rd (by omega)).mono ?_
      rintro e w102 ⟨rfl, hb⟩
      clear cKA fKA zKA cKW fKW zKW cKX fKX zKX cKG fKG zKG
      replace KA := Lib.hid (blk_call KA.out hb)
      replace KW := Lib.hid (blk_call KW.out hb)
      replace KX := Lib.hid (blk_call KX.out hb)
      replace KG := Lib.hid (blk_call KG.out hb)
      replace HW := Lib.hid (HW.out.call hb)
      replace TX := Lib.hid (TX.out.call hb)
      replace TY := Lib.hid (TY.out.call hb)
      replace HG := Lib.hid (HG.out.call hb)
      replace HB := Lib.hid (bl_call HB.out hb)
      have hs102 := hb.size
      clear K8
      clear hb
      have cKA := blk_cell KA.out
      have fKA := blk_frozen KA.out
      have zKA := blk_lt KA.out
      have cKW := blk_cell KW.out
      have fKW := blk_frozen KW.out
      have zKW := blk_lt KW.out
      have cKX := blk_cell KX.out
      have fKX := blk_frozen KX.out
      have zKX := blk_lt KX.out
      have cKG := blk_cell KG.out
      have fKG := blk_frozen KG.out
      have zKG := blk_lt KG.out
      have zgx := TX.out.lt _ rfl
      have zgy := TY.out.lt _ rfl
      have zA := HB.out.size
      clear cKA fKA zKA cKW fKW zKW cKX fKX zKX cKG fKG zKG
      skip
      have cKA := blk_cell KA.out
      have fKA := blk_frozen KA.out
      have zKA := blk_lt KA.out
      have cKW := blk_cell KW.out
      have fKW := blk_frozen KW.out
      have zKW := blk_lt KW.out
      have cKX := blk_cell KX.out
      have fKX := blk_frozen KX.out
      have zKX := blk_lt KX.out
      have cKG := blk_cell KG.out
      have fKG := blk_frozen KG.out
      have zKG := blk_lt KG.out
      go_wp2_with fail
      refine (markStore_calls _ _ xs _ 1 _ TX.out (by omega) (by omega) (by omega)).mono ?_
      rintro e w103 ⟨rfl, hg⟩
      clear cKA fKA zKA cKW fKW zKW cKX fKX zKX cKG fKG zKG
      have hf := Fr.grown (Fr.refl gx (gx + 1) _) hg (fun g e => by injection e with e; omega)
      replace KA := Lib.hid ((hf.block _ (blk_lt KA.out) (by omega)).trans KA.out)
      replace KW := Lib.hid ((hf.block _ (blk_lt KW.out) (by omega)).trans KW.out)
      replace KG := Lib.hid ((hf.block _ (blk_lt KG.out) (by omega)).trans KG.out)
      replace TY := Lib.hid (TY.out.keep fun g e => by injection e with e; subst e; exact hf.block _ zgy (by omega))
      replace HW := Lib.hid (HW.out.frame hf (by omega))
      replace HG := Lib.hid (HG.out.frame hf (by omega))
      replace HB := Lib.hid (HB.out.trans (hf.below (by omega) HB.out.size))
      have hs103 := hf.size
      clear hf hg TX KX
      have cKA := blk_cell KA.out
      have fKA := blk_frozen KA.out
      have zKA := blk_lt KA.out
      have cKW := blk_cell KW.out
      have fKW := blk_frozen KW.out
      have zKW := blk_lt KW.out
      have cKG := blk_cell KG.out
      have fKG := blk_frozen KG.out
      have zKG := blk_lt KG.out
      go_wp2_with fail
      refine (markByteS_calls _ _ ys _ (1 + xs.length) _ TY.out (by omega) (by omega) (by omega)).mono ?_
      rintro e w104 ⟨rfl, -, hg⟩
      clear cKA fKA zKA cKW fKW zKW cKG fKG zKG
      have hf := Fr.grown (Fr.refl gy (gy + 1) _) hg (fun g e => by injection e with e; omega)
      replace KA := Lib.hid ((hf.block _ (blk_lt KA.out) (by omega)).trans KA.out)
      replace KW := Lib.hid ((hf.block _ (blk_lt KW.out) (by omega)).trans KW.out)
      replace KG := Lib.hid ((hf.block _ (blk_lt KG.out) (by omega)).trans KG.out)
      replace HW := Lib.hid (HW.out.frame hf (by omega))
      replace HG := Lib.hid (HG.out.frame hf (by omega))
      replace HB := Lib.hid (HB.out.trans (hf.below (by omega) HB.out.size))
      have hs104 := hf.size
      have hnn : ¬ ((1 : Int) + xs.length + ys.length < 0) := by omega
      clear hf hg TY
      have cKA := blk_cell KA.out
      have fKA := blk_frozen KA.out
      have zKA := blk_lt KA.out
      have cKW := blk_cell KW.out
      have fKW := blk_frozen KW.out
      have zKW := blk_lt KW.out
      have cKG := blk_cell KG.out
      have fKG := blk_frozen KG.out
      have zKG := blk_lt KG.out
      go_wp2_with fail
      refine (eqWorld0_calls (newSt xs ys a2) _ _ _ HG.out.o.k HW.out.o.k hfs.out).mono ?_
      rintro e w105 ⟨rfl, hb⟩
      clear cKA fKA zKA cKW fKW zKW cKG fKG zKG
      replace KA := Lib.hid (blk_call KA.out hb)
      replace KW := Lib.hid (blk_call KW.out hb)
      replace KG := Lib.hid (blk_call KG.out hb)
      replace HW := Lib.hid (HW.out.call hb)
      replace HG := Lib.hid (HG.out.call hb)
      replace HB := Lib.hid (bl_call HB.out hb)
      have hs105 := hb.size
      clear hb
      have cKA := blk_cell KA.out
      have fKA := blk_frozen KA.out
      have zKA := blk_lt KA.out
      have cKW := blk_cell KW.out
      have fKW := blk_frozen KW.out
      have zKW := blk_lt KW.out
      have cKG := blk_cell KG.out
      have fKG := blk_frozen KG.out
      have zKG := blk_lt KG.out
      go_wp2_with fail
      refine (markWorld0_calls 1 (newSt xs ys a2) _ _ _ _ HG.out hfs.out (by omega) (by omega) (by omega) (by omega)).mono ?_
      rintro e w106 ⟨rfl, M, hf⟩
      clear cKA fKA zKA cKW fKW zKW cKG fKG zKG
      replace KA := Lib.hid ((hf.block _ (blk_lt KA.out) (by omega)).trans KA.out)
      replace KW := Lib.hid ((hf.block _ (blk_lt KW.out) (by omega)).trans KW.out)
      replace KG := Lib.hid ((hf.block _ (blk_lt KG.out) (by omega)).trans KG.out)
      replace HW := Lib.hid (HW.out.frame hf (by omega))
      replace HB := Lib.hid (HB.out.trans (hf.below (by omega) HB.out.size))
      have HM := Lib.hid M
      have hs106 := hf.size
      have hnf : ¬ (mkStN 1 (newSt xs ys a2) < 0) := by unfold mkStN; omega
      clear hf M HG
      have cKA := blk_cell KA.out
      have fKA := blk_frozen KA.out
      have zKA := blk_lt KA.out
      have cKW := blk_cell KW.out
      have fKW := blk_frozen KW.out
      have zKW := blk_lt KW.out
      have cKG := blk_cell KG.out
      have fKG := blk_frozen KG.out
      have zKG := blk_lt KG.out
      go_wp2_with fail
      refine (heldWorld0_calls 1 (newSt xs ys a2) _ _ HM.out.o.k hfs.out (by omega) (by omega)).mono ?_
      rintro e w107 ⟨rfl, hb⟩
      clear cKA fKA zKA cKW fKW zKW cKG fKG zKG
      replace KA := Lib.hid (blk_call KA.out hb)
      replace KW := Lib.hid (blk_call KW.out hb)
      replace KG := Lib.hid (blk_call KG.out hb)
      replace HW := Lib.hid (HW.out.call hb)
      replace HM := Lib.hid (HM.out.call hb)
      replace HB := Lib.hid (bl_call HB.out hb)
      have hs107 := hb.size
      clear hb
      have cKA := blk_cell KA.out
      have fKA := blk_frozen KA.out
      have zKA := blk_lt KA.out
      have cKW := blk_cell KW.out
      have fKW := blk_frozen KW.out
      have zKW := blk_lt KW.out
      have cKG := blk_cell KG.out
      have fKG := blk_frozen KG.out
      have zKG := blk_lt KG.out
      go_wp2_with fail
      refine (toStore_calls A0 c0 xs _ (HXS.out.keepB HB.out) hx.out).mono ?_
      rintro e w108 ⟨gp, rfl, R, -, hb⟩
      clear cKA fKA zKA cKW fKW zKW cKG fKG zKG
      replace KA := Lib.hid (blk_call KA.out hb)
      replace KW := Lib.hid (blk_call KW.out hb)
      replace KG := Lib.hid (blk_call KG.out hb)
      replace HW := Lib.hid (HW.out.call hb)
      replace HM := Lib.hid (HM.out.call hb)
      replace HB := Lib.hid (bl_call HB.out hb)
      have hs108 := hb.size
      have TP := Lib.hid R
      clear R
      clear hb
      have cKA := blk_cell KA.out
      have fKA := blk_frozen KA.out
      have zKA := blk_lt KA.out
      have cKW := blk_cell KW.out
      have fKW := blk_frozen KW.out
      have zKW := blk_lt KW.out
      have cKG := blk_cell KG.out
      have fKG := blk_frozen KG.out
      have zKG := blk_lt KG.out
      go_wp2_with fail
      refine (toByteS_calls A1 c1 ys _ (HYS.out.keepB HB.out) hy.out).mono ?_
      rintro e w109 ⟨gq, rfl, R, -, hb⟩
      clear cKA fKA zKA cKW fKW zKW cKG fKG zKG
      replace KA := Lib.hid (blk_call KA.out hb)
      replace KW := Lib.hid (blk_call KW.out hb)
      replace KG := Lib.hid (blk_call KG.out hb)
      replace HW := Lib.hid (HW.out.call hb)
      replace HM := Lib.hid (HM.out.call hb)
      replace TP := Lib.hid (TP.out.call hb)
      replace HB := Lib.hid (bl_call HB.out hb)
      have hs109 := hb.size
      have TQ := Lib.hid R
      clear R
      clear hb
      have cKA := blk_cell KA.out
      have fKA := blk_frozen KA.out
      have zKA := blk_lt KA.out
      have cKW := blk_cell KW.out
      have fKW := blk_frozen KW.out
      have zKW := blk_lt KW.out
      have cKG := blk_cell KG.out
      have fKG := blk_frozen KG.out
      have zKG := blk_lt KG.out
      go_wp2_with fail
      refine (NewWorld_calls (some ⟨gp, 0, none⟩) xs.length xs (some ⟨gq, 0, none⟩) ys.length ys a2 _ TP.out.rd TQ.out.rd hx.out hy.out).mono ?_
      rintro e w110 ⟨v, rfl, O, hb⟩
      clear cKA fKA zKA cKW fKW zKW cKG fKG zKG
      replace KA := Lib.hid (blk_call KA.out hb)
      replace KW := Lib.hid (blk_call KW.out hb)
      replace KG := Lib.hid (blk_call KG.out hb)
      replace HW := Lib.hid (HW.out.call hb)
      replace HM := Lib.hid (HM.out.call hb)
      replace HB := Lib.hid (bl_call HB.out hb)
      have hs110 := hb.size
      obtain ⟨U0, u0, U1, u1, U3, u3, U4, u4, U5, u5, U6, u6, U7, u7, rfl⟩ := O.k.form
      have HH := Lib.hid O.i
      clear O TP TQ
      clear hb
      have cKA := blk_cell KA.out
      have fKA := blk_frozen KA.out
      have zKA := blk_lt KA.out
      have cKW := blk_cell KW.out
      have fKW := blk_frozen KW.out
      have zKW := blk_lt KW.out
      have cKG := blk_cell KG.out
      have fKG := blk_frozen KG.out
      have zKG := blk_lt KG.out
      replace KA := Lib.hid (blk_alloc KA.out (.cells #[.slice none 0 0, .slice none 0 0, .slice U0 (newSt xs ys a2).data.length u0, .slice U1 (newSt xs ys a2).ret.length u1, .int .i32 (newSt xs ys a2).a, .slice U3 (newSt xs ys a2).mem.length u3, .slice U4 (newSt xs ys a2).cells.length u4, .slice U5 (newSt xs ys a2).vars.length u5, .slice U6 (newSt xs ys a2).out.length u6, .slice U7 (newSt xs ys a2).inp.length u7, .int .i64 (newSt xs ys a2).fault, .int .i64 (newSt xs ys a2).fuel, .bool false, .bool false] 58))
      replace KW := Lib.hid (blk_alloc KW.out (.cells #[.slice none 0 0, .slice none 0 0, .slice U0 (newSt xs ys a2).data.length u0, .slice U1 (newSt xs ys a2).ret.length u1, .int .i32 (newSt xs ys a2).a, .slice U3 (newSt xs ys a2).mem.length u3, .slice U4 (newSt xs ys a2).cells.length u4, .slice U5 (newSt xs ys a2).vars.length u5, .slice U6 (newSt xs ys a2).out.length u6, .slice U7 (newSt xs ys a2).inp.length u7, .int .i64 (newSt xs ys a2).fault, .int .i64 (newSt xs ys a2).fuel, .bool false, .bool false] 58))
      replace KG := Lib.hid (blk_alloc KG.out (.cells #[.slice none 0 0, .slice none 0 0, .slice U0 (newSt xs ys a2).data.length u0, .slice U1 (newSt xs ys a2).ret.length u1, .int .i32 (newSt xs ys a2).a, .slice U3 (newSt xs ys a2).mem.length u3, .slice U4 (newSt xs ys a2).cells.length u4, .slice U5 (newSt xs ys a2).vars.length u5, .slice U6 (newSt xs ys a2).out.length u6, .slice U7 (newSt xs ys a2).inp.length u7, .int .i64 (newSt xs ys a2).fault, .int .i64 (newSt xs ys a2).fuel, .bool false, .bool false] 58))
      replace HW := Lib.hid (HW.out.call (bl_alloc (Below.refl _ _) (.cells #[.slice none 0 0, .slice none 0 0, .slice U0 (newSt xs ys a2).data.length u0, .slice U1 (newSt xs ys a2).ret.length u1, .int .i32 (newSt xs ys a2).a, .slice U3 (newSt xs ys a2).mem.length u3, .slice U4 (newSt xs ys a2).cells.length u4, .slice U5 (newSt xs ys a2).vars.length u5, .slice U6 (newSt xs ys a2).out.length u6, .slice U7 (newSt xs ys a2).inp.length u7, .int .i64 (newSt xs ys a2).fault, .int .i64 (newSt xs ys a2).fuel, .bool false, .bool false] 58)))
      replace HM := Lib.hid (HM.out.call (bl_alloc (Below.refl _ _) (.cells #[.slice none 0 0, .slice none 0 0, .slice U0 (newSt xs ys a2).data.length u0, .slice U1 (newSt xs ys a2).ret.length u1, .int .i32 (newSt xs ys a2).a, .slice U3 (newSt xs ys a2).mem.length u3, .slice U4 (newSt xs ys a2).cells.length u4, .slice U5 (newSt xs ys a2).vars.length u5, .slice U6 (newSt xs ys a2).out.length u6, .slice U7 (newSt xs ys a2).inp.length u7, .int .i64 (newSt xs ys a2).fault, .int .i64 (newSt xs ys a2).fuel, .bool false, .bool false] 58)))
      replace HH := Lib.hid (HH.out.call (bl_alloc (Below.refl _ _) (.cells #[.slice none 0 0, .slice none 0 0, .slice U0 (newSt xs ys a2).data.length u0, .slice U1 (newSt xs ys a2).ret.length u1, .int .i32 (newSt xs ys a2).a, .slice U3 (newSt xs ys a2).mem.length u3, .slice U4 (newSt xs ys a2).cells.length u4, .slice U5 (newSt xs ys a2).vars.length u5, .slice U6 (newSt xs ys a2).out.length u6, .slice U7 (newSt xs ys a2).inp.length u7, .int .i64 (newSt xs ys a2).fault, .int .i64 (newSt xs ys a2).fuel, .bool false, .bool false] 58)))
      replace HB := Lib.hid (bl_alloc HB.out (.cells #[.slice none 0 0, .slice none 0 0, .slice U0 (newSt xs ys a2).data.length u0, .slice U1 (newSt xs ys a2).ret.length u1, .int .i32 (newSt xs ys a2).a, .slice U3 (newSt xs ys a2).mem.length u3, .slice U4 (newSt xs ys a2).cells.length u4, .slice U5 (newSt xs ys a2).vars.length u5, .slice U6 (newSt xs ys a2).out.length u6, .slice U7 (newSt xs ys a2).inp.length u7, .int .i64 (newSt xs ys a2).fault, .int .i64 (newSt xs ys a2).fuel, .bool false, .bool false] 58))
      go_wp2_with fail
      refine (eqWorld0_calls (newSt xs ys a2) _ _ _ HH.out.o.k HW.out.o.k hfs.out).mono ?_
      rintro e w111 ⟨rfl, hb⟩
      clear cKA fKA zKA cKW fKW zKW cKG fKG zKG
      replace KA := Lib.hid (blk_call KA.out hb)
      replace KW := Lib.hid (blk_call KW.out hb)
      replace KG := Lib.hid (blk_call KG.out hb)
      replace HW := Lib.hid (HW.out.call hb)
      replace HM := Lib.hid (HM.out.call hb)
      replace HB := Lib.hid (bl_call HB.out hb)
      have hs111 := hb.size
      clear HH
      clear hb
      have cKA := blk_cell KA.out
      have fKA := blk_frozen KA.out
      have zKA := blk_lt KA.out
      have cKW := blk_cell KW.out
      have fKW := blk_frozen KW.out
      have zKW := blk_lt KW.out
      have cKG := blk_cell KG.out
      have fKG := blk_frozen KG.out
      have zKG := blk_lt KG.out
      go_wp2_with fail
      refine (heldWorld0_calls 1 (newSt xs ys a2) _ _ HM.out.o.k hfs.out (by omega) (by omega)).mono ?_
      rintro e w112 ⟨rfl, hb⟩
      clear cKA fKA zKA cKW fKW zKW cKG fKG zKG
      replace KA := Lib.hid (blk_call KA.out hb)
      replace KW := Lib.hid (blk_call KW.out hb)
      replace KG := Lib.hid (blk_call KG.out hb)
      replace HW := Lib.hid (HW.out.call hb)
      replace HM := Lib.hid (HM.out.call hb)
      replace HB := Lib.hid (bl_call HB.out hb)
      have hs112 := hb.size
      clear hb
      have cKA := blk_cell KA.out
      have fKA := blk_frozen KA.out
      have zKA := blk_lt KA.out
      have cKW := blk_cell KW.out
      have fKW := blk_frozen KW.out
      have zKW := blk_lt KW.out
      have cKG := blk_cell KG.out
      have fKG := blk_frozen KG.out
      have zKG := blk_lt KG.out
      go_wp2_with fail
      go_ret
      exact ⟨rfl, HB.out⟩
end Go.Proofs.Ytkfjkfmceeigpaa

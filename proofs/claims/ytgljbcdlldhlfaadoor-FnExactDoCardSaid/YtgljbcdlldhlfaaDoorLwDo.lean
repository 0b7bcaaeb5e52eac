/- The law FnExactDo, walked. -/
import Derived.Test.YtgljbcdlldhlfaaDoorT
import Derived.Test.YtgljbcdlldhlfaaDoorZ
import Derived.Test.YtgljbcdlldhlfaaDoorDo
import Derived.Test.YtgljbcdlldhlfaaDoorSk
import Derived.Deep.RegionWith
set_option linter.unusedVariables false
set_option linter.unusedSimpArgs false
namespace Go.Proofs.YtgljbcdlldhlfaaDoor
open Go.RowKit

theorem do_small {s : LSt} {k : Int} (h : s.small 1048576) : (doL s k).small 140737488355328 := by
  have hm : ∀ s : LSt, s.small 1048576 → s.small 140737488355328 := fun s h => by unfold LSt.small at *; omega
  unfold doL
  split
  · next hok =>
    split
    · exact hm _ (doesL_small hok k)
    · exact hm _ h
  · simp [LSt.small, zeroSt]
set_option maxRecDepth 100000 in
set_option maxHeartbeats 4000000 in
theorem lawDo_calls (s : LSt) (v : Value) (k : Int) (w : World) (hv : StK w s v) (hs : s.small 140737488355328) (hwf : s.wf) (hA : Asc w) (hP : Pow w) :
    Calls Tryd.prog 3 #[v, .int .i64 k] w fun e w' => e = .returned (.bool true) ∧ Below w.heap.size w w' := by
  obtain ⟨A0, c0, A1, c1, A3, c3, A4, c4, A5, c5, A6, c6, A7, c7, rfl⟩ := hv.form
  have HV := Lib.hid hv
  have HS := Lib.hid hs
  have hsm2 := Lib.hid hs
  have HWF := Lib.hid hwf
  have HAS := Lib.hid hA
  have HPW := Lib.hid hP
  clear hwf hA hP
  have KA := Lib.hid (blk_new w (.cells #[.slice A0 s.data.length c0, .slice A1 s.ret.length c1, .int .i32 s.a, .slice A3 s.mem.length c3, .slice A4 s.cells.length c4, .slice A5 s.vars.length c5, .slice A6 s.out.length c6, .slice A7 s.inp.length c7, .int .i64 s.fault, .int .i64 s.fuel] 28))
  have HB := Lib.hid (bl_alloc (Below.refl _ w) (.cells #[.slice A0 s.data.length c0, .slice A1 s.ret.length c1, .int .i32 s.a, .slice A3 s.mem.length c3, .slice A4 s.cells.length c4, .slice A5 s.vars.length c5, .slice A6 s.out.length c6, .slice A7 s.inp.length c7, .int .i64 s.fault, .int .i64 s.fuel] 28))
  clear hv hs
  go_enter Tryd.func3, Tryd.ntmps3
  go_wp2_with fail
  refine (szSt_calls s _ _ _ (HV.out.keepB HB.out) (by omega) (by omega) HS.out).mono ?_
  rintro e w1 ⟨⟨r, rfl, hr⟩, hb⟩
  replace KA := Lib.hid (blk_call KA.out hb)
  replace HB := Lib.hid (bl_call HB.out hb)
  clear hb
  rcases hr with ⟨rfl, -⟩ | ⟨rfl, hl⟩
  · go_wp2
    go_ret
    exact ⟨rfl, HB.out⟩
  · have hsm := Lib.hid (LSt.small_of_bulk (s := s) (n := 1048576) (by omega))
    have hfs := Lib.hid (show (doL s k).small 140737488355328 from do_small hsm.out)
    have hn : ¬ ((1048576 : Int) - s.bulk < 0) := by omega
    have cKA := blk_cell KA.out
    have fKA := blk_frozen KA.out
    have zKA := blk_lt KA.out
    clear hl
    go_wp2_with fail
    refine (toSt_calls s _ _ (HV.out.keepB HB.out) hsm.out).mono ?_
    rintro e w2 ⟨v2, rfl, O2, hb⟩
    clear cKA fKA zKA
    replace KA := Lib.hid (blk_call KA.out hb)
    replace HB := Lib.hid (bl_call HB.out hb)
    obtain ⟨D0, d0, D1, d1, D3, d3, D4, d4, D5, d5, D6, d6, D7, d7, rfl⟩ := O2.k.form
    have K2 := Lib.hid O2.k
    clear O2
    clear hb
    have cKA := blk_cell KA.out
    have fKA := blk_frozen KA.out
    have zKA := blk_lt KA.out
    go_wp2_with fail
    refine (specDo_calls s _ k _ K2.out HS.out HWF.out).mono ?_
    rintro e w3 ⟨v3, rfl, O3, hb⟩
    clear cKA fKA zKA
    replace KA := Lib.hid (blk_call KA.out hb)
    replace HB := Lib.hid (bl_call HB.out hb)
    obtain ⟨E0, e0, E1, e1, E3, e3, E4, e4, E5, e5, E6, e6, E7, e7, rfl⟩ := O3.k.form
    have HW := Lib.hid O3.i
    clear O3 K2
    clear hb
    have cKA := blk_cell KA.out
    have fKA := blk_frozen KA.out
    have zKA := blk_lt KA.out
    have zw := HB.out.size
    clear cKA fKA zKA
    have cKA := blk_cell KA.out
    have fKA := blk_frozen KA.out
    have zKA := blk_lt KA.out
    replace KA := Lib.hid (blk_alloc KA.out (.cells #[.slice E0 (doL s k).data.length e0, .slice E1 (doL s k).ret.length e1, .int .i32 (doL s k).a, .slice E3 (doL s k).mem.length e3, .slice E4 (doL s k).cells.length e4, .slice E5 (doL s k).vars.length e5, .slice E6 (doL s k).out.length e6, .slice E7 (doL s k).inp.length e7, .int .i64 (doL s k).fault, .int .i64 (doL s k).fuel] 32))
    have KW := Lib.hid (blk_new w3 (.cells #[.slice E0 (doL s k).data.length e0, .slice E1 (doL s k).ret.length e1, .int .i32 (doL s k).a, .slice E3 (doL s k).mem.length e3, .slice E4 (doL s k).cells.length e4, .slice E5 (doL s k).vars.length e5, .slice E6 (doL s k).out.length e6, .slice E7 (doL s k).inp.length e7, .int .i64 (doL s k).fault, .int .i64 (doL s k).fuel] 32))
    replace HW := Lib.hid (HW.out.call (bl_alloc (Below.refl _ _) (.cells #[.slice E0 (doL s k).data.length e0, .slice E1 (doL s k).ret.length e1, .int .i32 (doL s k).a, .slice E3 (doL s k).mem.length e3, .slice E4 (doL s k).cells.length e4, .slice E5 (doL s k).vars.length e5, .slice E6 (doL s k).out.length e6, .slice E7 (doL s k).inp.length e7, .int .i64 (doL s k).fault, .int .i64 (doL s k).fuel] 32)))
    replace HB := Lib.hid (bl_alloc HB.out (.cells #[.slice E0 (doL s k).data.length e0, .slice E1 (doL s k).ret.length e1, .int .i32 (doL s k).a, .slice E3 (doL s k).mem.length e3, .slice E4 (doL s k).cells.length e4, .slice E5 (doL s k).vars.length e5, .slice E6 (doL s k).out.length e6, .slice E7 (doL s k).inp.length e7, .int .i64 (doL s k).fault, .int .i64 (doL s k).fuel] 32))
    go_wp2_with fail
    refine (toSt_calls s _ _ (HV.out.keepB HB.out) hsm.out).mono ?_
    rintro e w4 ⟨v4, rfl, O4, hb⟩
    clear cKA fKA zKA
    replace KA := Lib.hid (blk_call KA.out hb)
    replace KW := Lib.hid (blk_call KW.out hb)
    replace HW := Lib.hid (HW.out.call hb)
    replace HB := Lib.hid (bl_call HB.out hb)
    obtain ⟨P0, p0, P1, p1, P3, p3, P4, p4, P5, p5, P6, p6, P7, p7, rfl⟩ := O4.k.form
    have HX := Lib.hid (O4.i.low (lo' := w3.heap.size + 1) (by simp))
    have hs4 := hb.size
    simp at hs4
    clear O4
    clear hb
    have cKA := blk_cell KA.out
    have fKA := blk_frozen KA.out
    have zKA := blk_lt KA.out
    have cKW := blk_cell KW.out
    have fKW := blk_frozen KW.out
    have zKW := blk_lt KW.out
    clear cKA fKA zKA cKW fKW zKW
    have cKA := blk_cell KA.out
    have fKA := blk_frozen KA.out
    have zKA := blk_lt KA.out
    have cKW := blk_cell KW.out
    have fKW := blk_frozen KW.out
    have zKW := blk_lt KW.out
    replace KA := Lib.hid (blk_alloc KA.out (.cells #[.slice P0 s.data.length p0, .slice P1 s.ret.length p1, .int .i32 s.a, .slice P3 s.mem.length p3, .slice P4 s.cells.length p4, .slice P5 s.vars.length p5, .slice P6 s.out.length p6, .slice P7 s.inp.length p7, .int .i64 s.fault, .int .i64 s.fuel] 32))
    replace KW := Lib.hid (blk_alloc KW.out (.cells #[.slice P0 s.data.length p0, .slice P1 s.ret.length p1, .int .i32 s.a, .slice P3 s.mem.length p3, .slice P4 s.cells.length p4, .slice P5 s.vars.length p5, .slice P6 s.out.length p6, .slice P7 s.inp.length p7, .int .i64 s.fault, .int .i64 s.fuel] 32))
    have KX := Lib.hid (blk_new w4 (.cells #[.slice P0 s.data.length p0, .slice P1 s.ret.length p1, .int .i32 s.a, .slice P3 s.mem.length p3, .slice P4 s.cells.length p4, .slice P5 s.vars.length p5, .slice P6 s.out.length p6, .slice P7 s.inp.length p7, .int .i64 s.fault, .int .i64 s.fuel] 32))
    replace HW := Lib.hid (HW.out.call (bl_alloc (Below.refl _ _) (.cells #[.slice P0 s.data.length p0, .slice P1 s.ret.length p1, .int .i32 s.a, .slice P3 s.mem.length p3, .slice P4 s.cells.length p4, .slice P5 s.vars.length p5, .slice P6 s.out.length p6, .slice P7 s.inp.length p7, .int .i64 s.fault, .int .i64 s.fuel] 32)))
    replace HX := Lib.hid (HX.out.call (bl_alloc (Below.refl _ _) (.cells #[.slice P0 s.data.length p0, .slice P1 s.ret.length p1, .int .i32 s.a, .slice P3 s.mem.length p3, .slice P4 s.cells.length p4, .slice P5 s.vars.length p5, .slice P6 s.out.length p6, .slice P7 s.inp.length p7, .int .i64 s.fault, .int .i64 s.fuel] 32)))
    replace HB := Lib.hid (bl_alloc HB.out (.cells #[.slice P0 s.data.length p0, .slice P1 s.ret.length p1, .int .i32 s.a, .slice P3 s.mem.length p3, .slice P4 s.cells.length p4, .slice P5 s.vars.length p5, .slice P6 s.out.length p6, .slice P7 s.inp.length p7, .int .i64 s.fault, .int .i64 s.fuel] 32))
    go_wp2_with fail
    refine (Do_calls s _ k _ HX.out.o.k HS.out HWF.out (HAS.out.call HB.out) (HPW.out.call HB.out)).mono ?_
    rintro e w5 ⟨v5, rfl, O5, hb⟩
    clear cKA fKA zKA cKW fKW zKW
    replace KA := Lib.hid (blk_call KA.out hb)
    replace KW := Lib.hid (blk_call KW.out hb)
    replace KX := Lib.hid (blk_call KX.out hb)
    replace HW := Lib.hid (HW.out.call hb)
    replace HX := Lib.hid (HX.out.call hb)
    replace HB := Lib.hid (bl_call HB.out hb)
    obtain ⟨Q0, q0, Q1, q1, Q3, q3, Q4, q4, Q5, q5, Q6, q6, Q7, q7, rfl⟩ := O5.k.form
    have HG := Lib.hid (O5.i.low (lo' := w4.heap.size + 1) (by simp))
    have hs5 := hb.size
    simp at hs5
    clear O5
    clear hb
    have cKA := blk_cell KA.out
    have fKA := blk_frozen KA.out
    have zKA := blk_lt KA.out
    have cKW := blk_cell KW.out
    have fKW := blk_frozen KW.out
    have zKW := blk_lt KW.out
    have cKX := blk_cell KX.out
    have fKX := blk_frozen KX.out
    have zKX := blk_lt KX.out
    clear cKA fKA zKA cKW fKW zKW cKX fKX zKX
    have cKA := blk_cell KA.out
    have fKA := blk_frozen KA.out
    have zKA := blk_lt KA.out
    have cKW := blk_cell KW.out
    have fKW := blk_frozen KW.out
    have zKW := blk_lt KW.out
    have cKX := blk_cell KX.out
    have fKX := blk_frozen KX.out
    have zKX := blk_lt KX.out
    replace KA := Lib.hid (blk_alloc KA.out (.cells #[.slice Q0 (doL s k).data.length q0, .slice Q1 (doL s k).ret.length q1, .int .i32 (doL s k).a, .slice Q3 (doL s k).mem.length q3, .slice Q4 (doL s k).cells.length q4, .slice Q5 (doL s k).vars.length q5, .slice Q6 (doL s k).out.length q6, .slice Q7 (doL s k).inp.length q7, .int .i64 (doL s k).fault, .int .i64 (doL s k).fuel] 32))
    replace KW := Lib.hid (blk_alloc KW.out (.cells #[.slice Q0 (doL s k).data.length q0, .slice Q1 (doL s k).ret.length q1, .int .i32 (doL s k).a, .slice Q3 (doL s k).mem.length q3, .slice Q4 (doL s k).cells.length q4, .slice Q5 (doL s k).vars.length q5, .slice Q6 (doL s k).out.length q6, .slice Q7 (doL s k).inp.length q7, .int .i64 (doL s k).fault, .int .i64 (doL s k).fuel] 32))
    replace KX := Lib.hid (blk_alloc KX.out (.cells #[.slice Q0 (doL s k).data.length q0, .slice Q1 (doL s k).ret.length q1, .int .i32 (doL s k).a, .slice Q3 (doL s k).mem.length q3, .slice Q4 (doL s k).cells.length q4, .slice Q5 (doL s k).vars.length q5, .slice Q6 (doL s k).out.length q6, .slice Q7 (doL s k).inp.length q7, .int .i64 (doL s k).fault, .int .i64 (doL s k).fuel] 32))
    have KG := Lib.hid (blk_new w5 (.cells #[.slice Q0 (doL s k).data.length q0, .slice Q1 (doL s k).ret.length q1, .int .i32 (doL s k).a, .slice Q3 (doL s k).mem.length q3, .slice Q4 (doL s k).cells.length q4, .slice Q5 (doL s k).vars.length q5, .slice Q6 (doL s k).out.length q6, .slice Q7 (doL s k).inp.length q7, .int .i64 (doL s k).fault, .int .i64 (doL s k).fuel] 32))
    replace HW := Lib.hid (HW.out.call (bl_alloc (Below.refl _ _) (.cells #[.slice Q0 (doL s k).data.length q0, .slice Q1 (doL s k).ret.length q1, .int .i32 (doL s k).a, .slice Q3 (doL s k).mem.length q3, .slice Q4 (doL s k).cells.length q4, .slice Q5 (doL s k).vars.length q5, .slice Q6 (doL s k).out.length q6, .slice Q7 (doL s k).inp.length q7, .int .i64 (doL s k).fault, .int .i64 (doL s k).fuel] 32)))
    replace HX := Lib.hid (HX.out.call (bl_alloc (Below.refl _ _) (.cells #[.slice Q0 (doL s k).data.length q0, .slice Q1 (doL s k).ret.length q1, .int .i32 (doL s k).a, .slice Q3 (doL s k).mem.length q3, .slice Q4 (doL s k).cells.length q4, .slice Q5 (doL s k).vars.length q5, .slice Q6 (doL s k).out.length q6, .slice Q7 (doL s k).inp.length q7, .int .i64 (doL s k).fault, .int .i64 (doL s k).fuel] 32)))
    replace HG := Lib.hid (HG.out.call (bl_alloc (Below.refl _ _) (.cells #[.slice Q0 (doL s k).data.length q0, .slice Q1 (doL s k).ret.length q1, .int .i32 (doL s k).a, .slice Q3 (doL s k).mem.length q3, .slice Q4 (doL s k).cells.length q4, .slice Q5 (doL s k).vars.length q5, .slice Q6 (doL s k).out.length q6, .slice Q7 (doL s k).inp.length q7, .int .i64 (doL s k).fault, .int .i64 (doL s k).fuel] 32)))
    replace HB := Lib.hid (bl_alloc HB.out (.cells #[.slice Q0 (doL s k).data.length q0, .slice Q1 (doL s k).ret.length q1, .int .i32 (doL s k).a, .slice Q3 (doL s k).mem.length q3, .slice Q4 (doL s k).cells.length q4, .slice Q5 (doL s k).vars.length q5, .slice Q6 (doL s k).out.length q6, .slice Q7 (doL s k).inp.length q7, .int .i64 (doL s k).fault, .int .i64 (doL s k).fuel] 32))
    go_wp2_with fail
    refine (eqSt_calls (doL s k) _ _ _ HG.out.o.k HW.out.o.k hfs.out).mono ?_
    rintro e w6 ⟨rfl, hb⟩
    clear cKA fKA zKA cKW fKW zKW cKX fKX zKX
    replace KA := Lib.hid (blk_call KA.out hb)
    replace KW := Lib.hid (blk_call KW.out hb)
    replace KX := Lib.hid (blk_call KX.out hb)
    replace KG := Lib.hid (blk_call KG.out hb)
    replace HW := Lib.hid (HW.out.call hb)
    replace HX := Lib.hid (HX.out.call hb)
    replace HG := Lib.hid (HG.out.call hb)
    replace HB := Lib.hid (bl_call HB.out hb)
    clear hb
    have cKA := blk_cell KA.out
    have fKA := blk_frozen KA.out
    have zKA := blk_lt KA.out
    have cKW := blk_cell KW.out
    have fKW := blk_frozen KW.out
    have zKW := blk_lt KW.out
    have cKX := blk_cell KX.out
    have fKX := blk_frozen KX.out
    have zKX := blk_lt KX.out
    have cKG := blk_cell KG.out
    have fKG := blk_frozen KG.out
    have zKG := blk_lt KG.out
    go_wp2_with fail
    go_region_with (first
      | (go_at_call 8; refine (toSt_calls s _ _ (HV.out.keepB ?_) hsm.out).mono ?_; exact (by with_reducible repeat (first | exact HB.out | apply bl_drew | apply bl_drewN)); rintro e w8 ⟨v8, rfl, O8, hb8⟩; have HX8 := Lib.hid (show Below w6.heap.size w6 w8 from bl_call (by with_reducible repeat (first | exact Below.refl _ _ | apply bl_drew | apply bl_drewN)) hb8); obtain ⟨R0, r0, R1, r1, R3, r3, R4, r4, R5, r5, R6, r6, R7, r7, rfl⟩ := O8.k.form; have K8 := Lib.hid O8.k; have cX8 := blk_cell (blk_call KX.out HX8.out); have fX8 := blk_frozen (blk_call KX.out HX8.out); have zX8 := blk_lt (blk_call KX.out HX8.out); clear O8 hb8)
      | (go_at_call 10; refine (eqSt_calls s _ _ _ (HX.out.o.k.keepB HX8.out) K8.out hsm2.out).mono ?_; rintro e w9 ⟨rfl, hb9⟩; have HX9 := Lib.hid (bl_call HX8.out hb9); clear hb9))
    all_goals
      clear cKA fKA zKA cKW fKW zKW cKX fKX zKX cKG fKG zKG
      replace KA := Lib.hid (blk_call KA.out HX9.out)
      replace KW := Lib.hid (blk_call KW.out HX9.out)
      replace KX := Lib.hid (blk_call KX.out HX9.out)
      replace KG := Lib.hid (blk_call KG.out HX9.out)
      replace HW := Lib.hid (HW.out.call HX9.out)
      replace HX := Lib.hid (HX.out.call HX9.out)
      replace HG := Lib.hid (HG.out.call HX9.out)
      replace HB := Lib.hid (bl_call HB.out HX9.out)
      have hs9 := HX9.out.size
      clear HX8 K8 HX9
      have cKA := blk_cell KA.out
      have fKA := blk_frozen KA.out
      have zKA := blk_lt KA.out
      have cKW := blk_cell KW.out
      have fKW := blk_frozen KW.out
      have zKW := blk_lt KW.out
      have cKX := blk_cell KX.out
      have fKX := blk_frozen KX.out
      have zKX := blk_lt KX.out
      have cKG := blk_cell KG.out
      have fKG := blk_frozen KG.out
      have zKG := blk_lt KG.out
      have hg7 := HB.out.size
      go_wp2_with fail
      refine (markSt_calls 1 s _ _ _ _ HX.out hsm2.out (by omega) (by omega) (by omega) (by omega)).mono ?_
      rintro e w10 ⟨rfl, M10, hf⟩
      clear cKA fKA zKA cKW fKW zKW cKX fKX zKX cKG fKG zKG
      replace KA := Lib.hid ((hf.block _ (blk_lt KA.out) (.inl (by omega))).trans KA.out)
      replace KW := Lib.hid ((hf.block _ (blk_lt KW.out) (.inl (by omega))).trans KW.out)
      replace KG := Lib.hid ((hf.block _ (blk_lt KG.out) (.inr (by omega))).trans KG.out)
      replace HW := Lib.hid (HW.out.frame hf (.inl (by omega)))
      replace HG := Lib.hid (HG.out.frame hf (.inr (by omega)))
      replace HB := Lib.hid (HB.out.trans (hf.below (by omega) HB.out.size))
      have hs10 := hf.size
      have hnn : ¬ (mkStN 1 s < 0) := by unfold mkStN; omega
      clear hf M10 HX KX
      have cKA := blk_cell KA.out
      have fKA := blk_frozen KA.out
      have zKA := blk_lt KA.out
      have cKW := blk_cell KW.out
      have fKW := blk_frozen KW.out
      have zKW := blk_lt KW.out
      have cKG := blk_cell KG.out
      have fKG := blk_frozen KG.out
      have zKG := blk_lt KG.out
      go_wp2_with fail
      refine (eqSt_calls (doL s k) _ _ _ HG.out.o.k HW.out.o.k hfs.out).mono ?_
      rintro e w11 ⟨rfl, hb⟩
      clear cKA fKA zKA cKW fKW zKW cKG fKG zKG
      replace KA := Lib.hid (blk_call KA.out hb)
      replace KW := Lib.hid (blk_call KW.out hb)
      replace KG := Lib.hid (blk_call KG.out hb)
      replace HW := Lib.hid (HW.out.call hb)
      replace HG := Lib.hid (HG.out.call hb)
      replace HB := Lib.hid (bl_call HB.out hb)
      have hs11 := hb.size
      clear hb
      have cKA := blk_cell KA.out
      have fKA := blk_frozen KA.out
      have zKA := blk_lt KA.out
      have cKW := blk_cell KW.out
      have fKW := blk_frozen KW.out
      have zKW := blk_lt KW.out
      have cKG := blk_cell KG.out
      have fKG := blk_frozen KG.out
      have zKG := blk_lt KG.out
      go_wp2_with fail
      refine (markSt_calls 1 (doL s k) _ _ _ _ HG.out hfs.out (by omega) (by omega) (by omega) (by omega)).mono ?_
      rintro e w12 ⟨rfl, M12, hf⟩
      clear cKA fKA zKA cKW fKW zKW cKG fKG zKG
      replace KA := Lib.hid ((hf.block _ (blk_lt KA.out) (.inl (by omega))).trans KA.out)
      replace KW := Lib.hid ((hf.block _ (blk_lt KW.out) (.inl (by omega))).trans KW.out)
      replace KG := Lib.hid ((hf.block _ (blk_lt KG.out) (.inr (by omega))).trans KG.out)
      replace HW := Lib.hid (HW.out.frame hf (.inl (by omega)))
      replace HB := Lib.hid (HB.out.trans (hf.below (by omega) HB.out.size))
      have HM := Lib.hid M12
      have hs12 := hf.size
      clear hf M12 HG
      have cKA := blk_cell KA.out
      have fKA := blk_frozen KA.out
      have zKA := blk_lt KA.out
      have cKW := blk_cell KW.out
      have fKW := blk_frozen KW.out
      have zKW := blk_lt KW.out
      have cKG := blk_cell KG.out
      have fKG := blk_frozen KG.out
      have zKG := blk_lt KG.out
      go_wp2_with fail
      refine (heldSt_calls 1 (doL s k) _ _ HM.out.o.k hfs.out (by omega) (by omega)).mono ?_
      rintro e w13 ⟨rfl, hb⟩
      clear cKA fKA zKA cKW fKW zKW cKG fKG zKG
      replace KA := Lib.hid (blk_call KA.out hb)
      replace KW := Lib.hid (blk_call KW.out hb)
      replace KG := Lib.hid (blk_call KG.out hb)
      replace HW := Lib.hid (HW.out.call hb)
      replace HM := Lib.hid (HM.out.call hb)
      replace HB := Lib.hid (bl_call HB.out hb)
      clear hb
      have hnf : ¬ (mkStN 1 (doL s k) < 0) := by unfold mkStN; omega
      have cKA := blk_cell KA.out
      have fKA := blk_frozen KA.out
      have zKA := blk_lt KA.out
      have cKW := blk_cell KW.out
      have fKW := blk_frozen KW.out
      have zKW := blk_lt KW.out
      have cKG := blk_cell KG.out
      have fKG := blk_frozen KG.out
      have zKG := blk_lt KG.out
      go_wp2_with fail
      refine (toSt_calls s _ _ (HV.out.keepB HB.out) hsm.out).mono ?_
      rintro e w14 ⟨v14, rfl, O14, hb⟩
      clear cKA fKA zKA cKW fKW zKW cKG fKG zKG
      replace KA := Lib.hid (blk_call KA.out hb)
      replace KW := Lib.hid (blk_call KW.out hb)
      replace KG := Lib.hid (blk_call KG.out hb)
      replace HW := Lib.hid (HW.out.call hb)
      replace HM := Lib.hid (HM.out.call hb)
      replace HB := Lib.hid (bl_call HB.out hb)
      obtain ⟨T0, t0, T1, t1, T3, t3, T4, t4, T5, t5, T6, t6, T7, t7, rfl⟩ := O14.k.form
      have K14 := Lib.hid O14.k
      clear hb O14
      have cKA := blk_cell KA.out
      have fKA := blk_frozen KA.out
      have zKA := blk_lt KA.out
      have cKW := blk_cell KW.out
      have fKW := blk_frozen KW.out
      have zKW := blk_lt KW.out
      have cKG := blk_cell KG.out
      have fKG := blk_frozen KG.out
      have zKG := blk_lt KG.out
      go_wp2_with fail
      refine (Do_calls s _ k _ K14.out HS.out HWF.out (HAS.out.call HB.out) (HPW.out.call HB.out)).mono ?_
      rintro e w15 ⟨v15, rfl, O15, hb⟩
      clear cKA fKA zKA cKW fKW zKW cKG fKG zKG
      replace KA := Lib.hid (blk_call KA.out hb)
      replace KW := Lib.hid (blk_call KW.out hb)
      replace KG := Lib.hid (blk_call KG.out hb)
      replace HW := Lib.hid (HW.out.call hb)
      replace HM := Lib.hid (HM.out.call hb)
      replace HB := Lib.hid (bl_call HB.out hb)
      obtain ⟨U0, u0, U1, u1, U3, u3, U4, u4, U5, u5, U6, u6, U7, u7, rfl⟩ := O15.k.form
      have HH := Lib.hid O15.i
      clear hb O15 K14
      have cKA := blk_cell KA.out
      have fKA := blk_frozen KA.out
      have zKA := blk_lt KA.out
      have cKW := blk_cell KW.out
      have fKW := blk_frozen KW.out
      have zKW := blk_lt KW.out
      have cKG := blk_cell KG.out
      have fKG := blk_frozen KG.out
      have zKG := blk_lt KG.out
      replace KA := Lib.hid (blk_alloc KA.out (.cells #[.slice U0 (doL s k).data.length u0, .slice U1 (doL s k).ret.length u1, .int .i32 (doL s k).a, .slice U3 (doL s k).mem.length u3, .slice U4 (doL s k).cells.length u4, .slice U5 (doL s k).vars.length u5, .slice U6 (doL s k).out.length u6, .slice U7 (doL s k).inp.length u7, .int .i64 (doL s k).fault, .int .i64 (doL s k).fuel] 32))
      replace KW := Lib.hid (blk_alloc KW.out (.cells #[.slice U0 (doL s k).data.length u0, .slice U1 (doL s k).ret.length u1, .int .i32 (doL s k).a, .slice U3 (doL s k).mem.length u3, .slice U4 (doL s k).cells.length u4, .slice U5 (doL s k).vars.length u5, .slice U6 (doL s k).out.length u6, .slice U7 (doL s k).inp.length u7, .int .i64 (doL s k).fault, .int .i64 (doL s k).fuel] 32))
      replace KG := Lib.hid (blk_alloc KG.out (.cells #[.slice U0 (doL s k).data.length u0, .slice U1 (doL s k).ret.length u1, .int .i32 (doL s k).a, .slice U3 (doL s k).mem.length u3, .slice U4 (doL s k).cells.length u4, .slice U5 (doL s k).vars.length u5, .slice U6 (doL s k).out.length u6, .slice U7 (doL s k).inp.length u7, .int .i64 (doL s k).fault, .int .i64 (doL s k).fuel] 32))
      replace HW := Lib.hid (HW.out.call (bl_alloc (Below.refl _ _) (.cells #[.slice U0 (doL s k).data.length u0, .slice U1 (doL s k).ret.length u1, .int .i32 (doL s k).a, .slice U3 (doL s k).mem.length u3, .slice U4 (doL s k).cells.length u4, .slice U5 (doL s k).vars.length u5, .slice U6 (doL s k).out.length u6, .slice U7 (doL s k).inp.length u7, .int .i64 (doL s k).fault, .int .i64 (doL s k).fuel] 32)))
      replace HM := Lib.hid (HM.out.call (bl_alloc (Below.refl _ _) (.cells #[.slice U0 (doL s k).data.length u0, .slice U1 (doL s k).ret.length u1, .int .i32 (doL s k).a, .slice U3 (doL s k).mem.length u3, .slice U4 (doL s k).cells.length u4, .slice U5 (doL s k).vars.length u5, .slice U6 (doL s k).out.length u6, .slice U7 (doL s k).inp.length u7, .int .i64 (doL s k).fault, .int .i64 (doL s k).fuel] 32)))
      replace HH := Lib.hid (HH.out.call (bl_alloc (Below.refl _ _) (.cells #[.slice U0 (doL s k).data.length u0, .slice U1 (doL s k).ret.length u1, .int .i32 (doL s k).a, .slice U3 (doL s k).mem.length u3, .slice U4 (doL s k).cells.length u4, .slice U5 (doL s k).vars.length u5, .slice U6 (doL s k).out.length u6, .slice U7 (doL s k).inp.length u7, .int .i64 (doL s k).fault, .int .i64 (doL s k).fuel] 32)))
      replace HB := Lib.hid (bl_alloc HB.out (.cells #[.slice U0 (doL s k).data.length u0, .slice U1 (doL s k).ret.length u1, .int .i32 (doL s k).a, .slice U3 (doL s k).mem.length u3, .slice U4 (doL s k).cells.length u4, .slice U5 (doL s k).vars.length u5, .slice U6 (doL s k).out.length u6, .slice U7 (doL s k).inp.length u7, .int .i64 (doL s k).fault, .int .i64 (doL s k).fuel] 32))
      go_wp2_with fail
      refine (eqSt_calls (doL s k) _ _ _ HH.out.o.k HW.out.o.k hfs.out).mono ?_
      rintro e w16 ⟨rfl, hb⟩
      clear cKA fKA zKA cKW fKW zKW cKG fKG zKG
      replace KA := Lib.hid (blk_call KA.out hb)
      replace KW := Lib.hid (blk_call KW.out hb)
      replace KG := Lib.hid (blk_call KG.out hb)
      replace HW := Lib.hid (HW.out.call hb)
      replace HM := Lib.hid (HM.out.call hb)
      replace HB := Lib.hid (bl_call HB.out hb)
      clear hb HH
      have cKA := blk_cell KA.out
      have fKA := blk_frozen KA.out
      have zKA := blk_lt KA.out
      have cKW := blk_cell KW.out
      have fKW := blk_frozen KW.out
      have zKW := blk_lt KW.out
      have cKG := blk_cell KG.out
      have fKG := blk_frozen KG.out
      have zKG := blk_lt KG.out
      go_wp2_with fail
      refine (heldSt_calls 1 (doL s k) _ _ HM.out.o.k hfs.out (by omega) (by omega)).mono ?_
      rintro e w17 ⟨rfl, hb⟩
      clear cKA fKA zKA cKW fKW zKW cKG fKG zKG
      replace KA := Lib.hid (blk_call KA.out hb)
      replace KW := Lib.hid (blk_call KW.out hb)
      replace KG := Lib.hid (blk_call KG.out hb)
      replace HW := Lib.hid (HW.out.call hb)
      replace HM := Lib.hid (HM.out.call hb)
      replace HB := Lib.hid (bl_call HB.out hb)
      clear hb
      have hnf : ¬ (mkStN 1 (doL s k) < 0) := by unfold mkStN; omega
      have cKA := blk_cell KA.out
      have fKA := blk_frozen KA.out
      have zKA := blk_lt KA.out
      have cKW := blk_cell KW.out
      have fKW := blk_frozen KW.out
      have zKW := blk_lt KW.out
      have cKG := blk_cell KG.out
      have fKG := blk_frozen KG.out
      have zKG := blk_lt KG.out
      go_wp2_with fail
      go_ret
      exact ⟨rfl, HB.out⟩
end Go.Proofs.YtgljbcdlldhlfaaDoor

/- The law FnExactWorldOk, walked. -/
import Derived.Test.YtjciibhaifabjaaDoorWs
import Derived.Deep.RegionWith
set_option linter.unusedVariables false
set_option linter.unusedSimpArgs false
namespace Go.Proofs.YtjciibhaifabjaaDoor
open Go.RowKit

theorem szDs_val {ys zs : List DDef} (h : ys.map DDef.val = zs.map DDef.val) : szDs ys = szDs zs := by
  have e : ∀ l : List DDef, szDs l = ((l.map DDef.val).map fun v => v.1.size + v.2.length).sum := fun l => by
    rw [szDs, List.map_map]
    rfl
  rw [e, e, h]
theorem LW.low.val {x : LW} {ys : List DDef} (h : x.low) (hv : ys.map DDef.val = x.defs.map DDef.val) : LW.low { x with defs := ys } :=
  ⟨by show ys.length + szDs ys ≤ 1048576; rw [szDs_val hv, val_len hv]; exact h.defs, h.dict, h.st⟩
set_option maxRecDepth 100000 in
set_option maxHeartbeats 4000000 in
theorem lawWorldOk_calls (x : LW) (v : Value) (w : World) (hA : Asc w) (hv : WK w x v) (hs : x.small) :
    Calls Tryd.prog 4 #[v] w fun e w' => e = .returned (.bool true) ∧ Below w.heap.size w w' := by
  have hd : DefsR w x.defs := by
    obtain ⟨A, a, B, b, D0, d0, D1, d1, D3, d3, D4, d4, D5, d5, D6, d6, D7, d7, rfl, -, h, -⟩ := hv
    exact h
  have he : EntR x.dict := by
    obtain ⟨A, a, B, b, D0, d0, D1, d1, D3, d3, D4, d4, D5, d5, D6, d6, D7, d7, rfl, -, -, -, h, -⟩ := hv
    exact h
  obtain ⟨A, a, B, b0, D0, d0, D1, d1, D3, d3, D4, d4, D5, d5, D6, d6, D7, d7, rfl⟩ := hv.form
  have HA := Lib.hid hA
  have HV := Lib.hid hv
  have HD := Lib.hid hd
  have HE := Lib.hid he
  have hsm := Lib.hid hs
  obtain ⟨b, hbv⟩ : ∃ b, worldOk x = b := ⟨_, rfl⟩
  have HBV := Lib.hid hbv
  have KA := Lib.hid (blk_new w (.cells #[.slice A x.defs.length a, .slice B x.dict.length b0, .slice D0 x.st.data.length d0, .slice D1 x.st.ret.length d1, .int .i32 x.st.a, .slice D3 x.st.mem.length d3, .slice D4 x.st.cells.length d4, .slice D5 x.st.vars.length d5, .slice D6 x.st.out.length d6, .slice D7 x.st.inp.length d7, .int .i64 x.st.fault, .int .i64 x.st.fuel, .bool x.opn, .bool x.yel] 51))
  have HB := Lib.hid (bl_alloc (Below.refl _ w) (.cells #[.slice A x.defs.length a, .slice B x.dict.length b0, .slice D0 x.st.data.length d0, .slice D1 x.st.ret.length d1, .int .i32 x.st.a, .slice D3 x.st.mem.length d3, .slice D4 x.st.cells.length d4, .slice D5 x.st.vars.length d5, .slice D6 x.st.out.length d6, .slice D7 x.st.inp.length d7, .int .i64 x.st.fault, .int .i64 x.st.fuel, .bool x.opn, .bool x.yel] 51))
  clear hv hs hbv hd he hA
  go_enter Tryd.func4, Tryd.ntmps4
  go_wp2_with fail
  refine (szWorld_calls x _ _ (HV.out.keepB HB.out) hsm.out).mono ?_
  rintro e w1 ⟨⟨r, rfl, hr⟩, hb⟩
  replace KA := Lib.hid (blk_call KA.out hb)
  replace HB := Lib.hid (bl_call HB.out hb)
  clear hb
  rcases hr with rfl | ⟨hr0, hlow⟩
  · go_wp2
    go_ret
    exact ⟨rfl, HB.out⟩
  · have hn0 : ¬ (r < 0) := by omega
    replace hlow := Lib.hid hlow
    have cKA := blk_cell KA.out
    have fKA := blk_frozen KA.out
    have zKA := blk_lt KA.out
    clear hr0
    go_wp2_with fail
    refine (toWorld_calls x _ _ (HV.out.keepB HB.out) hlow.out).mono ?_
    rintro e w2 ⟨v2, y2, rfl, hv2, O, hb⟩
    clear cKA fKA zKA
    replace KA := Lib.hid (blk_call KA.out hb)
    replace HB := Lib.hid (bl_call HB.out hb)
    have k := O.k HD.out hv2 HE.out
    obtain ⟨PA, Pa, PB, Pb, P0, p0, P1, p1, P3, p3, P4, p4, P5, p5, P6, p6, P7, p7, rfl⟩ := k.form
    have H2 := Lib.hid k
    clear O k
    clear hb
    have cKA := blk_cell KA.out
    have fKA := blk_frozen KA.out
    have zKA := blk_lt KA.out
    go_wp2_with fail
    refine (specWorldOk_calls { x with defs := y2 } _ _ H2.out (hlow.out.val hv2)).mono ?_
    rintro e w3 ⟨rfl, hb⟩
    clear cKA fKA zKA
    replace KA := Lib.hid (blk_call KA.out hb)
    replace HB := Lib.hid (bl_call HB.out hb)
    clear H2
    rw [show worldOk { x with defs := y2 } = b from (worldOk_val hv2).trans HBV.out]
    clear hb
    have cKA := blk_cell KA.out
    have fKA := blk_frozen KA.out
    have zKA := blk_lt KA.out
    go_wp2_with fail
    refine (toWorld_calls x _ _ (HV.out.keepB HB.out) hlow.out).mono ?_
    rintro e w4 ⟨v3, y3, rfl, hv3, O, hb⟩
    clear cKA fKA zKA
    replace KA := Lib.hid (blk_call KA.out hb)
    replace HB := Lib.hid (bl_call HB.out hb)
    have k := O.k HD.out hv3 HE.out
    obtain ⟨QA, Qa, QB, Qb, Q0, q0, Q1, q1, Q3, q3, Q4, q4, Q5, q5, Q6, q6, Q7, q7, rfl⟩ := k.form
    have H3 := Lib.hid k
    clear O k
    clear hb
    have cKA := blk_cell KA.out
    have fKA := blk_frozen KA.out
    have zKA := blk_lt KA.out
    clear cKA fKA zKA
    have cKA := blk_cell KA.out
    have fKA := blk_frozen KA.out
    have zKA := blk_lt KA.out
    replace KA := Lib.hid (blk_alloc KA.out (.cells #[.slice QA ({ x with defs := y3 } : LW).defs.length Qa, .slice QB ({ x with defs := y3 } : LW).dict.length Qb, .slice Q0 ({ x with defs := y3 } : LW).st.data.length q0, .slice Q1 ({ x with defs := y3 } : LW).st.ret.length q1, .int .i32 ({ x with defs := y3 } : LW).st.a, .slice Q3 ({ x with defs := y3 } : LW).st.mem.length q3, .slice Q4 ({ x with defs := y3 } : LW).st.cells.length q4, .slice Q5 ({ x with defs := y3 } : LW).st.vars.length q5, .slice Q6 ({ x with defs := y3 } : LW).st.out.length q6, .slice Q7 ({ x with defs := y3 } : LW).st.inp.length q7, .int .i64 ({ x with defs := y3 } : LW).st.fault, .int .i64 ({ x with defs := y3 } : LW).st.fuel, .bool ({ x with defs := y3 } : LW).opn, .bool ({ x with defs := y3 } : LW).yel] 57))
    have KX := Lib.hid (blk_new w4 (.cells #[.slice QA ({ x with defs := y3 } : LW).defs.length Qa, .slice QB ({ x with defs := y3 } : LW).dict.length Qb, .slice Q0 ({ x with defs := y3 } : LW).st.data.length q0, .slice Q1 ({ x with defs := y3 } : LW).st.ret.length q1, .int .i32 ({ x with defs := y3 } : LW).st.a, .slice Q3 ({ x with defs := y3 } : LW).st.mem.length q3, .slice Q4 ({ x with defs := y3 } : LW).st.cells.length q4, .slice Q5 ({ x with defs := y3 } : LW).st.vars.length q5, .slice Q6 ({ x with defs := y3 } : LW).st.out.length q6, .slice Q7 ({ x with defs := y3 } : LW).st.inp.length q7, .int .i64 ({ x with defs := y3 } : LW).st.fault, .int .i64 ({ x with defs := y3 } : LW).st.fuel, .bool ({ x with defs := y3 } : LW).opn, .bool ({ x with defs := y3 } : LW).yel] 57))
    replace H3 := Lib.hid (H3.out.keepB (bl_alloc (Below.refl _ _) (.cells #[.slice QA ({ x with defs := y3 } : LW).defs.length Qa, .slice QB ({ x with defs := y3 } : LW).dict.length Qb, .slice Q0 ({ x with defs := y3 } : LW).st.data.length q0, .slice Q1 ({ x with defs := y3 } : LW).st.ret.length q1, .int .i32 ({ x with defs := y3 } : LW).st.a, .slice Q3 ({ x with defs := y3 } : LW).st.mem.length q3, .slice Q4 ({ x with defs := y3 } : LW).st.cells.length q4, .slice Q5 ({ x with defs := y3 } : LW).st.vars.length q5, .slice Q6 ({ x with defs := y3 } : LW).st.out.length q6, .slice Q7 ({ x with defs := y3 } : LW).st.inp.length q7, .int .i64 ({ x with defs := y3 } : LW).st.fault, .int .i64 ({ x with defs := y3 } : LW).st.fuel, .bool ({ x with defs := y3 } : LW).opn, .bool ({ x with defs := y3 } : LW).yel] 57)))
    replace HB := Lib.hid (bl_alloc HB.out (.cells #[.slice QA ({ x with defs := y3 } : LW).defs.length Qa, .slice QB ({ x with defs := y3 } : LW).dict.length Qb, .slice Q0 ({ x with defs := y3 } : LW).st.data.length q0, .slice Q1 ({ x with defs := y3 } : LW).st.ret.length q1, .int .i32 ({ x with defs := y3 } : LW).st.a, .slice Q3 ({ x with defs := y3 } : LW).st.mem.length q3, .slice Q4 ({ x with defs := y3 } : LW).st.cells.length q4, .slice Q5 ({ x with defs := y3 } : LW).st.vars.length q5, .slice Q6 ({ x with defs := y3 } : LW).st.out.length q6, .slice Q7 ({ x with defs := y3 } : LW).st.inp.length q7, .int .i64 ({ x with defs := y3 } : LW).st.fault, .int .i64 ({ x with defs := y3 } : LW).st.fuel, .bool ({ x with defs := y3 } : LW).opn, .bool ({ x with defs := y3 } : LW).yel] 57))
    go_wp2_with fail
    refine (implWorldOk_calls { x with defs := y3 } _ _ (HA.out.call HB.out) H3.out (hlow.out.val hv3)).mono ?_
    rintro e w5 ⟨rfl, hb⟩
    clear cKA fKA zKA
    replace KA := Lib.hid (blk_call KA.out hb)
    replace KX := Lib.hid (blk_call KX.out hb)
    replace H3 := Lib.hid (H3.out.keepB hb)
    replace HB := Lib.hid (bl_call HB.out hb)
    rw [show worldOk { x with defs := y3 } = b from (worldOk_val hv3).trans HBV.out]
    clear hb
    have cKA := blk_cell KA.out
    have fKA := blk_frozen KA.out
    have zKA := blk_lt KA.out
    have cKX := blk_cell KX.out
    have fKX := blk_frozen KX.out
    have zKX := blk_lt KX.out
    go_wp2_with fail
    go_region_with (first
      | (go_at_call 21; refine (toWorld_calls x _ _ (HV.out.keepB ?_) hlow.out).mono ?_; exact (by with_reducible repeat (first | exact HB.out | apply bl_drew | apply bl_drewN)); rintro e wr ⟨v4, y4, rfl, hv4, O, hb8⟩; have HX8 := Lib.hid (show Below w5.heap.size w5 wr from bl_call (by with_reducible repeat (first | exact Below.refl _ _ | apply bl_drew | apply bl_drewN)) hb8); have k8 := O.k HD.out hv4 HE.out; obtain ⟨RA, Ra, RB, Rb, R0, r0, R1, r1, R3, r3, R4, r4, R5, r5, R6, r6, R7, r7, rfl⟩ := k8.form; have K8 := Lib.hid k8; have cX8 := blk_cell (blk_call KX.out HX8.out); have fX8 := blk_frozen (blk_call KX.out HX8.out); have zX8 := blk_lt (blk_call KX.out HX8.out); clear O k8 hb8)
      | (go_at_call 23; refine (eqWorld_calls { x with defs := y4 } y3 _ _ _ (H3.out.keepB HX8.out) K8.out (hv3.trans hv4.symm) ⟨(by have h := val_len hv4; have k := hsm.out.defs; show y4.length ≤ _; omega), hsm.out.dict, hsm.out.st⟩).mono ?_; rintro e ws ⟨rfl, hb9⟩; have HX9 := Lib.hid (bl_call HX8.out hb9); clear hb9))
    all_goals
      go_wp2_with fail
      go_ret
      exact ⟨rfl, bl_call HB.out HX9.out⟩
end Go.Proofs.YtjciibhaifabjaaDoor

/- The law FnExactKnown, walked. -/
import Derived.Test.YtjciibhaifabjaaDoorKs
import Derived.Test.YtjciibhaifabjaaDoorMs
import Derived.Test.YtjciibhaifabjaaDoorMx
import Derived.Test.YtjciibhaifabjaaDoorLwWorldOk
import Derived.Deep.RegionWith
import Derived.Deep.Cut
import Derived.Deep.CutRange
import Derived.Outline
set_option linter.unusedVariables false
set_option linter.unusedSimpArgs false
namespace Go.Proofs.YtjciibhaifabjaaDoor
open Go.RowKit

theorem knownW_val {x : LW} {ys : List DDef} (h : ys.map DDef.val = x.defs.map DDef.val) : knownW { x with defs := ys } = knownW x := by
  unfold knownW
  rw [worldOk_val h]
theorem foldl_addName_len : ∀ (l : List LEntry) (out : List ByteArray), (l.foldl addName out).length ≤ out.length + l.length
  | [], out => by simp
  | e :: l, out => by
    rw [List.foldl_cons, List.length_cons]
    have h1 := foldl_addName_len l (addName out e)
    have h2 := addName_len out e
    omega
theorem knownW_len (x : LW) : (knownW x).length ≤ x.dict.length := by
  unfold knownW
  split
  · have := foldl_addName_len x.dict.reverse []
    simpa [knownL] using this
  · simp
set_option maxRecDepth 100000 in
set_option maxHeartbeats 4000000 in
theorem lawKnown_calls (x : LW) (v : Value) (w : World) (hA : Asc w) (hv : WK w x v) (hs : x.small) :
    Calls Tryd.prog 5 #[v] w fun e w' => e = .returned (.bool true) ∧ Below w.heap.size w w' := by
  have hd : DefsR w x.defs := by
    obtain ⟨A, a, B, b, D0, d0, D1, d1, D3, d3, D4, d4, D5, d5, D6, d6, D7, d7, rfl, -, h, -⟩ := hv
    exact h
  have he : EntR x.dict := by
    obtain ⟨A, a, B, b, D0, d0, D1, d1, D3, d3, D4, d4, D5, d5, D6, d6, D7, d7, rfl, -, -, -, h, -⟩ := hv
    exact h
  obtain ⟨A, a, B, b0, D0, d0, D1, d1, D3, d3, D4, d4, D5, d5, D6, d6, D7, d7, rfl⟩ := hv.form
  have HA := Lib.hid hA
  have HV := Lib.hid hv
  have HD := Lib.hid hd
  have HE := Lib.hid he
  have hsm := Lib.hid hs
  have hkl0 := knownW_len x
  have hdd := hs.dict
  obtain ⟨ks, hks⟩ : ∃ ks, knownW x = ks := ⟨_, rfl⟩
  have HKS := Lib.hid hks
  rw [hks] at hkl0
  have hkl := Lib.hid (show ks.length ≤ 140737488355328 by omega)
  have KA := Lib.hid (blk_new w (.cells #[.slice A x.defs.length a, .slice B x.dict.length b0, .slice D0 x.st.data.length d0, .slice D1 x.st.ret.length d1, .int .i32 x.st.a, .slice D3 x.st.mem.length d3, .slice D4 x.st.cells.length d4, .slice D5 x.st.vars.length d5, .slice D6 x.st.out.length d6, .slice D7 x.st.inp.length d7, .int .i64 x.st.fault, .int .i64 x.st.fuel, .bool x.opn, .bool x.yel] 51))
  have HB := Lib.hid (bl_alloc (Below.refl _ w) (.cells #[.slice A x.defs.length a, .slice B x.dict.length b0, .slice D0 x.st.data.length d0, .slice D1 x.st.ret.length d1, .int .i32 x.st.a, .slice D3 x.st.mem.length d3, .slice D4 x.st.cells.length d4, .slice D5 x.st.vars.length d5, .slice D6 x.st.out.length d6, .slice D7 x.st.inp.length d7, .int .i64 x.st.fault, .int .i64 x.st.fuel, .bool x.opn, .bool x.yel] 51))
  clear hv hs hks hd he hA
  go_enter Tryd.func5, Tryd.ntmps5
  go_wp2_with fail
  refine (szWorld_calls x _ _ (HV.out.keepB HB.out) hsm.out).mono ?_
  rintro e w1 ⟨⟨r, rfl, hr⟩, hb⟩
  replace KA := Lib.hid (blk_call KA.out hb)
  replace HB := Lib.hid (bl_call HB.out hb)
  have hw1 := HB.out.size
  have hw1k := blk_lt KA.out
  clear hb
  rcases hr with rfl | ⟨hr0, hlow⟩
  · go_wp2
    go_ret
    exact ⟨rfl, HB.out⟩
  · have hn0 : ¬ (r < 0) := by omega
    replace hlow := Lib.hid hlow
    have cKA := blk_cell KA.out
    have fKA := blk_frozen KA.out
    have zKA := blk_lt KA.out
    clear hr0
    go_wp2_with fail
    refine (toWorld_calls x _ _ (HV.out.keepB HB.out) hlow.out).mono ?_
    rintro e w2 ⟨v2, y2, rfl, hv2, O, hb⟩
    clear cKA fKA zKA
    replace KA := Lib.hid (blk_call KA.out hb)
    replace HB := Lib.hid (bl_call HB.out hb)
    have hs2 := hb.size
    (try simp at hs2)
    have k := O.k HD.out hv2 HE.out
    obtain ⟨PA, Pa, PB, Pb, P0, p0, P1, p1, P3, p3, P4, p4, P5, p5, P6, p6, P7, p7, rfl⟩ := k.form
    have H2 := Lib.hid k
    clear O k
    clear hb
    have cKA := blk_cell KA.out
    have fKA := blk_frozen KA.out
    have zKA := blk_lt KA.out
    go_wp2_with fail
    refine (specKnown_calls { x with defs := y2 } _ _ H2.out (hlow.out.val hv2)).mono ?_
    rintro e w3 ⟨WB, wd, wb, rfl, R, low, hb⟩
    clear cKA fKA zKA
    replace KA := Lib.hid (blk_call KA.out hb)
    replace HB := Lib.hid (bl_call HB.out hb)
    have hs3 := hb.size
    (try simp at hs3)
    clear H2
    rw [show knownW { x with defs := y2 } = ks from (knownW_val hv2).trans HKS.out] at R ⊢
    have TW := Lib.hid R
    have zW := Lib.hid (fun g (e : wb = some g) => R.lt g e)
    clear R low
    clear hb
    have cKA := blk_cell KA.out
    have fKA := blk_frozen KA.out
    have zKA := blk_lt KA.out
    go_wp2_with fail
    refine (toWorld_calls x _ _ (HV.out.keepB HB.out) hlow.out).mono ?_
    rintro e w4 ⟨v3, y3, rfl, hv3, O, hb⟩
    clear cKA fKA zKA
    replace KA := Lib.hid (blk_call KA.out hb)
    replace TW := Lib.hid (TW.out.call hb)
    replace HB := Lib.hid (bl_call HB.out hb)
    have hs4 := hb.size
    (try simp at hs4)
    have k := O.k HD.out hv3 HE.out
    obtain ⟨QA, Qa, QB, Qb, Q0, q0, Q1, q1, Q3, q3, Q4, q4, Q5, q5, Q6, q6, Q7, q7, rfl⟩ := k.form
    have HWI := Lib.hid O.wi
    clear O k
    clear hb
    have cKA := blk_cell KA.out
    have fKA := blk_frozen KA.out
    have zKA := blk_lt KA.out
    obtain ⟨hiX, hhi⟩ : ∃ n, n = w4.heap.size := ⟨_, rfl⟩
    rw [← hhi] at HWI
    clear cKA fKA zKA
    have cKA := blk_cell KA.out
    have fKA := blk_frozen KA.out
    have zKA := blk_lt KA.out
    replace KA := Lib.hid (blk_alloc KA.out (.cells #[.slice QA ({ x with defs := y3 } : LW).defs.length Qa, .slice QB ({ x with defs := y3 } : LW).dict.length Qb, .slice Q0 ({ x with defs := y3 } : LW).st.data.length q0, .slice Q1 ({ x with defs := y3 } : LW).st.ret.length q1, .int .i32 ({ x with defs := y3 } : LW).st.a, .slice Q3 ({ x with defs := y3 } : LW).st.mem.length q3, .slice Q4 ({ x with defs := y3 } : LW).st.cells.length q4, .slice Q5 ({ x with defs := y3 } : LW).st.vars.length q5, .slice Q6 ({ x with defs := y3 } : LW).st.out.length q6, .slice Q7 ({ x with defs := y3 } : LW).st.inp.length q7, .int .i64 ({ x with defs := y3 } : LW).st.fault, .int .i64 ({ x with defs := y3 } : LW).st.fuel, .bool ({ x with defs := y3 } : LW).opn, .bool ({ x with defs := y3 } : LW).yel] 57))
    have KX := Lib.hid (blk_new w4 (.cells #[.slice QA ({ x with defs := y3 } : LW).defs.length Qa, .slice QB ({ x with defs := y3 } : LW).dict.length Qb, .slice Q0 ({ x with defs := y3 } : LW).st.data.length q0, .slice Q1 ({ x with defs := y3 } : LW).st.ret.length q1, .int .i32 ({ x with defs := y3 } : LW).st.a, .slice Q3 ({ x with defs := y3 } : LW).st.mem.length q3, .slice Q4 ({ x with defs := y3 } : LW).st.cells.length q4, .slice Q5 ({ x with defs := y3 } : LW).st.vars.length q5, .slice Q6 ({ x with defs := y3 } : LW).st.out.length q6, .slice Q7 ({ x with defs := y3 } : LW).st.inp.length q7, .int .i64 ({ x with defs := y3 } : LW).st.fault, .int .i64 ({ x with defs := y3 } : LW).st.fuel, .bool ({ x with defs := y3 } : LW).opn, .bool ({ x with defs := y3 } : LW).yel] 57))
    replace TW := Lib.hid (TW.out.call (bl_alloc (Below.refl _ _) (.cells #[.slice QA ({ x with defs := y3 } : LW).defs.length Qa, .slice QB ({ x with defs := y3 } : LW).dict.length Qb, .slice Q0 ({ x with defs := y3 } : LW).st.data.length q0, .slice Q1 ({ x with defs := y3 } : LW).st.ret.length q1, .int .i32 ({ x with defs := y3 } : LW).st.a, .slice Q3 ({ x with defs := y3 } : LW).st.mem.length q3, .slice Q4 ({ x with defs := y3 } : LW).st.cells.length q4, .slice Q5 ({ x with defs := y3 } : LW).st.vars.length q5, .slice Q6 ({ x with defs := y3 } : LW).st.out.length q6, .slice Q7 ({ x with defs := y3 } : LW).st.inp.length q7, .int .i64 ({ x with defs := y3 } : LW).st.fault, .int .i64 ({ x with defs := y3 } : LW).st.fuel, .bool ({ x with defs := y3 } : LW).opn, .bool ({ x with defs := y3 } : LW).yel] 57)))
    replace HWI := Lib.hid (HWI.out.call (bl_alloc (Below.refl _ _) (.cells #[.slice QA ({ x with defs := y3 } : LW).defs.length Qa, .slice QB ({ x with defs := y3 } : LW).dict.length Qb, .slice Q0 ({ x with defs := y3 } : LW).st.data.length q0, .slice Q1 ({ x with defs := y3 } : LW).st.ret.length q1, .int .i32 ({ x with defs := y3 } : LW).st.a, .slice Q3 ({ x with defs := y3 } : LW).st.mem.length q3, .slice Q4 ({ x with defs := y3 } : LW).st.cells.length q4, .slice Q5 ({ x with defs := y3 } : LW).st.vars.length q5, .slice Q6 ({ x with defs := y3 } : LW).st.out.length q6, .slice Q7 ({ x with defs := y3 } : LW).st.inp.length q7, .int .i64 ({ x with defs := y3 } : LW).st.fault, .int .i64 ({ x with defs := y3 } : LW).st.fuel, .bool ({ x with defs := y3 } : LW).opn, .bool ({ x with defs := y3 } : LW).yel] 57)))
    replace HB := Lib.hid (bl_alloc HB.out (.cells #[.slice QA ({ x with defs := y3 } : LW).defs.length Qa, .slice QB ({ x with defs := y3 } : LW).dict.length Qb, .slice Q0 ({ x with defs := y3 } : LW).st.data.length q0, .slice Q1 ({ x with defs := y3 } : LW).st.ret.length q1, .int .i32 ({ x with defs := y3 } : LW).st.a, .slice Q3 ({ x with defs := y3 } : LW).st.mem.length q3, .slice Q4 ({ x with defs := y3 } : LW).st.cells.length q4, .slice Q5 ({ x with defs := y3 } : LW).st.vars.length q5, .slice Q6 ({ x with defs := y3 } : LW).st.out.length q6, .slice Q7 ({ x with defs := y3 } : LW).st.inp.length q7, .int .i64 ({ x with defs := y3 } : LW).st.fault, .int .i64 ({ x with defs := y3 } : LW).st.fuel, .bool ({ x with defs := y3 } : LW).opn, .bool ({ x with defs := y3 } : LW).yel] 57))
    go_wp2_with fail
    refine (implKnown_calls { x with defs := y3 } _ _ (HA.out.call HB.out) (HWI.out.k HD.out hv3 HE.out) (hlow.out.val hv3)).mono ?_
    rintro e w5 ⟨GB, gd, gb, rfl, R, lo, hb⟩
    clear cKA fKA zKA
    replace KA := Lib.hid (blk_call KA.out hb)
    replace KX := Lib.hid (blk_call KX.out hb)
    replace TW := Lib.hid (TW.out.call hb)
    replace HWI := Lib.hid (HWI.out.call hb)
    replace HB := Lib.hid (bl_call HB.out hb)
    have hs5 := hb.size
    (try simp at hs5)
    rw [show knownW { x with defs := y3 } = ks from (knownW_val hv3).trans HKS.out] at R ⊢
    have TG := Lib.hid R
    have zG := Lib.hid lo
    clear R lo
    clear hb
    have cKA := blk_cell KA.out
    have fKA := blk_frozen KA.out
    have zKA := blk_lt KA.out
    have cKX := blk_cell KX.out
    have fKX := blk_frozen KX.out
    have zKX := blk_lt KX.out
    go_wp2_with fail
    refine (eqStringS_calls _ _ _ _ ks _ TG.out.rd TW.out.rd hkl.out).mono ?_
    rintro e w6 ⟨rfl, hb⟩
    clear cKA fKA zKA cKX fKX zKX
    replace KA := Lib.hid (blk_call KA.out hb)
    replace KX := Lib.hid (blk_call KX.out hb)
    replace TW := Lib.hid (TW.out.call hb)
    replace HWI := Lib.hid (HWI.out.call hb)
    replace TG := Lib.hid (TG.out.call hb)
    replace HB := Lib.hid (bl_call HB.out hb)
    have hs6 := hb.size
    (try simp at hs6)
    clear hb
    have cKA := blk_cell KA.out
    have fKA := blk_frozen KA.out
    have zKA := blk_lt KA.out
    have cKX := blk_cell KX.out
    have fKX := blk_frozen KX.out
    have zKX := blk_lt KX.out
    go_upto_region 10 with fail
    go_cut [31] from 27 to 30 (fun rv wx => rv = .bool false ∧ Hid (Below w6.heap.size w6 wx))
    case first =>
      go_region_with (first
        | (go_at_call 21; refine (toWorld_calls x _ _ (HV.out.keepB ?_) hlow.out).mono ?_; exact (by with_reducible repeat (first | exact HB.out | apply bl_drew | apply bl_drewN)); rintro e wr ⟨v4, y4, rfl, hv4, O, hb8⟩; have HX8 := Lib.hid (show Below w6.heap.size w6 wr from bl_call (by with_reducible repeat (first | exact Below.refl _ _ | apply bl_drew | apply bl_drewN)) hb8); have k8 := O.k HD.out hv4 HE.out; obtain ⟨RA, Ra, RB, Rb, R0, r0, R1, r1, R3, r3, R4, r4, R5, r5, R6, r6, R7, r7, rfl⟩ := k8.form; have K8 := Lib.hid k8; have cX8 := blk_cell (blk_call KX.out HX8.out); have fX8 := blk_frozen (blk_call KX.out HX8.out); have zX8 := blk_lt (blk_call KX.out HX8.out); clear O k8 hb8)
        | (go_at_call 23; refine (eqWorld_calls { x with defs := y4 } y3 _ _ _ ((HWI.out.k HD.out hv3 HE.out).keepB HX8.out) K8.out (hv3.trans hv4.symm) ⟨(by have h := val_len hv4; have k := hsm.out.defs; show y4.length ≤ _; omega), hsm.out.dict, hsm.out.st⟩).mono ?_; rintro e ws ⟨rfl, hb9⟩; have HX9 := Lib.hid (bl_call HX8.out hb9); clear hb9))
      all_goals
        go_wp2_with fail
        go_meet
        exact ⟨rfl, HX9⟩
    case rest =>
      obtain ⟨rfl, HX9⟩ := hcut
      clear cKA fKA zKA cKX fKX zKX
      replace KA := Lib.hid (blk_call KA.out HX9.out)
      replace KX := Lib.hid (blk_call KX.out HX9.out)
      replace TW := Lib.hid (TW.out.call HX9.out)
      replace HWI := Lib.hid (HWI.out.call HX9.out)
      replace TG := Lib.hid (TG.out.call HX9.out)
      replace HB := Lib.hid (bl_call HB.out HX9.out)
      have hsr := HX9.out.size
      clear HX9
      have cKA := blk_cell KA.out
      have fKA := blk_frozen KA.out
      have zKA := blk_lt KA.out
      have cKX := blk_cell KX.out
      have fKX := blk_frozen KX.out
      have zKX := blk_lt KX.out
      have zW2 := zW.out
      have zG2 := zG.out
      go_wp2_with fail
      refine (markWorld_calls { x with defs := y3 } _ _ hiX _ HWI.out (hlow.out.val hv3)).mono ?_
      rintro e w7 ⟨k, rfl, hk, hf⟩
      clear cKA fKA zKA cKX fKX zKX
      have hnk : ¬ (k < 0) := by omega
      replace KA := Lib.hid ((hf.block _ (blk_lt KA.out) (by omega)).trans KA.out)
      replace TW := Lib.hid (TW.out.keep fun g e => hf.block _ (TW.out.lt g e) (.inl (by have := zW2 g e; omega)))
      replace TG := Lib.hid (TG.out.keep fun g e => hf.block _ (TG.out.lt g e) (.inr (by have := zG2 g e; (try simp at this); omega)))
      replace HB := Lib.hid (HB.out.trans (hf.below (by omega) HB.out.size))
      have hs7 := hf.size
      clear hf HWI KX
      have cKA := blk_cell KA.out
      have fKA := blk_frozen KA.out
      have zKA := blk_lt KA.out
      go_wp2_with fail
      refine (eqStringS_calls _ _ _ _ ks _ TG.out.rd TW.out.rd hkl.out).mono ?_
      rintro e w8 ⟨rfl, hb⟩
      clear cKA fKA zKA
      replace KA := Lib.hid (blk_call KA.out hb)
      replace TW := Lib.hid (TW.out.call hb)
      replace TG := Lib.hid (TG.out.call hb)
      replace HB := Lib.hid (bl_call HB.out hb)
      have hs8 := hb.size
      (try simp at hs8)
      clear hb
      have cKA := blk_cell KA.out
      have fKA := blk_frozen KA.out
      have zKA := blk_lt KA.out
      go_wp2_with fail
      refine (markStringS_calls GB gd ks gb 1 _ TG.out (by omega) (by omega) hkl.out).mono ?_
      rintro e w9 ⟨rfl, R, hg⟩
      clear cKA fKA zKA
      replace KA := Lib.hid ((hg.block _ (blk_lt KA.out) (fun e => by have := zG2 _ e.symm; (try simp at this); omega)).trans KA.out)
      replace TW := Lib.hid (TW.out.keep fun g e => hg.block _ (TW.out.lt g e) (fun e2 => by have h1 := zW2 g e; have h2 := zG2 g e2.symm; (try simp at h2); omega))
      replace HB := Lib.hid (HB.out.trans ⟨hg.os, hg.tape, hg.output, hg.size, fun k hk => hg.block k (Nat.lt_of_lt_of_le hk HB.out.size) (fun e => by have := zG2 _ e.symm; (try simp at this); omega)⟩)
      have TM := Lib.hid R
      have hnm : ¬ ((1 : Int) + ks.length < 0) := by omega
      clear hg R TG
      have cKA := blk_cell KA.out
      have fKA := blk_frozen KA.out
      have zKA := blk_lt KA.out
      go_wp2_with fail
      refine (heldStringS_calls GB ks.length gd 1 _ TM.out.rd (by omega) (by omega) hkl.out).mono ?_
      rintro e w10 ⟨rfl, hb⟩
      clear cKA fKA zKA
      replace KA := Lib.hid (blk_call KA.out hb)
      replace TW := Lib.hid (TW.out.call hb)
      replace TM := Lib.hid (TM.out.call hb)
      replace HB := Lib.hid (bl_call HB.out hb)
      have hs10 := hb.size
      (try simp at hs10)
      clear hb
      have cKA := blk_cell KA.out
      have fKA := blk_frozen KA.out
      have zKA := blk_lt KA.out
      go_wp2_with fail
      refine (toWorld_calls x _ _ (HV.out.keepB HB.out) hlow.out).mono ?_
      rintro e w11 ⟨v5, y5, rfl, hv5, O, hb⟩
      clear cKA fKA zKA
      replace KA := Lib.hid (blk_call KA.out hb)
      replace TW := Lib.hid (TW.out.call hb)
      replace TM := Lib.hid (TM.out.call hb)
      replace HB := Lib.hid (bl_call HB.out hb)
      have hs11 := hb.size
      (try simp at hs11)
      have k := O.k HD.out hv5 HE.out
      obtain ⟨TA, Ta, TB, Tb, T0, t0, T1, t1, T3, t3, T4, t4, T5, t5, T6, t6, T7, t7, rfl⟩ := k.form
      have H5 := Lib.hid k
      clear O k
      clear hb
      have cKA := blk_cell KA.out
      have fKA := blk_frozen KA.out
      have zKA := blk_lt KA.out
      go_wp2_with fail
      refine (implKnown_calls { x with defs := y5 } _ _ (HA.out.call HB.out) H5.out (hlow.out.val hv5)).mono ?_
      rintro e w12 ⟨HHB, hd, hhb, rfl, R, lo, hb⟩
      clear cKA fKA zKA
      replace KA := Lib.hid (blk_call KA.out hb)
      replace TW := Lib.hid (TW.out.call hb)
      replace TM := Lib.hid (TM.out.call hb)
      replace HB := Lib.hid (bl_call HB.out hb)
      have hs12 := hb.size
      (try simp at hs12)
      clear H5
      rw [show knownW { x with defs := y5 } = ks from (knownW_val hv5).trans HKS.out] at R ⊢
      have TH := Lib.hid R
      clear R lo
      clear hb
      have cKA := blk_cell KA.out
      have fKA := blk_frozen KA.out
      have zKA := blk_lt KA.out
      go_wp2_with fail
      refine (eqStringS_calls _ _ _ _ ks _ TH.out.rd TW.out.rd hkl.out).mono ?_
      rintro e w13 ⟨rfl, hb⟩
      clear cKA fKA zKA
      replace KA := Lib.hid (blk_call KA.out hb)
      replace TW := Lib.hid (TW.out.call hb)
      replace TM := Lib.hid (TM.out.call hb)
      replace TH := Lib.hid (TH.out.call hb)
      replace HB := Lib.hid (bl_call HB.out hb)
      have hs13 := hb.size
      (try simp at hs13)
      clear TH
      clear hb
      have cKA := blk_cell KA.out
      have fKA := blk_frozen KA.out
      have zKA := blk_lt KA.out
      go_wp2_with fail
      refine (heldStringS_calls GB ks.length gd 1 _ TM.out.rd (by omega) (by omega) hkl.out).mono ?_
      rintro e w14 ⟨rfl, hb⟩
      clear cKA fKA zKA
      replace KA := Lib.hid (blk_call KA.out hb)
      replace TW := Lib.hid (TW.out.call hb)
      replace TM := Lib.hid (TM.out.call hb)
      replace HB := Lib.hid (bl_call HB.out hb)
      have hs14 := hb.size
      (try simp at hs14)
      clear hb
      have cKA := blk_cell KA.out
      have fKA := blk_frozen KA.out
      have zKA := blk_lt KA.out
      go_wp2_with fail
      go_ret
      exact ⟨rfl, HB.out⟩
end Go.Proofs.YtjciibhaifabjaaDoor

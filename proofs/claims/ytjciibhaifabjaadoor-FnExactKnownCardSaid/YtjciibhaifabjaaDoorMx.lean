/- markWorld, told weakly. -/
import Derived.Test.YtjciibhaifabjaaDoorMw
set_option linter.unusedVariables false
set_option linter.unusedSimpArgs false
namespace Go.Proofs.YtjciibhaifabjaaDoor
open Go.RowKit

/-- A world of the call's own, its blocks from lo on and below hi, one behind the other. -/
def WI (w : World) (lo hi : Nat) (x : LW) (v : Value) : Prop :=
  ∃ gA gB D0 d0 D1 d1 D3 d3 D4 d4 D5 d5 D6 d6 D7 d7, v = .agg #[.slice (some ⟨gA, 0, none⟩) x.defs.length x.defs.length, .slice (some ⟨gB, 0, none⟩) x.dict.length x.dict.length, .slice D0 x.st.data.length d0, .slice D1 x.st.ret.length d1, .int .i32 x.st.a, .slice D3 x.st.mem.length d3, .slice D4 x.st.cells.length d4, .slice D5 x.st.vars.length d5, .slice D6 x.st.out.length d6, .slice D7 x.st.inp.length d7, .int .i64 x.st.fault, .int .i64 x.st.fuel, .bool x.opn, .bool x.yel] ∧ Row w 106 2 (some ⟨gA, 0, none⟩) x.defs.length x.defs.length (x.defs.flatMap DDef.enc) (some gA) ∧ (∀ y ∈ x.defs, y.O w 133 (gA + 1)) ∧
    Row w 99 3 (some ⟨gB, 0, none⟩) x.dict.length x.dict.length (x.dict.flatMap LEntry.enc) (some gB) ∧ lo ≤ gA ∧ gA < gB ∧ gB < hi ∧ hi ≤ w.heap.size ∧ (∀ y ∈ x.defs, ∀ g, y.A = some ⟨g, 0, none⟩ → g < gB) ∧ (x.defs.map DDef.A).Nodup ∧ StI w (gB + 1) hi x.st (.agg #[.slice D0 x.st.data.length d0, .slice D1 x.st.ret.length d1, .int .i32 x.st.a, .slice D3 x.st.mem.length d3, .slice D4 x.st.cells.length d4, .slice D5 x.st.vars.length d5, .slice D6 x.st.out.length d6, .slice D7 x.st.inp.length d7, .int .i64 x.st.fault, .int .i64 x.st.fuel])
theorem WO.wi {w : World} {lo : Nat} {x : LW} {v : Value} (h : WO w lo x v) : WI w lo w.heap.size x v := by
  obtain ⟨gA, gB, D0, d0, D1, d1, D3, d3, D4, d4, D5, d5, D6, d6, D7, d7, rfl, RA, OA, RB, SO, l1, l2, l3, l4, nd, SO2⟩ := h
  exact ⟨gA, gB, D0, d0, D1, d1, D3, d3, D4, d4, D5, d5, D6, d6, D7, d7, rfl, RA, OA, RB, l1, l3, RB.lt _ rfl, Nat.le_refl _, l4, nd, SO2.i⟩
theorem WI.call {w w1 : World} {lo hi : Nat} {x : LW} {v : Value} (h : WI w lo hi x v) (hb : Below w.heap.size w w1) : WI w1 lo hi x v := by
  obtain ⟨gA, gB, D0, d0, D1, d1, D3, d3, D4, d4, D5, d5, D6, d6, D7, d7, rfl, RA, OA, RB, l1, l2, l3, l4, l5, nd, SI⟩ := h
  exact ⟨gA, gB, D0, d0, D1, d1, D3, d3, D4, d4, D5, d5, D6, d6, D7, d7, rfl, RA.call hb, fun y hy => (OA y hy).call hb, RB.call hb, l1, l2, l3, Nat.le_trans l4 hb.size, l5, nd, SI.call hb⟩
theorem WI.k {w0 w : World} {lo hi : Nat} {x : LW} {ys : List DDef} {v : Value} (h : WI w lo hi { x with defs := ys } v) (hd : DefsR w0 x.defs) (hv : ys.map DDef.val = x.defs.map DDef.val) (he : EntR x.dict) : WK w { x with defs := ys } v := by
  obtain ⟨gA, gB, D0, d0, D1, d1, D3, d3, D4, d4, D5, d5, D6, d6, D7, d7, rfl, RA, OA, RB, l1, l2, l3, l4, l5, nd, SI⟩ := h
  exact ⟨_, _, _, _, D0, d0, D1, d1, D3, d3, D4, d4, D5, d5, D6, d6, D7, d7, rfl, RA.rd, hd.copy hv OA, RB.rd, he, SI.o.k⟩
set_option maxRecDepth 100000 in
set_option maxHeartbeats 1000000 in
theorem markWorld_calls (x : LW) (v : Value) (lo hi : Nat) (w : World) (hO : WI w lo hi x v) (hs : x.low) :
    Calls Tryd.prog 27 #[v, .int .i64 1] w fun e w' => ∃ k, e = .returned (.int .i64 k) ∧ 0 ≤ k ∧ Fr lo hi w w' := by
  obtain ⟨gA, gB, D0, d0, D1, d1, D3, d3, D4, d4, D5, d5, D6, d6, D7, d7, rfl, RA, OA, RB, l1, l3, l6, l7, l4, nd, SO2⟩ := hO
  have HRA := Lib.hid (RA.alloc (.cells #[.slice (some ⟨gA, 0, none⟩) x.defs.length x.defs.length, .slice (some ⟨gB, 0, none⟩) x.dict.length x.dict.length, .slice D0 x.st.data.length d0, .slice D1 x.st.ret.length d1, .int .i32 x.st.a, .slice D3 x.st.mem.length d3, .slice D4 x.st.cells.length d4, .slice D5 x.st.vars.length d5, .slice D6 x.st.out.length d6, .slice D7 x.st.inp.length d7, .int .i64 x.st.fault, .int .i64 x.st.fuel, .bool x.opn, .bool x.yel] 57))
  have HOA := Lib.hid (fun y hy => (OA y hy).call (bl_alloc (Below.refl _ w) (.cells #[.slice (some ⟨gA, 0, none⟩) x.defs.length x.defs.length, .slice (some ⟨gB, 0, none⟩) x.dict.length x.dict.length, .slice D0 x.st.data.length d0, .slice D1 x.st.ret.length d1, .int .i32 x.st.a, .slice D3 x.st.mem.length d3, .slice D4 x.st.cells.length d4, .slice D5 x.st.vars.length d5, .slice D6 x.st.out.length d6, .slice D7 x.st.inp.length d7, .int .i64 x.st.fault, .int .i64 x.st.fuel, .bool x.opn, .bool x.yel] 57)))
  have HRB := Lib.hid (RB.alloc (.cells #[.slice (some ⟨gA, 0, none⟩) x.defs.length x.defs.length, .slice (some ⟨gB, 0, none⟩) x.dict.length x.dict.length, .slice D0 x.st.data.length d0, .slice D1 x.st.ret.length d1, .int .i32 x.st.a, .slice D3 x.st.mem.length d3, .slice D4 x.st.cells.length d4, .slice D5 x.st.vars.length d5, .slice D6 x.st.out.length d6, .slice D7 x.st.inp.length d7, .int .i64 x.st.fault, .int .i64 x.st.fuel, .bool x.opn, .bool x.yel] 57))
  have zB := RB.lt _ rfl
  have HI := Lib.hid (SO2.call (bl_alloc (Below.refl _ w) (.cells #[.slice (some ⟨gA, 0, none⟩) x.defs.length x.defs.length, .slice (some ⟨gB, 0, none⟩) x.dict.length x.dict.length, .slice D0 x.st.data.length d0, .slice D1 x.st.ret.length d1, .int .i32 x.st.a, .slice D3 x.st.mem.length d3, .slice D4 x.st.cells.length d4, .slice D5 x.st.vars.length d5, .slice D6 x.st.out.length d6, .slice D7 x.st.inp.length d7, .int .i64 x.st.fault, .int .i64 x.st.fuel, .bool x.opn, .bool x.yel] 57)))
  have KA := Lib.hid (blk_new w (.cells #[.slice (some ⟨gA, 0, none⟩) x.defs.length x.defs.length, .slice (some ⟨gB, 0, none⟩) x.dict.length x.dict.length, .slice D0 x.st.data.length d0, .slice D1 x.st.ret.length d1, .int .i32 x.st.a, .slice D3 x.st.mem.length d3, .slice D4 x.st.cells.length d4, .slice D5 x.st.vars.length d5, .slice D6 x.st.out.length d6, .slice D7 x.st.inp.length d7, .int .i64 x.st.fault, .int .i64 x.st.fuel, .bool x.opn, .bool x.yel] 57))
  have HF := Lib.hid (Fr.alloc (Fr.refl lo hi w) l7 (.cells #[.slice (some ⟨gA, 0, none⟩) x.defs.length x.defs.length, .slice (some ⟨gB, 0, none⟩) x.dict.length x.dict.length, .slice D0 x.st.data.length d0, .slice D1 x.st.ret.length d1, .int .i32 x.st.a, .slice D3 x.st.mem.length d3, .slice D4 x.st.cells.length d4, .slice D5 x.st.vars.length d5, .slice D6 x.st.out.length d6, .slice D7 x.st.inp.length d7, .int .i64 x.st.fault, .int .i64 x.st.fuel, .bool x.opn, .bool x.yel] 57))
  have L4 := Lib.hid l4
  have ND := Lib.hid nd
  have hd1 := hs.defs
  have hd2 := hs.dict
  have hst := LSt.small_mono hs.st (by omega : 1048576 ≤ 140737488355328)
  have hmk := mkD_le x.defs
  have hsz : (w.alloc (.cells #[.slice (some ⟨gA, 0, none⟩) x.defs.length x.defs.length, .slice (some ⟨gB, 0, none⟩) x.dict.length x.dict.length, .slice D0 x.st.data.length d0, .slice D1 x.st.ret.length d1, .int .i32 x.st.a, .slice D3 x.st.mem.length d3, .slice D4 x.st.cells.length d4, .slice D5 x.st.vars.length d5, .slice D6 x.st.out.length d6, .slice D7 x.st.inp.length d7, .int .i64 x.st.fault, .int .i64 x.st.fuel, .bool x.opn, .bool x.yel] 57)).heap.size = w.heap.size + 1 := by simp
  clear RA OA RB l4 nd SO2
  go_enter Tryd.func27, Tryd.ntmps27
  go_wp2_with fail
  refine (markDefS_calls gA x.defs.length gB x.defs 1 _ HRA.out HOA.out ND.out L4.out l3 (by omega) (by omega) (by omega) (by omega)).mono ?_
  rintro e w1 ⟨rfl, hf⟩
  have HRB1 := Lib.hid (HRB.out.keep fun g e => by injection e with e; subst e; exact hf.block _ (by omega) (by omega))
  have HI1 := Lib.hid (HI.out.frame hf (by omega))
  replace KA := Lib.hid ((hf.block _ (blk_lt KA.out) (by omega)).trans KA.out)
  replace HF := Lib.hid (HF.out.trans3 (hf.wide (by omega) (by omega)))
  have hs1 := hf.size
  clear hf HRB HI HRA HOA
  have cKA := blk_cell KA.out
  have fKA := blk_frozen KA.out
  have zKA := blk_lt KA.out
  go_wp2_with fail
  refine (markEntryS_calls gB x.dict.length x.dict.length _ (1 + mkD x.defs) _ HRB1.out (by omega) (by omega) (by omega)).mono ?_
  rintro e w2 ⟨rfl, hg⟩
  clear cKA fKA zKA
  have HI2 := Lib.hid (HI1.out.keep fun g h0 h2 hgs => hg.block g hgs (fun e => by injection e with e; omega))
  replace KA := Lib.hid ((hg.block _ (blk_lt KA.out) (fun e => by injection e with e; omega)).trans KA.out)
  replace HF := Lib.hid (Fr.grown HF.out hg (fun y e => by injection e with e; omega))
  have hs2 := hg.size
  clear hg HI1 HRB1
  have cKA := blk_cell KA.out
  have fKA := blk_frozen KA.out
  have zKA := blk_lt KA.out
  go_wp2_with fail
  refine (markSt_calls (1 + mkD x.defs + 3 * x.dict.length) x.st _ (gB + 1) hi _ HI2.out hst (by omega) (by omega) (by omega) (by omega)).mono ?_
  rintro e w3 ⟨rfl, M, hf⟩
  clear cKA fKA zKA
  replace HF := Lib.hid (HF.out.trans3 (hf.wide (by omega) (by omega)))
  have hk : 0 ≤ mkStN (1 + mkD x.defs + 3 * x.dict.length) x.st := by unfold mkStN; omega
  clear M hf
  go_wp2_with fail
  go_ret
  exact ⟨_, rfl, hk, HF.out⟩
end Go.Proofs.YtjciibhaifabjaaDoor

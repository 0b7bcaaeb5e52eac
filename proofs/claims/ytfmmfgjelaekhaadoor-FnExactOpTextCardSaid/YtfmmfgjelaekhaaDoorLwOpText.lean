/- The law FnExactOpText, walked. -/
import Derived.Test.YtfmmfgjelaekhaaDoorDk
import Derived.Test.YtfmmfgjelaekhaaDoorOt
set_option linter.unusedVariables false
set_option linter.unusedSimpArgs false
namespace Go.Proofs.YtfmmfgjelaekhaaDoor
open Go.RowKit

set_option maxRecDepth 100000 in
set_option maxHeartbeats 1000000 in
theorem lawOpText_calls (k n : Int) (A : Option Addr) (c : Nat) (zs : List DDef) (w : World) (hA : Asc w) (hP : Pow w) (hr : Rd w A (zs.flatMap DDef.enc)) (hz : DefsR w zs) (hn : zs.length ≤ 140737488355328) (hn0 : -2147483648 ≤ n) (hn1 : n ≤ 2147483647) :
    Calls Tryd.prog 10 #[.agg #[.int .i64 k, .int .i32 n], .slice A zs.length c] w fun e w' => e = .returned (.bool true) ∧ Below w.heap.size w w' := by
  have HA := Lib.hid hA
  have HP := Lib.hid hP
  have HR := Lib.hid hr
  have HZ := Lib.hid hz
  clear hA hP hr hz
  have HB0 := Lib.hid (bl_alloc (Below.refl w.heap.size w) (.cells #[.int .i64 k, .int .i32 n] 69))
  by_cases hbig : ¬ ((zs.length + szDs zs : Nat) : Int) ≤ 1048576
  · go_enter Tryd.func10, Tryd.ntmps10
    go_wp2_with (go_at_call 42; (with_reducible refine (szDefS_calls A c zs _ _ ?_ ?_ ?_ ?_ ?_).mono ?_); exact HR.out.call HB0.out; exact HZ.out.call HB0.out; omega; omega; omega; rintro e w1 ⟨rfl, hb⟩; have HB := Lib.hid (bl_call HB0.out hb); clear hb; rw [szR_no hbig])
    go_ret
    exact ⟨rfl, HB.out⟩
  have hfit : ((zs.length + szDs zs : Nat) : Int) ≤ 1048576 := Decidable.not_not.1 hbig
  clear hbig
  have h1 : zs.length ≤ 1048576 := by omega
  have h2 : szDs zs ≤ 1048576 := by omega
  have HS := Lib.hid (defsS_of h2)
  have hl : ¬ ((1048576 : Int) - ((zs.length + szDs zs : Nat) : Int) < 0) := by omega
  go_enter Tryd.func10, Tryd.ntmps10
  go_wp2_with (go_at_call 42; (with_reducible refine (szDefS_calls A c zs _ _ ?_ ?_ ?_ ?_ ?_).mono ?_); exact HR.out.call HB0.out; exact HZ.out.call HB0.out; omega; omega; omega; rintro e w1 ⟨rfl, hb⟩; have HB := Lib.hid (bl_call HB0.out hb); have HK := Lib.hid ((Bx.one w #[.int .i64 k, .int .i32 n] 69).call hb); obtain ⟨k0, -⟩ := HK.out; have c0 := blk_cell k0; have f0 := blk_frozen k0; have z0 := blk_lt k0; clear hb k0; rw [szR_yes hfit])
  clear c0 f0 z0
  refine (toOp_calls ⟨k, n⟩ _).mono ?_
  rintro e w2 ⟨rfl, hb⟩
  replace HB := Lib.hid (bl_call HB.out hb)
  replace HK := Lib.hid (HK.out.call hb)
  clear hb
  obtain ⟨k0, -⟩ := HK.out
  have c0 := blk_cell k0
  have f0 := blk_frozen k0
  have z0 := blk_lt k0
  clear k0
  go_wp2_with fail
  clear c0 f0 z0
  refine (toDefS_calls A c zs _ (HR.out.call HB.out) (HZ.out.call HB.out) h1 (fun z hz => (HS.out z hz).2)).mono ?_
  rintro e w3 ⟨g1, y1, rfl, V1, R1, O1, _, hb⟩
  replace HB := Lib.hid (bl_call HB.out hb)
  replace HK := Lib.hid (HK.out.call hb)
  have HR1 := Lib.hid R1
  have HD1 := Lib.hid (HZ.out.copy V1 O1)
  have HV1 := Lib.hid V1
  have L1 := val_len V1
  clear hb
  obtain ⟨k0, -⟩ := HK.out
  have c0 := blk_cell k0
  have f0 := blk_frozen k0
  have z0 := blk_lt k0
  clear k0
  go_wp2_with fail
  clear c0 f0 z0
  have HH := specOpText_calls k n (some ⟨g1, 0, none⟩) zs.length y1 w3 HR1.out.rd hn0 hn1
  rw [L1] at HH
  refine (HH).mono ?_
  rintro e w4 ⟨rfl, hb⟩
  replace HB := Lib.hid (bl_call HB.out hb)
  replace HK := Lib.hid (HK.out.call hb)
  replace HR1 := Lib.hid (HR1.out.call hb)
  replace HD1 := Lib.hid (HD1.out.call hb)
  clear hb
  obtain ⟨k0, -⟩ := HK.out
  have c0 := blk_cell k0
  have f0 := blk_frozen k0
  have z0 := blk_lt k0
  clear k0
  go_wp2_with fail
  clear c0 f0 z0
  refine (toDefS_calls A c zs _ (HR.out.call HB.out) (HZ.out.call HB.out) h1 (fun z hz => (HS.out z hz).2)).mono ?_
  rintro e w5 ⟨g2, y2, rfl, V2, R2, O2, _, hb⟩
  replace HB := Lib.hid (bl_call HB.out hb)
  replace HK := Lib.hid (HK.out.call hb)
  have HR2 := Lib.hid R2
  have HD2 := Lib.hid (HZ.out.copy V2 O2)
  have HV2 := Lib.hid V2
  have L2 := val_len V2
  clear hb
  obtain ⟨k0, -⟩ := HK.out
  have c0 := blk_cell k0
  have f0 := blk_frozen k0
  have z0 := blk_lt k0
  clear k0
  go_wp2_with fail
  clear c0 f0 z0
  refine (toOp_calls ⟨k, n⟩ _).mono ?_
  rintro e w6 ⟨rfl, hb⟩
  replace HB := Lib.hid (bl_call HB.out hb)
  replace HK := Lib.hid (HK.out.call hb)
  replace HR2 := Lib.hid (HR2.out.call hb)
  replace HD2 := Lib.hid (HD2.out.call hb)
  clear hb
  obtain ⟨k0, -⟩ := HK.out
  have c0 := blk_cell k0
  have f0 := blk_frozen k0
  have z0 := blk_lt k0
  clear k0
  go_wp2_with fail
  clear c0 f0 z0
  clear HH
  have HH := opText_calls k n (some ⟨g2, 0, none⟩) zs.length y2 w6 (HA.out.call HB.out) (HP.out.call HB.out) HR2.out.rd hn0 hn1
  rw [L2, opText_val HV2.out, ← opText_val HV1.out] at HH
  refine (HH).mono ?_
  rintro e w7 ⟨rfl, hb⟩
  replace HB := Lib.hid (bl_call HB.out hb)
  replace HK := Lib.hid (HK.out.call hb)
  replace HR2 := Lib.hid (HR2.out.call hb)
  replace HD2 := Lib.hid (HD2.out.call hb)
  clear hb
  obtain ⟨k0, -⟩ := HK.out
  have c0 := blk_cell k0
  have f0 := blk_frozen k0
  have z0 := blk_lt k0
  clear k0
  go_wp2_with fail
  clear c0 f0 z0
  refine (toDefS_calls A c zs _ (HR.out.call HB.out) (HZ.out.call HB.out) h1 (fun z hz => (HS.out z hz).2)).mono ?_
  rintro e w8 ⟨g3, y3, rfl, V3, R3, O3, _, hb⟩
  replace HB := Lib.hid (bl_call HB.out hb)
  replace HK := Lib.hid (HK.out.call hb)
  replace HR2 := Lib.hid (HR2.out.call hb)
  replace HD2 := Lib.hid (HD2.out.call hb)
  have HR3 := Lib.hid R3
  have HD3 := Lib.hid (HZ.out.copy V3 O3)
  have HV3 := Lib.hid V3
  have L3 := val_len V3
  clear hb
  obtain ⟨k0, -⟩ := HK.out
  have c0 := blk_cell k0
  have f0 := blk_frozen k0
  have z0 := blk_lt k0
  clear k0
  go_wp2_with fail
  clear c0 f0 z0
  clear HH
  have HH := eqDefS_calls (some ⟨g2, 0, none⟩) (some ⟨g3, 0, none⟩) zs.length zs.length y2 y3 w8 HR2.out.rd HR3.out.rd HD2.out HD3.out (HV2.out.trans HV3.out.symm) (by omega)
  rw [L3] at HH
  refine (HH).mono ?_
  rintro e w9 ⟨rfl, hb⟩
  replace HB := Lib.hid (bl_call HB.out hb)
  replace HK := Lib.hid (HK.out.call hb)
  replace HR2 := Lib.hid (HR2.out.call hb)
  replace HD2 := Lib.hid (HD2.out.call hb)
  replace HR3 := Lib.hid (HR3.out.call hb)
  replace HD3 := Lib.hid (HD3.out.call hb)
  clear hb
  obtain ⟨k0, -⟩ := HK.out
  have c0 := blk_cell k0
  have f0 := blk_frozen k0
  have z0 := blk_lt k0
  clear k0
  go_wp2_with fail
  go_ret
  exact ⟨rfl, HB.out⟩
end Go.Proofs.YtfmmfgjelaekhaaDoor

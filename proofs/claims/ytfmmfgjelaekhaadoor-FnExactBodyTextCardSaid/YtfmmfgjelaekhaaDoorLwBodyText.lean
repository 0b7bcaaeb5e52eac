/- The law FnExactBodyText, walked. -/
import Derived.Test.YtfmmfgjelaekhaaDoorBt
set_option linter.unusedVariables false
set_option linter.unusedSimpArgs false
namespace Go.Proofs.YtfmmfgjelaekhaaDoor
open Go.RowKit

set_option maxRecDepth 100000 in
set_option maxHeartbeats 1000000 in
theorem lawBodyText_calls (A : Option Addr) (c : Nat) (zs : List DDef) (k : Int) (w : World) (hA : Asc w) (hP : Pow w) (hr : Rd w A (zs.flatMap DDef.enc)) (hz : DefsR w zs) (hn : zs.length ≤ 140737488355328) :
    Calls Tryd.prog 11 #[.slice A zs.length c, .int .i64 k] w fun e w' => e = .returned (.bool true) ∧ Below w.heap.size w w' := by
  have HA := Lib.hid hA
  have HP := Lib.hid hP
  clear hA hP
  have HR := Lib.hid hr
  have HZ := Lib.hid hz
  clear hr hz
  by_cases hbig : ¬ ((zs.length + szDs zs : Nat) : Int) ≤ 1048576
  · go_enter Tryd.func11, Tryd.ntmps11
    go_wp2_with (go_at_call 42; (with_reducible refine (szDefS_calls A c zs _ _ ?_ ?_ ?_ ?_ ?_).mono ?_); exact HR.out; exact HZ.out; omega; omega; omega; rintro e w1 ⟨rfl, hb⟩; have HB := Lib.hid hb; clear hb; rw [szR_no hbig])
    go_ret
    exact ⟨rfl, HB.out⟩
  have hfit : ((zs.length + szDs zs : Nat) : Int) ≤ 1048576 := Decidable.not_not.1 hbig
  clear hbig
  have h1 : zs.length ≤ 1048576 := by omega
  have h2 : szDs zs ≤ 1048576 := by omega
  have HS := Lib.hid (defsS_of h2)
  have hl : ¬ ((1048576 : Int) - ((zs.length + szDs zs : Nat) : Int) < 0) := by omega
  go_enter Tryd.func11, Tryd.ntmps11
  go_wp2_with (go_at_call 42; (with_reducible refine (szDefS_calls A c zs _ _ ?_ ?_ ?_ ?_ ?_).mono ?_); exact HR.out; exact HZ.out; omega; omega; omega; rintro e w1 ⟨rfl, hb⟩; have HB := Lib.hid hb; clear hb; rw [szR_yes hfit])
  refine (toDefS_calls A c zs _ (HR.out.call HB.out) (HZ.out.call HB.out) h1 (fun z hz => (HS.out z hz).2)).mono ?_
  rintro e w2 ⟨g1, y1, rfl, V1, R1, O1, _, hb⟩
  replace HB := Lib.hid (bl_call HB.out hb)
  have HR1 := Lib.hid R1
  have HD1 := Lib.hid (HZ.out.copy V1 O1)
  have HV1 := Lib.hid V1
  have L1 := val_len V1
  clear hb
  go_wp2_with fail
  have HH := specBodyText_calls (some ⟨g1, 0, none⟩) zs.length y1 k w2 HR1.out.rd HD1.out (HS.out.val HV1.out) (by omega)
  rw [L1, bodyText_val HV1.out] at HH
  refine (HH).mono ?_
  rintro e w3 ⟨rfl, hb⟩
  replace HB := Lib.hid (bl_call HB.out hb)
  replace HR1 := Lib.hid (HR1.out.call hb)
  replace HD1 := Lib.hid (HD1.out.call hb)
  clear hb
  go_wp2_with fail
  refine (toDefS_calls A c zs _ (HR.out.call HB.out) (HZ.out.call HB.out) h1 (fun z hz => (HS.out z hz).2)).mono ?_
  rintro e w4 ⟨g2, y2, rfl, V2, R2, O2, _, hb⟩
  replace HB := Lib.hid (bl_call HB.out hb)
  have HR2 := Lib.hid R2
  have HD2 := Lib.hid (HZ.out.copy V2 O2)
  have HV2 := Lib.hid V2
  have L2 := val_len V2
  clear hb
  go_wp2_with fail
  clear HH
  have HH := bodyText_calls (some ⟨g2, 0, none⟩) zs.length y2 k w4 (HA.out.call HB.out) (HP.out.call HB.out) HR2.out.rd HD2.out (HS.out.val HV2.out) (by omega)
  rw [L2, bodyText_val HV2.out] at HH
  refine (HH).mono ?_
  rintro e w5 ⟨rfl, hb⟩
  replace HB := Lib.hid (bl_call HB.out hb)
  replace HR2 := Lib.hid (HR2.out.call hb)
  replace HD2 := Lib.hid (HD2.out.call hb)
  clear hb
  go_wp2_with fail
  refine (toDefS_calls A c zs _ (HR.out.call HB.out) (HZ.out.call HB.out) h1 (fun z hz => (HS.out z hz).2)).mono ?_
  rintro e w6 ⟨g3, y3, rfl, V3, R3, O3, _, hb⟩
  replace HB := Lib.hid (bl_call HB.out hb)
  replace HR2 := Lib.hid (HR2.out.call hb)
  replace HD2 := Lib.hid (HD2.out.call hb)
  have HR3 := Lib.hid R3
  have HD3 := Lib.hid (HZ.out.copy V3 O3)
  have HV3 := Lib.hid V3
  have L3 := val_len V3
  clear hb
  go_wp2_with fail
  clear HH
  have HH := eqDefS_calls (some ⟨g2, 0, none⟩) (some ⟨g3, 0, none⟩) zs.length zs.length y2 y3 w6 HR2.out.rd HR3.out.rd HD2.out HD3.out (HV2.out.trans HV3.out.symm) (by omega)
  rw [L3] at HH
  refine (HH).mono ?_
  rintro e w7 ⟨rfl, hb⟩
  replace HB := Lib.hid (bl_call HB.out hb)
  replace HR2 := Lib.hid (HR2.out.call hb)
  replace HD2 := Lib.hid (HD2.out.call hb)
  replace HR3 := Lib.hid (HR3.out.call hb)
  replace HD3 := Lib.hid (HD3.out.call hb)
  clear hb
  go_wp2_with fail
  go_ret
  exact ⟨rfl, HB.out⟩
end Go.Proofs.YtfmmfgjelaekhaaDoor

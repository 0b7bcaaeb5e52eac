/- The law FnExactListing, walked. -/
import Derived.Test.YtfmmfgjelaekhaaDoorLs
set_option linter.unusedVariables false
set_option linter.unusedSimpArgs false
namespace Go.Proofs.YtfmmfgjelaekhaaDoor
open Go.RowKit

set_option maxRecDepth 100000 in
set_option maxHeartbeats 1000000 in
theorem lawListing_calls (A : Option Addr) (c : Nat) (xs : List LIns) (w : World) (hA : Asc w) (hr : Rd w A (xs.flatMap LIns.enc)) (hn : xs.length ≤ 140737488355328) (hP : Pow w) (hx : ∀ x ∈ xs, -9223372036854775808 ≤ x.n ∧ x.n ≤ 9223372036854775807) :
    Calls Tryd.prog 12 #[.slice A xs.length c] w fun e w' => e = .returned (.bool true) ∧ Below w.heap.size w w' := by
  have HA := Lib.hid hA
  have HR := Lib.hid hr
  clear hA hr
  have HX := Lib.hid hx
  have HP := Lib.hid hP
  clear hx hP
  by_cases hbig : 1048576 < xs.length
  · go_enter Tryd.func12, Tryd.ntmps12
    go_wp2_with (go_at_call 21; (with_reducible refine (szInsS_no _ _ _ _ _ ?_ ?_ ?_).mono ?_); omega; omega; omega; rintro e w' ⟨rfl, rfl⟩)
    go_ret
    exact ⟨rfl, Below.refl _ _⟩
  have HB := Lib.hid (Below.refl w.heap.size w)
  have hl : ¬ ((1048576 : Int) - xs.length < 0) := by omega
  go_enter Tryd.func12, Tryd.ntmps12
  go_wp2_with (go_at_call 21; (with_reducible refine (szInsS_ok _ _ _ _ _ ?_ ?_).mono ?_); omega; omega; rintro e w' ⟨rfl, rfl⟩)
  go_wp2_with fail
  refine (toInsS_calls A c xs _ HR.out (by omega)).mono ?_
  rintro e w1 ⟨g1, rfl, R1, _, hb⟩
  replace HB := Lib.hid (bl_call HB.out hb)
  replace HR := Lib.hid (HR.out.call hb)
  replace HA := Lib.hid (HA.out.call hb)
  have HR1 := Lib.hid R1
  clear hb R1
  go_wp2_with fail
  refine (specListing_calls (some ⟨g1, 0, none⟩) _ xs _ HR1.out.rd HX.out (by omega)).mono ?_
  rintro e w2 ⟨rfl, hb⟩
  replace HB := Lib.hid (bl_call HB.out hb)
  replace HR := Lib.hid (HR.out.call hb)
  replace HA := Lib.hid (HA.out.call hb)
  replace HR1 := Lib.hid (HR1.out.call hb)
  clear hb
  go_wp2_with fail
  refine (toInsS_calls A c xs _ HR.out (by omega)).mono ?_
  rintro e w3 ⟨g2, rfl, R2, _, hb⟩
  replace HB := Lib.hid (bl_call HB.out hb)
  replace HR := Lib.hid (HR.out.call hb)
  replace HA := Lib.hid (HA.out.call hb)
  replace HR1 := Lib.hid (HR1.out.call hb)
  have HR2 := Lib.hid R2
  clear hb R2
  go_wp2_with fail
  refine (listing_calls (some ⟨g2, 0, none⟩) _ xs _ HA.out (HP.out.call HB.out) HR2.out.rd HX.out (by omega)).mono ?_
  rintro e w4 ⟨rfl, hb⟩
  replace HB := Lib.hid (bl_call HB.out hb)
  replace HR := Lib.hid (HR.out.call hb)
  replace HA := Lib.hid (HA.out.call hb)
  replace HR1 := Lib.hid (HR1.out.call hb)
  replace HR2 := Lib.hid (HR2.out.call hb)
  clear hb
  go_wp2_with fail
  refine (toInsS_calls A c xs _ HR.out (by omega)).mono ?_
  rintro e w5 ⟨g3, rfl, R3, _, hb⟩
  replace HB := Lib.hid (bl_call HB.out hb)
  replace HR := Lib.hid (HR.out.call hb)
  replace HA := Lib.hid (HA.out.call hb)
  replace HR1 := Lib.hid (HR1.out.call hb)
  replace HR2 := Lib.hid (HR2.out.call hb)
  have HR3 := Lib.hid R3
  clear hb R3
  go_wp2_with fail
  refine (eqInsS_calls (some ⟨g2, 0, none⟩) (some ⟨g3, 0, none⟩) _ _ xs _ HR2.out.rd HR3.out.rd (by omega)).mono ?_
  rintro e w6 ⟨rfl, hb⟩
  replace HB := Lib.hid (bl_call HB.out hb)
  replace HR := Lib.hid (HR.out.call hb)
  replace HA := Lib.hid (HA.out.call hb)
  replace HR1 := Lib.hid (HR1.out.call hb)
  replace HR2 := Lib.hid (HR2.out.call hb)
  replace HR3 := Lib.hid (HR3.out.call hb)
  clear hb
  go_wp2_with fail
  go_ret
  exact ⟨rfl, HB.out⟩
end Go.Proofs.YtfmmfgjelaekhaaDoor

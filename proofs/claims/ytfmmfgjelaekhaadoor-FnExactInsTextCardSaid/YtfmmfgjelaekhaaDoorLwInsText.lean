/- The law FnExactInsText, walked. -/
import Derived.Test.YtfmmfgjelaekhaaDoorIt
set_option linter.unusedVariables false
set_option linter.unusedSimpArgs false
namespace Go.Proofs.YtfmmfgjelaekhaaDoor
open Go.RowKit

set_option maxRecDepth 100000 in
theorem lawInsText_calls (op n : Int) (w : World) (hA : Asc w) (hP : Pow w) (h0 : -9223372036854775808 ≤ n) (h1 : n ≤ 9223372036854775807) :
    Calls Tryd.prog 9 #[.agg #[.int .i64 op, .int .i64 n]] w fun e w' => e = .returned (.bool true) ∧ Below w.heap.size w w' := by
  have HA := Lib.hid hA
  have HP := Lib.hid hP
  have HB := Lib.hid (bl_alloc (Below.refl w.heap.size w) (.cells #[.int .i64 op, .int .i64 n] 63))
  have HK := Lib.hid (Bx.one w #[.int .i64 op, .int .i64 n] 63)
  clear hA hP
  go_enter Tryd.func9, Tryd.ntmps9
  go_wp2_with fail
  refine (toIns_calls ⟨op, n⟩ _).mono ?_
  rintro e w1 ⟨rfl, hb⟩
  replace HB := Lib.hid (bl_call HB.out hb)
  replace HK := Lib.hid (HK.out.call hb)
  obtain ⟨k0, -⟩ := HK.out
  have c0 := blk_cell k0
  clear hb k0
  go_wp2_with fail
  refine (specInsText_calls op n _ h0 h1).mono ?_
  rintro e w2 ⟨rfl, hb⟩
  replace HB := Lib.hid (bl_call HB.out hb)
  replace HK := Lib.hid (HK.out.call hb)
  obtain ⟨k0, -⟩ := HK.out
  have c0 := blk_cell k0
  clear hb k0
  generalize hx : insText ⟨op, n⟩ = x
  go_wp2_with fail
  refine (toIns_calls ⟨op, n⟩ _).mono ?_
  rintro e w3 ⟨rfl, hb⟩
  replace HB := Lib.hid (bl_call HB.out hb)
  clear hb
  go_wp2_with fail
  refine (insText_calls op n _ (HA.out.call HB.out) (HP.out.call HB.out) h0 h1).mono ?_
  rintro e w4 ⟨rfl, hb⟩
  replace HB := Lib.hid (bl_call HB.out hb)
  rw [hx]
  clear hb hx
  go_wp2_with fail
  go_ret
  exact ⟨rfl, HB.out⟩
end Go.Proofs.YtfmmfgjelaekhaaDoor

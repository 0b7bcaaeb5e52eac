/- How large a state is: contract of szSt. -/
import Derived.Test.YtgljbcdlldhlfaaDoorK
set_option linter.unusedVariables false
set_option linter.unusedSimpArgs false
namespace Go.Proofs.YtgljbcdlldhlfaaDoor
open Go.RowKit
set_option maxRecDepth 100000 in
set_option maxHeartbeats 1000000 in
theorem szSt_calls (s : LSt) (v : Value) (left : Int) (w : World) (hv : StK w s v) (h0 : 0 ≤ left) (hl : left ≤ 1048576) (hs : s.small 140737488355328) :
    Calls Tryd.prog 6 #[v, .int .i64 left] w fun e w' => (∃ r, e = .returned (.int .i64 r) ∧ ((r = -1 ∧ left < s.bulk) ∨ (r = left - s.bulk ∧ s.bulk ≤ left))) ∧ Below w.heap.size w w' := by
  obtain ⟨A0, c0, A1, c1, A3, c3, A4, c4, A5, c5, A6, c6, A7, c7, rfl, -⟩ := hv
  obtain ⟨h1, h2, h3, h4, h5, h6, h7⟩ := hs
  have hc : left < s.data.length ∨ (s.data.length ≤ left ∧ left - s.data.length < s.ret.length) ∨ (s.data.length ≤ left ∧ s.ret.length ≤ left - s.data.length ∧ left - s.data.length - s.ret.length < s.mem.length) ∨
      (s.data.length ≤ left ∧ s.ret.length ≤ left - s.data.length ∧ s.mem.length ≤ left - s.data.length - s.ret.length ∧ left - s.data.length - s.ret.length - s.mem.length < s.cells.length) ∨
      (s.data.length ≤ left ∧ s.ret.length ≤ left - s.data.length ∧ s.mem.length ≤ left - s.data.length - s.ret.length ∧ s.cells.length ≤ left - s.data.length - s.ret.length - s.mem.length ∧ left - s.data.length - s.ret.length - s.mem.length - s.cells.length < s.vars.length) ∨
      (s.data.length ≤ left ∧ s.ret.length ≤ left - s.data.length ∧ s.mem.length ≤ left - s.data.length - s.ret.length ∧ s.cells.length ≤ left - s.data.length - s.ret.length - s.mem.length ∧ s.vars.length ≤ left - s.data.length - s.ret.length - s.mem.length - s.cells.length ∧ left - s.data.length - s.ret.length - s.mem.length - s.cells.length - s.vars.length < s.out.length) ∨
      (s.data.length ≤ left ∧ s.ret.length ≤ left - s.data.length ∧ s.mem.length ≤ left - s.data.length - s.ret.length ∧ s.cells.length ≤ left - s.data.length - s.ret.length - s.mem.length ∧ s.vars.length ≤ left - s.data.length - s.ret.length - s.mem.length - s.cells.length ∧ s.out.length ≤ left - s.data.length - s.ret.length - s.mem.length - s.cells.length - s.vars.length ∧ left - s.data.length - s.ret.length - s.mem.length - s.cells.length - s.vars.length - s.out.length < s.inp.length) ∨
      (s.data.length ≤ left ∧ s.ret.length ≤ left - s.data.length ∧ s.mem.length ≤ left - s.data.length - s.ret.length ∧ s.cells.length ≤ left - s.data.length - s.ret.length - s.mem.length ∧ s.vars.length ≤ left - s.data.length - s.ret.length - s.mem.length - s.cells.length ∧ s.out.length ≤ left - s.data.length - s.ret.length - s.mem.length - s.cells.length - s.vars.length ∧ s.inp.length ≤ left - s.data.length - s.ret.length - s.mem.length - s.cells.length - s.vars.length - s.out.length) := by omega
  rcases hc with g1 | ⟨g1, g2⟩ | ⟨g1, g2, g3⟩ | ⟨g1, g2, g3, g4⟩ | ⟨g1, g2, g3, g4, g5⟩ | ⟨g1, g2, g3, g4, g5, g6⟩ | ⟨g1, g2, g3, g4, g5, g6, g7⟩ | ⟨g1, g2, g3, g4, g5, g6, g7⟩
  all_goals
    go_enter Tryd.func6, Tryd.ntmps6
    go_wp2_with (first | (go_at_call 22; (first | refine (szInt32S_ok _ _ _ _ _ (by omega) (by omega)).mono ?_ | refine (szInt32S_no _ _ _ _ _ (by omega) (by omega) (by omega)).mono ?_); rintro e w' ⟨rfl, rfl⟩) | (go_at_call 23; (first | refine (szSlotS_ok _ _ _ _ _ (by omega) (by omega)).mono ?_ | refine (szSlotS_no _ _ _ _ _ (by omega) (by omega) (by omega)).mono ?_); rintro e w' ⟨rfl, rfl⟩) | (go_at_call 24; (first | refine (szUint32S_ok _ _ _ _ _ (by omega) (by omega)).mono ?_ | refine (szUint32S_no _ _ _ _ _ (by omega) (by omega) (by omega)).mono ?_); rintro e w' ⟨rfl, rfl⟩) | (go_at_call 25; (first | refine (szIntS_ok _ _ _ _ _ (by omega) (by omega)).mono ?_ | refine (szIntS_no _ _ _ _ _ (by omega) (by omega) (by omega)).mono ?_); rintro e w' ⟨rfl, rfl⟩) | (go_at_call 26; (first | refine (szByteS_ok _ _ _ _ _ (by omega) (by omega)).mono ?_ | refine (szByteS_no _ _ _ _ _ (by omega) (by omega) (by omega)).mono ?_); rintro e w' ⟨rfl, rfl⟩))
    go_ret
    exact ⟨⟨_, rfl, by unfold LSt.bulk; omega⟩, by repeat (first | exact Below.refl _ _ | apply bl_alloc)⟩
end Go.Proofs.YtgljbcdlldhlfaaDoor

/- Effects put one behind the other: contracts of Then, the program's and the reference's; and that they go together in any order of brackets. -/
import Derived.Test.YtfmmfgjelaekhaaDoorS
import Derived.Test.YtfmmfgjelaekhaaDoorV
import Derived.Deep.QuietTactic
import Derived.BigQuiet
import Derived.Outline
set_option linter.unusedVariables false
set_option linter.unusedSimpArgs false
namespace Go.Proofs.YtfmmfgjelaekhaaDoor
open Go.RowKit Go.Sort

def kB (n : Int) : Bool := decide (-1000 ≤ n ∧ n ≤ 1000)
def effOk (e : LEffect) : Bool := e.ok && (kB e.need && (kB e.most && kB e.gain))
def mxI (a b : Int) : Int := if a < b then b else a
def noEff : LEffect := ⟨false, 0, 0, 0⟩
def joinE (a b : LEffect) : LEffect := ⟨true, mxI a.need (b.need - a.gain), mxI a.most (b.most + a.gain), a.gain + b.gain⟩
def thenL (a b : LEffect) : LEffect := if effOk a = true ∧ effOk b = true then joinE a b else noEff
theorem effOk_iff {e : LEffect} : effOk e = true ↔ e.ok = true ∧ (-1000 ≤ e.need ∧ e.need ≤ 1000) ∧ (-1000 ≤ e.most ∧ e.most ≤ 1000) ∧ (-1000 ≤ e.gain ∧ e.gain ≤ 1000) := by simp [effOk, kB]
theorem mxmax (k k' : IntKind) (x y : Int) : Builtin.max2 (.int k x) (.int k' y) = pure (.int k (mxI x y)) := by simp only [Builtin.max2, gt_iff_lt, mxI]
theorem mxtwo (ats : Array TypeId) (ty : TypeId) (a b : Value) : Builtin.max_ ats ty #[a, b] = (Builtin.max2 a b >>= fun s => pure s) := by simp only [Builtin.max_, List.foldlM_cons, List.foldlM_nil]
attribute [local go_sem] mxmax mxtwo

theorem thenL_no_left {a b : LEffect} (h : ¬ effOk a = true) : thenL a b = noEff := by unfold thenL; rw [if_neg (fun k => h k.1)]
theorem thenL_no_right {a b : LEffect} (h : ¬ effOk b = true) : thenL a b = noEff := by unfold thenL; rw [if_neg (fun k => h k.2)]
theorem noEff_not : ¬ effOk noEff = true := by simp [effOk, noEff]

theorem withinK_calls (x : Int) (w : World) : Calls Tryd.prog 76 #[.int .i64 x, .int .i64 (-1000), .int .i64 1000] w fun e w' => e = .returned (.bool (kB x)) ∧ w = w' := by
  by_cases h1 : -1000 ≤ x <;> by_cases h2 : x ≤ 1000
  all_goals
    go_enter Tryd.func76, Tryd.ntmps76
    go_wp2
    go_ret
    exact ⟨by simp [kB, h1, h2], rfl⟩
theorem l01InK_calls (x : Int) (w : World) : Calls Tryd.prog 74 #[.int .i64 x, .int .i64 (-1000), .int .i64 1000] w fun e w' => e = .returned (.bool (kB x)) ∧ w = w' := by
  by_cases h1 : -1000 ≤ x <;> by_cases h2 : x ≤ 1000
  all_goals
    go_enter Tryd.func74, Tryd.ntmps74
    go_wp2
    go_ret
    exact ⟨by simp [kB, h1, h2], rfl⟩
theorem isEffect_calls (e : LEffect) (w : World) : Calls Tryd.prog 69 #[.agg #[.bool e.ok, .int .i64 e.need, .int .i64 e.most, .int .i64 e.gain]] w fun r w' => r = .returned (.bool (effOk e)) ∧ Below w.heap.size w w' := by
  obtain ⟨ok, n, m, g⟩ := e
  cases ok <;> cases h1 : kB n <;> cases h2 : kB m <;> cases h3 : kB g
  all_goals
    go_enter Tryd.func69, Tryd.ntmps69
    go_wp2_with (go_at_call 76; refine (withinK_calls _ _).mono ?_; rintro e w' ⟨rfl, rfl⟩)
    go_ret
    exact ⟨by simp [effOk, h1, h2, h3], bl_alloc (Below.refl _ _) _⟩
theorem l14Right_calls (e : LEffect) (w : World) : Calls Tryd.prog 71 #[.agg #[.bool e.ok, .int .i64 e.need, .int .i64 e.most, .int .i64 e.gain]] w fun r w' => r = .returned (.bool (effOk e)) ∧ Below w.heap.size w w' := by
  obtain ⟨ok, n, m, g⟩ := e
  cases ok <;> cases h1 : kB n <;> cases h2 : kB m <;> cases h3 : kB g
  all_goals
    go_enter Tryd.func71, Tryd.ntmps71
    go_wp2_with (go_at_call 74; refine (l01InK_calls _ _).mono ?_; rintro e w' ⟨rfl, rfl⟩)
    go_ret
    exact ⟨by simp [effOk, h1, h2, h3], bl_alloc (Below.refl _ _) _⟩
theorem l14Max_calls (a b : Int) (w : World) : Calls Tryd.prog 73 #[.int .i64 a, .int .i64 b] w fun e w' => e = .returned (.int .i64 (mxI a b)) ∧ w = w' := by
  by_cases h : b < a
  all_goals
    go_enter Tryd.func73, Tryd.ntmps73
    go_wp2
    go_ret
    exact ⟨ret_int (by unfold mxI; split <;> omega), rfl⟩
theorem l14OfX_calls (a b c : Int) (w : World) : Calls Tryd.prog 72 #[.int .i64 a, .int .i64 b, .int .i64 c] w fun e w' => e = .returned (.agg #[.bool true, .int .i64 a, .int .i64 b, .int .i64 c]) ∧ w.alloc (.cells #[.bool true, .int .i64 a, .int .i64 b, .int .i64 c] 25) = w' := by
  go_enter Tryd.func72, Tryd.ntmps72
  go_wp2
  exact bodyPost_ret (v := .agg #[.bool true, .int .i64 a, .int .i64 b, .int .i64 c]) (by simp [results, Tryd.results72, go_sem]) rfl ⟨rfl, rfl⟩
set_option maxRecDepth 100000 in
theorem thenI_calls (a b : LEffect) (w : World) (ha : effOk a = true) (hb : effOk b = true) : Calls Tryd.prog 70 #[.agg #[.bool a.ok, .int .i64 a.need, .int .i64 a.most, .int .i64 a.gain], .agg #[.bool b.ok, .int .i64 b.need, .int .i64 b.most, .int .i64 b.gain]] w fun r w' => r = .returned (.agg #[.bool (joinE a b).ok, .int .i64 (joinE a b).need, .int .i64 (joinE a b).most, .int .i64 (joinE a b).gain]) ∧ Below w.heap.size w w' := by
  obtain ⟨a0, a1, a2, a3⟩ := effOk_iff.1 ha
  obtain ⟨b0, b1, b2, b3⟩ := effOk_iff.1 hb
  clear ha hb a0 b0
  go_enter Tryd.func70, Tryd.ntmps70
  go_wp2
  exact bodyPost_ret (v := .agg #[.bool (joinE a b).ok, .int .i64 (joinE a b).need, .int .i64 (joinE a b).most, .int .i64 (joinE a b).gain]) (by simp [results, Tryd.results70, go_sem, joinE]) rfl ⟨rfl, by with_reducible repeat (first | exact Below.refl _ _ | apply bl_alloc)⟩
set_option maxRecDepth 100000 in
set_option maxHeartbeats 1000000 in
theorem Then_calls (a b : LEffect) (w : World) : Calls Tryd.prog 19 #[.agg #[.bool a.ok, .int .i64 a.need, .int .i64 a.most, .int .i64 a.gain], .agg #[.bool b.ok, .int .i64 b.need, .int .i64 b.most, .int .i64 b.gain]] w fun r w' => r = .returned (.agg #[.bool (thenL a b).ok, .int .i64 (thenL a b).need, .int .i64 (thenL a b).most, .int .i64 (thenL a b).gain]) ∧ Below w.heap.size w w' := by
  have HK : Hid (Bx (((w.alloc (.cells #[.bool a.ok, .int .i64 a.need, .int .i64 a.most, .int .i64 a.gain] 25)).alloc (.cells #[.bool b.ok, .int .i64 b.need, .int .i64 b.most, .int .i64 b.gain] 25)).alloc (.cells #[.bool false, .int .i64 0, .int .i64 0, .int .i64 0] 25)) w.heap.size [(#[.bool a.ok, .int .i64 a.need, .int .i64 a.most, .int .i64 a.gain], 25), (#[.bool b.ok, .int .i64 b.need, .int .i64 b.most, .int .i64 b.gain], 25), (#[.bool false, .int .i64 0, .int .i64 0, .int .i64 0], 25)]) := Lib.hid (Bx.three w _ _ _ _ _ _)
  have z0 := HK.out.lt (by simp)
  have HB := Lib.hid (bl_alloc (bl_alloc (bl_alloc (Below.refl _ w) (.cells #[.bool a.ok, .int .i64 a.need, .int .i64 a.most, .int .i64 a.gain] 25)) (.cells #[.bool b.ok, .int .i64 b.need, .int .i64 b.most, .int .i64 b.gain] 25)) (.cells #[.bool false, .int .i64 0, .int .i64 0, .int .i64 0] 25))
  by_cases ha : effOk a = true
  · by_cases hb : effOk b = true
    · have e1 : thenL a b = joinE a b := if_pos ⟨ha, hb⟩
      have hbb := hb
      rw [e1]
      clear e1 hb
      go_enter Tryd.func19, Tryd.ntmps19
      go_wp2_with (first | (go_at_call 69; (with_reducible refine (isEffect_calls a _).mono ?_); rintro e w1 ⟨rfl, hb⟩; have HB := Lib.hid (bl_call (by with_reducible repeat (first | exact HB.out | apply bl_alloc | apply bl_drew)) hb); have HK := Lib.hid (Bx.call (by with_reducible repeat (first | exact HK.out | apply Bx.alloc | apply Bx.drew)) hb); obtain ⟨k0, k1, k2, -⟩ := HK.out; have c0 := blk_cell k0; have c1 := blk_cell k1; have c2 := blk_cell k2; have f2 := blk_frozen k2; have z0 := blk_lt k0; have z1 := blk_lt k1; have z2 := blk_lt k2; clear hb k0 k1 k2) | (go_at_call 69; (with_reducible refine (isEffect_calls b _).mono ?_); rintro e w1 ⟨rfl, hb⟩; have HB := Lib.hid (bl_call (by with_reducible repeat (first | exact HB.out | apply bl_alloc | apply bl_drew)) hb); have HK := Lib.hid (Bx.call (by with_reducible repeat (first | exact HK.out | apply Bx.alloc | apply Bx.drew)) hb); obtain ⟨k0, k1, k2, -⟩ := HK.out; have c0 := blk_cell k0; have c1 := blk_cell k1; have c2 := blk_cell k2; have f2 := blk_frozen k2; have z0 := blk_lt k0; have z1 := blk_lt k1; have z2 := blk_lt k2; clear hb k0 k1 k2) | (go_at_call 70; (with_reducible refine (thenI_calls a b _ ha hbb).mono ?_); rintro e w1 ⟨rfl, hb⟩; have HB := Lib.hid (bl_call (by with_reducible repeat (first | exact HB.out | apply bl_alloc | apply bl_drew)) hb); have HK := Lib.hid (Bx.call (by with_reducible repeat (first | exact HK.out | apply Bx.alloc | apply Bx.drew)) hb); obtain ⟨k0, k1, k2, -⟩ := HK.out; have c0 := blk_cell k0; have c1 := blk_cell k1; have c2 := blk_cell k2; have f2 := blk_frozen k2; have z0 := blk_lt k0; have z1 := blk_lt k1; have z2 := blk_lt k2; clear hb k0 k1 k2))
      exact bodyPost_ret (v := .agg #[.bool (joinE a b).ok, .int .i64 (joinE a b).need, .int .i64 (joinE a b).most, .int .i64 (joinE a b).gain]) (by simp [results, Tryd.results19, go_sem, c2]) rfl ⟨rfl, by with_reducible repeat (first | exact HB.out | refine bl_set2 ?_ _)⟩
    · have e1 : thenL a b = noEff := thenL_no_right hb
      have hbb : effOk b = false := by simpa using hb
      rw [e1]
      clear e1 hb
      go_enter Tryd.func19, Tryd.ntmps19
      go_wp2_with (first | (go_at_call 69; (with_reducible refine (isEffect_calls a _).mono ?_); rintro e w1 ⟨rfl, hb⟩; have HB := Lib.hid (bl_call (by with_reducible repeat (first | exact HB.out | apply bl_alloc | apply bl_drew)) hb); have HK := Lib.hid (Bx.call (by with_reducible repeat (first | exact HK.out | apply Bx.alloc | apply Bx.drew)) hb); obtain ⟨k0, k1, k2, -⟩ := HK.out; have c0 := blk_cell k0; have c1 := blk_cell k1; have c2 := blk_cell k2; have f2 := blk_frozen k2; have z0 := blk_lt k0; have z1 := blk_lt k1; have z2 := blk_lt k2; clear hb k0 k1 k2) | (go_at_call 69; (with_reducible refine (isEffect_calls b _).mono ?_); rintro e w1 ⟨rfl, hb⟩; have HB := Lib.hid (bl_call (by with_reducible repeat (first | exact HB.out | apply bl_alloc | apply bl_drew)) hb); have HK := Lib.hid (Bx.call (by with_reducible repeat (first | exact HK.out | apply Bx.alloc | apply Bx.drew)) hb); obtain ⟨k0, k1, k2, -⟩ := HK.out; have c0 := blk_cell k0; have c1 := blk_cell k1; have c2 := blk_cell k2; have f2 := blk_frozen k2; have z0 := blk_lt k0; have z1 := blk_lt k1; have z2 := blk_lt k2; clear hb k0 k1 k2))
      exact bodyPost_ret (v := .agg #[.bool (noEff).ok, .int .i64 (noEff).need, .int .i64 (noEff).most, .int .i64 (noEff).gain]) (by simp [results, Tryd.results19, go_sem, c2, noEff]) rfl ⟨rfl, by with_reducible repeat (first | exact HB.out | refine bl_set2 ?_ _)⟩
  · have e1 : thenL a b = noEff := thenL_no_left ha
    have hbb : effOk a = false := by simpa using ha
    rw [e1]
    clear e1 ha
    go_enter Tryd.func19, Tryd.ntmps19
    go_wp2_with (go_at_call 69; (with_reducible refine (isEffect_calls a _).mono ?_); rintro e w1 ⟨rfl, hb⟩; have HB := Lib.hid (bl_call (by with_reducible repeat (first | exact HB.out | apply bl_alloc | apply bl_drew)) hb); have HK := Lib.hid (Bx.call (by with_reducible repeat (first | exact HK.out | apply Bx.alloc | apply Bx.drew)) hb); obtain ⟨k0, k1, k2, -⟩ := HK.out; have c0 := blk_cell k0; have c1 := blk_cell k1; have c2 := blk_cell k2; have f2 := blk_frozen k2; have z0 := blk_lt k0; have z1 := blk_lt k1; have z2 := blk_lt k2; clear hb k0 k1 k2)
    exact bodyPost_ret (v := .agg #[.bool (noEff).ok, .int .i64 (noEff).need, .int .i64 (noEff).most, .int .i64 (noEff).gain]) (by simp [results, Tryd.results19, go_sem, c2, noEff]) rfl ⟨rfl, by with_reducible repeat (first | exact HB.out | refine bl_set2 ?_ _)⟩
set_option maxRecDepth 100000 in
set_option maxHeartbeats 1000000 in
theorem specThen_calls (a b : LEffect) (w : World) : Calls Tryd.prog 20 #[.agg #[.bool a.ok, .int .i64 a.need, .int .i64 a.most, .int .i64 a.gain], .agg #[.bool b.ok, .int .i64 b.need, .int .i64 b.most, .int .i64 b.gain]] w fun r w' => r = .returned (.agg #[.bool (thenL a b).ok, .int .i64 (thenL a b).need, .int .i64 (thenL a b).most, .int .i64 (thenL a b).gain]) ∧ Below w.heap.size w w' := by
  have HK : Hid (Bx (((w.alloc (.cells #[.bool a.ok, .int .i64 a.need, .int .i64 a.most, .int .i64 a.gain] 25)).alloc (.cells #[.bool b.ok, .int .i64 b.need, .int .i64 b.most, .int .i64 b.gain] 25)).alloc (.cells #[.bool false, .int .i64 0, .int .i64 0, .int .i64 0] 25)) w.heap.size [(#[.bool a.ok, .int .i64 a.need, .int .i64 a.most, .int .i64 a.gain], 25), (#[.bool b.ok, .int .i64 b.need, .int .i64 b.most, .int .i64 b.gain], 25), (#[.bool false, .int .i64 0, .int .i64 0, .int .i64 0], 25)]) := Lib.hid (Bx.three w _ _ _ _ _ _)
  have z0 := HK.out.lt (by simp)
  have HB := Lib.hid (bl_alloc (bl_alloc (bl_alloc (Below.refl _ w) (.cells #[.bool a.ok, .int .i64 a.need, .int .i64 a.most, .int .i64 a.gain] 25)) (.cells #[.bool b.ok, .int .i64 b.need, .int .i64 b.most, .int .i64 b.gain] 25)) (.cells #[.bool false, .int .i64 0, .int .i64 0, .int .i64 0] 25))
  by_cases ha : effOk a = true
  · by_cases hb : effOk b = true
    · have e1 : thenL a b = joinE a b := if_pos ⟨ha, hb⟩
      have hbb := hb
      rw [e1]
      clear e1 hb
      obtain ⟨a0, a1, a2, a3⟩ := effOk_iff.1 ha
      obtain ⟨b0, b1, b2, b3⟩ := effOk_iff.1 hbb
      clear a0 b0
      go_enter Tryd.func20, Tryd.ntmps20
      go_wp2_with (first | (go_at_call 71; (with_reducible refine (l14Right_calls a _).mono ?_); rintro e w1 ⟨rfl, hb⟩; have HB := Lib.hid (bl_call (by with_reducible repeat (first | exact HB.out | apply bl_alloc | apply bl_drew)) hb); have HK := Lib.hid (Bx.call (by with_reducible repeat (first | exact HK.out | apply Bx.alloc | apply Bx.drew)) hb); obtain ⟨k0, k1, k2, -⟩ := HK.out; have c0 := blk_cell k0; have c1 := blk_cell k1; have c2 := blk_cell k2; have f2 := blk_frozen k2; have z0 := blk_lt k0; have z1 := blk_lt k1; have z2 := blk_lt k2; clear hb k0 k1 k2) | (go_at_call 71; (with_reducible refine (l14Right_calls b _).mono ?_); rintro e w1 ⟨rfl, hb⟩; have HB := Lib.hid (bl_call (by with_reducible repeat (first | exact HB.out | apply bl_alloc | apply bl_drew)) hb); have HK := Lib.hid (Bx.call (by with_reducible repeat (first | exact HK.out | apply Bx.alloc | apply Bx.drew)) hb); obtain ⟨k0, k1, k2, -⟩ := HK.out; have c0 := blk_cell k0; have c1 := blk_cell k1; have c2 := blk_cell k2; have f2 := blk_frozen k2; have z0 := blk_lt k0; have z1 := blk_lt k1; have z2 := blk_lt k2; clear hb k0 k1 k2))
      have cM : ∀ x y d os, Calls Tryd.prog 73 #[.int .i64 x, .int .i64 y] (grow (redrawn w1 d) os) fun e w'' => e = .returned (.int .i64 (mxI x y)) ∧ ∃ p : Regrown, w'' = grow (redrawn w1 p.d) p.os := fun x y d os => (l14Max_calls x y _).mono (fun e w' ⟨h1, h2⟩ => ⟨h1, ⟨⟨d, os⟩, h2.symm⟩⟩)
      have M := Lib.hid cM
      clear cM
      have g01 := fun d os => cell_regrown (c0 1) d os
      have g02 := fun d os => cell_regrown (c0 2) d os
      have g03 := fun d os => cell_regrown (c0 3) d os
      have g11 := fun d os => cell_regrown (c1 1) d os
      have g12 := fun d os => cell_regrown (c1 2) d os
      have g13 := fun d os => cell_regrown (c1 3) d os
      refine wp_region_below_tail 21 (by kernel_rfl) (by kernel_rfl) ?_
      simp only [List.take_succ_cons, List.take_zero, List.drop_succ_cons, List.drop_zero]
      repeat (quiet_step (exact M.out _ _ _ _))
      refine wpQuiet_nil ?_
      intro w2 hw'
      obtain ⟨⟨dq, osq⟩, hw''⟩ := hw'
      have hb : Below w1.heap.size w1 w2 := by rw [hw'']; exact below_regrown w1 dq osq
      clear hw'' g01 g11 g02 g12 g03 g13
      have HB := Lib.hid (bl_call (by with_reducible repeat (first | exact HB.out | apply bl_alloc | apply bl_drew)) hb); have HK := Lib.hid (Bx.call (by with_reducible repeat (first | exact HK.out | apply Bx.alloc | apply Bx.drew)) hb); obtain ⟨k0, k1, k2, -⟩ := HK.out; have c0 := blk_cell k0; have c1 := blk_cell k1; have c2 := blk_cell k2; have f2 := blk_frozen k2; have z0 := blk_lt k0; have z1 := blk_lt k1; have z2 := blk_lt k2
      clear hb k0 k1 k2
      go_wp2_with (go_at_call 72; refine (l14OfX_calls _ _ _ _).mono ?_; rintro e w3 ⟨rfl, rfl⟩)
      exact bodyPost_ret (v := .agg #[.bool (joinE a b).ok, .int .i64 (joinE a b).need, .int .i64 (joinE a b).most, .int .i64 (joinE a b).gain]) (by simp [results, Tryd.results20, go_sem, c2, z2, joinE]) rfl ⟨rfl, by with_reducible repeat (first | exact HB.out | refine bl_set2 ?_ _ | apply bl_alloc)⟩
    · have e1 : thenL a b = noEff := thenL_no_right hb
      have hbb : effOk b = false := by simpa using hb
      rw [e1]
      clear e1 hb
      go_enter Tryd.func20, Tryd.ntmps20
      go_wp2_with (first | (go_at_call 71; (with_reducible refine (l14Right_calls a _).mono ?_); rintro e w1 ⟨rfl, hb⟩; have HB := Lib.hid (bl_call (by with_reducible repeat (first | exact HB.out | apply bl_alloc | apply bl_drew)) hb); have HK := Lib.hid (Bx.call (by with_reducible repeat (first | exact HK.out | apply Bx.alloc | apply Bx.drew)) hb); obtain ⟨k0, k1, k2, -⟩ := HK.out; have c0 := blk_cell k0; have c1 := blk_cell k1; have c2 := blk_cell k2; have f2 := blk_frozen k2; have z0 := blk_lt k0; have z1 := blk_lt k1; have z2 := blk_lt k2; clear hb k0 k1 k2) | (go_at_call 71; (with_reducible refine (l14Right_calls b _).mono ?_); rintro e w1 ⟨rfl, hb⟩; have HB := Lib.hid (bl_call (by with_reducible repeat (first | exact HB.out | apply bl_alloc | apply bl_drew)) hb); have HK := Lib.hid (Bx.call (by with_reducible repeat (first | exact HK.out | apply Bx.alloc | apply Bx.drew)) hb); obtain ⟨k0, k1, k2, -⟩ := HK.out; have c0 := blk_cell k0; have c1 := blk_cell k1; have c2 := blk_cell k2; have f2 := blk_frozen k2; have z0 := blk_lt k0; have z1 := blk_lt k1; have z2 := blk_lt k2; clear hb k0 k1 k2))
      exact bodyPost_ret (v := .agg #[.bool (noEff).ok, .int .i64 (noEff).need, .int .i64 (noEff).most, .int .i64 (noEff).gain]) (by simp [results, Tryd.results20, go_sem, c2, noEff]) rfl ⟨rfl, by with_reducible repeat (first | exact HB.out | refine bl_set2 ?_ _)⟩
  · have e1 : thenL a b = noEff := thenL_no_left ha
    have hbb : effOk a = false := by simpa using ha
    rw [e1]
    clear e1 ha
    go_enter Tryd.func20, Tryd.ntmps20
    go_wp2_with (go_at_call 71; (with_reducible refine (l14Right_calls a _).mono ?_); rintro e w1 ⟨rfl, hb⟩; have HB := Lib.hid (bl_call (by with_reducible repeat (first | exact HB.out | apply bl_alloc | apply bl_drew)) hb); have HK := Lib.hid (Bx.call (by with_reducible repeat (first | exact HK.out | apply Bx.alloc | apply Bx.drew)) hb); obtain ⟨k0, k1, k2, -⟩ := HK.out; have c0 := blk_cell k0; have c1 := blk_cell k1; have c2 := blk_cell k2; have f2 := blk_frozen k2; have z0 := blk_lt k0; have z1 := blk_lt k1; have z2 := blk_lt k2; clear hb k0 k1 k2)
    exact bodyPost_ret (v := .agg #[.bool (noEff).ok, .int .i64 (noEff).need, .int .i64 (noEff).most, .int .i64 (noEff).gain]) (by simp [results, Tryd.results20, go_sem, c2, noEff]) rfl ⟨rfl, by with_reducible repeat (first | exact HB.out | refine bl_set2 ?_ _)⟩
/-! ### the plain law -/
theorem mxI_lo {a b n : Int} (h : n ≤ a) : n ≤ mxI a b := by unfold mxI; split <;> omega
theorem mxI_hi {a b n : Int} (h : a ≤ n) (k : b ≤ n) : mxI a b ≤ n := by unfold mxI; split <;> omega
/-- Small numbers. -/
def SmallE (e : LEffect) : Prop := (-300 ≤ e.need ∧ e.need ≤ 300) ∧ (0 ≤ e.most ∧ e.most ≤ 3) ∧ (-300 ≤ e.gain ∧ e.gain ≤ 300)
theorem thenL_assoc {a b c : LEffect} (ha : SmallE a) (hb : SmallE b) (hc : SmallE c) : thenL (thenL a b) c = thenL a (thenL b c) := by
  obtain ⟨aok, an, am, ag⟩ := a
  obtain ⟨bok, bn, bm, bg⟩ := b
  obtain ⟨cok, cn, cm, cg⟩ := c
  obtain ⟨ha1, ha2, ha3⟩ := ha
  obtain ⟨hb1, hb2, hb3⟩ := hb
  obtain ⟨hc1, hc2, hc3⟩ := hc
  simp only at ha1 ha2 ha3 hb1 hb2 hb3 hc1 hc2 hc3
  cases aok
  · rw [thenL_no_left (a := ⟨false, an, am, ag⟩) (by simp [effOk]), thenL_no_left noEff_not, thenL_no_left (by simp [effOk])]
  cases bok
  · rw [thenL_no_right (b := ⟨false, bn, bm, bg⟩) (by simp [effOk]), thenL_no_left noEff_not, thenL_no_left (a := ⟨false, bn, bm, bg⟩) (by simp [effOk]), thenL_no_right noEff_not]
  cases cok
  · rw [thenL_no_right (b := ⟨false, cn, cm, cg⟩) (by simp [effOk]), thenL_no_right (b := ⟨false, cn, cm, cg⟩) (by simp [effOk]), thenL_no_right noEff_not]
  have e1 : effOk ⟨true, an, am, ag⟩ = true := effOk_iff.2 ⟨rfl, by simp only; omega, by simp only; omega, by simp only; omega⟩
  have e2 : effOk ⟨true, bn, bm, bg⟩ = true := effOk_iff.2 ⟨rfl, by simp only; omega, by simp only; omega, by simp only; omega⟩
  have e3 : effOk ⟨true, cn, cm, cg⟩ = true := effOk_iff.2 ⟨rfl, by simp only; omega, by simp only; omega, by simp only; omega⟩
  have e4 : effOk (joinE ⟨true, an, am, ag⟩ ⟨true, bn, bm, bg⟩) = true := effOk_iff.2 ⟨rfl, by simp only [joinE, mxI]; split <;> omega, by simp only [joinE, mxI]; split <;> omega, by simp only [joinE]; omega⟩
  have e5 : effOk (joinE ⟨true, bn, bm, bg⟩ ⟨true, cn, cm, cg⟩) = true := effOk_iff.2 ⟨rfl, by simp only [joinE, mxI]; split <;> omega, by simp only [joinE, mxI]; split <;> omega, by simp only [joinE]; omega⟩
  have t1 : thenL ⟨true, an, am, ag⟩ ⟨true, bn, bm, bg⟩ = joinE ⟨true, an, am, ag⟩ ⟨true, bn, bm, bg⟩ := if_pos ⟨e1, e2⟩
  have t2 : thenL ⟨true, bn, bm, bg⟩ ⟨true, cn, cm, cg⟩ = joinE ⟨true, bn, bm, bg⟩ ⟨true, cn, cm, cg⟩ := if_pos ⟨e2, e3⟩
  rw [t1, t2]
  unfold thenL
  rw [if_pos ⟨e4, e3⟩, if_pos ⟨e1, e5⟩]
  simp only [joinE, LEffect.mk.injEq, true_and]
  unfold mxI
  refine ⟨?_, ?_, by omega⟩ <;> (repeat' split) <;> omega
end Go.Proofs.YtfmmfgjelaekhaaDoor

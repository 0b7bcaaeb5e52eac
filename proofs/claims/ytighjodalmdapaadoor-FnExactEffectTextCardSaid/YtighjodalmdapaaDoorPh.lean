/- Effects as texts: contracts of EffectText, the program's and the reference's, and the law's walk. -/
import Derived.Test.YtighjodalmdapaaDoorPg
import Derived.Lib.QuietBelow
set_option linter.unusedVariables false
set_option linter.unusedSimpArgs false
namespace Go.Proofs.YtighjodalmdapaaDoor
open Go.RowKit Go.Sort

theorem decT_size {n : Int} (h0 : -9223372036854775808 ≤ n) (h1 : n ≤ 9223372036854775807) : (decT n).size ≤ 20 := by
  have hl := nDigits_le 18 n.natAbs (by omega)
  rw [← Lib.decDigits_length] at hl
  have : (decT n).size = (Lib.itoa n).length := by simp [decT, ByteArray.size]
  rw [this, Lib.itoa]
  split
  · simp; omega
  · have e : n.toNat = n.natAbs := by omega
    rw [e]; omega
theorem i64_w (n : Int) : IntKind.i64.wrap n = wrap64 n := by unfold wrap64; exact IntKind.wrap_i64 n
theorem wrap64_lo (n : Int) : -9223372036854775808 ≤ wrap64 n := by unfold wrap64; omega
theorem wrap64_hi (n : Int) : wrap64 n ≤ 9223372036854775807 := by unfold wrap64; omega
def sep : ByteArray := ⟨#[32, 45, 45, 32]⟩
def effT (x : LEffect) : ByteArray := if x.ok then (decT x.need ++ sep) ++ decT (wrap64 (x.need + x.gain)) else ⟨#[63]⟩

set_option maxRecDepth 100000 in
set_option maxHeartbeats 1000000 in
theorem effectText_ok (a m g : Int) (x y : ByteArray) (w : World) (hx : x.size ≤ 20) (hy : y.size ≤ 20)
    (HX : ∀ W, Below w.heap.size w W → Calls Tryd.prog 48 #[.int .i64 a] W fun e w' => e = .returned (.string x) ∧ Below W.heap.size W w')
    (HY : ∀ W, Below w.heap.size w W → Calls Tryd.prog 48 #[.int .i64 (wrap64 (a + g))] W fun e w' => e = .returned (.string y) ∧ Below W.heap.size W w') :
    Calls Tryd.prog 17 #[.agg #[.bool true, .int .i64 a, .int .i64 m, .int .i64 g]] w fun e w' => e = .returned (.string ((x ++ sep) ++ y)) ∧ Below w.heap.size w w' := by
  obtain ⟨W, hW, cW, fW, zW, HB, HM, BW⟩ := box w #[.bool true, .int .i64 a, .int .i64 m, .int .i64 g] 29
  have e0 := cW 0
  have e1 := cW 1
  have e2 := cW 2
  have e3 := cW 3
  simp at e0 e1 e2 e3
  clear cW fW
  have cX : ∀ d os, Calls Tryd.prog 48 #[.int .i64 a] (grow (redrawn W d) os) fun e w'' => e = .returned (.string x) ∧ ∃ p : Regrown, w'' = grow (redrawn W p.d) p.os := fun d os => Calls.regrown_of (HX _ (bl_call HB.out (below_regrown W d os)))
  have cY : ∀ d os, Calls Tryd.prog 48 #[.int .i64 (wrap64 (a + g))] (grow (redrawn W d) os) fun e w'' => e = .returned (.string y) ∧ ∃ p : Regrown, w'' = grow (redrawn W p.d) p.os := fun d os => Calls.regrown_of (HY _ (bl_call HB.out (below_regrown W d os)))
  have cZ : ∀ d os, Calls Tryd.prog 48 #[.int .i64 (IntKind.i64.wrap (a + g))] (grow (redrawn W d) os) fun e w'' => e = .returned (.string y) ∧ ∃ p : Regrown, w'' = grow (redrawn W p.d) p.os := by rw [i64_w]; exact cY
  have X := Lib.hid cX
  have Y := Lib.hid cY
  have Z := Lib.hid cZ
  have g1 := fun d os => cell_regrown e1 d os
  have g3 := fun d os => cell_regrown e3 d os
  clear cX cY cZ HX HY
  have n1 : ¬ 9223372036854775807 < x.size + 4 := by omega
  have n2 : ¬ 9223372036854775807 < x.size + 4 + y.size := by omega
  go_enter Tryd.func17, Tryd.ntmps17
  go_wp2_with fail
  clear hW
  refine wp_region_quiet_below (by kernel_rfl) (by kernel_rfl) ?_
  repeat (quiet_step (first | exact X.out _ _ | exact Z.out _ _ | exact Y.out _ _))
  refine wpQuiet_nil ?_
  intro _ hw'
  obtain ⟨⟨dq, osq⟩, hw''⟩ := hw'
  subst hw''
  go_wp2
  go_ret
  exact ⟨rfl, bl_call HB.out (below_regrown W dq osq)⟩
theorem effectText_no (a m g : Int) (w : World) : Calls Tryd.prog 17 #[.agg #[.bool false, .int .i64 a, .int .i64 m, .int .i64 g]] w fun e w' => e = .returned (.string ⟨#[63]⟩) ∧ Below w.heap.size w w' := by
  go_enter Tryd.func17, Tryd.ntmps17
  go_wp2
  go_ret
  exact ⟨rfl, by with_reducible repeat (first | exact Below.refl _ _ | apply bl_alloc)⟩
theorem effectText_calls (x : LEffect) (w : World) (hP : Pow w) (h0 : -9223372036854775808 ≤ x.need) (h1 : x.need ≤ 9223372036854775807) :
    Calls Tryd.prog 17 #[.agg #[.bool x.ok, .int .i64 x.need, .int .i64 x.most, .int .i64 x.gain]] w fun e w' => e = .returned (.string (effT x)) ∧ Below w.heap.size w w' := by
  obtain ⟨ok, a, m, g⟩ := x
  cases ok
  · exact effectText_no a m g w
  · exact effectText_ok a m g _ _ w (decT_size h0 h1) (decT_size (wrap64_lo _) (wrap64_hi _)) (fun W hb => decText_calls a h0 h1 W (hP.call hb)) (fun W hb => decText_calls _ (wrap64_lo _) (wrap64_hi _) W (hP.call hb))
set_option maxRecDepth 100000 in
set_option maxHeartbeats 1000000 in
theorem specEffectText_ok (a m g : Int) (x y : ByteArray) (w : World) (hx : x.size ≤ 20) (hy : y.size ≤ 20)
    (HX : ∀ W, Calls Tryd.prog 47 #[.int .i64 a] W fun e w' => e = .returned (.string x) ∧ w' = W)
    (HY : ∀ s W, s = wrap64 (a + g) → Calls Tryd.prog 47 #[.int .i64 s] W fun e w' => e = .returned (.string y) ∧ w' = W) :
    Calls Tryd.prog 15 #[.agg #[.bool true, .int .i64 a, .int .i64 m, .int .i64 g]] w fun e w' => e = .returned (.string ((x ++ sep) ++ y)) ∧ Below w.heap.size w w' := by
  obtain ⟨W, hW, cW, fW, zW, HB, HM, BW⟩ := box w #[.bool true, .int .i64 a, .int .i64 m, .int .i64 g] 29
  have e0 := cW 0
  have e1 := cW 1
  have e2 := cW 2
  have e3 := cW 3
  simp at e0 e1 e2 e3
  clear cW fW
  have X := Lib.hid HX
  have Y := Lib.hid HY
  clear HX HY
  go_enter Tryd.func15, Tryd.ntmps15
  go_wp2_with fail
  clear hW
  go_quiet (first
    | (go_at_call 47; with_reducible exact Calls.quiet_of_same (X.out _))
    | (go_at_call 47; with_reducible exact Calls.quiet_of_same (Y.out _ _ (i64_w _)))
    | (go_at_call 47; with_reducible exact Calls.quiet_of_same (Y.out _ _ rfl)))
  go_wp2
  go_ret
  exact ⟨rfl, by with_reducible repeat (first | exact HB.out | apply bl_drew | apply bl_drewN)⟩
theorem specEffectText_no (a m g : Int) (w : World) : Calls Tryd.prog 15 #[.agg #[.bool false, .int .i64 a, .int .i64 m, .int .i64 g]] w fun e w' => e = .returned (.string ⟨#[63]⟩) ∧ Below w.heap.size w w' := by
  go_enter Tryd.func15, Tryd.ntmps15
  go_wp2
  go_ret
  exact ⟨rfl, by with_reducible repeat (first | exact Below.refl _ _ | apply bl_alloc)⟩
theorem specEffectText_calls (x : LEffect) (w : World) (h0 : -9223372036854775808 ≤ x.need) (h1 : x.need ≤ 9223372036854775807) :
    Calls Tryd.prog 15 #[.agg #[.bool x.ok, .int .i64 x.need, .int .i64 x.most, .int .i64 x.gain]] w fun e w' => e = .returned (.string (effT x)) ∧ Below w.heap.size w w' := by
  obtain ⟨ok, a, m, g⟩ := x
  cases ok
  · exact specEffectText_no a m g w
  · exact specEffectText_ok a m g _ _ w (decT_size h0 h1) (decT_size (wrap64_lo _) (wrap64_hi _)) (fun W => specDecText_calls a h0 h1 W) (fun s W hs => by subst hs; exact specDecText_calls _ (wrap64_lo _) (wrap64_hi _) W)
set_option maxRecDepth 100000 in
theorem lawEffectText_calls (x : LEffect) (w : World) (hP : Pow w) (h0 : -9223372036854775808 ≤ x.need) (h1 : x.need ≤ 9223372036854775807) : Calls Tryd.prog 5 #[.agg #[.bool x.ok, .int .i64 x.need, .int .i64 x.most, .int .i64 x.gain]] w fun e w' => e = .returned (.bool true) ∧ Below w.heap.size w w' := by
  have HP := Lib.hid hP
  have H0 := Lib.hid h0
  have H1 := Lib.hid h1
  clear hP h0 h1
  obtain ⟨W, hW, cW, fW, z0, HB0, HM, BW⟩ := box w #[.bool x.ok, .int .i64 x.need, .int .i64 x.most, .int .i64 x.gain] 27
  have e0 := cW 0
  have e1 := cW 1
  have e2 := cW 2
  have e3 := cW 3
  simp at e0 e1 e2 e3
  clear cW fW
  go_enter Tryd.func5, Tryd.ntmps5
  go_wp2_with fail
  clear hW
  refine (toEffect_calls x _).mono ?_
  rintro e w1 ⟨rfl, hb1⟩
  obtain ⟨q1, f1⟩ := bcell hb1
  have z1 := below1 hb1 z0
  have HB1 := Lib.hid (bl_call HB0.out hb1)
  have e0 := (q1 _ 0 z0).trans e0
  have e1 := (q1 _ 1 z0).trans e1
  have e2 := (q1 _ 2 z0).trans e2
  have e3 := (q1 _ 3 z0).trans e3
  clear hb1 q1
  go_wp2_with fail
  refine (specEffectText_calls x _ H0.out H1.out).mono ?_
  rintro e w2 ⟨rfl, hb2⟩
  obtain ⟨q2, f2⟩ := bcell hb2
  have z2 := below1 hb2 z1
  have HB2 := Lib.hid (bl_call HB1.out hb2)
  have e0 := (q2 _ 0 z1).trans e0
  have e1 := (q2 _ 1 z1).trans e1
  have e2 := (q2 _ 2 z1).trans e2
  have e3 := (q2 _ 3 z1).trans e3
  clear hb2 q2
  go_wp2_with fail
  refine (toEffect_calls x _).mono ?_
  rintro e w3 ⟨rfl, hb3⟩
  obtain ⟨q3, f3⟩ := bcell hb3
  have z3 := below1 hb3 z2
  have HB3 := Lib.hid (bl_call HB2.out hb3)
  have e0 := (q3 _ 0 z2).trans e0
  have e1 := (q3 _ 1 z2).trans e1
  have e2 := (q3 _ 2 z2).trans e2
  have e3 := (q3 _ 3 z2).trans e3
  clear hb3 q3
  go_wp2_with fail
  refine (effectText_calls x _ (HP.out.call HB3.out) H0.out H1.out).mono ?_
  rintro e w4 ⟨rfl, hb4⟩
  obtain ⟨q4, f4⟩ := bcell hb4
  have z4 := below1 hb4 z3
  have HB4 := Lib.hid (bl_call HB3.out hb4)
  have e0 := (q4 _ 0 z3).trans e0
  have e1 := (q4 _ 1 z3).trans e1
  have e2 := (q4 _ 2 z3).trans e2
  have e3 := (q4 _ 3 z3).trans e3
  clear hb4 q4
  go_wp2
  go_ret
  exact ⟨rfl, HB4.out⟩
end Go.Proofs.YtighjodalmdapaaDoor

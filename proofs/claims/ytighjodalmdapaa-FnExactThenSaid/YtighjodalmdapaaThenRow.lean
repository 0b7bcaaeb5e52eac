/- FnExactThen holds: the program's Then returns what the reference's returns, at all arguments (any two effects). No condition. The machine's side is printed by the kit's print.sh. -/
import Derived.Test.YtighjodalmdapaaRows
import Derived.Test.YtighjodalmdapaaPFnExactThenx
import Derived.WalkKit
import Derived.ProofKit
import Derived.OpenShut
import Derived.ShutString
import Derived.ChangeOld
import Derived.Below
import Derived.SizedLaws
import Derived.Lib.SmallJoins
namespace Go.Proofs.Ytighjodalmdapaa.ThenRow
open Go.ChangeShapes Go.WideShapes Go.ChangeAt Go.RowKit Go.Joins
open Go.Proofs.Ytighjodalmdapaa.PFnExactThen Go.Proofs.YtighjodalmdapaaW.PrintWords
set_option linter.unusedVariables false

theorem mx_eq (a b : Int) : (if a > b then some a else some b) = some (mx a b) := by
  unfold mx
  by_cases h : a > b
  · rw [if_pos h]; congr 1; omega
  · rw [if_neg h]; congr 1; omega
theorem in_eq (a : Int) : spec_l01In.f a (-1000) 1000 = impl_within.f a (-1000) 1000 := by
  unfold spec_l01In.f impl_within.f; rfl
theorem right_eq (b : Bool) (x y z : Int) : spec_l14Right.f b x y z = impl_isEffect.f b x y z := by
  unfold spec_l14Right.f impl_isEffect.f
  simp only [in_eq]
theorem within_some (a lo hi : Int) : ∃ r, impl_within.f a lo hi = some r := by
  unfold impl_within.f
  split
  · exact ⟨_, rfl⟩
  · exact ⟨_, rfl⟩
theorem right_some (b : Bool) (x y z : Int) : ∃ r, impl_isEffect.f b x y z = some r := by
  obtain ⟨r1, h1⟩ := within_some x (-1000) 1000
  obtain ⟨r2, h2⟩ := within_some y (-1000) 1000
  obtain ⟨r3, h3⟩ := within_some z (-1000) 1000
  unfold impl_isEffect.f
  simp only [h1, h2, h3, Option.bind_some]
  cases b <;> cases r1 <;> cases r2 <;> cases r3 <;> simp
theorem eff_self (a : Bool) (x y z : Int) : laws_eqEffect.f a x y z a x y z = some true := by
  unfold laws_eqEffect.f
  simp
theorem then_eq (b0 : Bool) (x1 x2 x3 : Int) (b1 : Bool) (y1 y2 y3 : Int) : ∃ r1 r2 r3 r4, spec_Then.f 1 b0 x1 x2 x3 b1 y1 y2 y3 = some (r1, r2, r3, r4) ∧ impl_Then.f b0 x1 x2 x3 b1 y1 y2 y3 = some (r1, r2, r3, r4) := by
  obtain ⟨r, hr⟩ := right_some b0 x1 x2 x3
  obtain ⟨s, hs⟩ := right_some b1 y1 y2 y3
  unfold spec_Then.f impl_Then.f
  simp only [right_eq, hr, hs, Option.bind_some, spec_Then.j0, spec_l14Max.f, mx_eq, spec_l14Of.f, impl_then.f]
  cases r <;> cases s <;> simp
theorem pure (b0 : Bool) (x1 x2 x3 : Int) (b1 : Bool) (y1 y2 y3 : Int) : laws_FnExactThen.f 1 b0 x1 x2 x3 b1 y1 y2 y3 = some true := by
  obtain ⟨r1, r2, r3, r4, h1, h2⟩ := then_eq b0 x1 x2 x3 b1 y1 y2 y3
  unfold laws_FnExactThen.f laws_toEffect.f
  simp only [Option.bind_some, h1, h2, eff_self, if_true]

theorem own : ownKnob Try.prog.godebug = none := by kernel_rfl
theorem laidOut : laidOutB Try.prog = true := by kernel_rfl
theorem trod_int_cell {P : Program} {w : World} {base : Nat} {spare : Nat → Bool} {held : Bool} {H : Type} {enc : TypeId × Value → H} {n : Nat} {t : TypeId} {k : IntKind} {v : Value} {y : DataW H × List MemPlace} (ht : P.underlying t = some (.int k)) (h : DataW.trod enc P w base spare held n t [v] = some y) : ∃ x, v = .int k x := by
  obtain ⟨x, e, _⟩ := DataW.trod_int ht h
  exact ⟨x, by simpa using e⟩
theorem trod_bool_cell {P : Program} {w : World} {base : Nat} {spare : Nat → Bool} {held : Bool} {H : Type} {enc : TypeId × Value → H} {n : Nat} {t : TypeId} {v : Value} {y : DataW H × List MemPlace} (ht : P.underlying t = some .bool) (h : DataW.trod enc P w base spare held n t [v] = some y) : ∃ x, v = .bool x := by
  obtain ⟨x, e, _⟩ := DataW.trod_bool ht h
  exact ⟨x, by simpa using e⟩
set_option maxRecDepth 100000 in
theorem lifted (os : Os) (started : os.Started) (H : Type) (enc : TypeId × Value → H) :
    ReturnsInHanded {} Try.checked os 3 .any (Rows.fnExactThenSpec.pre6 enc Try.prog Try.f3 Rows.fnExactThenRow.domain false) (Rows.fnExactThenSpec.post enc Try.prog Try.f3 false true false false) := by
  refine returnsInHanded_of_change_sized (C := Try.checked) own started (by kernel_rfl) Try.func3
    (ChangeSpec.witness6 (enc := enc) (C := Try.checked) false ⟨#[], #[.agg #[.bool false, .int .i64 0, .int .i64 0, .int .i64 0], .agg #[.bool false, .int .i64 0, .int .i64 0, .int .i64 0]], []⟩ 8 (by kernel_rfl) (by kernel_rfl) (by kernel_rfl) (by kernel_rfl)) ?_
  intro W base args ds gs before hval0 hW hcnd hsz0 _
  have hsz : (DataW.weightsEach Try.prog (Try.f3.params.toList ++ Rows.fnExactThenSpec.plain.varTypes Try.prog) (ds ++ gs)).all (· ≤ reachBytes) = true := hsz0
  have hval : ∀ (j : Nat) t v, Try.f3.params[j]? = some t → args[j]? = some v → Value.okWide Try.prog W .any base t v := hval0
  have hW' := hW
  obtain ⟨p, q, hA0, hV, rfl, hfz, hnd⟩ := hW
  have hA : DataW.TrodAll enc Try.prog W 0 (fun _ => true) true Try.f3.params.toList args.toList ds p := hA0
  rw [Try.params3] at hA hval hsz
  obtain ⟨v0, vs0, d0, ds0, p0, q0, hargs, rfl, rfl, h0, r0⟩ := trodAll_cons hA
  obtain ⟨v1, vs1, d1, ds1, p1, q1, rfl, rfl, rfl, h1, r1⟩ := trodAll_cons r0
  obtain ⟨rfl, rfl, rfl⟩ := trodAll_nil r1
  obtain rfl : args = #[v0, v1] := by cases args; simp_all
  obtain ⟨rfl, rfl⟩ := trodVars_none hV
  have k0 := h0
  have k1 := h1
  have lt0 : ∀ x ∈ p0, x.block < W.heap.size := by obtain ⟨m, hm⟩ := k0; exact DataW.trod_lt m _ _ _ hm
  have lt1 : ∀ x ∈ p1, x.block < W.heap.size := by obtain ⟨m, hm⟩ := k1; exact DataW.trod_lt m _ _ _ hm
  obtain ⟨c0, c1, c2, c3, y0, y1, y2, y3, m, rfl, rfl, rfl, a0, a1, a2, a3⟩ := open_agg4 Try.underlying23 (by kernel_rfl) (by kernel_rfl) (hval 0 23 v0 rfl rfl) h0
  obtain ⟨e0, e1, e2, e3, z0, z1, z2, z3, m', rfl, rfl, rfl, b0, b1, b2, b3⟩ := open_agg4 Try.underlying23 (by kernel_rfl) (by kernel_rfl) (hval 1 23 v1 rfl rfl) h1
  obtain ⟨x0, g0⟩ := trod_bool_cell Try.underlying4 a0
  obtain ⟨x1, g1⟩ := trod_int_cell Try.underlying3 a1
  obtain ⟨x2, g2⟩ := trod_int_cell Try.underlying3 a2
  obtain ⟨x3, g3⟩ := trod_int_cell Try.underlying3 a3
  obtain ⟨u0, j0⟩ := trod_bool_cell Try.underlying4 b0
  obtain ⟨u1, j1⟩ := trod_int_cell Try.underlying3 b1
  obtain ⟨u2, j2⟩ := trod_int_cell Try.underlying3 b2
  obtain ⟨u3, j3⟩ := trod_int_cell Try.underlying3 b3
  subst g0 g1 g2 g3 j0 j1 j2 j3
  clear hA0 hval0 hsz0 hsz
  refine (laws_FnExactThen.calls 1 x0 x1 x2 x3 u0 u1 u2 u3 true W (pure ..)).mono fun e W' ⟨he, bel⟩ => ?_
  subst he
  exact ⟨_, rfl, _, _, _, [], _, [], hW', trodAll_mk1 (shut_bool Try.underlying4 _), (trodAll_cons_mk (Below.trod laidOut (by kernel_rfl) (of_decide_eq_true (by kernel_rfl)) k0 bel lt0) (trodAll_cons_mk (Below.trod laidOut (by kernel_rfl) (of_decide_eq_true (by kernel_rfl)) k1 bel lt1) trodAll_mk0)), rfl, bel.frame _, fun h => by cases h⟩
theorem over : Rows.fnExactThenRow.holds Try.pinned (OpenSpec.ofChange Rows.fnExactThenSpec) :=
  OpenClaim.holds_of_wide 3 Try.f3 rfl rfl rfl rfl rfl rfl rfl ⟨rfl, rfl, rfl, rfl, rfl⟩ rfl rfl rfl rfl rfl (by kernel_rfl) Try.func3 (by kernel_rfl)
    (of_decide_eq_true (by kernel_rfl)) (by unfold Func.isWrapper; first | (rw [if_pos (by decide +kernel)]; kernel_rfl) | (rw [if_neg (by decide +kernel)]; exact ⟨rfl, rfl⟩))
    (fun os started H enc _ => lifted os started H enc)
end Go.Proofs.Ytighjodalmdapaa.ThenRow
namespace Go.Proofs.Ytighjodalmdapaa
/-- The row, under a short name, for the claim. -/
theorem then_holds : Rows.FnExactThenSaid := ThenRow.over
#print axioms then_holds
end Go.Proofs.Ytighjodalmdapaa

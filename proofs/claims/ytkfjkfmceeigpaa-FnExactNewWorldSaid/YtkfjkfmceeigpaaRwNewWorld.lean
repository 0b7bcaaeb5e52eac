/- FnExactNewWorld holds: the program's NewWorld returns what the reference's returns, for every store, every text of bytes and every fuel; it leaves its arguments alone and shares no memory. No condition. -/
import Derived.Test.YtkfjkfmceeigpaaRows
import Derived.Test.YtkfjkfmceeigpaaLwNewWorld
import Derived.Test.YtkfjkfmceeigpaaOpSr
import Derived.ProofKit
import Derived.OpenShut
import Derived.ShutString
import Derived.ChangeOld
import Derived.Below
import Derived.SizedLaws
set_option linter.unusedVariables false
set_option linter.unusedSimpArgs false
namespace Go.Proofs.Ytkfjkfmceeigpaa.RwNewWorld
open Go.ChangeShapes Go.WideShapes Go.ChangeAt Go.RowKit
open Go.ChangeMaps (open_string shut_string)
theorem own : ownKnob Try.prog.godebug = none := by kernel_rfl
theorem laidOut : laidOutB Try.prog = true := by kernel_rfl
set_option maxRecDepth 100000 in
theorem lifted (os : Os) (started : os.Started) (H : Type) (enc : TypeId × Value → H) :
    ReturnsInHanded {} Try.checked os 7 .any (Rows.fnExactNewWorldSpec.pre6 enc Try.prog Try.f7 Rows.fnExactNewWorldRow.domain false) (Rows.fnExactNewWorldSpec.post enc Try.prog Try.f7 false true false false) := by
  refine returnsInHanded_of_change_sized (C := Try.checked) own started (by kernel_rfl) Try.func7
    (ChangeSpec.witness6 (enc := enc) (C := Try.checked) false ⟨#[], #[.agg #[.slice none 0 0], .slice none 0 0, .int .i64 0], []⟩ 8 (by kernel_rfl) (by kernel_rfl) (by kernel_rfl) (by kernel_rfl)) ?_
  intro W base args ds gs before hval0 hW hcnd hsz0 _
  have hsz : (DataW.weightsEach Try.prog (Try.f7.params.toList ++ Rows.fnExactNewWorldSpec.plain.varTypes Try.prog) (ds ++ gs)).all (· ≤ reachBytes) = true := hsz0
  have hval : ∀ (j : Nat) t v, Try.f7.params[j]? = some t → args[j]? = some v → Value.okWide Try.prog W .any base t v := hval0
  have hW' := hW
  obtain ⟨p, q, hA0, hV, rfl, hfz, hnd⟩ := hW
  have hA : DataW.TrodAll enc Try.prog W 0 (fun _ => true) true Try.f7.params.toList args.toList ds p := hA0
  rw [Try.params7] at hA hval hsz
  obtain ⟨v0, vs0, d0, ds0, p0, q0, hargs, rfl, rfl, h0, r0⟩ := trodAll_cons hA
  obtain ⟨v1, vs1, d1, ds1, p1, q1, rfl, rfl, rfl, h1, r1⟩ := trodAll_cons r0
  obtain ⟨v2, vs2, d2, ds2, p2, q2, rfl, rfl, rfl, h2, r2⟩ := trodAll_cons r1
  obtain ⟨rfl, rfl, rfl⟩ := trodAll_nil r2
  obtain rfl : args = #[v0, v1, v2] := by cases args; simp_all
  obtain ⟨rfl, rfl⟩ := trodVars_none hV
  have k0 := h0
  have lt0 : ∀ x ∈ p0, x.block < W.heap.size := by obtain ⟨m, hm⟩ := k0; exact DataW.trod_lt m _ _ _ hm
  have k1 := h1
  have lt1 : ∀ x ∈ p1, x.block < W.heap.size := by obtain ⟨m, hm⟩ := k1; exact DataW.trod_lt m _ _ _ hm
  have k2 := h2
  have lt2 : ∀ x ∈ p2, x.block < W.heap.size := by obtain ⟨m, hm⟩ := k2; exact DataW.trod_lt m _ _ _ hm
  obtain ⟨cs0, hcs0, _⟩ := okWide_struct Try.underlying24 (hval 0 24 v0 rfl rfl)
  obtain ⟨A0, n0, xs0, ev0, rd0, le0b⟩ : ∃ (A : Option Addr) (c : Nat) (xs : List Int), v0 = .agg #[.slice A xs.length c] ∧ Rd W A (xs.map (Value.int .u32)) ∧ xs.length ≤ 140737488355328 := by
    obtain ⟨m, hm⟩ := h0
    rw [hcs0] at hm ⊢
    exact open_Store rfl (by simpa [Value.cells] using hm) (fit_arg hsz (j := 0) rfl rfl)
  subst ev0
  obtain ⟨aa1, ll1, cc1, hv1⟩ := okWide_slice Try.underlying25 (hval 1 25 v1 rfl rfl)
  obtain ⟨A1, n1, xs1, ev1, le1, _, rd1, sz1, wf1⟩ : ∃ (A : Option Addr) (c : Nat) (xs : List Int), v1 = .slice A xs.length c ∧ xs.length ≤ c ∧ c ≤ maxLen ∧ Rd W A (xs.map (Value.int .u8)) ∧ xs.length * Try.prog.bytesOf 5 ≤ reachBytes ∧ ∀ x ∈ xs, (Lit.int .u8 x).wf = true := by
    obtain ⟨m, hm⟩ := h1
    rw [hv1] at hm ⊢
    exact open_ints1 Try.underlying25 Try.underlying5 (by kernel_rfl) (by simpa [Value.cells] using hm) (fit_arg hsz (j := 1) rfl rfl)
  rw [show Try.prog.bytesOf 5 = 1 by kernel_rfl] at sz1
  have le1b : xs1.length ≤ 140737488355328 := by simp only [reachBytes] at sz1; omega
  subst ev1
  have bd1 : ∀ x ∈ xs1, 0 ≤ x ∧ x ≤ 255 := fun x hx => by simpa [Lit.wf, IntKind.min, IntKind.max, IntKind.signed, IntKind.bits] using wf1 x hx
  obtain ⟨a2, rfl, rfl, rfl, w2⟩ := open_int Try.underlying3 (hval 2 3 v2 rfl rfl) h2
  clear hA0 hval0 hsz0 hsz
  refine (lawNewWorld_calls A0 n0 xs0 A1 n1 xs1 a2 W rd0 rd1 le0b le1b).mono fun e W' ⟨he, bel⟩ => ?_
  subst he
  exact ⟨_, rfl, _, _, _, [], _, [], hW', trodAll_mk1 (shut_bool Try.underlying4 _), (trodAll_cons_mk (Below.trod laidOut (by kernel_rfl) (of_decide_eq_true (by kernel_rfl)) k0 bel lt0) (trodAll_cons_mk (Below.trod laidOut (by kernel_rfl) (of_decide_eq_true (by kernel_rfl)) k1 bel lt1) (trodAll_cons_mk (Below.trod laidOut (by kernel_rfl) (of_decide_eq_true (by kernel_rfl)) k2 bel lt2) trodAll_mk0))), rfl, bel.frame _, fun h => by cases h⟩
theorem over : Rows.fnExactNewWorldRow.holds Try.pinned (OpenSpec.ofChange Rows.fnExactNewWorldSpec) :=
  OpenClaim.holds_of_wide 7 Try.f7 rfl rfl rfl rfl rfl rfl rfl ⟨rfl, rfl, rfl, rfl, rfl⟩ rfl rfl rfl rfl rfl (by kernel_rfl) Try.func7 (by kernel_rfl)
    (of_decide_eq_true (by kernel_rfl)) (by unfold Func.isWrapper; first | (rw [if_pos (by decide +kernel)]; kernel_rfl) | (rw [if_neg (by decide +kernel)]; exact ⟨rfl, rfl⟩))
    (fun os started H enc _ => lifted os started H enc)
end Go.Proofs.Ytkfjkfmceeigpaa.RwNewWorld
namespace Go.Proofs.Ytkfjkfmceeigpaa
/-- The row, under a short name, for the claim. -/
theorem newWorld_holds : Rows.FnExactNewWorldSaid := RwNewWorld.over
#print axioms newWorld_holds
end Go.Proofs.Ytkfjkfmceeigpaa

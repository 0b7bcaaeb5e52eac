/- Which definitions are right: contracts of DefsOk, the program's and the reference's. -/
import Derived.Test.YtjciibhaifabjaaDoorSh
import Derived.Test.YtjciibhaifabjaaDoorNm
import Derived.Test.YtjciibhaifabjaaDoorDf
set_option linter.unusedVariables false
set_option linter.unusedSimpArgs false
namespace Go.Proofs.YtjciibhaifabjaaDoor
open Go.RowKit

/-- Does an op call a definition that is not? -/
def callB (m : Nat) (o : LOp) : Bool := decide (o.kind = 2) && decide ((m : Int) ≤ o.n)
def defOk (m : Nat) (z : DDef) : Bool := nameOk z.name && (shapeOk z.body && !(z.body.any (callB m)))
def defsOk (zs : List DDef) : Bool := decide (zs.length ≤ 24) && zs.all (defOk zs.length)
theorem defOk_1 {m : Nat} {z : DDef} (h : nameOk z.name = false) : defOk m z = false := by simp [defOk, h]
theorem defOk_2 {m : Nat} {z : DDef} (h : shapeOk z.body = false) : defOk m z = false := by simp [defOk, h]
theorem defOk_3 {m : Nat} {z : DDef} (h1 : nameOk z.name = true) (h2 : shapeOk z.body = true) : defOk m z = !(z.body.any (callB m)) := by simp [defOk, h1, h2]
theorem defsOk_long {zs : List DDef} (h : 24 < zs.length) : defsOk zs = false := by
  have : ¬ zs.length ≤ 24 := by omega
  simp [defsOk, this]
theorem defsOk_any {zs : List DDef} (h : zs.length ≤ 24) : defsOk zs = !(zs.any fun z => !defOk zs.length z) := by
  simp [defsOk, h, List.all_eq_not_any_not]
theorem defsOk_at {zs : List DDef} {k : Nat} {z : DDef} (hu : zs[k]? = some z) (h : defOk zs.length z = false) : defsOk zs = false := by
  have : zs.all (defOk zs.length) = false := by
    rw [List.all_eq_false]
    exact ⟨z, List.mem_of_getElem? hu, by rw [h]; simp⟩
  rw [defsOk, this, Bool.and_false]
theorem defsOk_all {zs : List DDef} (h : zs.length ≤ 24) (ha : ∀ z ∈ zs, defOk zs.length z = true) : defsOk zs = true := by
  rw [defsOk, List.all_eq_true.2 ha, decide_eq_true h]
  rfl
theorem callsBelowC_calls (k n : Int) (m g : Nat) (w : World) (hc : w.cell? ⟨g, 0, none⟩ = some (.int .i64 m)) (hn0 : -2147483648 ≤ n) (hn1 : n ≤ 2147483647) :
    Calls Tryd.prog 104 #[.agg #[.int .i64 k, .int .i32 n], .pointer (some ⟨g, 0, none⟩)] w fun e w' => e = .returned (.bool (callB m ⟨k, n⟩)) ∧ Below w.heap.size w w' := by
  have hg : g < w.heap.size := World.block_lt_of_cell? w _ hc
  by_cases hk : k = 2
  · subst hk
    go_enter Tryd.func104, Tryd.ntmps104
    go_wp2
    go_ret
    exact ⟨ret_bool (by simp [callB]), bl_alloc (Below.refl _ _) _⟩
  · have e2 : (k == 2) = false := by simpa using hk
    have HF : Hid (callB m ⟨k, n⟩ = false) := Lib.hid (by simp [callB, hk])
    clear hk
    go_enter Tryd.func104, Tryd.ntmps104
    go_wp2
    go_ret
    exact ⟨ret_bool HF.out.symm, bl_alloc (Below.refl _ _) _⟩
set_option maxRecDepth 100000 in
theorem callsBelow_calls (A : Option Addr) (c : Nat) (xs : List LOp) (m : Nat) (w : World) (hr : Rd w A (xs.flatMap LOp.enc)) (hx : ∀ x ∈ xs, x.ok32) (hn : xs.length ≤ 140737488355328) :
    Calls Tryd.prog 69 #[.slice A xs.length c, .int .i64 m] w fun e w' => e = .returned (.bool (!(xs.any (callB m)))) ∧ Below w.heap.size w w' := by
  have HR := Lib.hid hr
  have HCL : Hid (∀ (W : World) (x : LOp), Below (w.alloc (.cells #[.int .i64 m] 3)).heap.size (w.alloc (.cells #[.int .i64 m] 3)) W → x ∈ xs → Calls Tryd.prog 104 (#[.agg (LOp.enc x).toArray] ++ #[.pointer (some ⟨w.heap.size, 0, none⟩)]) W fun e w' => e = .returned (.bool (callB m x)) ∧ Below W.heap.size W w') :=
    Lib.hid fun W x hb hm => callsBelowC_calls x.kind x.n m w.heap.size W (blk_cell (blk_call (blk_new w _) hb) 0) (hx x hm).1 (hx x hm).2
  clear hr hx
  go_enter Tryd.func69, Tryd.ntmps69
  go_wp2_with fail
  refine (contFOp_calls LOp.enc LOp.enc_len (callB m) A c xs 104 #[.pointer (some ⟨w.heap.size, 0, none⟩)] (fun _ _ => by kernel_rfl) _ (HR.out.call (bl_alloc (Below.refl _ _) _)) hn HCL.out).mono ?_
  rintro e w2 ⟨rfl, hb⟩
  have HB := Lib.hid (bl_call (bl_alloc (Below.refl _ _) _) hb)
  clear hb
  generalize hq : xs.any (callB m) = r
  go_wp2_with fail
  go_ret
  exact ⟨ret_bool (by rw [hq]), HB.out⟩
theorem defsOk_val {ys zs : List DDef} (h : ys.map DDef.val = zs.map DDef.val) : defsOk ys = defsOk zs := by
  have e : ∀ l : List DDef, defsOk l = (decide ((l.map DDef.val).length ≤ 24) && (l.map DDef.val).all fun v => defOk (l.map DDef.val).length ⟨v.1, v.2, none, 0⟩) := fun l => by
    simp only [defsOk, List.length_map, List.all_map]
    rfl
  rw [e, e, h]
end Go.Proofs.YtjciibhaifabjaaDoor

/- The flat form of a forest: plain words, no function of the program in sight. -/
import Derived.Test.YtfmmfgjelaekhaaDoorTz
import Derived.Test.YtfmmfgjelaekhaaDoorSh
set_option linter.unusedVariables false
set_option linter.unusedSimpArgs false
namespace Go.Proofs.YtfmmfgjelaekhaaDoor
open Go.RowKit

mutual
/-- The ops of a tree, where it has a flat form. -/
def LTree.ops : LTree → Option (List LOp)
  | .mk k n ks => if k = 5 ∨ k = 7 then none else if k = 3 ∨ k = 4 ∨ k = 6 then (opsF ks).map (fun q => LOp.mk k n :: (q ++ [LOp.mk (if k = 6 then 7 else 5) 0])) else if ks.length = 0 then some [LOp.mk k n] else none
def opsF : List LTree → Option (List LOp)
  | [] => some []
  | t :: ts => t.ops.bind fun a => (opsF ts).map fun b => a ++ b
end
theorem ops_end {k n : Int} {ks : List LTree} (h : k = 5 ∨ k = 7) : (LTree.mk k n ks).ops = none := by rw [LTree.ops, if_pos h]
theorem ops_nest {k n : Int} {ks : List LTree} (h : k = 3 ∨ k = 4 ∨ k = 6) : (LTree.mk k n ks).ops = (opsF ks).map (fun q => LOp.mk k n :: (q ++ [LOp.mk (if k = 6 then 7 else 5) 0])) := by
  rw [LTree.ops, if_neg (by omega), if_pos h]
theorem ops_plain {k n : Int} {ks : List LTree} (h5 : ¬ k = 5) (h7 : ¬ k = 7) (h3 : ¬ k = 3) (h4 : ¬ k = 4) (h6 : ¬ k = 6) : (LTree.mk k n ks).ops = if ks.length = 0 then some [LOp.mk k n] else none := by
  rw [LTree.ops, if_neg (by omega), if_neg (by omega)]
theorem opsF_append : ∀ (a b : List LTree), opsF (a ++ b) = (opsF a).bind fun x => (opsF b).map fun y => x ++ y
  | [], b => by
    simp only [List.nil_append, opsF, Option.bind_some]
    cases opsF b <;> simp
  | t :: a, b => by
    simp only [List.cons_append, opsF, opsF_append a b]
    cases t.ops with
    | none => rfl
    | some x => cases opsF a with
      | none => rfl
      | some y => cases opsF b with
        | none => rfl
        | some z => simp
theorem opsF_one (t : LTree) : opsF [t] = t.ops := by
  simp only [opsF, Option.map_some]
  cases t.ops <;> simp
theorem opsF_snoc {ts : List LTree} {k : Nat} {t : LTree} (hu : ts[k]? = some t) {a b : List LOp} (ha : opsF (ts.take k) = some a) (hb : t.ops = some b) : opsF (ts.take (k + 1)) = some (a ++ b) := by
  rw [List.take_add_one, hu]
  show opsF (ts.take k ++ [t]) = _
  rw [opsF_append, ha, opsF_one, hb]
  rfl
/-- No flat form of as few ops. -/
def BadF (ts : List LTree) (lim : Int) : Prop := ∀ q, opsF ts = some q → lim < (q.length : Int)
theorem BadF.of {ts : List LTree} {k : Nat} {t : LTree} (hu : ts[k]? = some t) {a : List LOp} (ha : opsF (ts.take k) = some a) {lim : Int} (h : ∀ b, t.ops = some b → lim < (a.length : Int) + b.length) : BadF ts lim := by
  intro q hq
  obtain ⟨hk, rfl⟩ := List.getElem?_eq_some_iff.1 hu
  have e : ts = ts.take k ++ ([ts[k]] ++ ts.drop (k + 1)) := by
    rw [List.singleton_append, ← List.drop_eq_getElem_cons hk, List.take_append_drop]
  rw [e, opsF_append, opsF_append, opsF_one, ha] at hq
  cases hb : ts[k].ops with
  | none => rw [hb] at hq; simp at hq
  | some b =>
    rw [hb] at hq
    cases hc : opsF (ts.drop (k + 1)) with
    | none => rw [hc] at hq; simp at hq
    | some c =>
      rw [hc] at hq
      simp at hq
      subst hq
      have := h b hb
      simp only [List.length_append]
      omega
theorem ops_pos : ∀ {t : LTree} {b : List LOp}, t.ops = some b → 1 ≤ b.length
  | .mk k n ks, b, h => by
    rw [LTree.ops] at h
    split at h
    · cases h
    · split at h
      · cases hq : opsF ks with
        | none => rw [hq] at h; cases h
        | some q => rw [hq] at h; simp at h; subst h; simp
      · split at h
        · cases h; simp
        · cases h
mutual
theorem ops_len : ∀ {t : LTree} {b : List LOp}, t.ops = some b → b.length ≤ 2 * t.nodes
  | .mk k n ks, b, h => by
    rw [LTree.ops] at h
    rw [LTree.nodes]
    split at h
    · cases h
    · split at h
      · cases hq : opsF ks with
        | none => rw [hq] at h; cases h
        | some q =>
          rw [hq] at h
          simp at h
          subst h
          have := opsF_len hq
          simp
          omega
      · split at h
        · cases h; simp; omega
        · cases h
theorem opsF_len : ∀ {ts : List LTree} {b : List LOp}, opsF ts = some b → b.length ≤ 2 * nodesF ts
  | [], b, h => by cases h; simp
  | t :: ts, b, h => by
    rw [opsF] at h
    rw [nodesF]
    cases hq : t.ops with
    | none => rw [hq] at h; cases h
    | some x =>
      rw [hq] at h
      cases hr : opsF ts with
      | none => rw [hr] at h; cases h
      | some y =>
        rw [hr] at h
        simp at h
        subst h
        have := ops_len hq
        have := opsF_len hr
        simp
        omega
end
mutual
/-- All numbers of a forest are numbers of 32 bits. -/
def LTree.ok : LTree → Prop
  | .mk _ n ks => (-2147483648 ≤ n ∧ n ≤ 2147483647) ∧ okF ks
def okF : List LTree → Prop
  | [] => True
  | t :: ts => t.ok ∧ okF ts
end
mutual
theorem ops_ok : ∀ {t : LTree} {b : List LOp}, t.ok → t.ops = some b → ∀ x ∈ b, x.ok32
  | .mk k n ks, b, ho, h => by
    rw [LTree.ops] at h
    rw [LTree.ok] at ho
    split at h
    · cases h
    · split at h
      · cases hq : opsF ks with
        | none => rw [hq] at h; cases h
        | some q =>
          rw [hq] at h
          simp at h
          subst h
          intro x hx
          simp at hx
          rcases hx with rfl | hx | rfl
          · exact ho.1
          · exact opsF_ok ho.2 hq x hx
          · simp [LOp.ok32]
      · split at h
        · cases h
          intro x hx
          simp at hx
          subst hx
          exact ho.1
        · cases h
theorem opsF_ok : ∀ {ts : List LTree} {b : List LOp}, okF ts → opsF ts = some b → ∀ x ∈ b, x.ok32
  | [], b, _, h => by cases h; simp
  | t :: ts, b, ho, h => by
    rw [opsF] at h
    rw [okF] at ho
    cases hq : t.ops with
    | none => rw [hq] at h; cases h
    | some x =>
      rw [hq] at h
      cases hr : opsF ts with
      | none => rw [hr] at h; cases h
      | some y =>
        rw [hr] at h
        simp at h
        subst h
        intro z hz
        rcases List.mem_append.1 hz with hz | hz
        · exact ops_ok ho.1 hq z hz
        · exact opsF_ok ho.2 hr z hz
end
def flatL (ts : List LTree) : List LOp := match opsF ts with
  | some q => if shapeOk q = true then q else []
  | none => []
theorem flatL_bad {ts : List LTree} (h : BadF ts 60) : flatL ts = [] := by
  unfold flatL
  cases hq : opsF ts with
  | none => rfl
  | some q =>
    have := h q hq
    simp [shapeOk_long (xs := q) (by omega)]
theorem flatL_len (ts : List LTree) : (flatL ts).length ≤ 60 := by
  unfold flatL
  split
  · rename_i q hq
    by_cases h : shapeOk q = true
    · rw [if_pos h]
      by_cases hl : q.length ≤ 60
      · exact hl
      · rw [shapeOk_long (by omega)] at h; cases h
    · rw [if_neg h]; simp
  · simp
end Go.Proofs.YtfmmfgjelaekhaaDoor

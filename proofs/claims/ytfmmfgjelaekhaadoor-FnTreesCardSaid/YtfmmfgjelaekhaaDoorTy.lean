/- A body with shape comes back from its trees: plain words, no function of the program in sight. -/
import Derived.Test.YtfmmfgjelaekhaaDoorFk
set_option linter.unusedVariables false
set_option linter.unusedSimpArgs false
namespace Go.Proofs.YtfmmfgjelaekhaaDoor
open Go.RowKit

theorem opOk_end {o : LOp} (h : opOk o = true) (hk : o.kind = 5 ∨ o.kind = 7) : o.n = 0 := by
  unfold opOk at h
  rw [if_neg (by omega), if_neg (by omega)] at h
  simp at h
  exact h.2
theorem openStep_open {st : List Int} {k : Int} (h : k = 3 ∨ k = 4 ∨ k = 6) : openStep st k = some (st ++ [k]) := by rw [openStep, if_pos h]
theorem openStep_leaf {st : List Int} {k : Int} (h : ¬ (k = 3 ∨ k = 4 ∨ k = 6)) (h2 : ¬ (k = 5 ∨ k = 7)) : openStep st k = some st := by rw [openStep, if_neg h, if_neg h2]
theorem openStep_end {st st' : List Int} {t k : Int} (hk : k = 5 ∨ k = 7) (h : openStep (st ++ [t]) k = some st') : st' = st ∧ decide (t = 6) = decide (k = 7) := by
  rw [openStep, if_neg (by omega), if_pos hk] at h
  simp only [List.getLast?_append, List.getLast?_singleton, Option.some_or, List.dropLast_concat] at h
  split at h
  · rename_i hd
    injection h with h
    exact ⟨h.symm, hd⟩
  · cases h
theorem treesF_back : ∀ (n : Nat) (r : List LOp) (st : List Int), r.length < n → (∀ x ∈ r, opOk x = true) → openS st r = some [] →
    ∃ q, opsF (treesF n r).1 = some q ∧ r = q ++ (treesF n r).2 ∧ openS st (treesF n r).2 = some [] ∧ ((treesF n r).2 = [] ∨ ∃ e r2, (treesF n r).2 = e :: r2 ∧ (e.kind = 5 ∨ e.kind = 7))
  | 0, r, st, h, _, _ => by omega
  | n + 1, [], st, h, _, hs => ⟨[], rfl, rfl, hs, .inl rfl⟩
  | n + 1, o :: r, st, h, ho, hs => by
    have hor : ∀ x ∈ r, opOk x = true := fun x hx => ho x (List.mem_cons_of_mem _ hx)
    simp only [List.length_cons] at h
    by_cases h5 : o.kind = 5 ∨ o.kind = 7
    · rw [treesF, if_pos h5]
      exact ⟨[], rfl, rfl, hs, .inr ⟨o, r, rfl, h5⟩⟩
    · by_cases h3 : o.kind = 3 ∨ o.kind = 4 ∨ o.kind = 6
      · rw [treesF, if_neg h5, if_pos h3]
        simp only
        have hs1 : openS (st ++ [o.kind]) r = some [] := by
          rw [openS, openStep_open h3] at hs
          exact hs
        obtain ⟨q1, e1, hr1, hs2, hd⟩ := treesF_back n r (st ++ [o.kind]) (by omega) hor hs1
        rcases hd with hd | ⟨e, r2, hd, he⟩
        · rw [hd] at hs2
          simp [openS] at hs2
        · rw [hd] at hs2 hr1 ⊢
          simp only [List.tail_cons]
          have hoe : opOk e = true := hor e (by rw [hr1]; simp)
          have hor2 : ∀ x ∈ r2, opOk x = true := fun x hx => hor x (by rw [hr1]; simp [hx])
          have hl2 : r2.length < n := by rw [hr1] at h; simp at h; omega
          rw [openS] at hs2
          cases hst : openStep (st ++ [o.kind]) e.kind with
          | none => rw [hst] at hs2; cases hs2
          | some st' =>
            rw [hst] at hs2
            obtain ⟨rfl, hdd⟩ := openStep_end he hst
            obtain ⟨q2, e2, hr2, hs3, hd3⟩ := treesF_back n r2 st' hl2 hor2 hs2
            refine ⟨(o :: (q1 ++ [e])) ++ q2, ?_, ?_, hs3, hd3⟩
            · rw [opsF, ops_nest h3, e1, e2]
              have hek : e = ⟨if o.kind = 6 then 7 else 5, 0⟩ := by
                obtain ⟨ek, en⟩ := e
                have hn := opOk_end hoe he
                simp only at hn he hdd
                subst hn
                congr 1
                by_cases h6 : o.kind = 6
                · rw [if_pos h6]
                  simp [h6] at hdd
                  exact hdd
                · rw [if_neg h6]
                  simp [h6] at hdd
                  omega
              conv => rhs; rw [hek]
              obtain ⟨ok, on⟩ := o
              rfl
            · rw [hr1]
              conv => lhs; rw [hr2]
              simp
      · rw [treesF, if_neg h5, if_neg h3]
        simp only
        have hs1 : openS st r = some [] := by
          rw [openS, openStep_leaf h3 h5] at hs
          exact hs
        obtain ⟨q1, e1, hr1, hs2, hd⟩ := treesF_back n r st (by omega) hor hs1
        refine ⟨o :: q1, ?_, ?_, hs2, hd⟩
        · rw [opsF, ops_plain (by omega) (by omega) (by omega) (by omega) (by omega), e1]
          obtain ⟨ok, on⟩ := o
          rfl
        · conv => lhs; rw [hr1]
          rfl
theorem treesT_back {xs : List LOp} (h : shapeOk xs = true) : opsF (treesT xs).1 = some xs := by
  unfold shapeOk at h
  simp only [Bool.and_eq_true, decide_eq_true_eq, List.all_eq_true] at h
  obtain ⟨_, ho, hs⟩ := h
  obtain ⟨q, e, hr, hs2, hd⟩ := treesF_back (xs.length + 1) xs [] (by omega) ho hs
  rcases hd with hd | ⟨e', r2, hd, he⟩
  · rw [hd, List.append_nil] at hr
    rw [treesT, e, ← hr]
  · rw [hd, openS] at hs2
    have : openStep [] e'.kind = none := by rw [openStep, if_neg (by omega), if_pos he]; rfl
    rw [this] at hs2
    cases hs2
theorem shapeOk_flatL (ts : List LTree) : shapeOk (flatL ts) = true := by
  unfold flatL
  split
  · rename_i q hq
    by_cases h : shapeOk q = true
    · rw [if_pos h, h]
    · rw [if_neg h]; rfl
  · rfl
theorem okF_treesF : ∀ (n : Nat) (r : List LOp), (∀ x ∈ r, x.ok32) → okF (treesF n r).1 ∧ ∀ x ∈ (treesF n r).2, x.ok32
  | 0, r, h => ⟨by simp [treesF, okF], h⟩
  | n + 1, [], h => ⟨by simp [treesF, okF], by simp [treesF]⟩
  | n + 1, o :: r, h => by
    have hr : ∀ x ∈ r, x.ok32 := fun x hx => h x (List.mem_cons_of_mem _ hx)
    have h0 : o.ok32 := h o List.mem_cons_self
    rw [treesF]
    split
    · exact ⟨by simp [okF], h⟩
    · split
      · obtain ⟨a1, b1⟩ := okF_treesF n r hr
        obtain ⟨a2, b2⟩ := okF_treesF n (treesF n r).2.tail (fun x hx => b1 x (List.mem_of_mem_tail hx))
        refine ⟨?_, b2⟩
        rw [okF, LTree.ok]
        exact ⟨⟨h0, a1⟩, a2⟩
      · obtain ⟨a1, b1⟩ := okF_treesF n r hr
        refine ⟨?_, b1⟩
        rw [okF, LTree.ok, okF]
        exact ⟨⟨h0, trivial⟩, a1⟩
theorem okF_append : ∀ {a b : List LTree}, okF a → okF b → okF (a ++ b)
  | [], b, _, h => h
  | t :: a, b, h1, h2 => by
    rw [okF] at h1
    rw [List.cons_append, okF]
    exact ⟨h1.1, okF_append h1.2 h2⟩
end Go.Proofs.YtfmmfgjelaekhaaDoor

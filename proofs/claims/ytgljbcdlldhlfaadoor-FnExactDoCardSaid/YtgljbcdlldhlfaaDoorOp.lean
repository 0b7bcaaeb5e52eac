/- Arguments opened: out of the row's reading of an argument, what the walks are told of it. Plain lemmas over any program. -/
import Derived.Test.YtgljbcdlldhlfaaDoorR
import Derived.Test.YtgljbcdlldhlfaaDoorD
import Derived.ProofKit
import Derived.SizedLaws
import Derived.ChangeSlices
import Derived.Deep.Slices
set_option linter.unusedVariables false
set_option linter.unusedSimpArgs false
namespace Go.Proofs.YtgljbcdlldhlfaaDoor
open Go.ChangeShapes Go.WideShapes Go.RowKit

/-- What an argument's reading weighs lies within the row's own bound. -/
def Fit {H : Type} (P : Program) (t : TypeId) (d : DataW H) : Prop := (d.weights P t).all (· ≤ reachBytes) = true
section
variable {H : Type} {enc : TypeId × Value → H} {P : Program} {W : World} {base : Nat} {spare : Nat → Bool} {held : Bool}
theorem weightsEach_mem : ∀ {ts : List TypeId} {ds : List (DataW H)} {j : Nat} {t : TypeId} {d : DataW H}, ts[j]? = some t → ds[j]? = some d → ∀ n ∈ d.weights P t, n ∈ DataW.weightsEach P ts ds
  | [], _, _, _, _, h, _, _, _ => by simp at h
  | _ :: _, [], _, _, _, _, h, _, _ => by simp at h
  | t0 :: ts, d0 :: ds, 0, t, d, ht, hd, n, hn => by
    simp at ht hd
    subst ht hd
    simp [DataW.weightsEach, hn]
  | t0 :: ts, d0 :: ds, j + 1, t, d, ht, hd, n, hn => by
    simp only [DataW.weightsEach, List.mem_append]
    exact .inr (weightsEach_mem (j := j) (by simpa using ht) (by simpa using hd) n hn)
theorem weightsAll_mem {e : TypeId} : ∀ {ds : List (DataW H)} {d : DataW H}, d ∈ ds → ∀ n ∈ d.weights P e, n ∈ DataW.weightsAll P e ds
  | [], _, h, _, _ => by simp at h
  | d0 :: ds, d, h, n, hn => by
    simp only [DataW.weightsAll, List.mem_append]
    rcases List.mem_cons.1 h with rfl | h
    · exact .inl hn
    · exact .inr (weightsAll_mem h n hn)
theorem fit_arg {ts : List TypeId} {ds : List (DataW H)} (h : (DataW.weightsEach P ts ds).all (· ≤ reachBytes) = true) {j : Nat} {t : TypeId} {d : DataW H} (ht : ts[j]? = some t) (hd : ds[j]? = some d) : Fit P t d := by
  rw [Fit, List.all_eq_true]
  exact fun n hn => List.all_eq_true.1 h n (weightsEach_mem ht hd n hn)
theorem fit_field {t : TypeId} {fs : Array Field} {parts : List (DataW H)} (hu : P.underlying t = some (.struct fs)) (h : Fit P t (.agg parts)) {i : Nat} {f : Field} {d : DataW H} (hf : fs[i]? = some f) (hd : parts[i]? = some d) : Fit P f.type d := by
  unfold Fit at h
  rw [DataW.weights, hu] at h
  refine fit_arg h (j := i) ?_ hd
  rw [List.getElem?_map, Array.getElem?_toList, hf]
  rfl
theorem fit_elem {t e : TypeId} {es sp : List (DataW H)} (hu : P.underlying t = some (.slice e)) (h : Fit P t (.slice es sp)) {d : DataW H} (hd : d ∈ es ++ sp) : Fit P e d := by
  unfold Fit at h
  rw [DataW.weights, hu] at h
  rw [Fit, List.all_eq_true]
  refine fun n hn => List.all_eq_true.1 h n (List.mem_cons_of_mem _ ?_)
  rcases List.mem_append.1 hd with hd | hd
  · exact List.mem_append_left _ (weightsAll_mem hd n hn)
  · exact List.mem_append_right _ (weightsAll_mem hd n hn)
theorem fit_size {t e : TypeId} {es sp : List (DataW H)} (hu : P.underlying t = some (.slice e)) (h : Fit P t (.slice es sp)) : es.length * P.bytesOf e ≤ reachBytes := by
  unfold Fit at h
  rw [DataW.weights, hu] at h
  have := List.all_eq_true.1 h _ List.mem_cons_self
  have h2 : (es.length + sp.length) * P.bytesOf e ≤ reachBytes := by simpa using this
  exact Nat.le_trans (Nat.mul_le_mul_right _ (Nat.le_add_right _ _)) h2
theorem fit_str {t : TypeId} {b : List UInt8} (h : Fit P t (.lit (.string b) : DataW H)) : b.length ≤ reachBytes := by
  unfold Fit at h
  simpa [DataW.weights] using h

/-! ### the fields of a struct -/
theorem trod_field {n : Nat} {t : TypeId} {fs : Array Field} {cs : List Value} {y : DataW H × List MemPlace} (hu : P.underlying t = some (.struct fs)) (h : DataW.trod enc P W base spare held n t cs = some y) (hf : Fit P t y.1) :
    cs.length = P.cellsOf t ∧ ∀ (i : Nat) (f : Field), fs[i]? = some f → ∃ m z, DataW.trod enc P W base spare held m f.type ((cs.drop f.offset).take (P.cellsOf f.type)) = some z ∧ Fit P f.type z.1 := by
  obtain ⟨xs, m, _, rfl, hl, hn, hx⟩ := DataW.trod_struct hu h
  refine ⟨hl, fun i f hi => ?_⟩
  have hlt : i < xs.length := by rw [hn]; exact (Array.getElem?_eq_some_iff.1 hi).1
  exact ⟨m, xs[i], (hx i f hi).trans (List.getElem?_eq_getElem hlt), fit_field hu hf hi (by simp [hlt])⟩
theorem field_at {n : Nat} {t : TypeId} {fs : Array Field} {cs : List Value} {y : DataW H × List MemPlace} (hu : P.underlying t = some (.struct fs)) (h : DataW.trod enc P W base spare held n t cs = some y) (hf : Fit P t y.1)
    (i : Nat) {f : Field} (hi : fs[i]? = some f) {T : TypeId} {off sz : Nat} (hT : f.type = T) (ho : f.offset = off) (hc : P.cellsOf T = sz) {cs' : List Value} (hcs : (cs.drop off).take sz = cs') : ∃ m z, DataW.trod enc P W base spare held m T cs' = some z ∧ Fit P T z.1 := by
  subst hT ho hc hcs
  exact (trod_field hu h hf).2 i f hi
theorem trod_int1 {n : Nat} {t : TypeId} {k : IntKind} {v : Value} {y : DataW H × List MemPlace} (ht : P.underlying t = some (.int k)) (h : DataW.trod enc P W base spare held n t [v] = some y) : ∃ x, v = .int k x ∧ (Lit.int k x).wf = true := by
  obtain ⟨x, e, _, hw⟩ := DataW.trod_int ht h
  exact ⟨x, by simpa using e, hw⟩
theorem trod_bool1 {n : Nat} {t : TypeId} {v : Value} {y : DataW H × List MemPlace} (ht : P.underlying t = some .bool) (h : DataW.trod enc P W base spare held n t [v] = some y) : ∃ x, v = .bool x := by
  obtain ⟨x, e, _⟩ := DataW.trod_bool ht h
  exact ⟨x, by simpa using e⟩
theorem trod_str1 {n : Nat} {t : TypeId} {v : Value} {y : DataW H × List MemPlace} (ht : P.underlying t = some .string) (h : DataW.trod enc P W base spare held n t [v] = some y) (hf : Fit P t y.1) : ∃ x : ByteArray, v = .string x ∧ x.size ≤ 140737488351232 := by
  obtain ⟨x, e, hy, hw⟩ := DataW.trod_string ht h
  subst hy
  have := fit_str hf
  exact ⟨x, by simpa using e, by simpa [reachBytes] using this⟩

/-! ### slices of elements of fixed size -/
theorem rd_of_els {α : Type} {en : α → List Value} {sz : Nat} (hl : ∀ x, (en x).length = sz) (hs : 0 < sz) {a : Addr} : ∀ {xs : List α}, (∀ i x, xs[i]? = some x → ∀ j u, (en x)[j]? = some u → W.cell? (a.add (i * sz + j)) = some u) → Rd W (some a) (xs.flatMap en) := by
  intro xs h j u hu
  refine ⟨a, rfl, ?_⟩
  have hj : j < xs.length * sz := by rw [← flat_length hl]; exact (List.getElem?_eq_some_iff.1 hu).1
  have hd : j / sz < xs.length := Nat.div_lt_of_lt_mul (by rw [Nat.mul_comm]; exact hj)
  have hm : j % sz < sz := Nat.mod_lt _ hs
  have e : j / sz * sz + j % sz = j := by rw [Nat.mul_comm]; exact Nat.div_add_mod j sz
  have hx : xs[j / sz]? = some xs[j / sz] := List.getElem?_eq_getElem hd
  have hg := flat_get hl xs (j / sz) _ hx (j % sz) hm
  rw [e, hu] at hg
  have := h (j / sz) _ hx (j % sz) u hg.symm
  rwa [e] at this
theorem open_rows {α : Type} {en : α → List Value} {wfE : α → Prop} {sz : Nat} (hl : ∀ x, (en x).length = sz) (hs : 0 < sz) {n : Nat} {t e : TypeId} {v : Value} {y : DataW H × List MemPlace} (ht : P.underlying t = some (.slice e)) (hc : P.cellsOf e = sz)
    (hel : ∀ m cs z, DataW.trod enc P W 0 spare held m e cs = some z → Fit P e z.1 → ∃ x, cs = en x ∧ wfE x) (h : DataW.trod enc P W 0 spare held n t [v] = some y) (hf : Fit P t y.1) :
    ∃ (A : Option Addr) (c : Nat) (xs : List α), v = .slice A xs.length c ∧ xs.length ≤ c ∧ c ≤ maxLen ∧ Rd W A (xs.flatMap en) ∧ xs.length * P.bytesOf e ≤ reachBytes ∧ ∀ x ∈ xs, wfE x := by
  rcases Deep.open_slice ht h with ⟨h0, _⟩ | ⟨a, len, cap, m, n', D, Pl, h0, _, hlc, hcm, hm, rfl, hx⟩
  · simp at h0
    subst h0
    exact ⟨none, 0, [], rfl, Nat.le_refl _, Nat.zero_le _, Rd.nil _ _, by simp, by simp⟩
  · simp at h0
    subst h0
    have hle : len ≤ m := by rw [hm]; split <;> omega
    have hz : ∀ i, i < len → ∃ x, (∀ j u, (en x)[j]? = some u → W.cell? (a.add (i * sz + j)) = some u) ∧ wfE x := by
      intro i hi
      obtain ⟨cs', h1, h2⟩ := hx i (by omega)
      obtain ⟨x, rfl, hw⟩ := hel _ _ _ h2 (fit_elem ht hf (List.mem_append_left _ (List.mem_map.2 ⟨i, by simpa using hi, rfl⟩)))
      refine ⟨x, fun j u hu => ?_, hw⟩
      rw [hc] at h1
      obtain ⟨_, hl2, hcell⟩ := World.cells?_some h1
      rw [← add_of_add, hcell j (by rw [← hl x]; exact (List.getElem?_eq_some_iff.1 hu).1), hu]
    by_cases hlen : len = 0
    · subst hlen
      exact ⟨some a, cap, [], rfl, Nat.zero_le _, hcm, Rd.nil _ _, by simp, by simp⟩
    · obtain ⟨x0, _⟩ := hz 0 (by omega)
      haveI : Inhabited α := ⟨x0⟩
      obtain ⟨f, hf'⟩ := Deep.choose_lt hz
      have hsz := fit_size ht hf
      refine ⟨some a, cap, (List.range len).map f, by simp, by simpa using hlc, hcm, rd_of_els hl hs ?_, by simpa using hsz, ?_⟩
      · intro i x hi j u hu
        have hlt : i < len := by have := (List.getElem?_eq_some_iff.1 hi).1; simpa using this
        have e1 : f i = x := by simpa [hlt] using hi
        subst e1
        exact (hf' i hlt).1 j u hu
      · intro x hx'
        simp at hx'
        obtain ⟨i, hi, rfl⟩ := hx'
        exact (hf' i hi).2
theorem open_ints1 {n : Nat} {t e : TypeId} {k : IntKind} {v : Value} {y : DataW H × List MemPlace} (ht : P.underlying t = some (.slice e)) (he : P.underlying e = some (.int k)) (hc : P.cellsOf e = 1)
    (h : DataW.trod enc P W 0 spare held n t [v] = some y) (hf : Fit P t y.1) :
    ∃ (A : Option Addr) (c : Nat) (xs : List Int), v = .slice A xs.length c ∧ xs.length ≤ c ∧ c ≤ maxLen ∧ Rd W A (xs.map (Value.int k)) ∧ xs.length * P.bytesOf e ≤ reachBytes ∧ ∀ x ∈ xs, (Lit.int k x).wf = true := by
  obtain ⟨A, c, xs, h1, h2, h3, h4, h5, h6⟩ := open_rows (en := fun x : Int => [Value.int k x]) (wfE := fun x => (Lit.int k x).wf = true) (sz := 1) (fun _ => rfl) (by omega) ht hc (fun m cs z hz _ => by
    obtain ⟨x, e1, _, hw⟩ := DataW.trod_int he hz
    exact ⟨x, e1, hw⟩) h hf
  exact ⟨A, c, xs, h1, h2, h3, by rwa [List.map_eq_flatMap], h5, h6⟩
end
end Go.Proofs.YtgljbcdlldhlfaaDoor

/- Trees that come in as an argument, opened. -/
import Derived.Test.YtfmmfgjelaekhaaDoorOd
import Derived.Test.YtfmmfgjelaekhaaDoorFk
set_option linter.unusedVariables false
set_option linter.unusedSimpArgs false
namespace Go.Proofs.YtfmmfgjelaekhaaDoor
open Go.ChangeShapes Go.WideShapes Go.RowKit

section
variable {H : Type} {enc : TypeId × Value → H} {P : Program} {W : World} {base : Nat} {spare : Nat → Bool} {held : Bool}
theorem field_atN {n : Nat} {t : TypeId} {fs : Array Field} {cs : List Value} {y : DataW H × List MemPlace} (hu : P.underlying t = some (.struct fs)) (h : DataW.trod enc P W base spare held n t cs = some y) (hf : Fit P t y.1)
    (i : Nat) {f : Field} (hi : fs[i]? = some f) {T : TypeId} {off sz : Nat} (hT : f.type = T) (ho : f.offset = off) (hc : P.cellsOf T = sz) {cs' : List Value} (hcs : (cs.drop off).take sz = cs') : ∃ m z, m < n ∧ DataW.trod enc P W base spare held m T cs' = some z ∧ Fit P T z.1 := by
  subst hT ho hc hcs
  obtain ⟨xs, m, rfl, rfl, hl, hn, hx⟩ := DataW.trod_struct hu h
  have hlt : i < xs.length := by rw [hn]; exact (Array.getElem?_eq_some_iff.1 hi).1
  exact ⟨m, xs[i], by omega, (hx i f hi).trans (List.getElem?_eq_getElem hlt), fit_field hu hf hi (by simp [hlt])⟩
theorem open_rowsN {α : Type} {en : α → List Value} {wfE : α → Prop} {sz : Nat} (hl : ∀ x, (en x).length = sz) (hs : 0 < sz) {n : Nat} {t e : TypeId} {v : Value} {y : DataW H × List MemPlace} (ht : P.underlying t = some (.slice e)) (hc : P.cellsOf e = sz)
    (hel : ∀ m cs z, m < n → DataW.trod enc P W 0 spare held m e cs = some z → Fit P e z.1 → ∃ x, cs = en x ∧ wfE x) (h : DataW.trod enc P W 0 spare held n t [v] = some y) (hf : Fit P t y.1) :
    ∃ (A : Option Addr) (c : Nat) (xs : List α), v = .slice A xs.length c ∧ xs.length ≤ c ∧ c ≤ maxLen ∧ Rd W A (xs.flatMap en) ∧ xs.length * P.bytesOf e ≤ reachBytes ∧ ∀ x ∈ xs, wfE x := by
  rcases DataW.trod_slice ht h with ⟨h0, _⟩ | ⟨a, len, cap, elems, rest, n', rfl, h0, hy, _, hlc, hcm, hlen, hx, _, _⟩
  · simp at h0
    subst h0
    exact ⟨none, 0, [], rfl, Nat.le_refl _, Nat.zero_le _, Rd.nil _ _, by simp, by simp⟩
  · simp at h0
    subst h0
    subst hy
    have hz : ∀ i, i < len → ∃ x, (∀ j u, (en x)[j]? = some u → W.cell? (a.add (i * sz + j)) = some u) ∧ wfE x := by
      intro i hi
      have hi' : i < elems.length := by omega
      have hxi := hx i hi
      rw [List.getElem?_eq_getElem hi'] at hxi
      obtain ⟨cs', h1, h2⟩ := Option.bind_eq_some_iff.1 hxi
      obtain ⟨x, rfl, hw⟩ := hel n' _ _ (by omega) h2 (fit_elem ht hf (List.mem_append_left _ (List.mem_map.2 ⟨elems[i], List.getElem_mem hi', rfl⟩)))
      refine ⟨x, fun j u hu => ?_, hw⟩
      rw [hc] at h1
      obtain ⟨_, hl2, hcell⟩ := World.cells?_some h1
      rw [← add_of_add, hcell j (by rw [← hl x]; exact (List.getElem?_eq_some_iff.1 hu).1), hu]
    by_cases hlen0 : len = 0
    · subst hlen0
      exact ⟨some a, cap, [], rfl, Nat.zero_le _, hcm, Rd.nil _ _, by simp, by simp⟩
    · obtain ⟨x0, _⟩ := hz 0 (by omega)
      haveI : Inhabited α := ⟨x0⟩
      obtain ⟨f, hf'⟩ := Deep.choose_lt hz
      have hsz := fit_size ht hf
      refine ⟨some a, cap, (List.range len).map f, by simp, by simpa using hlc, hcm, rd_of_els hl hs ?_, by rw [List.length_map, hlen] at hsz; simpa using hsz, ?_⟩
      · intro i x hi j u hu
        have hlt : i < len := by have := (List.getElem?_eq_some_iff.1 hi).1; simpa using this
        have e1 : f i = x := by simpa [hlt] using hi
        subst e1
        exact (hf' i hlt).1 j u hu
      · intro x hx'
        simp at hx'
        obtain ⟨i, hi, rfl⟩ := hx'
        exact (hf' i hi).2
end
/-- A tree with the place of its kids. -/
structure KTree where
  t : LTree
  A : Option Addr
  c : Nat
def KTree.enc (z : KTree) : List Value := [.int .i64 z.t.kind, .int .i32 z.t.n, .slice z.A z.t.kids.length z.c]
theorem KTree.enc_len (z : KTree) : z.enc.length = 3 := rfl
def KTree.good (W : World) (z : KTree) : Prop := z.t.kids.length ≤ z.c ∧ SlR W z.A z.t.kids ∧ z.t.small ∧ z.t.ok
theorem forR_of {W : World} : ∀ {zs : List KTree}, (∀ z ∈ zs, z.good W) → ForR W (zs.map (·.t)) (zs.flatMap KTree.enc)
  | [], _ => rfl
  | ⟨.mk k n ks, A, c⟩ :: zs, h => by
    obtain ⟨hle, ⟨vs, hrd, hfor⟩, _⟩ := h _ List.mem_cons_self
    exact ⟨_, _, rfl, ⟨A, c, vs, rfl, hle, hrd, hfor⟩, forR_of fun z hz => h z (List.mem_cons_of_mem _ hz)⟩
theorem smallF_of {W : World} : ∀ {zs : List KTree}, (∀ z ∈ zs, z.good W) → smallF (zs.map (·.t)) ∧ okF (zs.map (·.t))
  | [], _ => by simp [smallF, okF]
  | z :: zs, h => by
    obtain ⟨h1, h2⟩ := smallF_of fun z hz => h z (List.mem_cons_of_mem _ hz)
    obtain ⟨_, _, h3, h4⟩ := h z List.mem_cons_self
    simp only [List.map_cons, smallF, okF]
    exact ⟨⟨h3, h1⟩, h4, h2⟩
set_option maxRecDepth 100000 in
theorem el_Tree {H : Type} {enc : TypeId × Value → H} {W : World} {spare : Nat → Bool} {held : Bool} : ∀ (n : Nat) (y : DataW H × List MemPlace) (cs : List Value),
    DataW.trod enc Tryd.prog W 0 spare held n 109 cs = some y → Fit Tryd.prog 109 y.1 → ∃ z : KTree, cs = z.enc ∧ z.good W := by
  intro n
  induction n using Nat.strongRecOn with
  | _ n ih =>
  intro y cs h hf
  obtain ⟨hl, _⟩ := trod_field Tryd.underlying109 h hf
  rw [show Tryd.prog.cellsOf 109 = 3 by kernel_rfl] at hl
  match cs, hl with
  | [u0, u1, u2], _ =>
    obtain ⟨_, _, p0, q0⟩ : ∃ m z, DataW.trod enc Tryd.prog W 0 spare held m 3 [u0] = some z ∧ Fit Tryd.prog 3 z.1 := field_at Tryd.underlying109 h hf 0 rfl rfl rfl (show Tryd.prog.cellsOf 3 = 1 by kernel_rfl) rfl
    obtain ⟨a0, rfl, w0⟩ := trod_int1 Tryd.underlying3 p0
    obtain ⟨_, _, p1, q1⟩ : ∃ m z, DataW.trod enc Tryd.prog W 0 spare held m 21 [u1] = some z ∧ Fit Tryd.prog 21 z.1 := field_at Tryd.underlying109 h hf 1 rfl rfl rfl (show Tryd.prog.cellsOf 21 = 1 by kernel_rfl) rfl
    obtain ⟨a1, rfl, w1⟩ := trod_int1 Tryd.underlying21 p1
    obtain ⟨m, _, hm, p2, q2⟩ : ∃ m z, m < n ∧ DataW.trod enc Tryd.prog W 0 spare held m 50 [u2] = some z ∧ Fit Tryd.prog 50 z.1 := field_atN Tryd.underlying109 h hf 2 rfl rfl rfl (show Tryd.prog.cellsOf 50 = 1 by kernel_rfl) rfl
    obtain ⟨A, c, zs, rfl, hle, _, rd, sz, wf⟩ := open_rowsN (en := KTree.enc) (wfE := KTree.good W) KTree.enc_len (by omega) Tryd.underlying50 (by kernel_rfl) (fun m' cs' z' hm' hz hfz => ih m' (by omega) _ _ hz hfz) p2 q2
    rw [show Tryd.prog.bytesOf 109 = 40 by kernel_rfl] at sz
    obtain ⟨hs, ho⟩ := smallF_of wf
    refine ⟨KTree.mk (LTree.mk a0 a1 (zs.map KTree.t)) A c, by simp [KTree.enc, LTree.kind, LTree.n, LTree.kids], by simpa [LTree.kids] using hle, (show SlR W A (zs.map (·.t)) from ⟨_, rd, forR_of wf⟩), ?_, ?_⟩
    · rw [LTree.small]
      exact ⟨by rw [List.length_map]; exact small_reach sz (by omega), hs⟩
    · rw [LTree.ok]
      exact ⟨by simpa [Lit.wf, IntKind.min, IntKind.max, IntKind.signed, IntKind.bits] using w1, ho⟩
set_option maxRecDepth 100000 in
theorem open_Trees {H : Type} {enc : TypeId × Value → H} {W : World} {spare : Nat → Bool} {held : Bool} {v : Value} {n : Nat} {y : DataW H × List MemPlace}
    (h : DataW.trod enc Tryd.prog W 0 spare held n 50 [v] = some y) (hf : Fit Tryd.prog 50 y.1) : ∃ (A : Option Addr) (c : Nat) (ts : List LTree), v = .slice A ts.length c ∧ SlR W A ts ∧ smallF ts ∧ okF ts ∧ ts.length ≤ 140737488355328 := by
  obtain ⟨A, c, zs, rfl, _, _, rd, sz, wf⟩ := open_rowsN (en := KTree.enc) (wfE := KTree.good W) KTree.enc_len (by omega) Tryd.underlying50 (by kernel_rfl) (fun m' cs' z' _ hz hfz => el_Tree m' _ _ hz hfz) h hf
  rw [show Tryd.prog.bytesOf 109 = 40 by kernel_rfl] at sz
  obtain ⟨hs, ho⟩ := smallF_of wf
  exact ⟨A, c, zs.map (·.t), by simp, ⟨_, rd, forR_of wf⟩, hs, ho, by rw [List.length_map]; exact small_reach sz (by omega)⟩
end Go.Proofs.YtfmmfgjelaekhaaDoor

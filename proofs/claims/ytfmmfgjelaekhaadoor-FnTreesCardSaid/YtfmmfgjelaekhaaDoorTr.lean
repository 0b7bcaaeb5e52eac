/- Trees in memory: forests that are read, forests of the call's own; plain words, no function of the program in sight. -/
import Derived.Test.YtfmmfgjelaekhaaDoorR
import Derived.Test.YtfmmfgjelaekhaaDoorD
set_option linter.unusedVariables false
set_option linter.unusedSimpArgs false
namespace Go.Proofs.YtfmmfgjelaekhaaDoor
open Go.RowKit

inductive LTree where
  | mk (kind n : Int) (kids : List LTree)
def LTree.kind : LTree → Int
  | .mk k _ _ => k
def LTree.n : LTree → Int
  | .mk _ n _ => n
def LTree.kids : LTree → List LTree
  | .mk _ _ ks => ks
mutual
def LTree.nodes : LTree → Nat
  | .mk _ _ ks => 1 + nodesF ks
def nodesF : List LTree → Nat
  | [] => 0
  | t :: ts => t.nodes + nodesF ts
end
/-! ### forests that are read -/
mutual
/-- the three cells of a tree -/
def TreeR (w : World) : LTree → List Value → Prop
  | .mk k n ks, cs => ∃ A c vs, cs = [.int .i64 k, .int .i32 n, .slice A ks.length c] ∧ ks.length ≤ c ∧ Rd w A vs ∧ ForR w ks vs
/-- the cells of a forest's row -/
def ForR (w : World) : List LTree → List Value → Prop
  | [], cs => cs = []
  | t :: ts, cs => ∃ c1 c2, cs = c1 ++ c2 ∧ TreeR w t c1 ∧ ForR w ts c2
end
mutual
theorem TreeR.mono {w w1 : World} (hm : Mono w w1) : ∀ {t : LTree} {cs : List Value}, TreeR w t cs → TreeR w1 t cs
  | .mk k n ks, cs, ⟨A, c, vs, h1, h2, h3, h4⟩ => ⟨A, c, vs, h1, h2, h3.mono hm, ForR.mono hm h4⟩
theorem ForR.mono {w w1 : World} (hm : Mono w w1) : ∀ {ts : List LTree} {cs : List Value}, ForR w ts cs → ForR w1 ts cs
  | [], cs, h => h
  | t :: ts, cs, ⟨c1, c2, h1, h2, h3⟩ => ⟨c1, c2, h1, TreeR.mono hm h2, ForR.mono hm h3⟩
end
theorem TreeR.len {w : World} : ∀ {t : LTree} {cs : List Value}, TreeR w t cs → cs.length = 3
  | .mk k n ks, cs, ⟨A, c, vs, h1, _⟩ => by rw [h1]; rfl
theorem ForR.len {w : World} : ∀ {ts : List LTree} {cs : List Value}, ForR w ts cs → cs.length = ts.length * 3
  | [], cs, h => by rw [show cs = [] from h]; rfl
  | t :: ts, cs, ⟨c1, c2, h1, h2, h3⟩ => by rw [h1, List.length_append, h2.len, h3.len, List.length_cons]; omega
/-- A slice of trees that is read. -/
def SlR (w : World) (A : Option Addr) (ts : List LTree) : Prop := ∃ vs, Rd w A vs ∧ ForR w ts vs
theorem SlR.mono {w w1 : World} {A : Option Addr} {ts : List LTree} (h : SlR w A ts) (hm : Mono w w1) : SlR w1 A ts := by
  obtain ⟨vs, h1, h2⟩ := h
  exact ⟨vs, h1.mono hm, h2.mono hm⟩
theorem SlR.call {w w1 : World} {A : Option Addr} {ts : List LTree} (h : SlR w A ts) (hb : Below w.heap.size w w1) : SlR w1 A ts := h.mono (below_mono hb)
theorem SlR.keepB {w0 w1 : World} {A : Option Addr} {ts : List LTree} (h : SlR w0 A ts) (hb : Below w0.heap.size w0 w1) : SlR w1 A ts := h.mono (below_mono hb)
theorem SlR.nil (w : World) (A : Option Addr) : SlR w A [] := ⟨[], Rd.nil _ _, rfl⟩
/-- Element k of a forest. -/
theorem ForR.at_ {w : World} : ∀ {ts : List LTree} {cs : List Value} {k : Nat} {t : LTree}, ForR w ts cs → ts[k]? = some t → ∃ c1, TreeR w t c1 ∧ ∀ j, j < 3 → cs[k * 3 + j]? = c1[j]?
  | [], _, _, _, _, h => by simp at h
  | t :: ts, cs, 0, t', ⟨c1, c2, h1, h2, h3⟩, h => by
    simp at h
    subst h
    refine ⟨c1, h2, fun j hj => ?_⟩
    rw [h1, Nat.zero_mul, Nat.zero_add, List.getElem?_append_left (by rw [h2.len]; exact hj)]
  | t :: ts, cs, k + 1, t', ⟨c1, c2, h1, h2, h3⟩, h => by
    obtain ⟨c3, h4, h5⟩ := ForR.at_ (k := k) h3 (by simpa using h)
    refine ⟨c3, h4, fun j hj => ?_⟩
    rw [← h5 j hj, h1, List.getElem?_append_right (by rw [h2.len]; omega), h2.len]
    congr 1
    omega
/-- A tree of a slice that is read: its three cells, and the kids' slice. -/
theorem SlR.el {w : World} {A : Option Addr} {ts : List LTree} {k : Nat} {t : LTree} (h : SlR w A ts) (ht : ts[k]? = some t) : ∃ ad A' c', A = some ad ∧ w.cell? (ad.add (k * 3)) = some (.int .i64 t.kind) ∧
    w.cell? ⟨(ad.add (k * 3)).block, (ad.add (k * 3)).off + 1, none⟩ = some (.int .i32 t.n) ∧ w.cell? ⟨(ad.add (k * 3)).block, (ad.add (k * 3)).off + 2, none⟩ = some (.slice A' t.kids.length c') ∧ t.kids.length ≤ c' ∧ SlR w A' t.kids := by
  obtain ⟨vs, hr, hf⟩ := h
  obtain ⟨c1, h1, h2⟩ := hf.at_ ht
  obtain ⟨kd, n, ks⟩ := t
  obtain ⟨A', c', vs', rfl, hle, hr', hf'⟩ := h1
  obtain ⟨ad, rfl, hc0⟩ := hr (k * 3 + 0) _ ((h2 0 (by omega)).trans rfl)
  have hc1 := hr.some_ (k * 3 + 1) _ ((h2 1 (by omega)).trans rfl)
  have hc2 := hr.some_ (k * 3 + 2) _ ((h2 2 (by omega)).trans rfl)
  rw [Nat.add_zero] at hc0
  rw [add_field _ _ _ (by omega)] at hc1 hc2
  exact ⟨ad, A', c', rfl, hc0, hc1, hc2, hle, vs', hr', hf'⟩

/-! ### forests of the call's own -/
mutual
def TreeO (w : World) (T : TypeId) : LTree → List Value → List Nat → Prop
  | .mk k n ks, cs, S => ∃ A c vs b S', cs = [.int .i64 k, .int .i32 n, .slice A ks.length c] ∧ Row w T 3 A ks.length c vs b ∧ ForO w T ks vs S' ∧ S = b.toList ++ S'
def ForO (w : World) (T : TypeId) : List LTree → List Value → List Nat → Prop
  | [], cs, S => cs = [] ∧ S = []
  | t :: ts, cs, S => ∃ c1 c2 S1 S2, cs = c1 ++ c2 ∧ TreeO w T t c1 S1 ∧ ForO w T ts c2 S2 ∧ S = S1 ++ S2
end
mutual
theorem TreeO.rd {w : World} {T : TypeId} : ∀ {t : LTree} {cs : List Value} {S : List Nat}, TreeO w T t cs S → TreeR w t cs
  | .mk k n ks, cs, S, ⟨A, c, vs, b, S', h1, h2, h3, _⟩ => ⟨A, c, vs, h1, h2.le, h2.rd, ForO.rd h3⟩
theorem ForO.rd {w : World} {T : TypeId} : ∀ {ts : List LTree} {cs : List Value} {S : List Nat}, ForO w T ts cs S → ForR w ts cs
  | [], cs, S, h => h.1
  | t :: ts, cs, S, ⟨c1, c2, S1, S2, h1, h2, h3, _⟩ => ⟨c1, c2, h1, TreeO.rd h2, ForO.rd h3⟩
end
mutual
theorem TreeO.lt {w : World} {T : TypeId} : ∀ {t : LTree} {cs : List Value} {S : List Nat}, TreeO w T t cs S → ∀ g ∈ S, g < w.heap.size
  | .mk k n ks, cs, S, ⟨A, c, vs, b, S', h1, h2, h3, h4⟩, g, hg => by
    rw [h4] at hg
    rcases List.mem_append.1 hg with hg | hg
    · exact h2.lt g (by simpa using hg)
    · exact ForO.lt h3 g hg
theorem ForO.lt {w : World} {T : TypeId} : ∀ {ts : List LTree} {cs : List Value} {S : List Nat}, ForO w T ts cs S → ∀ g ∈ S, g < w.heap.size
  | [], cs, S, h, g, hg => by rw [h.2] at hg; cases hg
  | t :: ts, cs, S, ⟨c1, c2, S1, S2, h1, h2, h3, h4⟩, g, hg => by
    rw [h4] at hg
    rcases List.mem_append.1 hg with hg | hg
    · exact TreeO.lt h2 g hg
    · exact ForO.lt h3 g hg
end
mutual
theorem TreeO.keep {w w1 : World} {T : TypeId} : ∀ {t : LTree} {cs : List Value} {S : List Nat}, TreeO w T t cs S → (∀ g ∈ S, w1.heap[g]? = w.heap[g]?) → TreeO w1 T t cs S
  | .mk k n ks, cs, S, ⟨A, c, vs, b, S', h1, h2, h3, h4⟩, hk => ⟨A, c, vs, b, S', h1, h2.keep fun g hg => hk g (by rw [h4]; simp [hg]), ForO.keep h3 fun g hg => hk g (by rw [h4]; simp [hg]), h4⟩
theorem ForO.keep {w w1 : World} {T : TypeId} : ∀ {ts : List LTree} {cs : List Value} {S : List Nat}, ForO w T ts cs S → (∀ g ∈ S, w1.heap[g]? = w.heap[g]?) → ForO w1 T ts cs S
  | [], cs, S, h, _ => h
  | t :: ts, cs, S, ⟨c1, c2, S1, S2, h1, h2, h3, h4⟩, hk => ⟨c1, c2, S1, S2, h1, TreeO.keep h2 fun g hg => hk g (by rw [h4]; simp [hg]), ForO.keep h3 fun g hg => hk g (by rw [h4]; simp [hg]), h4⟩
end
theorem ForO.len {w : World} {T : TypeId} {ts : List LTree} {cs : List Value} {S : List Nat} (h : ForO w T ts cs S) : cs.length = ts.length * 3 := h.rd.len
theorem ForO.call {w w1 : World} {T : TypeId} {ts : List LTree} {cs : List Value} {S : List Nat} (h : ForO w T ts cs S) (hb : Below w.heap.size w w1) : ForO w1 T ts cs S := h.keep fun g hg => hb.block g (h.lt g hg)
theorem TreeO.call {w w1 : World} {T : TypeId} {t : LTree} {cs : List Value} {S : List Nat} (h : TreeO w T t cs S) (hb : Below w.heap.size w w1) : TreeO w1 T t cs S := h.keep fun g hg => hb.block g (h.lt g hg)
theorem TreeO.intro {w : World} {T : TypeId} {k n : Int} {ks : List LTree} {A : Option Addr} {c : Nat} {vs : List Value} {b : Option Nat} {S' : List Nat} (h1 : Row w T 3 A ks.length c vs b) (h2 : ForO w T ks vs S') : TreeO w T (.mk k n ks) [.int .i64 k, .int .i32 n, .slice A ks.length c] (b.toList ++ S') := ⟨A, c, vs, b, S', rfl, h1, h2, rfl⟩
/-- One more tree behind a forest. -/
theorem ForO.snoc {w : World} {T : TypeId} {t : LTree} {c2 : List Value} {S2 : List Nat} (h2 : TreeO w T t c2 S2) : ∀ {ts : List LTree} {cs : List Value} {S : List Nat}, ForO w T ts cs S → ForO w T (ts ++ [t]) (cs ++ c2) (S ++ S2)
  | [], cs, S, h => by
    obtain ⟨rfl, rfl⟩ := h
    exact ⟨c2, [], S2, [], by simp, h2, ⟨rfl, rfl⟩, by simp⟩
  | t' :: ts, cs, S, ⟨c1, c3, S1, S3, h1, h3, h4, h5⟩ => ⟨c1, c3 ++ c2, S1, S3 ++ S2, by rw [h1, List.append_assoc], h3, ForO.snoc h2 h4, by rw [h5, List.append_assoc]⟩
/-- A slice of trees of the call's own: its blocks S lie from lo on, no two alike. -/
def SlO (w : World) (T : TypeId) (lo : Nat) (A : Option Addr) (c : Nat) (ts : List LTree) (S : List Nat) : Prop := ∃ vs b S', Row w T 3 A ts.length c vs b ∧ ForO w T ts vs S' ∧ S = b.toList ++ S' ∧ S.Nodup ∧ ∀ g ∈ S, lo ≤ g
theorem SlO.rd {w : World} {T : TypeId} {lo : Nat} {A : Option Addr} {c : Nat} {ts : List LTree} {S : List Nat} (h : SlO w T lo A c ts S) : SlR w A ts := by
  obtain ⟨vs, b, S', h1, h2, _⟩ := h
  exact ⟨vs, h1.rd, h2.rd⟩
theorem SlO.keep {w w1 : World} {T : TypeId} {lo : Nat} {A : Option Addr} {c : Nat} {ts : List LTree} {S : List Nat} (h : SlO w T lo A c ts S) (hk : ∀ g ∈ S, w1.heap[g]? = w.heap[g]?) : SlO w1 T lo A c ts S := by
  obtain ⟨vs, b, S', h1, h2, h3, h4, h5⟩ := h
  exact ⟨vs, b, S', h1.keep fun g hg => hk g (by rw [h3]; simp [hg]), h2.keep fun g hg => hk g (by rw [h3]; simp [hg]), h3, h4, h5⟩
theorem SlO.lt {w : World} {T : TypeId} {lo : Nat} {A : Option Addr} {c : Nat} {ts : List LTree} {S : List Nat} (h : SlO w T lo A c ts S) : ∀ g ∈ S, g < w.heap.size := by
  obtain ⟨vs, b, S', h1, h2, h3, h4, h5⟩ := h
  intro g hg
  rw [h3] at hg
  rcases List.mem_append.1 hg with hg | hg
  · exact h1.lt g (by simpa using hg)
  · exact h2.lt g hg
theorem SlO.call {w w1 : World} {T : TypeId} {lo : Nat} {A : Option Addr} {c : Nat} {ts : List LTree} {S : List Nat} (h : SlO w T lo A c ts S) (hb : Below w.heap.size w w1) : SlO w1 T lo A c ts S := h.keep fun g hg => hb.block g (h.lt g hg)
theorem SlO.le {w : World} {T : TypeId} {lo : Nat} {A : Option Addr} {c : Nat} {ts : List LTree} {S : List Nat} (h : SlO w T lo A c ts S) : ts.length ≤ c := by
  obtain ⟨vs, b, S', h1, _⟩ := h
  exact h1.le
theorem SlO.low {w : World} {T : TypeId} {lo lo' : Nat} {A : Option Addr} {c : Nat} {ts : List LTree} {S : List Nat} (h : SlO w T lo A c ts S) (hl : lo' ≤ lo) : SlO w T lo' A c ts S := by
  obtain ⟨vs, b, S', h1, h2, h3, h4, h5⟩ := h
  exact ⟨vs, b, S', h1, h2, h3, h4, fun g hg => Nat.le_trans hl (h5 g hg)⟩
theorem SlO.nil (w : World) (T : TypeId) (lo : Nat) (A : Option Addr) : SlO w T lo A 0 [] [] := ⟨[], none, [], Row.nil _ _ _ _, ⟨rfl, rfl⟩, rfl, List.nodup_nil, by simp⟩
theorem nodup_append_left {α : Type} {a b : List α} (h : (a ++ b).Nodup) : a.Nodup := (List.nodup_append.1 h).1
/-- append(out, t): the forest with one tree more. -/
theorem SlO.push {w w1 : World} {T : TypeId} {lo : Nat} {ts : List LTree} {vs : List Value} {b b' : Option Nat} {S' S2 : List Nat} {t : LTree} {c2 : List Value} {B : Option Addr} {d : Nat}
    (hf : ForO w T ts vs S') (hn : (b.toList ++ S').Nodup) (hlo : ∀ g ∈ b.toList ++ S', lo ≤ g) (ht : TreeO w T t c2 S2) (hn2 : S2.Nodup) (hlo2 : ∀ g ∈ S2, lo ≤ g) (hd : ∀ g ∈ S2, g ∉ b.toList ++ S') (hbw : ∀ g, b = some g → g < w.heap.size) (hls : lo ≤ w.heap.size)
    (hrow : Row w1 T 3 B (ts.length + 1) d (vs ++ c2) b') (hg : w.grownBy w1 b) (hb' : b' = b ∨ ∃ g, b' = some g ∧ w.heap.size ≤ g) : SlO w1 T lo B d (ts ++ [t]) (b'.toList ++ (S' ++ S2)) := by
  have keepS : ∀ g ∈ S', w1.heap[g]? = w.heap[g]? := fun g hgs => hg.block g (hf.lt g hgs) (fun e => by
    rw [← e] at hn
    simp at hn
    exact hn.1 hgs)
  have keepT : ∀ g ∈ S2, w1.heap[g]? = w.heap[g]? := fun g hgs => hg.block g (ht.lt g hgs) (fun e => hd g hgs (by rw [← e]; simp))
  refine ⟨vs ++ c2, b', S' ++ S2, by simpa using hrow, (ForO.snoc (ht.keep keepT) (hf.keep keepS)), rfl, ?_, ?_⟩
  · have hS : (S' ++ S2).Nodup := by
      rw [List.nodup_append]
      refine ⟨(List.nodup_append.1 hn).2.1, hn2, ?_⟩
      intro x hx y hy e
      subst e
      exact hd x hy (by simp [hx])
    rw [List.nodup_append]
    refine ⟨by cases b' <;> simp, hS, ?_⟩
    intro x hx y hy e
    subst e
    have hx' : b' = some x := by simpa using hx
    rcases hb' with h | ⟨g, h, hge⟩
    · rcases List.mem_append.1 hy with hy | hy
      · rw [h] at hx'
        rw [hx'] at hn
        simp at hn
        exact hn.1 hy
      · exact hd x hy (by rw [← h, hx']; simp)
    · rw [hx'] at h
      cases h
      rcases List.mem_append.1 hy with hy | hy
      · have := hf.lt x hy; omega
      · have := ht.lt x hy; omega
  · intro g hgm
    rcases List.mem_append.1 hgm with h | h
    · have hx' : b' = some g := by simpa using h
      rcases hb' with h' | ⟨g', h', hge⟩
      · exact hlo g (by rw [← h', hx']; simp)
      · rw [hx'] at h'; cases h'; omega
    · rcases List.mem_append.1 h with h | h
      · exact hlo g (by simp [h])
      · exact hlo2 g h

/-! ### forests: counted, marked -/
theorem nodesF_len : ∀ (ts : List LTree), ts.length ≤ nodesF ts
  | [] => Nat.le_refl _
  | .mk k n ks :: ts => by
    have := nodesF_len ts
    simp only [nodesF, LTree.nodes, List.length_cons]
    omega
theorem nodesF_append : ∀ (a b : List LTree), nodesF (a ++ b) = nodesF a + nodesF b
  | [], b => by simp [nodesF]
  | t :: a, b => by simp only [List.cons_append, nodesF]; rw [nodesF_append a b]; omega
theorem nodes_eq (t : LTree) : t.nodes = 1 + nodesF t.kids := by cases t; rfl
theorem nodesF_take : ∀ {ts : List LTree} {k : Nat} {t : LTree}, ts[k]? = some t → nodesF (ts.take (k + 1)) = nodesF (ts.take k) + t.nodes
  | [], _, _, h => by simp at h
  | t :: ts, 0, t', h => by simp at h; subst h; simp [nodesF]
  | t :: ts, k + 1, t', h => by
    have := nodesF_take (ts := ts) (k := k) (by simpa using h)
    simp only [List.take_succ_cons, nodesF]
    omega
theorem nodesF_take_le : ∀ (ts : List LTree) (k : Nat), nodesF (ts.take k) ≤ nodesF ts
  | [], k => by simp
  | t :: ts, 0 => by simp [nodesF]
  | t :: ts, k + 1 => by
    have := nodesF_take_le ts k
    simp only [List.take_succ_cons, nodesF]
    omega
theorem nodesF_at {ts : List LTree} {k : Nat} {t : LTree} (h : ts[k]? = some t) : nodesF (ts.take k) + t.nodes ≤ nodesF ts := by
  rw [← nodesF_take h]
  exact nodesF_take_le ts (k + 1)
mutual
def mkTr (k : Int) : LTree → LTree
  | .mk _ _ ks => .mk k (wrap32 (k + 1)) (mkF (k + 2) ks)
def mkF (k : Int) : List LTree → List LTree
  | [] => []
  | t :: ts => mkTr k t :: mkF (k + 2 * t.nodes) ts
end
theorem mkF_length : ∀ (ts : List LTree) (k : Int), (mkF k ts).length = ts.length
  | [], _ => rfl
  | t :: ts, k => by simp only [mkF, List.length_cons]; rw [mkF_length ts]
theorem mkF_append : ∀ (a b : List LTree) (k : Int), mkF k (a ++ b) = mkF k a ++ mkF (k + 2 * nodesF a) b
  | [], b, k => by simp [mkF, nodesF]
  | t :: a, b, k => by
    simp only [List.cons_append, mkF]
    rw [mkF_append a b]
    simp only [nodesF]
    congr 3
    omega
theorem mkF_at : ∀ {ts : List LTree} {i : Nat} {t : LTree} (k : Int), ts[i]? = some t → (mkF k ts)[i]? = some (mkTr (k + 2 * nodesF (ts.take i)) t)
  | [], _, _, _, h => by simp at h
  | t :: ts, 0, t', k, h => by simp at h; subst h; simp [mkF, nodesF]
  | t :: ts, i + 1, t', k, h => by
    have := mkF_at (ts := ts) (i := i) (k + 2 * t.nodes) (by simpa using h)
    simp only [mkF, List.getElem?_cons_succ, List.take_succ_cons, nodesF]
    rw [this]
    congr 2
    omega
theorem ForO.split {w : World} {T : TypeId} : ∀ {l1 : List LTree} {t : LTree} {l2 : List LTree} {cs : List Value} {S : List Nat}, ForO w T (l1 ++ t :: l2) cs S → ∃ c1 ct c2 S1 St S2, cs = c1 ++ (ct ++ c2) ∧ S = S1 ++ (St ++ S2) ∧ ForO w T l1 c1 S1 ∧ TreeO w T t ct St ∧ ForO w T l2 c2 S2
  | [], t, l2, cs, S, ⟨c1, c2, S1, S2, h1, h2, h3, h4⟩ => ⟨[], c1, c2, [], S1, S2, h1, h4, ⟨rfl, rfl⟩, h2, h3⟩
  | x :: l1, t, l2, cs, S, ⟨c1, c2, S1, S2, h1, h2, h3, h4⟩ => by
    obtain ⟨d1, dt, d2, R1, Rt, R2, e1, e2, g1, g2, g3⟩ := ForO.split h3
    exact ⟨c1 ++ d1, dt, d2, S1 ++ R1, Rt, R2, by rw [h1, e1]; simp, by rw [h4, e2]; simp, ⟨c1, d1, S1, R1, rfl, h2, g1, rfl⟩, g2, g3⟩
theorem ForO.join {w : World} {T : TypeId} : ∀ {l1 : List LTree} {t : LTree} {l2 : List LTree} {c1 ct c2 : List Value} {S1 St S2 : List Nat}, ForO w T l1 c1 S1 → TreeO w T t ct St → ForO w T l2 c2 S2 → ForO w T (l1 ++ t :: l2) (c1 ++ (ct ++ c2)) (S1 ++ (St ++ S2))
  | [], t, l2, _, ct, c2, _, St, S2, h1, h2, h3 => by
    obtain ⟨rfl, rfl⟩ := h1
    exact ⟨ct, c2, St, S2, rfl, h2, h3, rfl⟩
  | x :: l1, t, l2, _, ct, c2, _, St, S2, ⟨c1, c3, S1, S3, e1, g1, g2, e2⟩, h2, h3 =>
    ⟨c1, c3 ++ (ct ++ c2), S1, S3 ++ (St ++ S2), by rw [e1]; simp, g1, ForO.join g2 h2 h3, by rw [e2]; simp⟩
/-- Only the blocks of S have turned; blocks may have been laid. -/
structure Chg (w w' : World) (S : List Nat) : Prop where
  os : w'.os = w.os
  tape : w'.tape = w.tape
  output : w'.output = w.output
  size : w.heap.size ≤ w'.heap.size
  block : ∀ g, g < w.heap.size → g ∉ S → w'.heap[g]? = w.heap[g]?
theorem Chg.refl (w : World) (S : List Nat) : Chg w w S := ⟨rfl, rfl, rfl, Nat.le_refl _, fun _ _ _ => rfl⟩
theorem Chg.trans {a b c : World} {S S' : List Nat} (h : Chg a b S) (k : Chg b c S') (hs : ∀ g ∈ S', g ∈ S) : Chg a c S :=
  ⟨k.os.trans h.os, k.tape.trans h.tape, k.output.trans h.output, Nat.le_trans h.size k.size, fun g hg hn => (k.block g (Nat.lt_of_lt_of_le hg h.size) (fun e => hn (hs g e))).trans (h.block g hg hn)⟩
theorem Chg.set {a b : World} {S : List Nat} (h : Chg a b S) {g : Nat} (hg : g ∈ S) (j : Nat) (u : Value) : Chg a (b.setCell ⟨g, j, none⟩ u) S :=
  ⟨h.os, h.tape, h.output, by simpa using h.size, fun k hk hn => (Below.heap_setCell b ⟨g, j, none⟩ u k (fun e => hn (by simp only at e; rw [e]; exact hg))).trans (h.block k hk hn)⟩
theorem Chg.drewN {a b : World} {S : List Nat} (h : Chg a b S) (n : Nat) : Chg a (b.drewN n) S := ⟨h.os, h.tape, h.output, h.size, h.block⟩
theorem Chg.below {a b : World} {S : List Nat} {B : Nat} (h : Chg a b S) (hS : ∀ g ∈ S, B ≤ g) (hB : B ≤ a.heap.size) : Below B a b :=
  ⟨h.os, h.tape, h.output, h.size, fun k hk => h.block k (by omega) (fun e => by have := hS k e; omega)⟩

/-! ### the trees of a body -/
def treesF : Nat → List LOp → List LTree × List LOp
  | 0, r => ([], r)
  | _ + 1, [] => ([], [])
  | n + 1, o :: r =>
    if o.kind = 5 ∨ o.kind = 7 then ([], o :: r) else
    if o.kind = 3 ∨ o.kind = 4 ∨ o.kind = 6 then (LTree.mk o.kind o.n (treesF n r).1 :: (treesF n (treesF n r).2.tail).1, (treesF n (treesF n r).2.tail).2)
    else (LTree.mk o.kind o.n [] :: (treesF n r).1, (treesF n r).2)
theorem treesF_le : ∀ (n : Nat) (r : List LOp), (treesF n r).2.length ≤ r.length
  | 0, r => Nat.le_refl _
  | _ + 1, [] => Nat.le_refl _
  | n + 1, o :: r => by
    rw [treesF]
    split
    · exact Nat.le_refl _
    · split
      · have h1 := treesF_le n r
        have h2 := treesF_le n (treesF n r).2.tail
        simp only [List.length_tail, List.length_cons] at h2 ⊢
        omega
      · have h1 := treesF_le n r
        simp only [List.length_cons]
        omega
theorem treesF_fuel : ∀ (n m : Nat) (r : List LOp), r.length < n → r.length < m → treesF n r = treesF m r
  | 0, _, r, h, _ => by omega
  | _, 0, r, _, h => by omega
  | n + 1, m + 1, [], _, _ => rfl
  | n + 1, m + 1, o :: r, hn, hm => by
    simp only [List.length_cons] at hn hm
    have e1 := treesF_fuel n m r (by omega) (by omega)
    have hle := treesF_le m r
    have e2 := treesF_fuel n m (treesF m r).2.tail (by simp only [List.length_tail]; omega) (by simp only [List.length_tail]; omega)
    rw [treesF, treesF, e1, e2]
/-- The trees that begin a body, and what is left (it begins with what ends them). -/
def treesT (r : List LOp) : List LTree × List LOp := treesF (r.length + 1) r
theorem treesT_le (r : List LOp) : (treesT r).2.length ≤ r.length := treesF_le _ _
theorem treesT_nil : treesT [] = ([], []) := rfl
theorem treesT_end {o : LOp} {r : List LOp} (h : o.kind = 5 ∨ o.kind = 7) : treesT (o :: r) = ([], o :: r) := by rw [treesT, List.length_cons, treesF, if_pos h]
theorem treesT_nest {o : LOp} {r : List LOp} (h : o.kind = 3 ∨ o.kind = 4 ∨ o.kind = 6) : treesT (o :: r) = (LTree.mk o.kind o.n (treesT r).1 :: (treesT (treesT r).2.tail).1, (treesT (treesT r).2.tail).2) := by
  have hle := treesT_le r
  have e2 : treesT (treesT r).2.tail = treesF (r.length + 1) (treesT r).2.tail := treesF_fuel _ _ _ (by simp only [List.length_tail]; omega) (by simp only [List.length_tail]; omega)
  rw [e2, treesT, List.length_cons, treesF, if_neg (by omega), if_pos h]
  rfl
theorem treesT_leaf {o : LOp} {r : List LOp} (h1 : ¬ (o.kind = 5 ∨ o.kind = 7)) (h2 : ¬ (o.kind = 3 ∨ o.kind = 4 ∨ o.kind = 6)) : treesT (o :: r) = (LTree.mk o.kind o.n [] :: (treesT r).1, (treesT r).2) := by
  rw [treesT, List.length_cons, treesF, if_neg h1, if_neg h2]
  rfl
end Go.Proofs.YtfmmfgjelaekhaaDoor

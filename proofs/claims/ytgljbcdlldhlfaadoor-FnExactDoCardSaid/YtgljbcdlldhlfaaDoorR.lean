/- Words for memory: rows of cells that are read, rows of the call's own; append, make and stores on them. Plain lemmas over any program; no Go of the program in sight. -/
import Derived.WalkKit
import Derived.Below
import Derived.Laws.OwnMore
import Derived.Deep.AppendLies
import Derived.Deep.Draws
import Derived.Maps.AppendAt
import Derived.ArgAppend
import Derived.OwnWalk
import Derived.Lib.Hide
import Derived.WalkSpells
import Derived.Laws.Rows
import Derived.Lib.AppendStr
set_option linter.unusedVariables false
set_option linter.unusedSimpArgs false
namespace Go.Proofs.YtgljbcdlldhlfaaDoor
open Go.RowKit

theorem ret_bool {a b : Bool} (h : a = b) : Ending.returned (.bool a) = .returned (.bool b) := by rw [h]
theorem ret_int {k : IntKind} {a b : Int} (h : a = b) : Ending.returned (.int k a) = .returned (.int k b) := by rw [h]
theorem bytes_inj {x y : ByteArray} (h : x.toList = y.toList) : x = y := by
  rw [ByteArray.toList_eq, ByteArray.toList_eq] at h
  exact ByteArray.ext (Array.toList_inj.mp h)
/-! ### worlds -/
def Mono (w w1 : World) : Prop := ∀ a v, w.cell? a = some v → w1.cell? a = some v
theorem below_mono {w w1 : World} (h : Below w.heap.size w w1) : Mono w w1 := fun a v hc => (h.cell (World.block_lt_of_cell? w a hc)).trans hc
theorem Mono.refl (w : World) : Mono w w := fun _ _ h => h
theorem Mono.trans {a b c : World} (h : Mono a b) (k : Mono b c) : Mono a c := fun x v hx => k x v (h x v hx)
theorem mono_alloc (w : World) (o : Obj) : Mono w (w.alloc o) := below_mono ((Below.refl _ _).alloc (Nat.le_refl _) o)
theorem mono_drewN (w : World) (n : Nat) : Mono w (w.drewN n) := fun _ _ h => h
theorem bl_drewN {B : Nat} {w W : World} (h : Below B w W) (n : Nat) : Below B w (W.drewN n) := ⟨h.os, h.tape, h.output, h.size, h.block⟩
theorem bl_alloc {w W : World} (h : Below w.heap.size w W) (o : Obj) : Below w.heap.size w (W.alloc o) := h.alloc h.size o
theorem bl_drew {B : Nat} {w W : World} (h : Below B w W) : Below B w W.drew := ⟨h.os, h.tape, h.output, h.size, h.block⟩
theorem bl_call {w W W1 : World} (h : Below w.heap.size w W) (k : Below W.heap.size W W1) : Below w.heap.size w W1 := h.trans (k.mono h.size)
theorem bl_set0 {w W : World} {n j : Nat} (h : Below n w W) (u : Value) : Below n w (W.setCell ⟨n, j, none⟩ u) := h.setCell (p := ⟨n, j, none⟩) (Nat.le_refl _) u
theorem bl_set1 {w W : World} {n j : Nat} (h : Below n w W) (u : Value) : Below n w (W.setCell ⟨n + 1, j, none⟩ u) := h.setCell (p := ⟨n + 1, j, none⟩) (Nat.le_succ _) u
theorem bl_set2 {w W : World} {n j : Nat} (h : Below n w W) (u : Value) : Below n w (W.setCell ⟨n + 1 + 1, j, none⟩ u) := h.setCell (p := ⟨n + 1 + 1, j, none⟩) (Nat.le_add_right n 2) u
theorem bl_set3 {w W : World} {n j : Nat} (h : Below n w W) (u : Value) : Below n w (W.setCell ⟨n + 1 + 1 + 1, j, none⟩ u) := h.setCell (p := ⟨n + 1 + 1 + 1, j, none⟩) (Nat.le_add_right n 3) u
/-- One call behind another. -/
theorem Below.tr {B : Nat} {a b c : World} (h : Below B a b) (k : Below b.heap.size b c) (hB : B ≤ a.heap.size) : Below B a c :=
  h.trans (k.mono (Nat.le_trans hB h.size))
theorem Below.tr' {B B' : Nat} {a b c : World} (h : Below B a b) (k : Below B' b c) (hB : B ≤ B') : Below B a c := h.trans (k.mono hB)

theorem bcell {W w1 : World} (hb : Below W.heap.size W w1) : (∀ b o, b < W.heap.size → w1.cell? ⟨b, o, none⟩ = W.cell? ⟨b, o, none⟩) ∧ (∀ b o, b < W.heap.size → w1.frozen? ⟨b, o, none⟩ = W.frozen? ⟨b, o, none⟩) :=
  ⟨fun b o h => hb.cell (p := ⟨b, o, none⟩) h, fun b o h => hb.frozen (p := ⟨b, o, none⟩) h⟩
/-- Three blocks of the call's own lie below what a callee made. -/
theorem below3 {n : Nat} {W w1 : World} (hb : Below W.heap.size W w1) (h : n + 1 + 1 < W.heap.size) : n < w1.heap.size ∧ n + 1 < w1.heap.size ∧ n + 1 + 1 < w1.heap.size := by
  have := hb.size
  omega
theorem below2 {n : Nat} {W w1 : World} (hb : Below W.heap.size W w1) (h : n + 1 < W.heap.size) : n < w1.heap.size ∧ n + 1 < w1.heap.size := by
  have := hb.size
  omega
theorem below1 {n : Nat} {W w1 : World} (hb : Below W.heap.size W w1) (h : n < W.heap.size) : n < w1.heap.size := by
  have := hb.size
  omega

/-- Some orders have been drawn, no more. (A structure: the walk doesn't look into it.) -/
structure Drawn (w w' : World) : Prop where
  out : ∃ n, w' = w.drewN n
theorem Drawn.refl (w : World) : Drawn w w := ⟨0, rfl⟩
theorem Drawn.drewN {w w' : World} (h : Drawn w w') (n : Nat) : Drawn w (w'.drewN n) := by
  obtain ⟨m, rfl⟩ := h
  exact ⟨m + n, World.drewN_drewN ..⟩
theorem Drawn.drew {w w' : World} (h : Drawn w w') : Drawn w w'.drew := by
  exact h.drewN 1
theorem Drawn.heap {w w' : World} (h : Drawn w w') : w'.heap = w.heap := by
  obtain ⟨m, rfl⟩ := h
  rfl
theorem Drawn.cell {w w' : World} (h : Drawn w w') (a : Addr) : w'.cell? a = w.cell? a := by
  obtain ⟨m, rfl⟩ := h
  rfl
theorem Drawn.mono {w w' : World} (h : Drawn w w') : Mono w w' := fun a v hc => (h.cell a).trans hc
theorem Drawn.below {w w' : World} (h : Drawn w w') (B : Nat) : Below B w w' := by
  obtain ⟨m, rfl⟩ := h
  exact bl_drewN (Below.refl _ _) m
theorem Drawn.blk {w w' : World} (h : Drawn w w') {g : Nat} {o : Obj} (hg : w.heap[g]? = some o) : w'.heap[g]? = some o := by rw [h.heap]; exact hg

/-! ### blocks known whole -/
theorem blk_cell {w : World} {g : Nat} {t : TypeId} {cs : Array Value} (h : w.heap[g]? = some (.cells cs t (0, 0))) (i : Nat) : w.cell? ⟨g, i, none⟩ = cs[i]? := cell_of_row w g i cs t (0, 0) h
theorem blk_frozen {w : World} {g : Nat} {t : TypeId} {cs : Array Value} (h : w.heap[g]? = some (.cells cs t (0, 0))) (i : Nat) : w.frozen? ⟨g, i, none⟩ = false := by simp [World.frozen?, h]
theorem blk_lt {w : World} {g : Nat} {o : Obj} (h : w.heap[g]? = some o) : g < w.heap.size := (Array.getElem?_eq_some_iff.1 h).1
theorem blk_set {w : World} {g : Nat} {t : TypeId} {cs : Array Value} (h : w.heap[g]? = some (.cells cs t (0, 0))) (i : Nat) (u : Value) : (w.setCell ⟨g, i, none⟩ u).heap[g]? = some (.cells (cs.setIfInBounds i u) t (0, 0)) := by
  simp [World.setCell, Array.getElem?_modify, h]
theorem blk_far {w : World} {g : Nat} {o : Obj} (h : w.heap[g]? = some o) {p : Addr} (hp : g ≠ p.block) (u : Value) : (w.setCell p u).heap[g]? = some o := (Below.heap_setCell w p u g hp).trans h
theorem blk_alloc {w : World} {g : Nat} {o : Obj} (h : w.heap[g]? = some o) (o' : Obj) : (w.alloc o').heap[g]? = some o := (Below.heap_alloc w o' g (blk_lt h)).trans h
theorem blk_new (w : World) (o : Obj) : (w.alloc o).heap[w.heap.size]? = some o := heap_alloc_new w o
theorem blk_below {w w1 : World} {g : Nat} {o : Obj} (h : w.heap[g]? = some o) {B : Nat} (hb : Below B w w1) (hg : g < B) : w1.heap[g]? = some o := (hb.block g hg).trans h
theorem blk_call {w w1 : World} {g : Nat} {o : Obj} (h : w.heap[g]? = some o) (hb : Below w.heap.size w w1) : w1.heap[g]? = some o := (hb.block g (blk_lt h)).trans h
theorem blk_drewN {w : World} {g : Nat} {o : Obj} (h : w.heap[g]? = some o) (n : Nat) : (w.drewN n).heap[g]? = some o := h

/-- A parameter's box, its world under a name of its own: laid ahead of go_enter. -/
theorem box (w : World) (cs : Array Value) (t : TypeId) : ∃ W, w.alloc (.cells cs t) = W ∧ (∀ i, W.cell? ⟨w.heap.size, i, none⟩ = cs[i]?) ∧ (∀ i, W.frozen? ⟨w.heap.size, i, none⟩ = false) ∧ w.heap.size < W.heap.size ∧ Hid (Below w.heap.size w W) ∧ Hid (Mono w W) ∧ Hid (W.heap[w.heap.size]? = some (.cells cs t (0, 0))) :=
  ⟨_, rfl, blk_cell (blk_new w _), blk_frozen (blk_new w _), by simp, Lib.hid (bl_alloc (Below.refl _ _) _), Lib.hid (mono_alloc _ _), Lib.hid (blk_new w _)⟩
theorem add_plain (g j : Nat) : (⟨g, 0, none⟩ : Addr).add j = ⟨g, j, none⟩ := by unfold Addr.add; split <;> simp_all
theorem add_of_add (a : Addr) (i j : Nat) : (a.add i).add j = a.add (i + j) := by
  unfold Addr.add
  by_cases hi : i = 0 <;> by_cases hj : j = 0 <;> simp [hi, hj, Nat.add_assoc]
theorem block_of_add (a : Addr) (n : Nat) : (a.add n).block = a.block := by unfold Addr.add; split <;> rfl

/-! ### cells that are read -/
def Rd (w : World) (A : Option Addr) (cs : List Value) : Prop := ∀ j u, cs[j]? = some u → ∃ ad, A = some ad ∧ w.cell? (ad.add j) = some u
section
variable {w w1 : World} {A : Option Addr} {cs ds : List Value}
theorem Rd.nil (w : World) (A : Option Addr) : Rd w A [] := fun j u h => by simp at h
theorem Rd.mono (h : Rd w A cs) (hm : Mono w w1) : Rd w1 A cs := fun j u hu => by
  obtain ⟨ad, e, hc⟩ := h j u hu
  exact ⟨ad, e, hm _ _ hc⟩
theorem Rd.call (h : Rd w A cs) (hb : Below w.heap.size w w1) : Rd w1 A cs := h.mono (below_mono hb)
theorem Rd.keepB {w0 : World} (h : Rd w0 A cs) (hb : Below w0.heap.size w0 w) : Rd w A cs := h.mono (below_mono hb)
theorem Rd.at_ (h : Rd w A cs) {j : Nat} {u : Value} (hj : cs[j]? = some u) : ∃ ad, A = some ad ∧ w.cell? (ad.add j) = some u := h j u hj
theorem Rd.some_ {ad : Addr} (h : Rd w (some ad) cs) : ∀ j u, cs[j]? = some u → w.cell? (ad.add j) = some u := fun j u hu => by
  obtain ⟨ad', e, hc⟩ := h j u hu
  cases e
  exact hc
theorem Rd.front (h : Rd w A (cs ++ ds)) : Rd w A cs := fun j u hu => h j u (by rw [List.getElem?_append_left (List.getElem?_eq_some_iff.1 hu).1]; exact hu)
theorem Rd.take (h : Rd w A cs) (n : Nat) : Rd w A (cs.take n) := fun j u hu => h j u (by
  rw [List.getElem?_take] at hu
  split at hu
  · exact hu
  · cases hu)
theorem Rd.drop {ad : Addr} (h : Rd w (some ad) cs) (k : Nat) : Rd w (some (ad.add k)) (cs.drop k) := fun j u hu => by
  rw [List.getElem?_drop] at hu
  obtain ⟨ad', e, hc⟩ := h (k + j) u hu
  cases e
  exact ⟨_, rfl, by rw [add_of_add]; exact hc⟩
end

theorem take_all_snoc {α : Type} {p : α → Prop} {xs : List α} {k : Nat} (h : ∀ x ∈ xs.take k, p x) {y : α} (hy : xs[k]? = some y) (hp : p y) : ∀ x ∈ xs.take (k + 1), p x := by
  rw [List.take_add_one, hy]
  intro x hx
  rcases List.mem_append.1 hx with hx | hx
  · exact h x hx
  · obtain rfl : x = y := by simpa using hx
    exact hp
theorem nodup_snoc {α : Type} {xs : List α} {y : α} (h : xs.Nodup) (hy : y ∉ xs) : (xs ++ [y]).Nodup := by
  rw [List.nodup_append]
  exact ⟨h, by simp, fun a ha b hb => by
    obtain rfl : b = y := by simpa using hb
    exact fun e => hy (e ▸ ha)⟩
/-! ### elements of several cells -/
section
variable {α : Type} {enc : α → List Value} {sz : Nat}
theorem flat_length (hl : ∀ x, (enc x).length = sz) (xs : List α) : (xs.flatMap enc).length = xs.length * sz := by
  induction xs with
  | nil => simp
  | cons x xs ih => simp [hl, ih, Nat.succ_mul, Nat.add_comm]
theorem flat_get (hl : ∀ x, (enc x).length = sz) : ∀ (xs : List α) (k : Nat) (x : α), xs[k]? = some x → ∀ j, j < sz → (xs.flatMap enc)[k * sz + j]? = (enc x)[j]?
  | [], k, x, h, j, hj => by simp at h
  | y :: ys, 0, x, h, j, hj => by
    simp at h
    subst h
    simp [List.getElem?_append_left, hl, hj]
  | y :: ys, k + 1, x, h, j, hj => by
    have e : (k + 1) * sz + j = sz + (k * sz + j) := by rw [Nat.succ_mul]; omega
    rw [List.flatMap_cons, e, List.getElem?_append_right (by rw [hl]; omega), hl, Nat.add_sub_cancel_left]
    exact flat_get hl ys k x (by simpa using h) j hj
/-- All cells of one element written, in order. -/
def writes (cs : List Value) : Nat → List Value → List Value
  | _, [] => cs
  | p, v :: vs => writes (cs.set p v) (p + 1) vs
theorem writes_append (as cs : List Value) : ∀ (vs : List Value) (bs : List Value) (p : Nat), as.length = p → vs.length = bs.length → writes (as ++ (bs ++ cs)) p vs = as ++ (vs ++ cs)
  | [], bs, p, ha, hb => by
    obtain rfl : bs = [] := List.eq_nil_of_length_eq_zero (by simpa using hb.symm)
    rfl
  | v :: vs, b :: bs, p, ha, hb => by
    subst ha
    have := writes_append (as ++ [v]) cs vs bs (as.length + 1) (by simp) (by simpa using hb)
    simp only [writes, List.cons_append]
    rw [List.set_append_right _ _ (Nat.le_refl _), Nat.sub_self, List.set_cons_zero]
    simpa using this
  | v :: vs, [], p, ha, hb => by simp at hb
theorem flat_writes (hl : ∀ x, (enc x).length = sz) : ∀ (xs : List α) (k : Nat) (vs : List Value) (x : α), k < xs.length → enc x = vs → writes (xs.flatMap enc) (k * sz) vs = (xs.set k x).flatMap enc := by
  intro xs k vs x hk hv
  subst hv
  have e1 : xs = xs.take k ++ xs[k] :: xs.drop (k + 1) := by rw [List.getElem_cons_drop]; simp
  have e2 : xs.set k x = xs.take k ++ x :: xs.drop (k + 1) := List.set_eq_take_append_cons_drop ▸ by simp [hk]
  rw [e2]
  conv => lhs; rw [e1]
  rw [List.flatMap_append, List.flatMap_cons, List.flatMap_append, List.flatMap_cons]
  exact writes_append _ _ _ _ _ (by rw [flat_length hl, List.length_take, Nat.min_eq_left (by omega)]) (by rw [hl, hl])
theorem Rd.el {w : World} {A : Option Addr} {xs : List α} (hl : ∀ x, (enc x).length = sz) (h : Rd w A (xs.flatMap enc)) {k : Nat} {x : α} (hx : xs[k]? = some x) (hs : 0 < sz) :
    ∃ ad, A = some ad ∧ ∀ j u, (enc x)[j]? = some u → w.cell? (ad.add (k * sz + j)) = some u := by
  have h0 : 0 < (enc x).length := by rw [hl]; exact hs
  obtain ⟨ad, rfl, _⟩ := h (k * sz + 0) _ ((flat_get hl xs k x hx 0 hs).trans (List.getElem?_eq_getElem h0))
  exact ⟨ad, rfl, fun j u hu => h.some_ _ _ ((flat_get hl xs k x hx j (by rw [← hl x]; exact (List.getElem?_eq_some_iff.1 hu).1)).trans hu)⟩
theorem add_field (ad : Addr) (i j : Nat) (hj : 0 < j) : ad.add (i + j) = ⟨(ad.add i).block, (ad.add i).off + j, none⟩ := by
  unfold Addr.add
  by_cases hi : i = 0
  · subst hi
    simp [show j ≠ 0 by omega]
  · simp [hi, Nat.add_assoc]
end

/-! ### rows of the call's own: the slice '.slice A n c' holds the cells cs; b: its block, if it has one -/
def Row (w : World) (e : TypeId) (sz : Nat) (A : Option Addr) (n c : Nat) (cs : List Value) (b : Option Nat) : Prop :=
  cs.length = n * sz ∧
  ((n = 0 ∧ c = 0 ∧ b = none) ∨
   ∃ g cur, A = some ⟨g, 0, none⟩ ∧ b = some g ∧ w.heap[g]? = some (.cells cur e (0, 0)) ∧ n ≤ c ∧ c ≤ maxLen ∧ cur.size = c * sz ∧ cur.toList.take (n * sz) = cs)
section
variable {w w1 : World} {e : TypeId} {sz : Nat} {A : Option Addr} {n c : Nat} {cs : List Value} {b : Option Nat}
theorem Row.nil (w : World) (e : TypeId) (sz : Nat) (A : Option Addr) : Row w e sz A 0 0 [] none := ⟨by simp, .inl ⟨rfl, rfl, rfl⟩⟩
theorem Row.le (h : Row w e sz A n c cs b) : n ≤ c := by
  rcases h.2 with ⟨rfl, rfl, _⟩ | ⟨g, cur, _, _, _, h1, _⟩
  · exact Nat.le_refl _
  · exact h1
theorem Row.max (h : Row w e sz A n c cs b) : c ≤ maxLen := by
  rcases h.2 with ⟨rfl, rfl, _⟩ | ⟨g, cur, _, _, _, _, h1, _⟩
  · exact Nat.zero_le _
  · exact h1
theorem Row.lt (h : Row w e sz A n c cs b) : ∀ g, b = some g → g < w.heap.size := by
  intro g hg
  rcases h.2 with ⟨_, _, rfl⟩ | ⟨g', cur, _, rfl, hb, _⟩
  · cases hg
  · cases hg
    exact blk_lt hb
theorem Row.keep (h : Row w e sz A n c cs b) (hk : ∀ g, b = some g → w1.heap[g]? = w.heap[g]?) : Row w1 e sz A n c cs b := by
  refine ⟨h.1, ?_⟩
  rcases h.2 with h0 | ⟨g, cur, hA, hb, hg, r⟩
  · exact .inl h0
  · exact .inr ⟨g, cur, hA, hb, (hk g hb).trans hg, r⟩
theorem Row.call (h : Row w e sz A n c cs b) (hb : Below w.heap.size w w1) : Row w1 e sz A n c cs b := h.keep fun g hg => hb.block g (h.lt g hg)
theorem Row.alloc (h : Row w e sz A n c cs b) (o : Obj) : Row (w.alloc o) e sz A n c cs b := h.keep fun g hg => Below.heap_alloc w o g (h.lt g hg)
theorem Row.drewN (h : Row w e sz A n c cs b) (k : Nat) : Row (w.drewN k) e sz A n c cs b := h.keep fun _ _ => rfl
theorem Row.far (h : Row w e sz A n c cs b) {p : Addr} (hp : b ≠ some p.block) (u : Value) : Row (w.setCell p u) e sz A n c cs b :=
  h.keep fun g hg => Below.heap_setCell w p u g (fun e => hp (by rw [hg, e]))
theorem Row.grown (h : Row w e sz A n c cs b) {row : Option Nat} (hg : w.grownBy w1 row) (hne : b = none ∨ b ≠ row) : Row w1 e sz A n c cs b :=
  h.keep fun g hb => hg.block g (h.lt g hb) (fun e => by
    rcases hne with h0 | h0
    · rw [hb] at h0; cases h0
    · exact h0 (hb.trans e))
theorem Row.rd (h : Row w e sz A n c cs b) : Rd w A cs := by
  rcases h.2 with ⟨rfl, _, _⟩ | ⟨g, cur, rfl, _, hg, _, _, _, ht⟩
  · obtain rfl : cs = [] := List.eq_nil_of_length_eq_zero (by simpa using h.1)
    exact Rd.nil _ _
  · intro j u hu
    refine ⟨_, rfl, ?_⟩
    rw [add_plain, blk_cell hg]
    rw [← ht, List.getElem?_take] at hu
    split at hu
    · simpa using hu
    · cases hu
theorem Row.of_own {base : Nat} {v : Value} (h : w.ownsRow base e sz v n cs) : ∃ A c b, v = .slice A n c ∧ Row w e sz A n c cs b ∧ b = v.ownBlock := by
  rcases h.2 with ⟨rfl, rfl⟩ | ⟨g, cap, cur, rfl, _, hg, hn, hm, hs, ht⟩
  · exact ⟨none, 0, none, rfl, ⟨h.1, .inl ⟨rfl, rfl, rfl⟩⟩, rfl⟩
  · exact ⟨_, cap, some g, rfl, ⟨h.1, .inr ⟨g, cur, rfl, rfl, hg, hn, hm, hs, ht⟩⟩, rfl⟩
theorem Row.own (h : Row w e sz A n c cs b) {g : Nat} (hb : b = some g) : w.ownsRow 0 e sz (.slice A n c) n cs ∧ A = some ⟨g, 0, none⟩ := by
  rcases h.2 with ⟨_, _, h0⟩ | ⟨g', cur, hA, h0, hg, hn, hm, hs, ht⟩
  · rw [hb] at h0; cases h0
  · rw [hb] at h0
    cases h0
    exact ⟨⟨h.1, .inr ⟨g, c, cur, by rw [hA], Nat.zero_le _, hg, hn, hm, hs, ht⟩⟩, hA⟩
theorem Row.pos (h : Row w e sz A n c cs b) (hn : 0 < n) : ∃ g, b = some g ∧ A = some ⟨g, 0, none⟩ := by
  rcases h.2 with ⟨h0, _, _⟩ | ⟨g, cur, hA, hb, _⟩
  · omega
  · exact ⟨g, hb, hA⟩
/-- A store into cell j. -/
theorem Row.stored {g : Nat} (h : Row w e sz (some ⟨g, 0, none⟩) n c cs (some g)) (j : Nat) (u : Value) : Row (w.setCell ⟨g, j, none⟩ u) e sz (some ⟨g, 0, none⟩) n c (cs.set j u) (some g) := by
  rcases h.2 with ⟨_, _, h0⟩ | ⟨g', cur, hA, h0, hg, hn, hm, hs, ht⟩
  · cases h0
  · cases h0
    refine ⟨by simpa using h.1, .inr ⟨g, cur.setIfInBounds j u, rfl, rfl, blk_set hg j u, hn, hm, by simpa using hs, ?_⟩⟩
    rw [Array.toList_setIfInBounds, ← ht, List.take_set]
theorem Row.cell {g : Nat} (h : Row w e sz (some ⟨g, 0, none⟩) n c cs (some g)) {j : Nat} (hj : j < n * sz) : w.cell? ⟨g, j, none⟩ = cs[j]? := by
  have hl : j < cs.length := by rw [h.1]; exact hj
  obtain ⟨ad, e', hc⟩ := h.rd j cs[j] (List.getElem?_eq_getElem hl)
  cases e'
  rw [add_plain] at hc
  rw [hc, List.getElem?_eq_getElem hl]
theorem Row.isCell {g : Nat} (h : Row w e sz (some ⟨g, 0, none⟩) n c cs (some g)) {j : Nat} (hj : j < n * sz) : ∃ v, w.cell? ⟨g, j, none⟩ = some v := ⟨_, (h.cell hj).trans (List.getElem?_eq_getElem (by rw [h.1]; exact hj))⟩
theorem Row.frozen {g : Nat} (h : Row w e sz (some ⟨g, 0, none⟩) n c cs (some g)) (j : Nat) : w.frozen? ⟨g, j, none⟩ = false := by
  rcases h.2 with ⟨_, _, h0⟩ | ⟨g', cur, hA, h0, hg, _⟩
  · cases h0
  · cases h0
    exact blk_frozen hg j
/-- A cut from the front on: the row keeps its block. -/
theorem Row.shorter (h : Row w e sz A n c cs b) {m : Nat} (hm : m ≤ n) : Row w e sz A m c (cs.take (m * sz)) b := by
  have hle : m * sz ≤ n * sz := Nat.mul_le_mul_right _ hm
  rcases h.2 with ⟨rfl, rfl, rfl⟩ | ⟨g, cur, hA, hb, hg, hn, hm', hs, ht⟩
  · obtain rfl : m = 0 := by omega
    exact ⟨by simp, .inl ⟨rfl, rfl, rfl⟩⟩
  · refine ⟨by rw [List.length_take, h.1]; omega, .inr ⟨g, cur, hA, hb, hg, by omega, hm', hs, ?_⟩⟩
    rw [← ht, List.take_take, Nat.min_eq_left hle]
end

theorem set_take_drop {α : Type} (xs ys : List α) (k : Nat) (hk : k < ys.length) (hl : xs.length = ys.length) (x : α) (hx : xs[k]? = some x) : (xs.take k ++ ys.drop k).set k x = xs.take (k + 1) ++ ys.drop (k + 1) := by
  have hk' : k < xs.length := by omega
  rw [List.set_append_right _ _ (by simp; omega), List.drop_eq_getElem_cons hk]
  have e : k - (xs.take k).length = 0 := by simp; omega
  rw [e, List.set_cons_zero, List.take_add_one, hx]
  simp

theorem set_take_drop' {α : Type} (xs ys : List α) (k : Nat) (hk : k < ys.length) (hl : xs.length = ys.length) (hk' : k < xs.length) : (xs.take k ++ ys.drop k).set k xs[k] = xs.take (k + 1) ++ ys.drop (k + 1) :=
  set_take_drop xs ys k hk hl _ (List.getElem?_eq_getElem hk')
/-- Cells of block g written from p on, in order. -/
def wset (w : World) (g : Nat) : Nat → List Value → World
  | _, [] => w
  | p, v :: vs => wset (w.setCell ⟨g, p, none⟩ v) g (p + 1) vs
theorem bl_wset {B : Nat} {w0 : World} {g : Nat} (hg : B ≤ g) : ∀ (vs : List Value) (w : World) (p : Nat), Below B w0 w → Below B w0 (wset w g p vs)
  | [], w, p, h => h
  | v :: vs, w, p, h => bl_wset hg vs _ _ (h.setCell (p := ⟨g, p, none⟩) hg v)
theorem grownBy_wset {w0 : World} {g : Nat} : ∀ (vs : List Value) (w : World) (p : Nat), w0.grownBy w (some g) → w0.grownBy (wset w g p vs) (some g)
  | [], w, p, h => h
  | v :: vs, w, p, h => grownBy_wset vs _ _ (World.grownBy.trans h ⟨rfl, rfl, rfl, by simp, fun k _ hk => Below.heap_setCell w ⟨g, p, none⟩ v k (fun e => hk (by rw [e]))⟩)
theorem Row.wset {e : TypeId} {sz n c g : Nat} : ∀ (vs : List Value) (w : World) (cs : List Value) (p : Nat), Row w e sz (some ⟨g, 0, none⟩) n c cs (some g) → Row (wset w g p vs) e sz (some ⟨g, 0, none⟩) n c (writes cs p vs) (some g)
  | [], w, cs, p, h => h
  | v :: vs, w, cs, p, h => Row.wset vs _ _ _ (h.stored p v)
/-- One more element written. -/
theorem Row.put {α : Type} {enc : α → List Value} {e : TypeId} {sz n c g : Nat} {w : World} (hl : ∀ x, (enc x).length = sz) {xs ys : List α} {k : Nat} (h : Row w e sz (some ⟨g, 0, none⟩) n c ((xs.take k ++ ys.drop k).flatMap enc) (some g))
    (hk : k < ys.length) (hxy : xs.length = ys.length) {x : α} (hx : xs[k]? = some x) : Row (Go.Proofs.YtgljbcdlldhlfaaDoor.wset w g (k * sz) (enc x)) e sz (some ⟨g, 0, none⟩) n c ((xs.take (k + 1) ++ ys.drop (k + 1)).flatMap enc) (some g) := by
  have := Row.wset (enc x) w _ (k * sz) h
  rwa [flat_writes hl _ k (enc x) x (by simp; omega) rfl, set_take_drop xs ys k hk hxy x hx] at this

/-! ### the operations -/
section
variable {P : Program} (w : World)
theorem Row.made (cur : Array Value) (e : TypeId) (sz n : Nat) (hn : n ≤ maxLen) (hs : cur.size = n * sz) : Row (w.alloc (.cells cur e)) e sz (some ⟨w.heap.size, 0, none⟩) n n cur.toList (some w.heap.size) :=
  ⟨by simpa using hs, .inr ⟨_, cur, rfl, rfl, heap_alloc_new w _, Nat.le_refl _, hn, hs, List.take_of_length_le (by simpa using Nat.le_of_eq hs)⟩⟩

theorem madeCells_flat {α : Type} {enc : α → List Value} {sz : Nat} (hl : ∀ x, (enc x).length = sz) (z : α) (n : Nat) : (madeCells (enc z).toArray (n * sz)).toList = (List.replicate n z).flatMap enc := by
  apply List.ext_getElem?
  intro i
  by_cases hi : i < n * sz
  · have hs : 0 < sz := Nat.pos_of_ne_zero (fun h => by subst h; simp at hi)
    have hd : i / sz < n := Nat.div_lt_of_lt_mul (by rw [Nat.mul_comm]; exact hi)
    have hm : i % sz < sz := Nat.mod_lt _ hs
    have hr := flat_get hl (List.replicate n z) (i / sz) z (by simp [hd]) (i % sz) hm
    have e : i / sz * sz + i % sz = i := by rw [Nat.mul_comm]; exact Nat.div_add_mod i sz
    rw [e] at hr
    rw [hr, Array.getElem?_toList]
    have hm' : i % sz < (enc z).length := by rw [hl]; exact hm
    simp [madeCells, hi, hl]
    rw [List.getElem?_eq_getElem hm']
    rfl
  · rw [List.getElem?_eq_none (by simp [madeCells]; omega), List.getElem?_eq_none (by rw [flat_length hl]; simp; omega)]
theorem run_make_rows (t e : TypeId) (z : Value) (size bytes : Nat) (ht : P.underlying t = some (.slice e)) (hinfo : (P.info? e).map (fun i => (i.zero, i.size, i.bytes)) = some (some z, size, bytes))
    (n : Nat) (hbytes : bytes * n ≤ 281474976710656) (h63 : n ≤ 9223372036854775807) :
    (Instr.makeSlice t (.int .i64 (n : Int)) (.int .i64 (n : Int))).run P w = .ok (.slice (some ⟨w.heap.size, 0, none⟩) n n) (w.alloc (.cells (madeCells z.cells (n * size)) e)) := by
  obtain ⟨i, hi, hz, hs, hb⟩ := info_parts hinfo
  subst hb
  have hb' : (i.bytes : Int) * (n : Int) ≤ 281474976710656 := by
    have h : ((i.bytes * n : Nat) : Int) ≤ 281474976710656 := by omega
    rwa [Int.natCast_mul] at h
  have hr := run_make (P := P) w t e i z ht hi hz .i64 .i64 n n (by omega) (Int.le_refl _) hb' (by omega)
  simp only [Int.toNat_natCast, hs] at hr
  exact hr
theorem grownBy_refl (row : Option Nat) : w.grownBy w row := ⟨rfl, rfl, rfl, Nat.le_refl _, fun _ _ _ => rfl⟩
theorem grownBy_setCell (a : Addr) (u : Value) : w.grownBy (w.setCell a u) (some a.block) := ⟨rfl, rfl, rfl, by simp, fun k _ hk => Below.heap_setCell w a u k (fun e => hk (by rw [e]))⟩
theorem run_append_zero (t ty e : TypeId) (i : TypeInfo) (ht : P.underlying t = some (.slice e)) (hi : P.info? e = some i) (A : Option Addr) (n c : Nat) (hnc : n ≤ c) (A' : Option Addr) (c' : Nat) :
    (Builtin.append_ #[t, t] ty #[.slice A n c, .slice A' 0 c']).run P w = .ok (.slice A n c) w := by
  cases A <;> cases A' <;> simp [Builtin.append_, run_underlying ht, sizeOf, typeInfo, hi, Builtin.lenOf, Builtin.firstCells, hnc, storeCells, loadCells, loadCellsFrom]

theorem run_append_row (t ty e : TypeId) (z : Value) (size bytes : Nat) (ht : P.underlying t = some (.slice e)) (hinfo : (P.info? e).map (fun i => (i.zero, i.size, i.bytes)) = some (some z, size, bytes)) (hzs : z.cells.size = size) (hsz : 0 < size)
    {A : Option Addr} {n c : Nat} {cs : List Value} {b : Option Nat} (h : Row w e size A n c cs b)
    {A' : Option Addr} {m c' : Nat} {news : List Value} (hl : news.length = m * size) (hr : Rd w A' news) (h1 : ∀ u ∈ news, u.oneCell' = true)
    (h63 : n + m ≤ maxLen) (hbytes : (n + m) * bytes ≤ 140737488355328) :
    ∃ B d w' b', (Builtin.append_ #[t, t] ty #[.slice A n c, .slice A' m c']).run P w = .ok (.slice B (n + m) d) w' ∧ Row w' e size B (n + m) d (cs ++ news) b' ∧ w.grownBy w' b ∧ (b' = b ∨ ∃ g, b' = some g ∧ w.heap.size ≤ g) := by
  obtain ⟨i, hi, hz, hz1, hz2⟩ := info_parts hinfo
  by_cases hm : m = 0
  · subst hm
    obtain rfl : news = [] := List.eq_nil_of_length_eq_zero (by simpa using hl)
    exact ⟨A, c, w, b, by simpa using run_append_zero w t ty e i ht hi A n c h.le A' c', by simpa using h, grownBy_refl w b, .inl rfl⟩
  · have hpos : 0 < news.length := by rw [hl]; exact Nat.mul_pos (by omega) hsz
    obtain ⟨ad, rfl, _⟩ := hr 0 news[0] (List.getElem?_eq_getElem hpos)
    have hc := hr.some_
    cases b with
    | some g =>
      obtain ⟨ho, rfl⟩ := h.own rfl
      obtain ⟨v', w', hrun, h2, h3, _, h5⟩ := run_append_own_at (P := P) w 0 t ty e i z size bytes ht hi hz hz1 hz2 hzs hsz _ n cs ho ad m c' news hl hc h1 h63 hbytes (Nat.zero_le _)
      obtain ⟨B, d, b', rfl, hrow, hb'⟩ := Row.of_own h2
      exact ⟨B, d, w', b', hrun, hrow, h3, by rw [hb']; exact h5.imp id (fun h => ⟨_, h, Nat.le_refl _⟩)⟩
    | none =>
      rcases h.2 with ⟨rfl, rfl, _⟩ | ⟨g', cur, _, h0, _⟩
      · obtain rfl : cs = [] := List.eq_nil_of_length_eq_zero (by simpa using h.1)
        cases A with
        | none =>
          obtain ⟨v', w', hrun, h2, h3, _, h5⟩ := run_append_own_at (P := P) w 0 t ty e i z size bytes ht hi hz hz1 hz2 hzs hsz _ 0 [] (World.ownsRow_nil w 0 e size) ad m c' news hl hc h1 h63 hbytes (Nat.zero_le _)
          obtain ⟨B, d, b', rfl, hrow, hb'⟩ := Row.of_own h2
          exact ⟨B, d, w', b', hrun, hrow, h3, by rw [hb']; exact h5.imp id (fun h => ⟨_, h, Nat.le_refl _⟩)⟩
        | some a0 =>
          obtain ⟨v', w', hrun, h2, h3⟩ := run_append_arg_grows (P := P) w t ty e i z size bytes ht hi hz hz1 hz2 hzs hsz a0 0 0 [] (by simp) (fun j u hu => by simp at hu) ad m c' news hl hc (by omega) h63 hbytes
          obtain ⟨B, d, b', rfl, hrow, hb'⟩ := Row.of_own h2
          refine ⟨B, d, w', b', hrun, hrow, h3, .inr ?_⟩
          rcases hrow.2 with ⟨h0, _⟩ | ⟨g, cur, rfl, rfl, hg, _⟩
          · omega
          · exact ⟨g, rfl, (h2.lt g (by simp [Value.ownBlock])).1⟩
      · cases h0

variable {ops : Array Oper} {rest : List Oper} {o : Oper} {a : Act} {Q : Exit → Act → World → Prop}
/-- append(s, xs...): behind 'at_builtin'. -/
theorem wp_append (hgd : o.guard = none) (s x : Operand) (t : TypeId) (ho : o.op = .call { callee := .builtin .append, args := #[s, x], argTypes := #[t, t] })
    (e : TypeId) (z : Value) (size bytes : Nat) (ht : P.underlying t = some (.slice e)) (hinfo : (P.info? e).map (fun i => (i.zero, i.size, i.bytes)) = some (some z, size, bytes)) (hzs : z.cells.size = size) (hsz : 0 < size)
    {A : Option Addr} {n c : Nat} {cs : List Value} {b : Option Nat} (hs : a.eval s = .slice A n c) (h : Row w e size A n c cs b)
    {A' : Option Addr} {m c' : Nat} {news : List Value} (hx : a.eval x = .slice A' m c') (hl : news.length = m * size) (hr : Rd w A' news) (h1 : ∀ u ∈ news, u.oneCell' = true)
    (h63 : n + m ≤ maxLen) (hbytes : (n + m) * bytes ≤ 140737488355328)
    (hk : ∀ B d w' b', Row w' e size B (n + m) d (cs ++ news) b' → w.grownBy w' b → (b' = b ∨ ∃ g, b' = some g ∧ w.heap.size ≤ g) → wpList P ops Q rest (a.put o.dst (.slice B (n + m) d)) w') :
    wpList P ops Q (o :: rest) a w := by
  refine wpList_plain hgd fun K hK => ?_
  obtain ⟨B, d, w', b', hrun, hrow, hg, hb⟩ := run_append_row (P := P) w t o.type e z size bytes ht hinfo hzs hsz h hl hr h1 h63 hbytes
  unfold Oper.wp execOp
  simp only [ho, resolve, invoke, builtin, Sem.run_bind, Sem.run_pure, Result.andThen_ok, List.map_toArray, List.map_cons, List.map_nil, hs, hx]
  erw [hrun]
  exact hK _ _ (hk B d w' b' hrow hg hb)
/-- append(s, x): one element, laid in a block of its own just ahead. -/
theorem wp_append1 (hgd : o.guard = none) (s x : Operand) (t : TypeId) (ho : o.op = .call { callee := .builtin .append, args := #[s, x], argTypes := #[t, t] })
    (e : TypeId) (z : Value) (size bytes : Nat) (ht : P.underlying t = some (.slice e)) (hinfo : (P.info? e).map (fun i => (i.zero, i.size, i.bytes)) = some (some z, size, bytes)) (hzs : z.cells.size = size) (hsz : 0 < size)
    {A : Option Addr} {n c : Nat} {cs : List Value} {b : Option Nat} (hs : a.eval s = .slice A n c) (h : Row w e size A n c cs b)
    {arr : Array Value} (hx : a.eval x = .slice (some ⟨w.heap.size, 0, none⟩) 1 1) (hl : arr.size = size) (h1 : ∀ u ∈ arr.toList, u.oneCell' = true)
    (h63 : n + 1 ≤ maxLen) (hbytes : (n + 1) * bytes ≤ 140737488355328)
    (hk : ∀ B d w' b', Row w' e size B (n + 1) d (cs ++ arr.toList) b' → w.grownBy w' b → (b' = b ∨ ∃ g, b' = some g ∧ w.heap.size ≤ g) → wpList P ops Q rest (a.put o.dst (.slice B (n + 1) d)) w') :
    wpList P ops Q (o :: rest) a (w.alloc (.cells arr e)) := by
  refine wp_append (w.alloc (.cells arr e)) hgd s x t ho e z size bytes ht hinfo hzs hsz hs (h.alloc _) hx (by simpa using hl) ((Row.made w arr e size 1 (by simp [maxLen]) (by simpa using hl)).rd) h1 h63 hbytes ?_
  intro B d w' b' hrow hg hb
  refine hk B d w' b' hrow (World.grownBy.trans (World.grownBy_alloc w _ _) hg) (hb.imp id fun ⟨g, e1, e2⟩ => ⟨g, e1, by simp at e2; omega⟩)
/-- .. where the size of the heap is spelt otherwise. -/
theorem wp_append1s {m : Nat} (hm : w.heap.size = m) (hgd : o.guard = none) (s x : Operand) (t : TypeId) (ho : o.op = .call { callee := .builtin .append, args := #[s, x], argTypes := #[t, t] })
    (e : TypeId) (z : Value) (size bytes : Nat) (ht : P.underlying t = some (.slice e)) (hinfo : (P.info? e).map (fun i => (i.zero, i.size, i.bytes)) = some (some z, size, bytes)) (hzs : z.cells.size = size) (hsz : 0 < size)
    {A : Option Addr} {n c : Nat} {cs : List Value} {b : Option Nat} (hs : a.eval s = .slice A n c) (h : Row w e size A n c cs b)
    {arr : Array Value} (hx : a.eval x = .slice (some ⟨m, 0, none⟩) 1 1) (hl : arr.size = size) (h1 : ∀ u ∈ arr.toList, u.oneCell' = true)
    (h63 : n + 1 ≤ maxLen) (hbytes : (n + 1) * bytes ≤ 140737488355328)
    (hk : ∀ B d w' b', Row w' e size B (n + 1) d (cs ++ arr.toList) b' → w.grownBy w' b → (b' = b ∨ ∃ g, b' = some g ∧ m ≤ g) → wpList P ops Q rest (a.put o.dst (.slice B (n + 1) d)) w') :
    wpList P ops Q (o :: rest) a (w.alloc (.cells arr e)) := by
  subst hm
  exact wp_append1 w hgd s x t ho e z size bytes ht hinfo hzs hsz hs h hx hl h1 h63 hbytes hk
end
/-! ### boxes of the call's own, one behind the other from block n on -/
def Bx (w : World) : Nat → List (Array Value × TypeId) → Prop
  | _, [] => True
  | n, (cs, t) :: r => w.heap[n]? = some (.cells cs t (0, 0)) ∧ Bx w (n + 1) r
theorem Bx.keep {w w1 : World} : ∀ {l : List (Array Value × TypeId)} {n : Nat}, Bx w n l → (∀ g o, n ≤ g → g < n + l.length → w.heap[g]? = some o → w1.heap[g]? = some o) → Bx w1 n l
  | [], _, _, _ => trivial
  | (cs, t) :: r, n, ⟨h, hr⟩, hk => ⟨hk n _ (Nat.le_refl _) (by simp) h, Bx.keep hr fun g o h1 h2 h3 => hk g o (by omega) (by simp; omega) h3⟩
theorem Bx.call {w w1 : World} {l : List (Array Value × TypeId)} {n : Nat} (h : Bx w n l) (hb : Below w.heap.size w w1) : Bx w1 n l := h.keep fun g o _ _ hg => blk_call hg hb
theorem Bx.alloc {w : World} {l : List (Array Value × TypeId)} {n : Nat} (h : Bx w n l) (o : Obj) : Bx (w.alloc o) n l := h.keep fun g o' _ _ hg => blk_alloc hg o
theorem Bx.drew {w : World} {l : List (Array Value × TypeId)} {n : Nat} (h : Bx w n l) : Bx w.drew n l := h.keep fun _ _ _ _ hg => hg
theorem Bx.drewN {w : World} {l : List (Array Value × TypeId)} {n : Nat} (h : Bx w n l) (k : Nat) : Bx (w.drewN k) n l := h.keep fun _ _ _ _ hg => hg
theorem Bx.far {w : World} {l : List (Array Value × TypeId)} {n : Nat} (h : Bx w n l) {p : Addr} (hp : p.block < n ∨ n + l.length ≤ p.block) (u : Value) : Bx (w.setCell p u) n l := h.keep fun g o h1 h2 hg => blk_far hg (by omega) u
theorem Bx.one (w : World) (cs : Array Value) (t : TypeId) : Bx (w.alloc (.cells cs t)) w.heap.size [(cs, t)] := ⟨blk_new _ _, trivial⟩
theorem Bx.two (w : World) (cs cs1 : Array Value) (t t1 : TypeId) : Bx ((w.alloc (.cells cs t)).alloc (.cells cs1 t1)) w.heap.size [(cs, t), (cs1, t1)] :=
  ⟨blk_alloc (blk_new _ _) _, by simpa using blk_new (w.alloc (.cells cs t)) (.cells cs1 t1), trivial⟩
theorem Bx.three (w : World) (cs cs1 cs2 : Array Value) (t t1 t2 : TypeId) : Bx (((w.alloc (.cells cs t)).alloc (.cells cs1 t1)).alloc (.cells cs2 t2)) w.heap.size [(cs, t), (cs1, t1), (cs2, t2)] :=
  ⟨blk_alloc (blk_alloc (blk_new _ _) _) _, blk_alloc (by simpa using blk_new (w.alloc (.cells cs t)) (.cells cs1 t1)) _, by simpa using blk_new ((w.alloc (.cells cs t)).alloc (.cells cs1 t1)) (.cells cs2 t2), trivial⟩
/-- One more box, laid just behind (or wherever). -/
theorem Bx.lt {w : World} : ∀ {l : List (Array Value × TypeId)} {n : Nat}, Bx w n l → l ≠ [] → n + l.length ≤ w.heap.size
  | [], _, _, h => absurd rfl h
  | [(cs, t)], n, ⟨h, _⟩, _ => by have := blk_lt h; simp; omega
  | (cs, t) :: x :: r, n, ⟨h, hr⟩, _ => by have := Bx.lt hr (by simp); simp at this ⊢; omega
end Go.Proofs.YtgljbcdlldhlfaaDoor

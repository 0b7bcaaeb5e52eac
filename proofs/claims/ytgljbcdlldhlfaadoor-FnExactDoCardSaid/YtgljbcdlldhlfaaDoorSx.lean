/- A state, a machine in a box, of which In is only read. -/
import Derived.Test.YtgljbcdlldhlfaaDoorPn
set_option linter.unusedVariables false
set_option linter.unusedSimpArgs false
namespace Go.Proofs.YtgljbcdlldhlfaaDoor
open Go.RowKit

/-- A row that is read; it lies in block b. -/
def RdB (w : World) (A : Option Addr) (cs : List Value) (b : Option Nat) : Prop :=
  Rd w A cs ∧ (∀ g, b = some g → g < w.heap.size) ∧ ∀ w1 : World, (∀ g, b = some g → w1.heap[g]? = w.heap[g]?) → Rd w1 A cs
theorem Row.rdb {w : World} {e : TypeId} {sz : Nat} {A : Option Addr} {n c : Nat} {cs : List Value} {b : Option Nat} (h : Row w e sz A n c cs b) : RdB w A cs b := ⟨h.rd, h.lt, fun w1 hk => (h.keep hk).rd⟩
theorem RdB.keep {w w1 : World} {A : Option Addr} {cs : List Value} {b : Option Nat} (h : RdB w A cs b) (hk : ∀ g, b = some g → w1.heap[g]? = w.heap[g]?) : RdB w1 A cs b :=
  ⟨h.2.2 w1 hk, fun g e => by
    have h1 := hk g e
    have h2 := h.2.1 g e
    rw [Array.getElem?_eq_getElem h2] at h1
    exact blk_lt h1, fun w2 hk2 => h.2.2 w2 fun g e => (hk2 g e).trans (hk g e)⟩
theorem RdB.far {w : World} {A : Option Addr} {cs : List Value} {b : Option Nat} (h : RdB w A cs b) {p : Addr} (hp : b ≠ some p.block) (u : Value) : RdB (w.setCell p u) A cs b :=
  h.keep fun g e => Below.heap_setCell w p u g (fun e2 => hp (by rw [e, e2]))
theorem RdB.grown {w w1 : World} {A : Option Addr} {cs : List Value} {b row : Option Nat} (h : RdB w A cs b) (hg : w.grownBy w1 row) (hne : b = none ∨ b ≠ row) : RdB w1 A cs b :=
  h.keep fun g e => hg.block g (h.2.1 g e) (fun e2 => by
    rcases hne with h1 | h1
    · rw [e] at h1; cases h1
    · exact h1 (e.trans e2))
theorem RdB.sub {w : World} {A B : Option Addr} {cs ds : List Value} {b : Option Nat} (h : RdB w A cs b) (hs : ∀ w1, Rd w1 A cs → Rd w1 B ds) : RdB w B ds b := ⟨hs _ h.1, h.2.1, fun w1 hk => hs _ (h.2.2 w1 hk)⟩
/-- A state that is read; what it is made of lies from lo on, below hi. -/
def StW (w : World) (lo hi : Nat) (s : LSt) (v : Value) : Prop := ∀ w1 : World, (∀ x, lo ≤ x → x < hi → w1.heap[x]? = w.heap[x]?) → StK w1 s v
theorem StW.k {w : World} {lo hi : Nat} {s : LSt} {v : Value} (h : StW w lo hi s v) : StK w s v := h w fun _ _ _ => rfl
theorem StW.keep {w w1 : World} {lo hi : Nat} {s : LSt} {v : Value} (h : StW w lo hi s v) (hk : ∀ x, lo ≤ x → x < hi → w1.heap[x]? = w.heap[x]?) : StW w1 lo hi s v := fun w2 h2 => h w2 fun x a b => (h2 x a b).trans (hk x a b)
theorem StW.wide {w : World} {lo lo' hi hi' : Nat} {s : LSt} {v : Value} (h : StW w lo hi s v) (h1 : lo' ≤ lo) (h2 : hi ≤ hi') : StW w lo' hi' s v := fun w2 hk => h w2 fun x a b => hk x (by omega) (by omega)
theorem StO.w {w : World} {lo : Nat} {s : LSt} {v : Value} (h : StO w lo s v) : StW w lo w.heap.size s v := fun w1 hk => (h.keep hk).k
theorem StW.call {w w1 : World} {lo hi : Nat} {s : LSt} {v : Value} (h : StW w lo hi s v) (hi' : hi ≤ w.heap.size) (hb : Below w.heap.size w w1) : StW w1 lo hi s v := h.keep fun x _ h2 => hb.block x (by omega)
theorem StW.frame {w w1 : World} {lo hi l1 h1 : Nat} {s : LSt} {v : Value} (h : StW w lo hi s v) (hi' : hi ≤ w.heap.size) (hf : Fr l1 h1 w w1) (hd : hi ≤ l1 ∨ h1 ≤ lo) : StW w1 lo hi s v := h.keep fun x a b => hf.block x (by omega) (by omega)
/-- .. and hi is no more than what memory there is. -/
def StV (w : World) (lo hi : Nat) (s : LSt) (v : Value) : Prop := hi ≤ w.heap.size ∧ StW w lo hi s v
theorem StV.k {w : World} {lo hi : Nat} {s : LSt} {v : Value} (h : StV w lo hi s v) : StK w s v := h.2.k
theorem StV.i {w : World} {lo hi : Nat} {s : LSt} {v : Value} (h : StV w lo hi s v) : StV w lo hi s v := h
theorem StV.o {w : World} {lo hi : Nat} {s : LSt} {v : Value} (h : StV w lo hi s v) : StV w lo hi s v := h
theorem StV.call {w w1 : World} {lo hi : Nat} {s : LSt} {v : Value} (h : StV w lo hi s v) (hb : Below w.heap.size w w1) : StV w1 lo hi s v := ⟨Nat.le_trans h.1 hb.size, h.2.call h.1 hb⟩
theorem StV.frame {w w1 : World} {lo hi : Nat} {s : LSt} {v : Value} (h : StV w lo hi s v) {l1 h1 : Nat} (hf : Fr l1 h1 w w1) (hd : hi ≤ l1 ∨ h1 ≤ lo) : StV w1 lo hi s v := ⟨Nat.le_trans h.1 hf.size, h.2.frame h.1 hf hd⟩
theorem StV.low {w : World} {lo lo' hi : Nat} {s : LSt} {v : Value} (h : StV w lo hi s v) (hl : lo' ≤ lo) : StV w lo' hi s v := ⟨h.1, h.2.wide hl (Nat.le_refl _)⟩
theorem StV.top {w : World} {lo hi hi' : Nat} {s : LSt} {v : Value} (h : StV w lo hi s v) (hl : hi ≤ hi') (hs : hi' ≤ w.heap.size) : StV w lo hi' s v := ⟨hs, h.2.wide (Nat.le_refl _) hl⟩
theorem StO.v {w : World} {lo : Nat} {s : LSt} {v : Value} (h : StO w lo s v) : StV w lo w.heap.size s v := ⟨Nat.le_refl _, h.w⟩
theorem StV.far {w : World} {lo hi : Nat} {s : LSt} {v : Value} (h : StV w lo hi s v) {p : Addr} (hp : p.block < lo) (u : Value) : StV (w.setCell p u) lo hi s v := ⟨by simpa using h.1, h.2.keep fun x a _ => Below.heap_setCell w p u x (by omega)⟩
theorem StV.alloc {w : World} {lo hi : Nat} {s : LSt} {v : Value} (h : StV w lo hi s v) (o : Obj) : StV (w.alloc o) lo hi s v := h.call (bl_alloc (Below.refl _ _) o)
/-- In box g. -/
def StX (w : World) (g lo : Nat) (s : LSt) : Prop :=
  ∃ D0 d0 D1 d1 D3 d3 D4 d4 D5 d5 D6 d6 D7 d7 b0 b1 b3 b4 b5 b6 b7, w.heap[g]? = some (.cells #[.slice D0 s.data.length d0, .slice D1 s.ret.length d1, .int .i32 s.a, .slice D3 s.mem.length d3, .slice D4 s.cells.length d4, .slice D5 s.vars.length d5, .slice D6 s.out.length d6, .slice D7 s.inp.length d7, .int .i64 s.fault, .int .i64 s.fuel] 32 (0, 0)) ∧ Row w 21 1 D0 s.data.length d0 (s.data.map (Value.int .i32)) b0 ∧ Row w 77 2 D1 s.ret.length d1 (s.ret.flatMap LSlot.enc) b1 ∧ Row w 21 1 D3 s.mem.length d3 (s.mem.map (Value.int .i32)) b3 ∧ Row w 93 1 D4 s.cells.length d4 (s.cells.map (Value.int .u32)) b4 ∧ Row w 3 1 D5 s.vars.length d5 (s.vars.map (Value.int .i64)) b5 ∧ Row w 5 1 D6 s.out.length d6 (s.out.map (Value.int .u8)) b6 ∧ RdB w D7 (s.inp.map (Value.int .u8)) b7 ∧ s.inp.length ≤ d7 ∧
    (∀ b ∈ [b0, b1, b3, b4, b5, b6, b7], ∀ x, b = some x → lo ≤ x ∧ x ≠ g) ∧ (b0 = none ∨ b0 ≠ b3) ∧ (∀ b ∈ [b0, b1, b3, b4, b5, b6], b7 = none ∨ b7 ≠ b)
theorem StX.of {w : World} {lo : Nat} {s : LSt} {D0 D1 D3 D4 D5 D6 D7 : Option Addr} {d0 d1 d3 d4 d5 d6 d7 : Nat} (h : StO w lo s (.agg #[.slice D0 s.data.length d0, .slice D1 s.ret.length d1, .int .i32 s.a, .slice D3 s.mem.length d3, .slice D4 s.cells.length d4, .slice D5 s.vars.length d5, .slice D6 s.out.length d6, .slice D7 s.inp.length d7, .int .i64 s.fault, .int .i64 s.fuel])) : StX (w.alloc (.cells #[.slice D0 s.data.length d0, .slice D1 s.ret.length d1, .int .i32 s.a, .slice D3 s.mem.length d3, .slice D4 s.cells.length d4, .slice D5 s.vars.length d5, .slice D6 s.out.length d6, .slice D7 s.inp.length d7, .int .i64 s.fault, .int .i64 s.fuel] 32)) w.heap.size lo s := by
  obtain ⟨E0, e0, E1, e1, E3, e3, E4, e4, E5, e5, E6, e6, E7, e7, b0, b1, b3, b4, b5, b6, b7, he, r0, r1, r3, r4, r5, r6, r7, hl, x1, x7⟩ := h
  simp only [Value.agg.injEq, Array.mk.injEq, List.cons.injEq, Value.slice.injEq, and_true, true_and] at he
  obtain ⟨⟨rfl, rfl⟩, ⟨rfl, rfl⟩, ⟨rfl, rfl⟩, ⟨rfl, rfl⟩, ⟨rfl, rfl⟩, ⟨rfl, rfl⟩, ⟨rfl, rfl⟩⟩ := he
  refine ⟨D0, d0, D1, d1, D3, d3, D4, d4, D5, d5, D6, d6, D7, d7, b0, b1, b3, b4, b5, b6, b7, blk_new _ _, r0.alloc _, r1.alloc _, r3.alloc _, r4.alloc _, r5.alloc _, r6.alloc _, (r7.alloc _).rdb, r7.le, fun b hb x hx => ⟨hl b (by simpa using hb) x hx, ?_⟩, x1, ?_⟩
  · subst hx
    simp at hb
    rcases hb with e | e | e | e | e | e | e
    · have := r0.lt _ e.symm; omega
    · have := r1.lt _ e.symm; omega
    · have := r3.lt _ e.symm; omega
    · have := r4.lt _ e.symm; omega
    · have := r5.lt _ e.symm; omega
    · have := r6.lt _ e.symm; omega
    · have := r7.lt _ e.symm; omega
  · intro b hb
    simp at hb
    rcases hb with rfl | rfl | rfl | rfl | rfl | rfl
    · exact Row.ne_type r7 r0 (by decide)
    · exact Row.ne_type r7 r1 (by decide)
    · exact Row.ne_type r7 r3 (by decide)
    · exact Row.ne_type r7 r4 (by decide)
    · exact Row.ne_type r7 r5 (by decide)
    · exact ne_symm x7
theorem StX.lt {w : World} {g lo : Nat} {s : LSt} (h : StX w g lo s) : g < w.heap.size := by
  obtain ⟨D0, d0, D1, d1, D3, d3, D4, d4, D5, d5, D6, d6, D7, d7, b0, b1, b3, b4, b5, b6, b7, hg, r0, r1, r3, r4, r5, r6, r7, hc7, hl, x1, x7⟩ := h
  exact blk_lt hg
theorem StX.cells {w : World} {g lo : Nat} {s : LSt} (h : StX w g lo s) : ∃ D0 d0 D1 d1 D3 d3 D4 d4 D5 d5 D6 d6 D7 d7, w.heap[g]? = some (.cells #[.slice D0 s.data.length d0, .slice D1 s.ret.length d1, .int .i32 s.a, .slice D3 s.mem.length d3, .slice D4 s.cells.length d4, .slice D5 s.vars.length d5, .slice D6 s.out.length d6, .slice D7 s.inp.length d7, .int .i64 s.fault, .int .i64 s.fuel] 32 (0, 0)) ∧ Rd w D0 (s.data.map (Value.int .i32)) ∧ Rd w D1 (s.ret.flatMap LSlot.enc) ∧ Rd w D3 (s.mem.map (Value.int .i32)) ∧ Rd w D4 (s.cells.map (Value.int .u32)) ∧ Rd w D5 (s.vars.map (Value.int .i64)) ∧ Rd w D6 (s.out.map (Value.int .u8)) ∧ Rd w D7 (s.inp.map (Value.int .u8)) ∧ s.inp.length ≤ d7 := by
  obtain ⟨D0, d0, D1, d1, D3, d3, D4, d4, D5, d5, D6, d6, D7, d7, b0, b1, b3, b4, b5, b6, b7, hg, r0, r1, r3, r4, r5, r6, r7, hc7, hl, x1, x7⟩ := h
  exact ⟨D0, d0, D1, d1, D3, d3, D4, d4, D5, d5, D6, d6, D7, d7, hg, r0.rd, r1.rd, r3.rd, r4.rd, r5.rd, r6.rd, r7.1, hc7⟩
/-- The state of the box, read; its rows' blocks lie from lo on, and are not the box. -/
theorem StX.read {w : World} {g lo : Nat} {s : LSt} (h : StX w g lo s) : ∃ D0 d0 D1 d1 D3 d3 D4 d4 D5 d5 D6 d6 D7 d7, w.heap[g]? = some (.cells #[.slice D0 s.data.length d0, .slice D1 s.ret.length d1, .int .i32 s.a, .slice D3 s.mem.length d3, .slice D4 s.cells.length d4, .slice D5 s.vars.length d5, .slice D6 s.out.length d6, .slice D7 s.inp.length d7, .int .i64 s.fault, .int .i64 s.fuel] 32 (0, 0)) ∧ (∀ w1, (∀ x, lo ≤ x → x < w.heap.size → x ≠ g → w1.heap[x]? = w.heap[x]?) → StK w1 s (.agg #[.slice D0 s.data.length d0, .slice D1 s.ret.length d1, .int .i32 s.a, .slice D3 s.mem.length d3, .slice D4 s.cells.length d4, .slice D5 s.vars.length d5, .slice D6 s.out.length d6, .slice D7 s.inp.length d7, .int .i64 s.fault, .int .i64 s.fuel])) := by
  obtain ⟨D0, d0, D1, d1, D3, d3, D4, d4, D5, d5, D6, d6, D7, d7, b0, b1, b3, b4, b5, b6, b7, hg, r0, r1, r3, r4, r5, r6, r7, hc7, hl, x1, x7⟩ := h
  refine ⟨D0, d0, D1, d1, D3, d3, D4, d4, D5, d5, D6, d6, D7, d7, hg, fun w1 hk => ⟨D0, d0, D1, d1, D3, d3, D4, d4, D5, d5, D6, d6, D7, d7, rfl, (r0.keep fun x e => hk x (hl _ (by simp) x e).1 (r0.lt x e) (hl _ (by simp) x e).2).rd, (r1.keep fun x e => hk x (hl _ (by simp) x e).1 (r1.lt x e) (hl _ (by simp) x e).2).rd, (r3.keep fun x e => hk x (hl _ (by simp) x e).1 (r3.lt x e) (hl _ (by simp) x e).2).rd, (r4.keep fun x e => hk x (hl _ (by simp) x e).1 (r4.lt x e) (hl _ (by simp) x e).2).rd, (r5.keep fun x e => hk x (hl _ (by simp) x e).1 (r5.lt x e) (hl _ (by simp) x e).2).rd, (r6.keep fun x e => hk x (hl _ (by simp) x e).1 (r6.lt x e) (hl _ (by simp) x e).2).rd, (r7.keep fun x e => hk x (hl _ (by simp) x e).1 (r7.2.1 x e) (hl _ (by simp) x e).2).1, r0.le, r1.le, r3.le, r4.le, r5.le, r6.le, hc7⟩⟩
theorem StX.keep {w : World} {g lo : Nat} {s : LSt} (h : StX w g lo s) {w1 : World} (hg1 : w1.heap[g]? = w.heap[g]?) (hk : ∀ x, lo ≤ x → x < w.heap.size → x ≠ g → w1.heap[x]? = w.heap[x]?) : StX w1 g lo s := by
  obtain ⟨D0, d0, D1, d1, D3, d3, D4, d4, D5, d5, D6, d6, D7, d7, b0, b1, b3, b4, b5, b6, b7, hg, r0, r1, r3, r4, r5, r6, r7, hc7, hl, x1, x7⟩ := h
  exact ⟨D0, d0, D1, d1, D3, d3, D4, d4, D5, d5, D6, d6, D7, d7, b0, b1, b3, b4, b5, b6, b7, hg1.trans hg, r0.keep fun x e => hk x (hl _ (by simp) x e).1 (r0.lt x e) (hl _ (by simp) x e).2, r1.keep fun x e => hk x (hl _ (by simp) x e).1 (r1.lt x e) (hl _ (by simp) x e).2, r3.keep fun x e => hk x (hl _ (by simp) x e).1 (r3.lt x e) (hl _ (by simp) x e).2, r4.keep fun x e => hk x (hl _ (by simp) x e).1 (r4.lt x e) (hl _ (by simp) x e).2, r5.keep fun x e => hk x (hl _ (by simp) x e).1 (r5.lt x e) (hl _ (by simp) x e).2, r6.keep fun x e => hk x (hl _ (by simp) x e).1 (r6.lt x e) (hl _ (by simp) x e).2, r7.keep fun x e => hk x (hl _ (by simp) x e).1 (r7.2.1 x e) (hl _ (by simp) x e).2, hc7, hl, x1, x7⟩
theorem StX.call {w : World} {g lo : Nat} {s : LSt} (h : StX w g lo s) {w1 : World} (hb : Below w.heap.size w w1) : StX w1 g lo s := h.keep (hb.block g h.lt) (fun x _ h2 _ => hb.block x h2)
theorem StX.alloc {w : World} {g lo : Nat} {s : LSt} (h : StX w g lo s) (o : Obj) : StX (w.alloc o) g lo s := h.call (bl_alloc (Below.refl _ _) o)
theorem StX.far {w : World} {g lo : Nat} {s : LSt} (h : StX w g lo s) {p : Addr} (hp : p.block < lo) (hpg : p.block ≠ g) (u : Value) : StX (w.setCell p u) g lo s := h.keep (Below.heap_setCell w p u g (by omega)) (fun x h1 _ _ => Below.heap_setCell w p u x (by omega))
theorem StX.set2 {w : World} {g lo : Nat} {s : LSt} (h : StX w g lo s) (f : Int) : StX (w.setCell ⟨g, 2, none⟩ (.int .i32 f)) g lo { s with a := f } := by
  obtain ⟨D0, d0, D1, d1, D3, d3, D4, d4, D5, d5, D6, d6, D7, d7, b0, b1, b3, b4, b5, b6, b7, hg, r0, r1, r3, r4, r5, r6, r7, hc7, hl, x1, x7⟩ := h
  exact ⟨D0, d0, D1, d1, D3, d3, D4, d4, D5, d5, D6, d6, D7, d7, b0, b1, b3, b4, b5, b6, b7, blk_set hg 2 _, r0.far (p := ⟨g, 2, none⟩) (fun e => (hl _ (by simp) _ e).2 rfl) _, r1.far (p := ⟨g, 2, none⟩) (fun e => (hl _ (by simp) _ e).2 rfl) _, r3.far (p := ⟨g, 2, none⟩) (fun e => (hl _ (by simp) _ e).2 rfl) _, r4.far (p := ⟨g, 2, none⟩) (fun e => (hl _ (by simp) _ e).2 rfl) _, r5.far (p := ⟨g, 2, none⟩) (fun e => (hl _ (by simp) _ e).2 rfl) _, r6.far (p := ⟨g, 2, none⟩) (fun e => (hl _ (by simp) _ e).2 rfl) _, r7.far (p := ⟨g, 2, none⟩) (fun e => (hl _ (by simp) _ e).2 rfl) _, hc7, hl, x1, x7⟩
theorem StX.set8 {w : World} {g lo : Nat} {s : LSt} (h : StX w g lo s) (f : Int) : StX (w.setCell ⟨g, 8, none⟩ (.int .i64 f)) g lo { s with fault := f } := by
  obtain ⟨D0, d0, D1, d1, D3, d3, D4, d4, D5, d5, D6, d6, D7, d7, b0, b1, b3, b4, b5, b6, b7, hg, r0, r1, r3, r4, r5, r6, r7, hc7, hl, x1, x7⟩ := h
  exact ⟨D0, d0, D1, d1, D3, d3, D4, d4, D5, d5, D6, d6, D7, d7, b0, b1, b3, b4, b5, b6, b7, blk_set hg 8 _, r0.far (p := ⟨g, 8, none⟩) (fun e => (hl _ (by simp) _ e).2 rfl) _, r1.far (p := ⟨g, 8, none⟩) (fun e => (hl _ (by simp) _ e).2 rfl) _, r3.far (p := ⟨g, 8, none⟩) (fun e => (hl _ (by simp) _ e).2 rfl) _, r4.far (p := ⟨g, 8, none⟩) (fun e => (hl _ (by simp) _ e).2 rfl) _, r5.far (p := ⟨g, 8, none⟩) (fun e => (hl _ (by simp) _ e).2 rfl) _, r6.far (p := ⟨g, 8, none⟩) (fun e => (hl _ (by simp) _ e).2 rfl) _, r7.far (p := ⟨g, 8, none⟩) (fun e => (hl _ (by simp) _ e).2 rfl) _, hc7, hl, x1, x7⟩
theorem StX.set9 {w : World} {g lo : Nat} {s : LSt} (h : StX w g lo s) (f : Int) : StX (w.setCell ⟨g, 9, none⟩ (.int .i64 f)) g lo { s with fuel := f } := by
  obtain ⟨D0, d0, D1, d1, D3, d3, D4, d4, D5, d5, D6, d6, D7, d7, b0, b1, b3, b4, b5, b6, b7, hg, r0, r1, r3, r4, r5, r6, r7, hc7, hl, x1, x7⟩ := h
  exact ⟨D0, d0, D1, d1, D3, d3, D4, d4, D5, d5, D6, d6, D7, d7, b0, b1, b3, b4, b5, b6, b7, blk_set hg 9 _, r0.far (p := ⟨g, 9, none⟩) (fun e => (hl _ (by simp) _ e).2 rfl) _, r1.far (p := ⟨g, 9, none⟩) (fun e => (hl _ (by simp) _ e).2 rfl) _, r3.far (p := ⟨g, 9, none⟩) (fun e => (hl _ (by simp) _ e).2 rfl) _, r4.far (p := ⟨g, 9, none⟩) (fun e => (hl _ (by simp) _ e).2 rfl) _, r5.far (p := ⟨g, 9, none⟩) (fun e => (hl _ (by simp) _ e).2 rfl) _, r6.far (p := ⟨g, 9, none⟩) (fun e => (hl _ (by simp) _ e).2 rfl) _, r7.far (p := ⟨g, 9, none⟩) (fun e => (hl _ (by simp) _ e).2 rfl) _, hc7, hl, x1, x7⟩
theorem StX.rep0 {w : World} {g lo : Nat} {s : LSt} (h : StX w g lo s) (hlo : lo ≤ w.heap.size) : ∃ D0 d0 D1 d1 D3 d3 D4 d4 D5 d5 D6 d6 D7 d7 b0, w.heap[g]? = some (.cells #[.slice D0 s.data.length d0, .slice D1 s.ret.length d1, .int .i32 s.a, .slice D3 s.mem.length d3, .slice D4 s.cells.length d4, .slice D5 s.vars.length d5, .slice D6 s.out.length d6, .slice D7 s.inp.length d7, .int .i64 s.fault, .int .i64 s.fuel] 32 (0, 0)) ∧ Row w 21 1 D0 s.data.length d0 (s.data.map (Value.int .i32)) b0 ∧ (∀ x, b0 = some x → lo ≤ x ∧ x ≠ g) ∧
    ∀ (xs : List Int) (B : Option Addr) (d : Nat) (w' : World) (b' : Option Nat), Row w' 21 1 B xs.length d (xs.map (Value.int .i32)) b' → w.grownBy w' b0 → (b' = b0 ∨ ∃ y, b' = some y ∧ w.heap.size ≤ y) →
      StX (w'.setCell ⟨g, 0, none⟩ (.slice B xs.length d)) g lo { s with data := xs } ∧ FrG g lo w (w'.setCell ⟨g, 0, none⟩ (.slice B xs.length d)) := by
  obtain ⟨D0, d0, D1, d1, D3, d3, D4, d4, D5, d5, D6, d6, D7, d7, b0, b1, b3, b4, b5, b6, b7, hg, r0, r1, r3, r4, r5, r6, r7, hc7, hl, x1, x7⟩ := h
  have zz := blk_lt hg
  have L1 : ∀ x, b0 = some x → lo ≤ x ∧ x ≠ g := fun x e => hl _ (by simp) x e
  refine ⟨D0, d0, D1, d1, D3, d3, D4, d4, D5, d5, D6, d6, D7, d7, b0, hg, r0, L1, fun xs B d w' b' hR hG hB => ?_⟩
  have K1 := (hG.block g zz (fun e => (L1 g e.symm).2 rfl)).trans hg
  have LB : ∀ x, b' = some x → lo ≤ x ∧ x ≠ g := fun x e => by
    rcases hB with h | ⟨y, h, hy⟩
    · exact L1 x (h.symm.trans e)
    · rw [h] at e; cases e; exact ⟨by omega, by omega⟩
  have R0 := hR.far (p := ⟨g, 0, none⟩) (fun e => (LB _ e).2 rfl) (.slice B xs.length d)
  have R1 := (r1.grown hG (Row.ne_type r1 r0 (by decide))).far (p := ⟨g, 0, none⟩) (fun e => (hl _ (by simp) _ e).2 rfl) (.slice B xs.length d)
  have R3 := (r3.grown hG (ne_symm x1)).far (p := ⟨g, 0, none⟩) (fun e => (hl _ (by simp) _ e).2 rfl) (.slice B xs.length d)
  have R4 := (r4.grown hG (Row.ne_type r4 r0 (by decide))).far (p := ⟨g, 0, none⟩) (fun e => (hl _ (by simp) _ e).2 rfl) (.slice B xs.length d)
  have R5 := (r5.grown hG (Row.ne_type r5 r0 (by decide))).far (p := ⟨g, 0, none⟩) (fun e => (hl _ (by simp) _ e).2 rfl) (.slice B xs.length d)
  have R6 := (r6.grown hG (Row.ne_type r6 r0 (by decide))).far (p := ⟨g, 0, none⟩) (fun e => (hl _ (by simp) _ e).2 rfl) (.slice B xs.length d)
  have R7 := (r7.grown hG (x7 _ (by simp))).far (p := ⟨g, 0, none⟩) (fun e => (hl _ (by simp) _ e).2 rfl) (.slice B xs.length d)
  have hl2 : ∀ b ∈ [b', b1, b3, b4, b5, b6, b7], ∀ x, b = some x → lo ≤ x ∧ x ≠ g := by
    intro b hb x hx
    simp at hb
    rcases hb with rfl | rfl | rfl | rfl | rfl | rfl | rfl
    · exact LB x hx
    · exact hl _ (by simp) x hx
    · exact hl _ (by simp) x hx
    · exact hl _ (by simp) x hx
    · exact hl _ (by simp) x hx
    · exact hl _ (by simp) x hx
    · exact hl _ (by simp) x hx
  have hx7 : ∀ b ∈ [b', b1, b3, b4, b5, b6], b7 = none ∨ b7 ≠ b := by
    intro b hb
    simp at hb
    rcases hb with rfl | rfl | rfl | rfl | rfl | rfl
    · rcases hB with h | ⟨y, h, hy⟩
      · rw [h]; exact x7 _ (by simp)
      · rw [h]; exact .inr (fun e => by have := r7.2.1 _ e; omega)
    · exact x7 _ (by simp)
    · exact x7 _ (by simp)
    · exact x7 _ (by simp)
    · exact x7 _ (by simp)
    · exact x7 _ (by simp)
  have hx1 : b' = none ∨ b' ≠ b3 := by
    rcases hB with h | ⟨y, h, hy⟩
    · rw [h]; exact x1
    · rw [h]; exact .inr (fun e => by have := r3.lt _ e.symm; omega)
  refine ⟨⟨B, d, D1, d1, D3, d3, D4, d4, D5, d5, D6, d6, D7, d7, b', b1, b3, b4, b5, b6, b7, ?_, R0, R1, R3, R4, R5, R6, R7, hc7, hl2, hx1, hx7⟩, (FrG.grown (FrG.refl g lo w) hG (fun x e => (L1 x e).1)).set _⟩
  have := blk_set K1 0 (.slice B xs.length d)
  simpa using this
theorem StX.rep1 {w : World} {g lo : Nat} {s : LSt} (h : StX w g lo s) (hlo : lo ≤ w.heap.size) : ∃ D0 d0 D1 d1 D3 d3 D4 d4 D5 d5 D6 d6 D7 d7 b1, w.heap[g]? = some (.cells #[.slice D0 s.data.length d0, .slice D1 s.ret.length d1, .int .i32 s.a, .slice D3 s.mem.length d3, .slice D4 s.cells.length d4, .slice D5 s.vars.length d5, .slice D6 s.out.length d6, .slice D7 s.inp.length d7, .int .i64 s.fault, .int .i64 s.fuel] 32 (0, 0)) ∧ Row w 77 2 D1 s.ret.length d1 (s.ret.flatMap LSlot.enc) b1 ∧ (∀ x, b1 = some x → lo ≤ x ∧ x ≠ g) ∧
    ∀ (xs : List LSlot) (B : Option Addr) (d : Nat) (w' : World) (b' : Option Nat), Row w' 77 2 B xs.length d (xs.flatMap LSlot.enc) b' → w.grownBy w' b1 → (b' = b1 ∨ ∃ y, b' = some y ∧ w.heap.size ≤ y) →
      StX (w'.setCell ⟨g, 1, none⟩ (.slice B xs.length d)) g lo { s with ret := xs } ∧ FrG g lo w (w'.setCell ⟨g, 1, none⟩ (.slice B xs.length d)) := by
  obtain ⟨D0, d0, D1, d1, D3, d3, D4, d4, D5, d5, D6, d6, D7, d7, b0, b1, b3, b4, b5, b6, b7, hg, r0, r1, r3, r4, r5, r6, r7, hc7, hl, x1, x7⟩ := h
  have zz := blk_lt hg
  have L1 : ∀ x, b1 = some x → lo ≤ x ∧ x ≠ g := fun x e => hl _ (by simp) x e
  refine ⟨D0, d0, D1, d1, D3, d3, D4, d4, D5, d5, D6, d6, D7, d7, b1, hg, r1, L1, fun xs B d w' b' hR hG hB => ?_⟩
  have K1 := (hG.block g zz (fun e => (L1 g e.symm).2 rfl)).trans hg
  have LB : ∀ x, b' = some x → lo ≤ x ∧ x ≠ g := fun x e => by
    rcases hB with h | ⟨y, h, hy⟩
    · exact L1 x (h.symm.trans e)
    · rw [h] at e; cases e; exact ⟨by omega, by omega⟩
  have R1 := hR.far (p := ⟨g, 1, none⟩) (fun e => (LB _ e).2 rfl) (.slice B xs.length d)
  have R0 := (r0.grown hG (Row.ne_type r0 r1 (by decide))).far (p := ⟨g, 1, none⟩) (fun e => (hl _ (by simp) _ e).2 rfl) (.slice B xs.length d)
  have R3 := (r3.grown hG (Row.ne_type r3 r1 (by decide))).far (p := ⟨g, 1, none⟩) (fun e => (hl _ (by simp) _ e).2 rfl) (.slice B xs.length d)
  have R4 := (r4.grown hG (Row.ne_type r4 r1 (by decide))).far (p := ⟨g, 1, none⟩) (fun e => (hl _ (by simp) _ e).2 rfl) (.slice B xs.length d)
  have R5 := (r5.grown hG (Row.ne_type r5 r1 (by decide))).far (p := ⟨g, 1, none⟩) (fun e => (hl _ (by simp) _ e).2 rfl) (.slice B xs.length d)
  have R6 := (r6.grown hG (Row.ne_type r6 r1 (by decide))).far (p := ⟨g, 1, none⟩) (fun e => (hl _ (by simp) _ e).2 rfl) (.slice B xs.length d)
  have R7 := (r7.grown hG (x7 _ (by simp))).far (p := ⟨g, 1, none⟩) (fun e => (hl _ (by simp) _ e).2 rfl) (.slice B xs.length d)
  have hl2 : ∀ b ∈ [b0, b', b3, b4, b5, b6, b7], ∀ x, b = some x → lo ≤ x ∧ x ≠ g := by
    intro b hb x hx
    simp at hb
    rcases hb with rfl | rfl | rfl | rfl | rfl | rfl | rfl
    · exact hl _ (by simp) x hx
    · exact LB x hx
    · exact hl _ (by simp) x hx
    · exact hl _ (by simp) x hx
    · exact hl _ (by simp) x hx
    · exact hl _ (by simp) x hx
    · exact hl _ (by simp) x hx
  have hx7 : ∀ b ∈ [b0, b', b3, b4, b5, b6], b7 = none ∨ b7 ≠ b := by
    intro b hb
    simp at hb
    rcases hb with rfl | rfl | rfl | rfl | rfl | rfl
    · exact x7 _ (by simp)
    · rcases hB with h | ⟨y, h, hy⟩
      · rw [h]; exact x7 _ (by simp)
      · rw [h]; exact .inr (fun e => by have := r7.2.1 _ e; omega)
    · exact x7 _ (by simp)
    · exact x7 _ (by simp)
    · exact x7 _ (by simp)
    · exact x7 _ (by simp)
  refine ⟨⟨D0, d0, B, d, D3, d3, D4, d4, D5, d5, D6, d6, D7, d7, b0, b', b3, b4, b5, b6, b7, ?_, R0, R1, R3, R4, R5, R6, R7, hc7, hl2, x1, hx7⟩, (FrG.grown (FrG.refl g lo w) hG (fun x e => (L1 x e).1)).set _⟩
  have := blk_set K1 1 (.slice B xs.length d)
  simpa using this
theorem StX.rep6 {w : World} {g lo : Nat} {s : LSt} (h : StX w g lo s) (hlo : lo ≤ w.heap.size) : ∃ D0 d0 D1 d1 D3 d3 D4 d4 D5 d5 D6 d6 D7 d7 b6, w.heap[g]? = some (.cells #[.slice D0 s.data.length d0, .slice D1 s.ret.length d1, .int .i32 s.a, .slice D3 s.mem.length d3, .slice D4 s.cells.length d4, .slice D5 s.vars.length d5, .slice D6 s.out.length d6, .slice D7 s.inp.length d7, .int .i64 s.fault, .int .i64 s.fuel] 32 (0, 0)) ∧ Row w 5 1 D6 s.out.length d6 (s.out.map (Value.int .u8)) b6 ∧ (∀ x, b6 = some x → lo ≤ x ∧ x ≠ g) ∧
    ∀ (xs : List Int) (B : Option Addr) (d : Nat) (w' : World) (b' : Option Nat), Row w' 5 1 B xs.length d (xs.map (Value.int .u8)) b' → w.grownBy w' b6 → (b' = b6 ∨ ∃ y, b' = some y ∧ w.heap.size ≤ y) →
      StX (w'.setCell ⟨g, 6, none⟩ (.slice B xs.length d)) g lo { s with out := xs } ∧ FrG g lo w (w'.setCell ⟨g, 6, none⟩ (.slice B xs.length d)) := by
  obtain ⟨D0, d0, D1, d1, D3, d3, D4, d4, D5, d5, D6, d6, D7, d7, b0, b1, b3, b4, b5, b6, b7, hg, r0, r1, r3, r4, r5, r6, r7, hc7, hl, x1, x7⟩ := h
  have zz := blk_lt hg
  have L1 : ∀ x, b6 = some x → lo ≤ x ∧ x ≠ g := fun x e => hl _ (by simp) x e
  refine ⟨D0, d0, D1, d1, D3, d3, D4, d4, D5, d5, D6, d6, D7, d7, b6, hg, r6, L1, fun xs B d w' b' hR hG hB => ?_⟩
  have K1 := (hG.block g zz (fun e => (L1 g e.symm).2 rfl)).trans hg
  have LB : ∀ x, b' = some x → lo ≤ x ∧ x ≠ g := fun x e => by
    rcases hB with h | ⟨y, h, hy⟩
    · exact L1 x (h.symm.trans e)
    · rw [h] at e; cases e; exact ⟨by omega, by omega⟩
  have R6 := hR.far (p := ⟨g, 6, none⟩) (fun e => (LB _ e).2 rfl) (.slice B xs.length d)
  have R0 := (r0.grown hG (Row.ne_type r0 r6 (by decide))).far (p := ⟨g, 6, none⟩) (fun e => (hl _ (by simp) _ e).2 rfl) (.slice B xs.length d)
  have R1 := (r1.grown hG (Row.ne_type r1 r6 (by decide))).far (p := ⟨g, 6, none⟩) (fun e => (hl _ (by simp) _ e).2 rfl) (.slice B xs.length d)
  have R3 := (r3.grown hG (Row.ne_type r3 r6 (by decide))).far (p := ⟨g, 6, none⟩) (fun e => (hl _ (by simp) _ e).2 rfl) (.slice B xs.length d)
  have R4 := (r4.grown hG (Row.ne_type r4 r6 (by decide))).far (p := ⟨g, 6, none⟩) (fun e => (hl _ (by simp) _ e).2 rfl) (.slice B xs.length d)
  have R5 := (r5.grown hG (Row.ne_type r5 r6 (by decide))).far (p := ⟨g, 6, none⟩) (fun e => (hl _ (by simp) _ e).2 rfl) (.slice B xs.length d)
  have R7 := (r7.grown hG (x7 _ (by simp))).far (p := ⟨g, 6, none⟩) (fun e => (hl _ (by simp) _ e).2 rfl) (.slice B xs.length d)
  have hl2 : ∀ b ∈ [b0, b1, b3, b4, b5, b', b7], ∀ x, b = some x → lo ≤ x ∧ x ≠ g := by
    intro b hb x hx
    simp at hb
    rcases hb with rfl | rfl | rfl | rfl | rfl | rfl | rfl
    · exact hl _ (by simp) x hx
    · exact hl _ (by simp) x hx
    · exact hl _ (by simp) x hx
    · exact hl _ (by simp) x hx
    · exact hl _ (by simp) x hx
    · exact LB x hx
    · exact hl _ (by simp) x hx
  have hx7 : ∀ b ∈ [b0, b1, b3, b4, b5, b'], b7 = none ∨ b7 ≠ b := by
    intro b hb
    simp at hb
    rcases hb with rfl | rfl | rfl | rfl | rfl | rfl
    · exact x7 _ (by simp)
    · exact x7 _ (by simp)
    · exact x7 _ (by simp)
    · exact x7 _ (by simp)
    · exact x7 _ (by simp)
    · rcases hB with h | ⟨y, h, hy⟩
      · rw [h]; exact x7 _ (by simp)
      · rw [h]; exact .inr (fun e => by have := r7.2.1 _ e; omega)
  refine ⟨⟨D0, d0, D1, d1, D3, d3, D4, d4, D5, d5, B, d, D7, d7, b0, b1, b3, b4, b5, b', b7, ?_, R0, R1, R3, R4, R5, R6, R7, hc7, hl2, x1, hx7⟩, (FrG.grown (FrG.refl g lo w) hG (fun x e => (L1 x e).1)).set _⟩
  have := blk_set K1 6 (.slice B xs.length d)
  simpa using this
theorem StX.put1 {w : World} {g lo : Nat} {s : LSt} (h : StX w g lo s) : ∃ D0 d0 D1 d1 D3 d3 D4 d4 D5 d5 D6 d6 D7 d7 b1, w.heap[g]? = some (.cells #[.slice D0 s.data.length d0, .slice D1 s.ret.length d1, .int .i32 s.a, .slice D3 s.mem.length d3, .slice D4 s.cells.length d4, .slice D5 s.vars.length d5, .slice D6 s.out.length d6, .slice D7 s.inp.length d7, .int .i64 s.fault, .int .i64 s.fuel] 32 (0, 0)) ∧ Row w 77 2 D1 s.ret.length d1 (s.ret.flatMap LSlot.enc) b1 ∧ (∀ x, b1 = some x → lo ≤ x ∧ x ≠ g) ∧
    ∀ (xs : List LSlot) (w' : World), xs.length = s.ret.length → Row w' 77 2 D1 s.ret.length d1 (xs.flatMap LSlot.enc) b1 → w.grownBy w' b1 → StX w' g lo { s with ret := xs } ∧ FrG g lo w w' := by
  obtain ⟨D0, d0, D1, d1, D3, d3, D4, d4, D5, d5, D6, d6, D7, d7, b0, b1, b3, b4, b5, b6, b7, hg, r0, r1, r3, r4, r5, r6, r7, hc7, hl, x1, x7⟩ := h
  have zz := blk_lt hg
  have L1 : ∀ x, b1 = some x → lo ≤ x ∧ x ≠ g := fun x e => hl _ (by simp) x e
  refine ⟨D0, d0, D1, d1, D3, d3, D4, d4, D5, d5, D6, d6, D7, d7, b1, hg, r1, L1, fun xs w' hn hR hG => ?_⟩
  have K1 := (hG.block g zz (fun e => (L1 g e.symm).2 rfl)).trans hg
  have R0 := r0.grown hG (Row.ne_type r0 r1 (by decide))
  have R3 := r3.grown hG (Row.ne_type r3 r1 (by decide))
  have R4 := r4.grown hG (Row.ne_type r4 r1 (by decide))
  have R5 := r5.grown hG (Row.ne_type r5 r1 (by decide))
  have R6 := r6.grown hG (Row.ne_type r6 r1 (by decide))
  have R7 := r7.grown hG (x7 _ (by simp))
  refine ⟨⟨D0, d0, D1, d1, D3, d3, D4, d4, D5, d5, D6, d6, D7, d7, b0, b1, b3, b4, b5, b6, b7, by rw [hn]; exact K1, R0, (by rw [hn]; exact hR), R3, R4, R5, R6, R7, hc7, hl, x1, x7⟩, FrG.grown (FrG.refl g lo w) hG (fun x e => (L1 x e).1)⟩
theorem StX.put3 {w : World} {g lo : Nat} {s : LSt} (h : StX w g lo s) : ∃ D0 d0 D1 d1 D3 d3 D4 d4 D5 d5 D6 d6 D7 d7 b3, w.heap[g]? = some (.cells #[.slice D0 s.data.length d0, .slice D1 s.ret.length d1, .int .i32 s.a, .slice D3 s.mem.length d3, .slice D4 s.cells.length d4, .slice D5 s.vars.length d5, .slice D6 s.out.length d6, .slice D7 s.inp.length d7, .int .i64 s.fault, .int .i64 s.fuel] 32 (0, 0)) ∧ Row w 21 1 D3 s.mem.length d3 (s.mem.map (Value.int .i32)) b3 ∧ (∀ x, b3 = some x → lo ≤ x ∧ x ≠ g) ∧
    ∀ (xs : List Int) (w' : World), xs.length = s.mem.length → Row w' 21 1 D3 s.mem.length d3 (xs.map (Value.int .i32)) b3 → w.grownBy w' b3 → StX w' g lo { s with mem := xs } ∧ FrG g lo w w' := by
  obtain ⟨D0, d0, D1, d1, D3, d3, D4, d4, D5, d5, D6, d6, D7, d7, b0, b1, b3, b4, b5, b6, b7, hg, r0, r1, r3, r4, r5, r6, r7, hc7, hl, x1, x7⟩ := h
  have zz := blk_lt hg
  have L1 : ∀ x, b3 = some x → lo ≤ x ∧ x ≠ g := fun x e => hl _ (by simp) x e
  refine ⟨D0, d0, D1, d1, D3, d3, D4, d4, D5, d5, D6, d6, D7, d7, b3, hg, r3, L1, fun xs w' hn hR hG => ?_⟩
  have K1 := (hG.block g zz (fun e => (L1 g e.symm).2 rfl)).trans hg
  have R0 := r0.grown hG x1
  have R1 := r1.grown hG (Row.ne_type r1 r3 (by decide))
  have R4 := r4.grown hG (Row.ne_type r4 r3 (by decide))
  have R5 := r5.grown hG (Row.ne_type r5 r3 (by decide))
  have R6 := r6.grown hG (Row.ne_type r6 r3 (by decide))
  have R7 := r7.grown hG (x7 _ (by simp))
  refine ⟨⟨D0, d0, D1, d1, D3, d3, D4, d4, D5, d5, D6, d6, D7, d7, b0, b1, b3, b4, b5, b6, b7, by rw [hn]; exact K1, R0, R1, (by rw [hn]; exact hR), R4, R5, R6, R7, hc7, hl, x1, x7⟩, FrG.grown (FrG.refl g lo w) hG (fun x e => (L1 x e).1)⟩
theorem StX.put4 {w : World} {g lo : Nat} {s : LSt} (h : StX w g lo s) : ∃ D0 d0 D1 d1 D3 d3 D4 d4 D5 d5 D6 d6 D7 d7 b4, w.heap[g]? = some (.cells #[.slice D0 s.data.length d0, .slice D1 s.ret.length d1, .int .i32 s.a, .slice D3 s.mem.length d3, .slice D4 s.cells.length d4, .slice D5 s.vars.length d5, .slice D6 s.out.length d6, .slice D7 s.inp.length d7, .int .i64 s.fault, .int .i64 s.fuel] 32 (0, 0)) ∧ Row w 93 1 D4 s.cells.length d4 (s.cells.map (Value.int .u32)) b4 ∧ (∀ x, b4 = some x → lo ≤ x ∧ x ≠ g) ∧
    ∀ (xs : List Int) (w' : World), xs.length = s.cells.length → Row w' 93 1 D4 s.cells.length d4 (xs.map (Value.int .u32)) b4 → w.grownBy w' b4 → StX w' g lo { s with cells := xs } ∧ FrG g lo w w' := by
  obtain ⟨D0, d0, D1, d1, D3, d3, D4, d4, D5, d5, D6, d6, D7, d7, b0, b1, b3, b4, b5, b6, b7, hg, r0, r1, r3, r4, r5, r6, r7, hc7, hl, x1, x7⟩ := h
  have zz := blk_lt hg
  have L1 : ∀ x, b4 = some x → lo ≤ x ∧ x ≠ g := fun x e => hl _ (by simp) x e
  refine ⟨D0, d0, D1, d1, D3, d3, D4, d4, D5, d5, D6, d6, D7, d7, b4, hg, r4, L1, fun xs w' hn hR hG => ?_⟩
  have K1 := (hG.block g zz (fun e => (L1 g e.symm).2 rfl)).trans hg
  have R0 := r0.grown hG (Row.ne_type r0 r4 (by decide))
  have R1 := r1.grown hG (Row.ne_type r1 r4 (by decide))
  have R3 := r3.grown hG (Row.ne_type r3 r4 (by decide))
  have R5 := r5.grown hG (Row.ne_type r5 r4 (by decide))
  have R6 := r6.grown hG (Row.ne_type r6 r4 (by decide))
  have R7 := r7.grown hG (x7 _ (by simp))
  refine ⟨⟨D0, d0, D1, d1, D3, d3, D4, d4, D5, d5, D6, d6, D7, d7, b0, b1, b3, b4, b5, b6, b7, by rw [hn]; exact K1, R0, R1, R3, (by rw [hn]; exact hR), R5, R6, R7, hc7, hl, x1, x7⟩, FrG.grown (FrG.refl g lo w) hG (fun x e => (L1 x e).1)⟩
theorem StX.in7 {w : World} {g lo : Nat} {s : LSt} (h : StX w g lo s) : ∃ D0 d0 D1 d1 D3 d3 D4 d4 D5 d5 D6 d6 D7 d7, w.heap[g]? = some (.cells #[.slice D0 s.data.length d0, .slice D1 s.ret.length d1, .int .i32 s.a, .slice D3 s.mem.length d3, .slice D4 s.cells.length d4, .slice D5 s.vars.length d5, .slice D6 s.out.length d6, .slice D7 s.inp.length d7, .int .i64 s.fault, .int .i64 s.fuel] 32 (0, 0)) ∧ Rd w D7 (s.inp.map (Value.int .u8)) ∧ s.inp.length ≤ d7 ∧
    ∀ (xs : List Int) (B : Option Addr) (d : Nat), xs.length ≤ d → (∀ w1, Rd w1 D7 (s.inp.map (Value.int .u8)) → Rd w1 B (xs.map (Value.int .u8))) →
      StX (w.setCell ⟨g, 7, none⟩ (.slice B xs.length d)) g lo { s with inp := xs } ∧ FrG g lo w (w.setCell ⟨g, 7, none⟩ (.slice B xs.length d)) := by
  obtain ⟨D0, d0, D1, d1, D3, d3, D4, d4, D5, d5, D6, d6, D7, d7, b0, b1, b3, b4, b5, b6, b7, hg, r0, r1, r3, r4, r5, r6, r7, hc7, hl, x1, x7⟩ := h
  refine ⟨D0, d0, D1, d1, D3, d3, D4, d4, D5, d5, D6, d6, D7, d7, hg, r7.1, hc7, fun xs B d hd hR => ⟨⟨D0, d0, D1, d1, D3, d3, D4, d4, D5, d5, D6, d6, B, d, b0, b1, b3, b4, b5, b6, b7, ?_, r0.far (p := ⟨g, 7, none⟩) (fun e => (hl _ (by simp) _ e).2 rfl) _, r1.far (p := ⟨g, 7, none⟩) (fun e => (hl _ (by simp) _ e).2 rfl) _, r3.far (p := ⟨g, 7, none⟩) (fun e => (hl _ (by simp) _ e).2 rfl) _, r4.far (p := ⟨g, 7, none⟩) (fun e => (hl _ (by simp) _ e).2 rfl) _, r5.far (p := ⟨g, 7, none⟩) (fun e => (hl _ (by simp) _ e).2 rfl) _, r6.far (p := ⟨g, 7, none⟩) (fun e => (hl _ (by simp) _ e).2 rfl) _, RdB.far (RdB.sub r7 hR) (p := ⟨g, 7, none⟩) (fun e => (hl _ (by simp) _ e).2 rfl) _, hd, hl, x1, x7⟩, (FrG.refl g lo w).set _⟩⟩
  have := blk_set hg 7 (.slice B xs.length d)
  simpa using this
end Go.Proofs.YtgljbcdlldhlfaaDoor

/- A state in a box: what writes to it; contracts of pushes, PushN, l08Fault, l08Put. -/
import Derived.Test.YtjciibhaifabjaaDoorPu
set_option linter.unusedVariables false
set_option linter.unusedSimpArgs false
namespace Go.Proofs.YtjciibhaifabjaaDoor
open Go.RowKit

/-- State s lies in box g; its rows are blocks of their own from lo on. -/
def StG (w : World) (g lo : Nat) (s : LSt) : Prop :=
  ∃ A0 c0 A1 c1 A3 c3 A4 c4 A5 c5 A6 c6 A7 c7 b0 b1 b3 b4 b5 b6 b7, w.heap[g]? = some (.cells #[.slice A0 s.data.length c0, .slice A1 s.ret.length c1, .int .i32 s.a, .slice A3 s.mem.length c3, .slice A4 s.cells.length c4, .slice A5 s.vars.length c5, .slice A6 s.out.length c6, .slice A7 s.inp.length c7, .int .i64 s.fault, .int .i64 s.fuel] 34 (0, 0)) ∧ Row w 21 1 A0 s.data.length c0 (s.data.map (Value.int .i32)) b0 ∧ Row w 76 2 A1 s.ret.length c1 (s.ret.flatMap LSlot.enc) b1 ∧ Row w 21 1 A3 s.mem.length c3 (s.mem.map (Value.int .i32)) b3 ∧ Row w 123 1 A4 s.cells.length c4 (s.cells.map (Value.int .u32)) b4 ∧ Row w 3 1 A5 s.vars.length c5 (s.vars.map (Value.int .i64)) b5 ∧ Row w 5 1 A6 s.out.length c6 (s.out.map (Value.int .u8)) b6 ∧ Row w 5 1 A7 s.inp.length c7 (s.inp.map (Value.int .u8)) b7 ∧
    (∀ b ∈ [b0, b1, b3, b4, b5, b6, b7], ∀ x, b = some x → lo ≤ x ∧ x ≠ g) ∧ (b0 = none ∨ b0 ≠ b3) ∧ (b6 = none ∨ b6 ≠ b7)
/-- Below lo nothing but block g has changed. -/
structure FrG (g lo : Nat) (w w' : World) : Prop where
  os : w'.os = w.os
  tape : w'.tape = w.tape
  output : w'.output = w.output
  size : w.heap.size ≤ w'.heap.size
  block : ∀ x, x < w.heap.size → x < lo → x ≠ g → w'.heap[x]? = w.heap[x]?
theorem FrG.refl (g lo : Nat) (w : World) : FrG g lo w w := ⟨rfl, rfl, rfl, Nat.le_refl _, fun _ _ _ _ => rfl⟩
theorem FrG.trans {g lo : Nat} {a b c : World} (h : FrG g lo a b) (k : FrG g lo b c) : FrG g lo a c :=
  ⟨k.os.trans h.os, k.tape.trans h.tape, k.output.trans h.output, Nat.le_trans h.size k.size, fun x h1 h2 h3 => (k.block x (Nat.lt_of_lt_of_le h1 h.size) h2 h3).trans (h.block x h1 h2 h3)⟩
theorem FrG.set {g lo j : Nat} {a b : World} (h : FrG g lo a b) (u : Value) : FrG g lo a (b.setCell ⟨g, j, none⟩ u) :=
  ⟨h.os, h.tape, h.output, by simpa using h.size, fun x h1 h2 h3 => (Below.heap_setCell b ⟨g, j, none⟩ u x (fun e => h3 e)).trans (h.block x h1 h2 h3)⟩
theorem FrG.grown {g lo : Nat} {a b c : World} {row : Option Nat} (h : FrG g lo a b) (k : b.grownBy c row) (hr : ∀ x, row = some x → lo ≤ x) : FrG g lo a c :=
  ⟨k.os.trans h.os, k.tape.trans h.tape, k.output.trans h.output, Nat.le_trans h.size k.size, fun x h1 h2 h3 => (k.block x (Nat.lt_of_lt_of_le h1 h.size) (fun e => by have := hr x e.symm; omega)).trans (h.block x h1 h2 h3)⟩
theorem FrG.below {g lo B : Nat} {a b w : World} (h : FrG g lo a b) (hb : Below B w a) (h1 : B ≤ lo) (h2 : B ≤ g) (h3 : B ≤ a.heap.size) : Below B w b :=
  hb.trans ⟨h.os, h.tape, h.output, h.size, fun x hx => h.block x (by omega) (by omega) (by omega)⟩
theorem StG.of {w : World} {lo : Nat} {s : LSt} {arr : Array Value} (h : StO w lo s (.agg arr)) : StG (w.alloc (.cells arr 34)) w.heap.size lo s := by
  obtain ⟨A0, c0, A1, c1, A3, c3, A4, c4, A5, c5, A6, c6, A7, c7, b0, b1, b3, b4, b5, b6, b7, he, r0, r1, r3, r4, r5, r6, r7, hl, d1, d2⟩ := h
  injection he with he
  subst he
  refine ⟨A0, c0, A1, c1, A3, c3, A4, c4, A5, c5, A6, c6, A7, c7, b0, b1, b3, b4, b5, b6, b7, blk_new _ _, r0.alloc _, r1.alloc _, r3.alloc _, r4.alloc _, r5.alloc _, r6.alloc _, r7.alloc _, fun b hb x hx => ⟨hl b hb x hx, ?_⟩, d1, d2⟩
  subst hx
  simp at hb
  rcases hb with e | e | e | e | e | e | e
  · have := r0.lt _ e.symm; omega
  · have := r1.lt _ e.symm; omega
  · have := r3.lt _ e.symm; omega
  · have := r4.lt _ e.symm; omega
  · have := r5.lt _ e.symm; omega
  · have := r6.lt _ e.symm; omega
  · have := r7.lt _ e.symm; omega
theorem StG.o {w : World} {g lo : Nat} {s : LSt} (h : StG w g lo s) : ∃ arr, w.heap[g]? = some (.cells arr 34 (0, 0)) ∧ StO w lo s (.agg arr) := by
  obtain ⟨A0, c0, A1, c1, A3, c3, A4, c4, A5, c5, A6, c6, A7, c7, b0, b1, b3, b4, b5, b6, b7, hg, r0, r1, r3, r4, r5, r6, r7, hl, d1, d2⟩ := h
  exact ⟨_, hg, A0, c0, A1, c1, A3, c3, A4, c4, A5, c5, A6, c6, A7, c7, b0, b1, b3, b4, b5, b6, b7, rfl, r0, r1, r3, r4, r5, r6, r7, fun b hb x hx => (hl b hb x hx).1, d1, d2⟩
theorem StG.lt {w : World} {g lo : Nat} {s : LSt} (h : StG w g lo s) : g < w.heap.size := by
  obtain ⟨arr, hg, _⟩ := h.o
  exact blk_lt hg
theorem StG.call {w w1 : World} {g lo : Nat} {s : LSt} (h : StG w g lo s) (hb : Below w.heap.size w w1) : StG w1 g lo s := by
  obtain ⟨A0, c0, A1, c1, A3, c3, A4, c4, A5, c5, A6, c6, A7, c7, b0, b1, b3, b4, b5, b6, b7, hg, r0, r1, r3, r4, r5, r6, r7, hl, d1, d2⟩ := h
  exact ⟨A0, c0, A1, c1, A3, c3, A4, c4, A5, c5, A6, c6, A7, c7, b0, b1, b3, b4, b5, b6, b7, blk_call hg hb, r0.call hb, r1.call hb, r3.call hb, r4.call hb, r5.call hb, r6.call hb, r7.call hb, hl, d1, d2⟩
end Go.Proofs.YtjciibhaifabjaaDoor

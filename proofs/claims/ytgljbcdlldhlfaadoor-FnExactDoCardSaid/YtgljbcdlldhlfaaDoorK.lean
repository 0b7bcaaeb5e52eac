/- Contracts of the laws' helpers over states. -/
import Derived.Test.YtgljbcdlldhlfaaDoorL
import Derived.Test.YtgljbcdlldhlfaaDoorS
set_option linter.unusedVariables false
set_option linter.unusedSimpArgs false
namespace Go.Proofs.YtgljbcdlldhlfaaDoor
open Go.RowKit

theorem ne_symm {a b : Option Nat} (h : a = none ∨ a ≠ b) : b = none ∨ b ≠ a := by
  cases b with
  | none => exact .inl rfl
  | some g =>
    refine .inr fun e => ?_
    rcases h with h | h
    · rw [← e] at h; cases h
    · exact h e.symm
theorem Row.ne_type {w : World} {e e' : TypeId} {sz sz' n n' c c' : Nat} {A A' : Option Addr} {cs cs' : List Value} {b b' : Option Nat} (h : Row w e sz A n c cs b) (h' : Row w e' sz' A' n' c' cs' b') (hne : e ≠ e') : b = none ∨ b ≠ b' := by
  rcases h.2 with ⟨_, _, h0⟩ | ⟨g, cur, _, rfl, hg, _⟩
  · exact .inl h0
  · refine .inr fun he => ?_
    rcases h'.2 with ⟨_, _, h0⟩ | ⟨g', cur', _, h0, hg', _⟩
    · rw [h0] at he; cases he
    · rw [h0] at he
      cases he
      rw [hg] at hg'
      injection hg' with hg'
      injection hg' with _ ht
      exact hne ht
theorem bl_lo {lo : Nat} {w : World} {o : Obj} (h : lo ≤ w.heap.size) : Below lo w (w.alloc o) := (Below.refl _ _).alloc h o
theorem blk_after {w w1 : World} (hb : Below w.heap.size w w1) {g : Nat} {o : Obj} (h : w.heap[g]? = some o) : w1.heap[g]? = some o := blk_call h hb
/-- A state that is read. -/
def StK (w : World) (s : LSt) (v : Value) : Prop :=
  ∃ A0 c0 A1 c1 A3 c3 A4 c4 A5 c5 A6 c6 A7 c7, v = .agg #[.slice A0 s.data.length c0, .slice A1 s.ret.length c1, .int .i32 s.a, .slice A3 s.mem.length c3, .slice A4 s.cells.length c4, .slice A5 s.vars.length c5, .slice A6 s.out.length c6, .slice A7 s.inp.length c7, .int .i64 s.fault, .int .i64 s.fuel] ∧
    Rd w A0 (s.data.map (Value.int .i32)) ∧ Rd w A1 (s.ret.flatMap LSlot.enc) ∧ Rd w A3 (s.mem.map (Value.int .i32)) ∧ Rd w A4 (s.cells.map (Value.int .u32)) ∧ Rd w A5 (s.vars.map (Value.int .i64)) ∧ Rd w A6 (s.out.map (Value.int .u8)) ∧ Rd w A7 (s.inp.map (Value.int .u8)) ∧
    (s.data.length ≤ c0 ∧ s.ret.length ≤ c1 ∧ s.mem.length ≤ c3 ∧ s.cells.length ≤ c4 ∧ s.vars.length ≤ c5 ∧ s.out.length ≤ c6 ∧ s.inp.length ≤ c7)
/-- A state of the call's own: its rows are blocks from lo on, no two alike. -/
def StO (w : World) (lo : Nat) (s : LSt) (v : Value) : Prop :=
  ∃ A0 c0 A1 c1 A3 c3 A4 c4 A5 c5 A6 c6 A7 c7 b0 b1 b3 b4 b5 b6 b7, v = .agg #[.slice A0 s.data.length c0, .slice A1 s.ret.length c1, .int .i32 s.a, .slice A3 s.mem.length c3, .slice A4 s.cells.length c4, .slice A5 s.vars.length c5, .slice A6 s.out.length c6, .slice A7 s.inp.length c7, .int .i64 s.fault, .int .i64 s.fuel] ∧
    Row w 21 1 A0 s.data.length c0 (s.data.map (Value.int .i32)) b0 ∧ Row w 77 2 A1 s.ret.length c1 (s.ret.flatMap LSlot.enc) b1 ∧ Row w 21 1 A3 s.mem.length c3 (s.mem.map (Value.int .i32)) b3 ∧ Row w 93 1 A4 s.cells.length c4 (s.cells.map (Value.int .u32)) b4 ∧
    Row w 3 1 A5 s.vars.length c5 (s.vars.map (Value.int .i64)) b5 ∧ Row w 5 1 A6 s.out.length c6 (s.out.map (Value.int .u8)) b6 ∧ Row w 5 1 A7 s.inp.length c7 (s.inp.map (Value.int .u8)) b7 ∧
    (∀ b ∈ [b0, b1, b3, b4, b5, b6, b7], ∀ g, b = some g → lo ≤ g) ∧ (b0 = none ∨ b0 ≠ b3) ∧ (b6 = none ∨ b6 ≠ b7)
/-- .. and below hi. -/
def StI (w : World) (lo hi : Nat) (s : LSt) (v : Value) : Prop :=
  ∃ A0 c0 A1 c1 A3 c3 A4 c4 A5 c5 A6 c6 A7 c7 b0 b1 b3 b4 b5 b6 b7, v = .agg #[.slice A0 s.data.length c0, .slice A1 s.ret.length c1, .int .i32 s.a, .slice A3 s.mem.length c3, .slice A4 s.cells.length c4, .slice A5 s.vars.length c5, .slice A6 s.out.length c6, .slice A7 s.inp.length c7, .int .i64 s.fault, .int .i64 s.fuel] ∧
    Row w 21 1 A0 s.data.length c0 (s.data.map (Value.int .i32)) b0 ∧ Row w 77 2 A1 s.ret.length c1 (s.ret.flatMap LSlot.enc) b1 ∧ Row w 21 1 A3 s.mem.length c3 (s.mem.map (Value.int .i32)) b3 ∧ Row w 93 1 A4 s.cells.length c4 (s.cells.map (Value.int .u32)) b4 ∧
    Row w 3 1 A5 s.vars.length c5 (s.vars.map (Value.int .i64)) b5 ∧ Row w 5 1 A6 s.out.length c6 (s.out.map (Value.int .u8)) b6 ∧ Row w 5 1 A7 s.inp.length c7 (s.inp.map (Value.int .u8)) b7 ∧
    (∀ b ∈ [b0, b1, b3, b4, b5, b6, b7], ∀ g, b = some g → lo ≤ g ∧ g < hi) ∧ (b0 = none ∨ b0 ≠ b3) ∧ (b6 = none ∨ b6 ≠ b7)
theorem StO.i {w : World} {lo : Nat} {s : LSt} {v : Value} (h : StO w lo s v) : StI w lo w.heap.size s v := by
  obtain ⟨A0, c0, A1, c1, A3, c3, A4, c4, A5, c5, A6, c6, A7, c7, b0, b1, b3, b4, b5, b6, b7, rfl, r0, r1, r3, r4, r5, r6, r7, hl, d1, d2⟩ := h
  refine ⟨A0, c0, A1, c1, A3, c3, A4, c4, A5, c5, A6, c6, A7, c7, b0, b1, b3, b4, b5, b6, b7, rfl, r0, r1, r3, r4, r5, r6, r7, fun b hb g hg => ⟨hl b hb g hg, ?_⟩, d1, d2⟩
  subst hg
  simp at hb
  rcases hb with e | e | e | e | e | e | e
  · exact r0.lt _ e.symm
  · exact r1.lt _ e.symm
  · exact r3.lt _ e.symm
  · exact r4.lt _ e.symm
  · exact r5.lt _ e.symm
  · exact r6.lt _ e.symm
  · exact r7.lt _ e.symm
theorem StI.o {w : World} {lo hi : Nat} {s : LSt} {v : Value} (h : StI w lo hi s v) : StO w lo s v := by
  obtain ⟨A0, c0, A1, c1, A3, c3, A4, c4, A5, c5, A6, c6, A7, c7, b0, b1, b3, b4, b5, b6, b7, rfl, r0, r1, r3, r4, r5, r6, r7, hl, d1, d2⟩ := h
  exact ⟨A0, c0, A1, c1, A3, c3, A4, c4, A5, c5, A6, c6, A7, c7, b0, b1, b3, b4, b5, b6, b7, rfl, r0, r1, r3, r4, r5, r6, r7, fun b hb g hg => (hl b hb g hg).1, d1, d2⟩
theorem StI.keep {w w1 : World} {lo hi : Nat} {s : LSt} {v : Value} (h : StI w lo hi s v) (hk : ∀ g, lo ≤ g → g < hi → g < w.heap.size → w1.heap[g]? = w.heap[g]?) : StI w1 lo hi s v := by
  obtain ⟨A0, c0, A1, c1, A3, c3, A4, c4, A5, c5, A6, c6, A7, c7, b0, b1, b3, b4, b5, b6, b7, rfl, r0, r1, r3, r4, r5, r6, r7, hl, d1, d2⟩ := h
  exact ⟨A0, c0, A1, c1, A3, c3, A4, c4, A5, c5, A6, c6, A7, c7, b0, b1, b3, b4, b5, b6, b7, rfl,
    r0.keep fun g e => hk g (hl _ (by simp) g e).1 (hl _ (by simp) g e).2 (r0.lt g e), r1.keep fun g e => hk g (hl _ (by simp) g e).1 (hl _ (by simp) g e).2 (r1.lt g e), r3.keep fun g e => hk g (hl _ (by simp) g e).1 (hl _ (by simp) g e).2 (r3.lt g e), r4.keep fun g e => hk g (hl _ (by simp) g e).1 (hl _ (by simp) g e).2 (r4.lt g e),
    r5.keep fun g e => hk g (hl _ (by simp) g e).1 (hl _ (by simp) g e).2 (r5.lt g e), r6.keep fun g e => hk g (hl _ (by simp) g e).1 (hl _ (by simp) g e).2 (r6.lt g e), r7.keep fun g e => hk g (hl _ (by simp) g e).1 (hl _ (by simp) g e).2 (r7.lt g e), hl, d1, d2⟩
theorem StI.call {w w1 : World} {lo hi : Nat} {s : LSt} {v : Value} (h : StI w lo hi s v) (hb : Below w.heap.size w w1) : StI w1 lo hi s v := h.keep fun g _ _ hg => hb.block g hg
/-- Only blocks from lo on and below hi have changed; there may be new ones. -/
structure Fr (lo hi : Nat) (w w' : World) : Prop where
  os : w'.os = w.os
  tape : w'.tape = w.tape
  output : w'.output = w.output
  size : w.heap.size ≤ w'.heap.size
  block : ∀ g, g < w.heap.size → (g < lo ∨ hi ≤ g) → w'.heap[g]? = w.heap[g]?
theorem Fr.refl (lo hi : Nat) (w : World) : Fr lo hi w w := ⟨rfl, rfl, rfl, Nat.le_refl _, fun _ _ _ => rfl⟩
theorem Fr.alloc {lo hi : Nat} {w w1 : World} (h : Fr lo hi w w1) (hi0 : hi ≤ w.heap.size) (o : Obj) : Fr lo hi w (w1.alloc o) :=
  ⟨h.os, h.tape, h.output, by have := h.size; simp; omega, fun g hg hn => (Below.heap_alloc w1 o g (Nat.lt_of_lt_of_le hg h.size)).trans (h.block g hg hn)⟩
theorem Fr.grown {lo hi : Nat} {w w1 w2 : World} {b : Option Nat} (h : Fr lo hi w w1) (k : w1.grownBy w2 b) (hb : ∀ g, b = some g → lo ≤ g ∧ g < hi) : Fr lo hi w w2 :=
  ⟨k.os.trans h.os, k.tape.trans h.tape, k.output.trans h.output, Nat.le_trans h.size k.size, fun g hg hn => (k.block g (Nat.lt_of_lt_of_le hg h.size) (fun e => by have := hb g e.symm; omega)).trans (h.block g hg hn)⟩
theorem Fr.below {lo hi : Nat} {w w1 : World} (h : Fr lo hi w w1) {B : Nat} (hB : B ≤ lo) (hs : B ≤ w.heap.size) : Below B w w1 := ⟨h.os, h.tape, h.output, h.size, fun g hg => h.block g (by omega) (.inl (by omega))⟩
theorem StI.frame {w w1 : World} {lo hi l1 h1 : Nat} {s : LSt} {v : Value} (h : StI w lo hi s v) (hf : Fr l1 h1 w w1) (hd : hi ≤ l1 ∨ h1 ≤ lo) : StI w1 lo hi s v := h.keep fun g h0 h2 hg => hf.block g hg (by omega)
theorem StO.k {w : World} {lo : Nat} {s : LSt} {v : Value} (h : StO w lo s v) : StK w s v := by
  obtain ⟨A0, c0, A1, c1, A3, c3, A4, c4, A5, c5, A6, c6, A7, c7, b0, b1, b3, b4, b5, b6, b7, rfl, r0, r1, r3, r4, r5, r6, r7, _⟩ := h
  exact ⟨A0, c0, A1, c1, A3, c3, A4, c4, A5, c5, A6, c6, A7, c7, rfl, r0.rd, r1.rd, r3.rd, r4.rd, r5.rd, r6.rd, r7.rd, r0.le, r1.le, r3.le, r4.le, r5.le, r6.le, r7.le⟩
theorem StK.mono {w w1 : World} {s : LSt} {v : Value} (h : StK w s v) (hm : Mono w w1) : StK w1 s v := by
  obtain ⟨A0, c0, A1, c1, A3, c3, A4, c4, A5, c5, A6, c6, A7, c7, rfl, r0, r1, r3, r4, r5, r6, r7, hcap⟩ := h
  exact ⟨A0, c0, A1, c1, A3, c3, A4, c4, A5, c5, A6, c6, A7, c7, rfl, r0.mono hm, r1.mono hm, r3.mono hm, r4.mono hm, r5.mono hm, r6.mono hm, r7.mono hm, hcap⟩
theorem StO.keep {w w1 : World} {lo : Nat} {s : LSt} {v : Value} (h : StO w lo s v) (hk : ∀ g, lo ≤ g → g < w.heap.size → w1.heap[g]? = w.heap[g]?) : StO w1 lo s v := by
  obtain ⟨A0, c0, A1, c1, A3, c3, A4, c4, A5, c5, A6, c6, A7, c7, b0, b1, b3, b4, b5, b6, b7, rfl, r0, r1, r3, r4, r5, r6, r7, hl, d1, d2⟩ := h
  exact ⟨A0, c0, A1, c1, A3, c3, A4, c4, A5, c5, A6, c6, A7, c7, b0, b1, b3, b4, b5, b6, b7, rfl,
    r0.keep fun g e => hk g (hl _ (by simp) g e) (r0.lt g e), r1.keep fun g e => hk g (hl _ (by simp) g e) (r1.lt g e), r3.keep fun g e => hk g (hl _ (by simp) g e) (r3.lt g e), r4.keep fun g e => hk g (hl _ (by simp) g e) (r4.lt g e),
    r5.keep fun g e => hk g (hl _ (by simp) g e) (r5.lt g e), r6.keep fun g e => hk g (hl _ (by simp) g e) (r6.lt g e), r7.keep fun g e => hk g (hl _ (by simp) g e) (r7.lt g e), hl, d1, d2⟩
theorem StK.form {w : World} {s : LSt} {v : Value} (h : StK w s v) : ∃ A0 c0 A1 c1 A3 c3 A4 c4 A5 c5 A6 c6 A7 c7, v = .agg #[.slice A0 s.data.length c0, .slice A1 s.ret.length c1, .int .i32 s.a, .slice A3 s.mem.length c3, .slice A4 s.cells.length c4, .slice A5 s.vars.length c5, .slice A6 s.out.length c6, .slice A7 s.inp.length c7, .int .i64 s.fault, .int .i64 s.fuel] := by
  obtain ⟨A0, c0, A1, c1, A3, c3, A4, c4, A5, c5, A6, c6, A7, c7, rfl, -⟩ := h
  exact ⟨A0, c0, A1, c1, A3, c3, A4, c4, A5, c5, A6, c6, A7, c7, rfl⟩
theorem StK.keepB {w0 w1 : World} {s : LSt} {v : Value} (h : StK w0 s v) (hb : Below w0.heap.size w0 w1) : StK w1 s v := h.mono (below_mono hb)
theorem StO.call {w w1 : World} {lo : Nat} {s : LSt} {v : Value} (h : StO w lo s v) (hb : Below w.heap.size w w1) : StO w1 lo s v := h.keep fun g _ hg => hb.block g hg
end Go.Proofs.YtgljbcdlldhlfaaDoor

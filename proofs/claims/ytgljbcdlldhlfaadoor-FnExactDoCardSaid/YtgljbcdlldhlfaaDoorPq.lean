/- A state in a box: what writes to it; contracts of pushes, PushN, l08Fault, l08Put. -/
import Derived.Test.YtgljbcdlldhlfaaDoorPu
set_option linter.unusedVariables false
set_option linter.unusedSimpArgs false
namespace Go.Proofs.YtgljbcdlldhlfaaDoor
open Go.RowKit

/-- State s lies in box g; its rows are blocks of their own from lo on. -/
def StG (w : World) (g lo : Nat) (s : LSt) : Prop :=
  ∃ A0 c0 A1 c1 A3 c3 A4 c4 A5 c5 A6 c6 A7 c7 b0 b1 b3 b4 b5 b6 b7, w.heap[g]? = some (.cells #[.slice A0 s.data.length c0, .slice A1 s.ret.length c1, .int .i32 s.a, .slice A3 s.mem.length c3, .slice A4 s.cells.length c4, .slice A5 s.vars.length c5, .slice A6 s.out.length c6, .slice A7 s.inp.length c7, .int .i64 s.fault, .int .i64 s.fuel] 32 (0, 0)) ∧ Row w 21 1 A0 s.data.length c0 (s.data.map (Value.int .i32)) b0 ∧ Row w 77 2 A1 s.ret.length c1 (s.ret.flatMap LSlot.enc) b1 ∧ Row w 21 1 A3 s.mem.length c3 (s.mem.map (Value.int .i32)) b3 ∧ Row w 93 1 A4 s.cells.length c4 (s.cells.map (Value.int .u32)) b4 ∧ Row w 3 1 A5 s.vars.length c5 (s.vars.map (Value.int .i64)) b5 ∧ Row w 5 1 A6 s.out.length c6 (s.out.map (Value.int .u8)) b6 ∧ Row w 5 1 A7 s.inp.length c7 (s.inp.map (Value.int .u8)) b7 ∧
    (∀ b ∈ [b0, b1, b3, b4, b5, b6, b7], ∀ x, b = some x → lo ≤ x ∧ x ≠ g) ∧ (b0 = none ∨ b0 ≠ b3) ∧ (b6 = none ∨ b6 ≠ b7)
/-- Below lo nothing but block g has changed. -/
structure FrG (g lo : Nat) (w w' : World) : Prop where
  os : w'.os = w.os
  tape : w'.tape = w.tape
  output : w'.output = w.output
  size : w.heap.size ≤ w'.heap.size
  block : ∀ x, x < w.heap.size → x < lo → x ≠ g → w'.heap[x]? = w.heap[x]?
theorem FrG.refl (g lo : Nat) (w : World) : FrG g lo w w := ⟨rfl, rfl, rfl, Nat.le_refl _, fun _ _ _ _ => rfl⟩
theorem FrG.trans {g lo : Nat} {a b c : World} (h : FrG g lo a b) (k : FrG g lo b c) : FrG g lo a c :=
  ⟨k.os.trans h.os, k.tape.trans h.tape, k.output.trans h.output, Nat.le_trans h.size k.size, fun x h1 h2 h3 => (k.block x (Nat.lt_of_lt_of_le h1 h.size) h2 h3).trans (h.block x h1 h2 h3)⟩
theorem FrG.set {g lo j : Nat} {a b : World} (h : FrG g lo a b) (u : Value) : FrG g lo a (b.setCell ⟨g, j, none⟩ u) :=
  ⟨h.os, h.tape, h.output, by simpa using h.size, fun x h1 h2 h3 => (Below.heap_setCell b ⟨g, j, none⟩ u x (fun e => h3 e)).trans (h.block x h1 h2 h3)⟩
theorem FrG.grown {g lo : Nat} {a b c : World} {row : Option Nat} (h : FrG g lo a b) (k : b.grownBy c row) (hr : ∀ x, row = some x → lo ≤ x) : FrG g lo a c :=
  ⟨k.os.trans h.os, k.tape.trans h.tape, k.output.trans h.output, Nat.le_trans h.size k.size, fun x h1 h2 h3 => (k.block x (Nat.lt_of_lt_of_le h1 h.size) (fun e => by have := hr x e.symm; omega)).trans (h.block x h1 h2 h3)⟩
theorem FrG.below {g lo B : Nat} {a b w : World} (h : FrG g lo a b) (hb : Below B w a) (h1 : B ≤ lo) (h2 : B ≤ g) (h3 : B ≤ a.heap.size) : Below B w b :=
  hb.trans ⟨h.os, h.tape, h.output, h.size, fun x hx => h.block x (by omega) (by omega) (by omega)⟩
theorem StG.of {w : World} {lo : Nat} {s : LSt} {arr : Array Value} (h : StO w lo s (.agg arr)) : StG (w.alloc (.cells arr 32)) w.heap.size lo s := by
  obtain ⟨A0, c0, A1, c1, A3, c3, A4, c4, A5, c5, A6, c6, A7, c7, b0, b1, b3, b4, b5, b6, b7, he, r0, r1, r3, r4, r5, r6, r7, hl, d1, d2⟩ := h
  injection he with he
  subst he
  refine ⟨A0, c0, A1, c1, A3, c3, A4, c4, A5, c5, A6, c6, A7, c7, b0, b1, b3, b4, b5, b6, b7, blk_new _ _, r0.alloc _, r1.alloc _, r3.alloc _, r4.alloc _, r5.alloc _, r6.alloc _, r7.alloc _, fun b hb x hx => ⟨hl b hb x hx, ?_⟩, d1, d2⟩
  subst hx
  simp at hb
  rcases hb with e | e | e | e | e | e | e
  · have := r0.lt _ e.symm; omega
  · have := r1.lt _ e.symm; omega
  · have := r3.lt _ e.symm; omega
  · have := r4.lt _ e.symm; omega
  · have := r5.lt _ e.symm; omega
  · have := r6.lt _ e.symm; omega
  · have := r7.lt _ e.symm; omega
theorem StG.o {w : World} {g lo : Nat} {s : LSt} (h : StG w g lo s) : ∃ arr, w.heap[g]? = some (.cells arr 32 (0, 0)) ∧ StO w lo s (.agg arr) := by
  obtain ⟨A0, c0, A1, c1, A3, c3, A4, c4, A5, c5, A6, c6, A7, c7, b0, b1, b3, b4, b5, b6, b7, hg, r0, r1, r3, r4, r5, r6, r7, hl, d1, d2⟩ := h
  exact ⟨_, hg, A0, c0, A1, c1, A3, c3, A4, c4, A5, c5, A6, c6, A7, c7, b0, b1, b3, b4, b5, b6, b7, rfl, r0, r1, r3, r4, r5, r6, r7, fun b hb x hx => (hl b hb x hx).1, d1, d2⟩
theorem StG.lt {w : World} {g lo : Nat} {s : LSt} (h : StG w g lo s) : g < w.heap.size := by
  obtain ⟨arr, hg, _⟩ := h.o
  exact blk_lt hg
theorem StG.call {w w1 : World} {g lo : Nat} {s : LSt} (h : StG w g lo s) (hb : Below w.heap.size w w1) : StG w1 g lo s := by
  obtain ⟨A0, c0, A1, c1, A3, c3, A4, c4, A5, c5, A6, c6, A7, c7, b0, b1, b3, b4, b5, b6, b7, hg, r0, r1, r3, r4, r5, r6, r7, hl, d1, d2⟩ := h
  exact ⟨A0, c0, A1, c1, A3, c3, A4, c4, A5, c5, A6, c6, A7, c7, b0, b1, b3, b4, b5, b6, b7, blk_call hg hb, r0.call hb, r1.call hb, r3.call hb, r4.call hb, r5.call hb, r6.call hb, r7.call hb, hl, d1, d2⟩
set_option maxRecDepth 100000 in
set_option maxHeartbeats 1000000 in
theorem pushes_calls (s : LSt) (n : Int) (g lo : Nat) (w : World) (hG : StG w g lo s) (hlo : lo ≤ w.heap.size) (hl : s.data.length ≤ 1048576) :
    Calls Tryd.prog 63 #[.pointer (some ⟨g, 0, none⟩), .int .i32 n] w fun e w' => e = .returned (.tuple #[]) ∧ StG w' g lo (pushSt s n) ∧ FrG g lo w w' := by
  obtain ⟨A0, c0, A1, c1, A3, c3, A4, c4, A5, c5, A6, c6, A7, c7, b0, b1, b3, b4, b5, b6, b7, hg, r0, r1, r3, r4, r5, r6, r7, hL, d1, d2⟩ := hG
  have cc := blk_cell hg
  have ff := blk_frozen hg
  have zz := blk_lt hg
  have HG := Lib.hid hg
  have L0 : Hid (∀ x, b0 = some x → lo ≤ x ∧ x ≠ g) := Lib.hid (fun x e => hL _ (by simp) x e)
  have H0 := Lib.hid r0
  have L1 : Hid (∀ x, b1 = some x → lo ≤ x ∧ x ≠ g) := Lib.hid (fun x e => hL _ (by simp) x e)
  have H1 := Lib.hid r1
  have L3 : Hid (∀ x, b3 = some x → lo ≤ x ∧ x ≠ g) := Lib.hid (fun x e => hL _ (by simp) x e)
  have H3 := Lib.hid r3
  have L4 : Hid (∀ x, b4 = some x → lo ≤ x ∧ x ≠ g) := Lib.hid (fun x e => hL _ (by simp) x e)
  have H4 := Lib.hid r4
  have L5 : Hid (∀ x, b5 = some x → lo ≤ x ∧ x ≠ g) := Lib.hid (fun x e => hL _ (by simp) x e)
  have H5 := Lib.hid r5
  have L6 : Hid (∀ x, b6 = some x → lo ≤ x ∧ x ≠ g) := Lib.hid (fun x e => hL _ (by simp) x e)
  have H6 := Lib.hid r6
  have L7 : Hid (∀ x, b7 = some x → lo ≤ x ∧ x ≠ g) := Lib.hid (fun x e => hL _ (by simp) x e)
  have H7 := Lib.hid r7
  have N1 : Hid (b1 = none ∨ b1 ≠ b0) := Lib.hid (Row.ne_type r1 r0 (by decide))
  have N3 : Hid (b3 = none ∨ b3 ≠ b0) := Lib.hid (ne_symm d1)
  have N4 : Hid (b4 = none ∨ b4 ≠ b0) := Lib.hid (Row.ne_type r4 r0 (by decide))
  have N5 : Hid (b5 = none ∨ b5 ≠ b0) := Lib.hid (Row.ne_type r5 r0 (by decide))
  have N6 : Hid (b6 = none ∨ b6 ≠ b0) := Lib.hid (Row.ne_type r6 r0 (by decide))
  have N7 : Hid (b7 = none ∨ b7 ≠ b0) := Lib.hid (Row.ne_type r7 r0 (by decide))
  have D1 := Lib.hid d1
  have D2 := Lib.hid d2
  clear hg r0 r1 r3 r4 r5 r6 r7 hL d1 d2
  by_cases h16 : s.data.length = 16
  · have e16 : ((s.data.length : Int) == 16) = true := by simp; omega
    have HP : Hid (pushSt s n = { s with fault := 2 }) := Lib.hid (by simp [pushSt, h16])
    have H16 := Lib.hid h16
    clear h16
    go_enter Tryd.func63, Tryd.ntmps63
    go_wp2_with fail
    refine bodyPost_ret (results_none rfl _ _ _) rfl ?_
    refine ⟨rfl, ?_, (FrG.refl g lo w).set _⟩
    rw [HP.out]
    exact ⟨A0, c0, A1, c1, A3, c3, A4, c4, A5, c5, A6, c6, A7, c7, b0, b1, b3, b4, b5, b6, b7, blk_set HG.out 8 _, H0.out.far (p := ⟨g, 8, none⟩) (fun e => (L0.out _ e).2 rfl) _, H1.out.far (p := ⟨g, 8, none⟩) (fun e => (L1.out _ e).2 rfl) _, H3.out.far (p := ⟨g, 8, none⟩) (fun e => (L3.out _ e).2 rfl) _, H4.out.far (p := ⟨g, 8, none⟩) (fun e => (L4.out _ e).2 rfl) _, H5.out.far (p := ⟨g, 8, none⟩) (fun e => (L5.out _ e).2 rfl) _, H6.out.far (p := ⟨g, 8, none⟩) (fun e => (L6.out _ e).2 rfl) _, H7.out.far (p := ⟨g, 8, none⟩) (fun e => (L7.out _ e).2 rfl) _, fun b hb x hx => by
      simp at hb
      rcases hb with rfl | rfl | rfl | rfl | rfl | rfl | rfl
      · exact L0.out x hx
      · exact L1.out x hx
      · exact L3.out x hx
      · exact L4.out x hx
      · exact L5.out x hx
      · exact L6.out x hx
      · exact L7.out x hx
      , D1.out, D2.out⟩
  · have e16 : ((s.data.length : Int) == 16) = false := by simp; omega
    have HP : Hid (pushSt s n = { s with data := s.data ++ [n] }) := Lib.hid (by simp [pushSt, h16])
    clear h16
    go_enter Tryd.func63, Tryd.ntmps63
    go_wp2_with (at_builtin; refine wp_append1s _ (m := w.heap.size) rfl rfl _ _ 22 rfl 21 (.int .i32 0) 1 4 Tryd.underlying22 info_Int32 rfl (by decide) rfl H0.out rfl rfl ?_ ?_ ?_ ?_; (intro u hu; simp at hu; subst hu; rfl); (unfold maxLen; omega); omega; intro B d w1 b hR hg1 hb1; have HR := Lib.hid hR; have HG1 := Lib.hid hg1; have HB1 := Lib.hid hb1; have K1 := Lib.hid ((hg1.block g zz (fun e => (L0.out g e.symm).2 rfl)).trans HG.out); have cq1 := blk_cell K1.out; have fq1 := blk_frozen K1.out; have zq1 := blk_lt K1.out; clear hR hg1 hb1)
    go_end0
    have LB : ∀ x, b = some x → lo ≤ x ∧ x ≠ g := fun x e => by
      rcases HB1.out with h | ⟨y, h, hy⟩
      · exact L0.out x (h.symm.trans e)
      · rw [h] at e; cases e; exact ⟨by omega, by omega⟩
    refine ⟨rfl, ?_, (FrG.grown (FrG.refl g lo w) HG1.out (fun x e => (L0.out x e).1)).set _⟩
    rw [HP.out]
    refine ⟨B, d, A1, c1, A3, c3, A4, c4, A5, c5, A6, c6, A7, c7, b, b1, b3, b4, b5, b6, b7, ?_, ?_, (H1.out.grown HG1.out N1.out).far (p := ⟨g, 0, none⟩) (fun e => (L1.out _ e).2 rfl) _, (H3.out.grown HG1.out N3.out).far (p := ⟨g, 0, none⟩) (fun e => (L3.out _ e).2 rfl) _, (H4.out.grown HG1.out N4.out).far (p := ⟨g, 0, none⟩) (fun e => (L4.out _ e).2 rfl) _, (H5.out.grown HG1.out N5.out).far (p := ⟨g, 0, none⟩) (fun e => (L5.out _ e).2 rfl) _, (H6.out.grown HG1.out N6.out).far (p := ⟨g, 0, none⟩) (fun e => (L6.out _ e).2 rfl) _, (H7.out.grown HG1.out N7.out).far (p := ⟨g, 0, none⟩) (fun e => (L7.out _ e).2 rfl) _, ?_, ?_, D2.out⟩
    · have := blk_set K1.out 0 (.slice B (s.data.length + 1) d)
      simpa using this
    · have := HR.out.far (p := ⟨g, 0, none⟩) (fun e => (LB _ e).2 rfl) (.slice B (s.data.length + 1) d)
      simpa using this
    · intro b' hb x hx
      simp at hb
      rcases hb with rfl | rfl | rfl | rfl | rfl | rfl | rfl
      · exact LB x hx
      · exact L1.out x hx
      · exact L3.out x hx
      · exact L4.out x hx
      · exact L5.out x hx
      · exact L6.out x hx
      · exact L7.out x hx
    · rcases HB1.out with h | ⟨y, h, hy⟩
      · rw [h]; exact D1.out
      · rw [h]
        exact .inr (fun e => by have := H3.out.lt _ e.symm; omega)
end Go.Proofs.YtgljbcdlldhlfaaDoor

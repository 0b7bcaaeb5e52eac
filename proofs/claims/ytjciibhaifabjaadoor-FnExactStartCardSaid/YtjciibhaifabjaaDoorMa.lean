/- Machines: Start; contracts of the laws' helpers over machines. -/
import Derived.Test.YtjciibhaifabjaaDoorPn
import Derived.Test.YtjciibhaifabjaaDoorCo
import Derived.Test.YtjciibhaifabjaaDoorT
import Derived.Test.YtjciibhaifabjaaDoorZ
set_option linter.unusedVariables false
set_option linter.unusedSimpArgs false
namespace Go.Proofs.YtjciibhaifabjaaDoor
open Go.RowKit

def backSt (s : LSt) (n : Int) : LSt := if s.ret.length = 24 then { s with fault := 3 } else { s with ret := s.ret ++ [⟨2, n⟩] }
def putSlot (s : LSt) (k n : Int) : LSt := if s.ret.length = 24 then { s with fault := 3 } else { s with ret := s.ret ++ [⟨k, n⟩] }
def goOk (code : List LIns) (a : Int) (s : LSt) : Bool := codeOk code && (inB a 0 ((code.length : Int) - 1) && (stOk s && decide (s.fault = 0)))
def startS (code : List LIns) (a : Int) (s : LSt) : LSt := if goOk code a s = true then backSt s (-1) else zeroSt
def startA (code : List LIns) (a : Int) (s : LSt) : Int := if goOk code a s = true then a else 0
theorem StO.call2 {w w1 : World} {lo : Nat} {s : LSt} {v : Value} (h : StO w lo s v) (hb : Below w.heap.size w w1) : StO w1 lo s v := h.call hb
/-! ### in boxes -/
def StH (w : World) (g lo : Nat) (s : LSt) : Prop :=
  ∃ D0 d0 D1 d1 D3 d3 D4 d4 D5 d5 D6 d6 D7 d7 b0 b1 b3 b4 b5 b6 b7, w.heap[g]? = some (.cells #[.slice D0 s.data.length d0, .slice D1 s.ret.length d1, .int .i32 s.a, .slice D3 s.mem.length d3, .slice D4 s.cells.length d4, .slice D5 s.vars.length d5, .slice D6 s.out.length d6, .slice D7 s.inp.length d7, .int .i64 s.fault, .int .i64 s.fuel] 34 (0, 0)) ∧ Row w 21 1 D0 s.data.length d0 (s.data.map (Value.int .i32)) b0 ∧ Row w 76 2 D1 s.ret.length d1 (s.ret.flatMap LSlot.enc) b1 ∧ Row w 21 1 D3 s.mem.length d3 (s.mem.map (Value.int .i32)) b3 ∧ Row w 123 1 D4 s.cells.length d4 (s.cells.map (Value.int .u32)) b4 ∧ Row w 3 1 D5 s.vars.length d5 (s.vars.map (Value.int .i64)) b5 ∧ Row w 5 1 D6 s.out.length d6 (s.out.map (Value.int .u8)) b6 ∧ Row w 5 1 D7 s.inp.length d7 (s.inp.map (Value.int .u8)) b7 ∧
    (∀ b ∈ [b0, b1, b3, b4, b5, b6, b7], ∀ x, b = some x → lo ≤ x ∧ x ≠ g) ∧ (b0 = none ∨ b0 ≠ b3) ∧ (b6 = none ∨ b6 ≠ b7)
theorem StH.of {w : World} {lo : Nat} {s : LSt} {D0 D1 D3 D4 D5 D6 D7 : Option Addr} {d0 d1 d3 d4 d5 d6 d7 : Nat} (h : StO w lo s (.agg #[.slice D0 s.data.length d0, .slice D1 s.ret.length d1, .int .i32 s.a, .slice D3 s.mem.length d3, .slice D4 s.cells.length d4, .slice D5 s.vars.length d5, .slice D6 s.out.length d6, .slice D7 s.inp.length d7, .int .i64 s.fault, .int .i64 s.fuel])) : StH (w.alloc (.cells #[.slice D0 s.data.length d0, .slice D1 s.ret.length d1, .int .i32 s.a, .slice D3 s.mem.length d3, .slice D4 s.cells.length d4, .slice D5 s.vars.length d5, .slice D6 s.out.length d6, .slice D7 s.inp.length d7, .int .i64 s.fault, .int .i64 s.fuel] 34)) w.heap.size lo s := by
  obtain ⟨E0, e0, E1, e1, E3, e3, E4, e4, E5, e5, E6, e6, E7, e7, b0, b1, b3, b4, b5, b6, b7, he, r0, r1, r3, r4, r5, r6, r7, hl, x1, x2⟩ := h
  simp only [Value.agg.injEq, Array.mk.injEq, List.cons.injEq, Value.slice.injEq, and_true, true_and] at he
  obtain ⟨⟨rfl, rfl⟩, ⟨rfl, rfl⟩, ⟨rfl, rfl⟩, ⟨rfl, rfl⟩, ⟨rfl, rfl⟩, ⟨rfl, rfl⟩, ⟨rfl, rfl⟩⟩ := he
  refine ⟨D0, d0, D1, d1, D3, d3, D4, d4, D5, d5, D6, d6, D7, d7, b0, b1, b3, b4, b5, b6, b7, blk_new _ _, r0.alloc _, r1.alloc _, r3.alloc _, r4.alloc _, r5.alloc _, r6.alloc _, r7.alloc _, fun b hb x hx => ⟨hl b hb x hx, ?_⟩, x1, x2⟩
  subst hx
  simp at hb
  rcases hb with e | e | e | e | e | e | e
  · have := r0.lt _ e.symm; omega
  · have := r1.lt _ e.symm; omega
  · have := r3.lt _ e.symm; omega
  · have := r4.lt _ e.symm; omega
  · have := r5.lt _ e.symm; omega
  · have := r6.lt _ e.symm; omega
  · have := r7.lt _ e.symm; omega
theorem StH.o {w : World} {g lo : Nat} {s : LSt} (h : StH w g lo s) : ∃ D0 d0 D1 d1 D3 d3 D4 d4 D5 d5 D6 d6 D7 d7, w.heap[g]? = some (.cells #[.slice D0 s.data.length d0, .slice D1 s.ret.length d1, .int .i32 s.a, .slice D3 s.mem.length d3, .slice D4 s.cells.length d4, .slice D5 s.vars.length d5, .slice D6 s.out.length d6, .slice D7 s.inp.length d7, .int .i64 s.fault, .int .i64 s.fuel] 34 (0, 0)) ∧ StO w lo s (.agg #[.slice D0 s.data.length d0, .slice D1 s.ret.length d1, .int .i32 s.a, .slice D3 s.mem.length d3, .slice D4 s.cells.length d4, .slice D5 s.vars.length d5, .slice D6 s.out.length d6, .slice D7 s.inp.length d7, .int .i64 s.fault, .int .i64 s.fuel]) := by
  obtain ⟨D0, d0, D1, d1, D3, d3, D4, d4, D5, d5, D6, d6, D7, d7, b0, b1, b3, b4, b5, b6, b7, hg, r0, r1, r3, r4, r5, r6, r7, hl, x1, x2⟩ := h
  exact ⟨D0, d0, D1, d1, D3, d3, D4, d4, D5, d5, D6, d6, D7, d7, hg, D0, d0, D1, d1, D3, d3, D4, d4, D5, d5, D6, d6, D7, d7, b0, b1, b3, b4, b5, b6, b7, rfl, r0, r1, r3, r4, r5, r6, r7, fun b hb x hx => (hl b hb x hx).1, x1, x2⟩
theorem StH.fault {w : World} {g lo : Nat} {s : LSt} (h : StH w g lo s) (f : Int) : StH (w.setCell ⟨g, 8, none⟩ (.int .i64 f)) g lo { s with fault := f } := by
  obtain ⟨D0, d0, D1, d1, D3, d3, D4, d4, D5, d5, D6, d6, D7, d7, b0, b1, b3, b4, b5, b6, b7, hg, r0, r1, r3, r4, r5, r6, r7, hl, x1, x2⟩ := h
  exact ⟨D0, d0, D1, d1, D3, d3, D4, d4, D5, d5, D6, d6, D7, d7, b0, b1, b3, b4, b5, b6, b7, blk_set hg 8 _, r0.far (p := ⟨g, 8, none⟩) (fun e => (hl _ (by simp) _ e).2 rfl) _, r1.far (p := ⟨g, 8, none⟩) (fun e => (hl _ (by simp) _ e).2 rfl) _, r3.far (p := ⟨g, 8, none⟩) (fun e => (hl _ (by simp) _ e).2 rfl) _, r4.far (p := ⟨g, 8, none⟩) (fun e => (hl _ (by simp) _ e).2 rfl) _, r5.far (p := ⟨g, 8, none⟩) (fun e => (hl _ (by simp) _ e).2 rfl) _, r6.far (p := ⟨g, 8, none⟩) (fun e => (hl _ (by simp) _ e).2 rfl) _, r7.far (p := ⟨g, 8, none⟩) (fun e => (hl _ (by simp) _ e).2 rfl) _, hl, x1, x2⟩
/-- A slot put behind Ret: what the walk asks, and what comes of it. -/
theorem StH.app {w : World} {g lo : Nat} {s : LSt} (h : StH w g lo s) (hlo : lo ≤ w.heap.size) : ∃ D0 d0 D1 d1 D3 d3 D4 d4 D5 d5 D6 d6 D7 d7 b1, w.heap[g]? = some (.cells #[.slice D0 s.data.length d0, .slice D1 s.ret.length d1, .int .i32 s.a, .slice D3 s.mem.length d3, .slice D4 s.cells.length d4, .slice D5 s.vars.length d5, .slice D6 s.out.length d6, .slice D7 s.inp.length d7, .int .i64 s.fault, .int .i64 s.fuel] 34 (0, 0)) ∧ Row w 76 2 D1 s.ret.length d1 (s.ret.flatMap LSlot.enc) b1 ∧ (∀ x, b1 = some x → lo ≤ x ∧ x ≠ g) ∧
    ∀ (k n : Int) (B : Option Addr) (d : Nat) (w' : World) (b' : Option Nat), Row w' 76 2 B (s.ret.length + 1) d (s.ret.flatMap LSlot.enc ++ [.int .i64 k, .int .i32 n]) b' → w.grownBy w' b1 → (b' = b1 ∨ ∃ y, b' = some y ∧ w.heap.size ≤ y) →
      StH (w'.setCell ⟨g, 1, none⟩ (.slice B (s.ret.length + 1) d)) g lo { s with ret := s.ret ++ [⟨k, n⟩] } ∧ FrG g lo w (w'.setCell ⟨g, 1, none⟩ (.slice B (s.ret.length + 1) d)) ∧ StO (w'.setCell ⟨g, 1, none⟩ (.slice B (s.ret.length + 1) d)) lo { s with ret := s.ret ++ [⟨k, n⟩] } (.agg #[.slice D0 s.data.length d0, .slice B (s.ret.length + 1) d, .int .i32 s.a, .slice D3 s.mem.length d3, .slice D4 s.cells.length d4, .slice D5 s.vars.length d5, .slice D6 s.out.length d6, .slice D7 s.inp.length d7, .int .i64 s.fault, .int .i64 s.fuel]) := by
  obtain ⟨D0, d0, D1, d1, D3, d3, D4, d4, D5, d5, D6, d6, D7, d7, b0, b1, b3, b4, b5, b6, b7, hg, r0, r1, r3, r4, r5, r6, r7, hL, x1, x2⟩ := h
  have zz := blk_lt hg
  have L1 : ∀ x, b1 = some x → lo ≤ x ∧ x ≠ g := fun x e => hL _ (by simp) x e
  refine ⟨D0, d0, D1, d1, D3, d3, D4, d4, D5, d5, D6, d6, D7, d7, b1, hg, r1, L1, fun k n B d w' b' hR hG hB => ?_⟩
  have K1 := (hG.block g zz (fun e => (L1 g e.symm).2 rfl)).trans hg
  have LB : ∀ x, b' = some x → lo ≤ x ∧ x ≠ g := fun x e => by
    rcases hB with h | ⟨y, h, hy⟩
    · exact L1 x (h.symm.trans e)
    · rw [h] at e; cases e; exact ⟨by omega, by omega⟩
  have R1 : Row (w'.setCell ⟨g, 1, none⟩ (.slice B (s.ret.length + 1) d)) 76 2 B (s.ret ++ [(⟨k, n⟩ : LSlot)]).length d ((s.ret ++ [(⟨k, n⟩ : LSlot)]).flatMap LSlot.enc) b' := by
    have := hR.far (p := ⟨g, 1, none⟩) (fun e => (LB _ e).2 rfl) (.slice B (s.ret.length + 1) d)
    simpa [LSlot.enc] using this
  have R0 := (r0.grown hG (Row.ne_type r0 r1 (by decide))).far (p := ⟨g, 1, none⟩) (fun e => (hL _ (by simp) _ e).2 rfl) (.slice B (s.ret.length + 1) d)
  have R3 := (r3.grown hG (Row.ne_type r3 r1 (by decide))).far (p := ⟨g, 1, none⟩) (fun e => (hL _ (by simp) _ e).2 rfl) (.slice B (s.ret.length + 1) d)
  have R4 := (r4.grown hG (Row.ne_type r4 r1 (by decide))).far (p := ⟨g, 1, none⟩) (fun e => (hL _ (by simp) _ e).2 rfl) (.slice B (s.ret.length + 1) d)
  have R5 := (r5.grown hG (Row.ne_type r5 r1 (by decide))).far (p := ⟨g, 1, none⟩) (fun e => (hL _ (by simp) _ e).2 rfl) (.slice B (s.ret.length + 1) d)
  have R6 := (r6.grown hG (Row.ne_type r6 r1 (by decide))).far (p := ⟨g, 1, none⟩) (fun e => (hL _ (by simp) _ e).2 rfl) (.slice B (s.ret.length + 1) d)
  have R7 := (r7.grown hG (Row.ne_type r7 r1 (by decide))).far (p := ⟨g, 1, none⟩) (fun e => (hL _ (by simp) _ e).2 rfl) (.slice B (s.ret.length + 1) d)
  have hl2 : ∀ b ∈ [b0, b', b3, b4, b5, b6, b7], ∀ x, b = some x → lo ≤ x ∧ x ≠ g := by
    intro b hb x hx
    simp at hb
    rcases hb with rfl | rfl | rfl | rfl | rfl | rfl | rfl
    · exact hL _ (by simp) x hx
    · exact LB x hx
    · exact hL _ (by simp) x hx
    · exact hL _ (by simp) x hx
    · exact hL _ (by simp) x hx
    · exact hL _ (by simp) x hx
    · exact hL _ (by simp) x hx
  refine ⟨⟨D0, d0, B, d, D3, d3, D4, d4, D5, d5, D6, d6, D7, d7, b0, b', b3, b4, b5, b6, b7, ?_, R0, R1, R3, R4, R5, R6, R7, hl2, x1, x2⟩, (FrG.grown (FrG.refl g lo w) hG (fun x e => (L1 x e).1)).set _, ⟨D0, d0, B, d, D3, d3, D4, d4, D5, d5, D6, d6, D7, d7, b0, b', b3, b4, b5, b6, b7, by simp, R0, R1, R3, R4, R5, R6, R7, fun b hb x hx => (hl2 b hb x hx).1, x1, x2⟩⟩
  have := blk_set K1 1 (.slice B (s.ret.length + 1) d)
  simpa using this
def MG (w : World) (g lo : Nat) (s : LSt) (a : Int) (dn : Bool) : Prop :=
  ∃ D0 d0 D1 d1 D3 d3 D4 d4 D5 d5 D6 d6 D7 d7 b0 b1 b3 b4 b5 b6 b7, w.heap[g]? = some (.cells #[.slice D0 s.data.length d0, .slice D1 s.ret.length d1, .int .i32 s.a, .slice D3 s.mem.length d3, .slice D4 s.cells.length d4, .slice D5 s.vars.length d5, .slice D6 s.out.length d6, .slice D7 s.inp.length d7, .int .i64 s.fault, .int .i64 s.fuel, .int .i64 a, .bool dn] 36 (0, 0)) ∧ Row w 21 1 D0 s.data.length d0 (s.data.map (Value.int .i32)) b0 ∧ Row w 76 2 D1 s.ret.length d1 (s.ret.flatMap LSlot.enc) b1 ∧ Row w 21 1 D3 s.mem.length d3 (s.mem.map (Value.int .i32)) b3 ∧ Row w 123 1 D4 s.cells.length d4 (s.cells.map (Value.int .u32)) b4 ∧ Row w 3 1 D5 s.vars.length d5 (s.vars.map (Value.int .i64)) b5 ∧ Row w 5 1 D6 s.out.length d6 (s.out.map (Value.int .u8)) b6 ∧ Row w 5 1 D7 s.inp.length d7 (s.inp.map (Value.int .u8)) b7 ∧
    (∀ b ∈ [b0, b1, b3, b4, b5, b6, b7], ∀ x, b = some x → lo ≤ x ∧ x ≠ g) ∧ (b0 = none ∨ b0 ≠ b3) ∧ (b6 = none ∨ b6 ≠ b7)
theorem MG.of {w : World} {lo : Nat} {s : LSt} {a : Int} {dn : Bool} {D0 D1 D3 D4 D5 D6 D7 : Option Addr} {d0 d1 d3 d4 d5 d6 d7 : Nat} (h : StO w lo s (.agg #[.slice D0 s.data.length d0, .slice D1 s.ret.length d1, .int .i32 s.a, .slice D3 s.mem.length d3, .slice D4 s.cells.length d4, .slice D5 s.vars.length d5, .slice D6 s.out.length d6, .slice D7 s.inp.length d7, .int .i64 s.fault, .int .i64 s.fuel])) : MG (w.alloc (.cells #[.slice D0 s.data.length d0, .slice D1 s.ret.length d1, .int .i32 s.a, .slice D3 s.mem.length d3, .slice D4 s.cells.length d4, .slice D5 s.vars.length d5, .slice D6 s.out.length d6, .slice D7 s.inp.length d7, .int .i64 s.fault, .int .i64 s.fuel, .int .i64 a, .bool dn] 36)) w.heap.size lo s a dn := by
  obtain ⟨E0, e0, E1, e1, E3, e3, E4, e4, E5, e5, E6, e6, E7, e7, b0, b1, b3, b4, b5, b6, b7, he, r0, r1, r3, r4, r5, r6, r7, hl, x1, x2⟩ := h
  simp only [Value.agg.injEq, Array.mk.injEq, List.cons.injEq, Value.slice.injEq, and_true, true_and] at he
  obtain ⟨⟨rfl, rfl⟩, ⟨rfl, rfl⟩, ⟨rfl, rfl⟩, ⟨rfl, rfl⟩, ⟨rfl, rfl⟩, ⟨rfl, rfl⟩, ⟨rfl, rfl⟩⟩ := he
  refine ⟨D0, d0, D1, d1, D3, d3, D4, d4, D5, d5, D6, d6, D7, d7, b0, b1, b3, b4, b5, b6, b7, blk_new _ _, r0.alloc _, r1.alloc _, r3.alloc _, r4.alloc _, r5.alloc _, r6.alloc _, r7.alloc _, fun b hb x hx => ⟨hl b hb x hx, ?_⟩, x1, x2⟩
  subst hx
  simp at hb
  rcases hb with e | e | e | e | e | e | e
  · have := r0.lt _ e.symm; omega
  · have := r1.lt _ e.symm; omega
  · have := r3.lt _ e.symm; omega
  · have := r4.lt _ e.symm; omega
  · have := r5.lt _ e.symm; omega
  · have := r6.lt _ e.symm; omega
  · have := r7.lt _ e.symm; omega
theorem MG.o {w : World} {g lo : Nat} {s : LSt} {a : Int} {dn : Bool} (h : MG w g lo s a dn) : ∃ D0 d0 D1 d1 D3 d3 D4 d4 D5 d5 D6 d6 D7 d7, w.heap[g]? = some (.cells #[.slice D0 s.data.length d0, .slice D1 s.ret.length d1, .int .i32 s.a, .slice D3 s.mem.length d3, .slice D4 s.cells.length d4, .slice D5 s.vars.length d5, .slice D6 s.out.length d6, .slice D7 s.inp.length d7, .int .i64 s.fault, .int .i64 s.fuel, .int .i64 a, .bool dn] 36 (0, 0)) ∧ StO w lo s (.agg #[.slice D0 s.data.length d0, .slice D1 s.ret.length d1, .int .i32 s.a, .slice D3 s.mem.length d3, .slice D4 s.cells.length d4, .slice D5 s.vars.length d5, .slice D6 s.out.length d6, .slice D7 s.inp.length d7, .int .i64 s.fault, .int .i64 s.fuel]) := by
  obtain ⟨D0, d0, D1, d1, D3, d3, D4, d4, D5, d5, D6, d6, D7, d7, b0, b1, b3, b4, b5, b6, b7, hg, r0, r1, r3, r4, r5, r6, r7, hl, x1, x2⟩ := h
  exact ⟨D0, d0, D1, d1, D3, d3, D4, d4, D5, d5, D6, d6, D7, d7, hg, D0, d0, D1, d1, D3, d3, D4, d4, D5, d5, D6, d6, D7, d7, b0, b1, b3, b4, b5, b6, b7, rfl, r0, r1, r3, r4, r5, r6, r7, fun b hb x hx => (hl b hb x hx).1, x1, x2⟩
theorem MG.fault {w : World} {g lo : Nat} {s : LSt} {a : Int} {dn : Bool} (h : MG w g lo s a dn) (f : Int) : MG (w.setCell ⟨g, 8, none⟩ (.int .i64 f)) g lo { s with fault := f } a dn := by
  obtain ⟨D0, d0, D1, d1, D3, d3, D4, d4, D5, d5, D6, d6, D7, d7, b0, b1, b3, b4, b5, b6, b7, hg, r0, r1, r3, r4, r5, r6, r7, hl, x1, x2⟩ := h
  exact ⟨D0, d0, D1, d1, D3, d3, D4, d4, D5, d5, D6, d6, D7, d7, b0, b1, b3, b4, b5, b6, b7, blk_set hg 8 _, r0.far (p := ⟨g, 8, none⟩) (fun e => (hl _ (by simp) _ e).2 rfl) _, r1.far (p := ⟨g, 8, none⟩) (fun e => (hl _ (by simp) _ e).2 rfl) _, r3.far (p := ⟨g, 8, none⟩) (fun e => (hl _ (by simp) _ e).2 rfl) _, r4.far (p := ⟨g, 8, none⟩) (fun e => (hl _ (by simp) _ e).2 rfl) _, r5.far (p := ⟨g, 8, none⟩) (fun e => (hl _ (by simp) _ e).2 rfl) _, r6.far (p := ⟨g, 8, none⟩) (fun e => (hl _ (by simp) _ e).2 rfl) _, r7.far (p := ⟨g, 8, none⟩) (fun e => (hl _ (by simp) _ e).2 rfl) _, hl, x1, x2⟩
/-- A slot put behind Ret: what the walk asks, and what comes of it. -/
theorem MG.app {w : World} {g lo : Nat} {s : LSt} {a : Int} {dn : Bool} (h : MG w g lo s a dn) (hlo : lo ≤ w.heap.size) : ∃ D0 d0 D1 d1 D3 d3 D4 d4 D5 d5 D6 d6 D7 d7 b1, w.heap[g]? = some (.cells #[.slice D0 s.data.length d0, .slice D1 s.ret.length d1, .int .i32 s.a, .slice D3 s.mem.length d3, .slice D4 s.cells.length d4, .slice D5 s.vars.length d5, .slice D6 s.out.length d6, .slice D7 s.inp.length d7, .int .i64 s.fault, .int .i64 s.fuel, .int .i64 a, .bool dn] 36 (0, 0)) ∧ Row w 76 2 D1 s.ret.length d1 (s.ret.flatMap LSlot.enc) b1 ∧ (∀ x, b1 = some x → lo ≤ x ∧ x ≠ g) ∧
    ∀ (k n : Int) (B : Option Addr) (d : Nat) (w' : World) (b' : Option Nat), Row w' 76 2 B (s.ret.length + 1) d (s.ret.flatMap LSlot.enc ++ [.int .i64 k, .int .i32 n]) b' → w.grownBy w' b1 → (b' = b1 ∨ ∃ y, b' = some y ∧ w.heap.size ≤ y) →
      MG (w'.setCell ⟨g, 1, none⟩ (.slice B (s.ret.length + 1) d)) g lo { s with ret := s.ret ++ [⟨k, n⟩] } a dn ∧ FrG g lo w (w'.setCell ⟨g, 1, none⟩ (.slice B (s.ret.length + 1) d)) ∧ StO (w'.setCell ⟨g, 1, none⟩ (.slice B (s.ret.length + 1) d)) lo { s with ret := s.ret ++ [⟨k, n⟩] } (.agg #[.slice D0 s.data.length d0, .slice B (s.ret.length + 1) d, .int .i32 s.a, .slice D3 s.mem.length d3, .slice D4 s.cells.length d4, .slice D5 s.vars.length d5, .slice D6 s.out.length d6, .slice D7 s.inp.length d7, .int .i64 s.fault, .int .i64 s.fuel]) := by
  obtain ⟨D0, d0, D1, d1, D3, d3, D4, d4, D5, d5, D6, d6, D7, d7, b0, b1, b3, b4, b5, b6, b7, hg, r0, r1, r3, r4, r5, r6, r7, hL, x1, x2⟩ := h
  have zz := blk_lt hg
  have L1 : ∀ x, b1 = some x → lo ≤ x ∧ x ≠ g := fun x e => hL _ (by simp) x e
  refine ⟨D0, d0, D1, d1, D3, d3, D4, d4, D5, d5, D6, d6, D7, d7, b1, hg, r1, L1, fun k n B d w' b' hR hG hB => ?_⟩
  have K1 := (hG.block g zz (fun e => (L1 g e.symm).2 rfl)).trans hg
  have LB : ∀ x, b' = some x → lo ≤ x ∧ x ≠ g := fun x e => by
    rcases hB with h | ⟨y, h, hy⟩
    · exact L1 x (h.symm.trans e)
    · rw [h] at e; cases e; exact ⟨by omega, by omega⟩
  have R1 : Row (w'.setCell ⟨g, 1, none⟩ (.slice B (s.ret.length + 1) d)) 76 2 B (s.ret ++ [(⟨k, n⟩ : LSlot)]).length d ((s.ret ++ [(⟨k, n⟩ : LSlot)]).flatMap LSlot.enc) b' := by
    have := hR.far (p := ⟨g, 1, none⟩) (fun e => (LB _ e).2 rfl) (.slice B (s.ret.length + 1) d)
    simpa [LSlot.enc] using this
  have R0 := (r0.grown hG (Row.ne_type r0 r1 (by decide))).far (p := ⟨g, 1, none⟩) (fun e => (hL _ (by simp) _ e).2 rfl) (.slice B (s.ret.length + 1) d)
  have R3 := (r3.grown hG (Row.ne_type r3 r1 (by decide))).far (p := ⟨g, 1, none⟩) (fun e => (hL _ (by simp) _ e).2 rfl) (.slice B (s.ret.length + 1) d)
  have R4 := (r4.grown hG (Row.ne_type r4 r1 (by decide))).far (p := ⟨g, 1, none⟩) (fun e => (hL _ (by simp) _ e).2 rfl) (.slice B (s.ret.length + 1) d)
  have R5 := (r5.grown hG (Row.ne_type r5 r1 (by decide))).far (p := ⟨g, 1, none⟩) (fun e => (hL _ (by simp) _ e).2 rfl) (.slice B (s.ret.length + 1) d)
  have R6 := (r6.grown hG (Row.ne_type r6 r1 (by decide))).far (p := ⟨g, 1, none⟩) (fun e => (hL _ (by simp) _ e).2 rfl) (.slice B (s.ret.length + 1) d)
  have R7 := (r7.grown hG (Row.ne_type r7 r1 (by decide))).far (p := ⟨g, 1, none⟩) (fun e => (hL _ (by simp) _ e).2 rfl) (.slice B (s.ret.length + 1) d)
  have hl2 : ∀ b ∈ [b0, b', b3, b4, b5, b6, b7], ∀ x, b = some x → lo ≤ x ∧ x ≠ g := by
    intro b hb x hx
    simp at hb
    rcases hb with rfl | rfl | rfl | rfl | rfl | rfl | rfl
    · exact hL _ (by simp) x hx
    · exact LB x hx
    · exact hL _ (by simp) x hx
    · exact hL _ (by simp) x hx
    · exact hL _ (by simp) x hx
    · exact hL _ (by simp) x hx
    · exact hL _ (by simp) x hx
  refine ⟨⟨D0, d0, B, d, D3, d3, D4, d4, D5, d5, D6, d6, D7, d7, b0, b', b3, b4, b5, b6, b7, ?_, R0, R1, R3, R4, R5, R6, R7, hl2, x1, x2⟩, (FrG.grown (FrG.refl g lo w) hG (fun x e => (L1 x e).1)).set _, ⟨D0, d0, B, d, D3, d3, D4, d4, D5, d5, D6, d6, D7, d7, b0, b', b3, b4, b5, b6, b7, by simp, R0, R1, R3, R4, R5, R6, R7, fun b hb x hx => (hl2 b hb x hx).1, x1, x2⟩⟩
  have := blk_set K1 1 (.slice B (s.ret.length + 1) d)
  simpa using this
set_option maxRecDepth 100000 in
set_option maxHeartbeats 1000000 in
theorem back_calls (s : LSt) (a : Int) (dn : Bool) (n : Int) (g lo : Nat) (w : World) (hG : MG w g lo s a dn) (hlo : lo ≤ w.heap.size) (hl : s.ret.length ≤ 1048576) (hw : wrap32 n = n) :
    Calls Tryd.prog 86 #[.pointer (some ⟨g, 0, none⟩), .int .i64 n] w fun e w' => e = .returned (.bool (!decide (s.ret.length = 24))) ∧ MG w' g lo (backSt s n) a dn ∧ FrG g lo w w' := by
  by_cases h24 : s.ret.length = 24
  · have e24 : ((s.ret.length : Int) == 24) = true := by simp; omega
    have HE : Hid ((!decide (s.ret.length = 24)) = false) := Lib.hid (by simp [h24])
    have HP : Hid (backSt s n = { s with fault := 3 }) := Lib.hid (by simp [backSt, h24])
    have HG := Lib.hid hG
    obtain ⟨D0, d0, D1, d1, D3, d3, D4, d4, D5, d5, D6, d6, D7, d7, hg, -⟩ := hG.o
    have cc := blk_cell hg
    have ff := blk_frozen hg
    have zz := blk_lt hg
    clear h24 hG hg
    go_enter Tryd.func86, Tryd.ntmps86
    go_wp2_with fail
    go_ret
    refine ⟨ret_bool HE.out.symm, ?_, (FrG.refl g lo w).set _⟩
    rw [HP.out]
    exact HG.out.fault 3
  · have e24 : ((s.ret.length : Int) == 24) = false := by simp; omega
    have HE : Hid ((!decide (s.ret.length = 24)) = true) := Lib.hid (by simp [h24])
    have HP : Hid (backSt s n = { s with ret := s.ret ++ [⟨2, n⟩] }) := Lib.hid (by simp [backSt, h24])
    obtain ⟨D0, d0, D1, d1, D3, d3, D4, d4, D5, d5, D6, d6, D7, d7, b1, hg, r1, hL, hA⟩ := hG.app hlo
    have cc := blk_cell hg
    have ff := blk_frozen hg
    have zz := blk_lt hg
    have HG := Lib.hid hg
    have H1 := Lib.hid r1
    have L1 := Lib.hid hL
    have HA := Lib.hid hA
    clear h24 hG hg r1 hL hA
    go_enter Tryd.func86, Tryd.ntmps86
    go_wp2_with (at_builtin; refine wp_append1s _ (m := w.heap.size) (by first | rfl | simp) rfl _ _ 32 rfl 76 (.agg #[.int .i64 0, .int .i32 0]) 2 16 Tryd.underlying32 info_Slot rfl (by decide) rfl H1.out rfl rfl ?_ ?_ ?_ ?_; (intro u hu; simp at hu; rcases hu with rfl | rfl <;> rfl); (unfold maxLen; omega); omega; intro B d w5 b hR hg5 hb5; have HR := Lib.hid hR; have HG5 := Lib.hid hg5; have HB5 := Lib.hid hb5; have K5 := Lib.hid ((hg5.block g zz (fun e => (L1.out g e.symm).2 rfl)).trans HG.out); have cq5 := blk_cell K5.out; have fq5 := blk_frozen K5.out; have zq5 := blk_lt K5.out; clear hR hg5 hb5)
    go_ret
    have hh := HA.out 2 n B d w5 b (by simpa [hw] using HR.out) HG5.out HB5.out
    refine ⟨ret_bool HE.out.symm, ?_, hh.2.1⟩
    rw [HP.out]
    exact hh.1
def MO (w : World) (lo : Nat) (s : LSt) (a : Int) (dn : Bool) (v : Value) : Prop := ∃ D0 d0 D1 d1 D3 d3 D4 d4 D5 d5 D6 d6 D7 d7, v = .agg #[.slice D0 s.data.length d0, .slice D1 s.ret.length d1, .int .i32 s.a, .slice D3 s.mem.length d3, .slice D4 s.cells.length d4, .slice D5 s.vars.length d5, .slice D6 s.out.length d6, .slice D7 s.inp.length d7, .int .i64 s.fault, .int .i64 s.fuel, .int .i64 a, .bool dn] ∧ StO w lo s (.agg #[.slice D0 s.data.length d0, .slice D1 s.ret.length d1, .int .i32 s.a, .slice D3 s.mem.length d3, .slice D4 s.cells.length d4, .slice D5 s.vars.length d5, .slice D6 s.out.length d6, .slice D7 s.inp.length d7, .int .i64 s.fault, .int .i64 s.fuel])
def MK (w : World) (s : LSt) (a : Int) (dn : Bool) (v : Value) : Prop := ∃ D0 d0 D1 d1 D3 d3 D4 d4 D5 d5 D6 d6 D7 d7, v = .agg #[.slice D0 s.data.length d0, .slice D1 s.ret.length d1, .int .i32 s.a, .slice D3 s.mem.length d3, .slice D4 s.cells.length d4, .slice D5 s.vars.length d5, .slice D6 s.out.length d6, .slice D7 s.inp.length d7, .int .i64 s.fault, .int .i64 s.fuel, .int .i64 a, .bool dn] ∧ StK w s (.agg #[.slice D0 s.data.length d0, .slice D1 s.ret.length d1, .int .i32 s.a, .slice D3 s.mem.length d3, .slice D4 s.cells.length d4, .slice D5 s.vars.length d5, .slice D6 s.out.length d6, .slice D7 s.inp.length d7, .int .i64 s.fault, .int .i64 s.fuel])
def MI (w : World) (lo hi : Nat) (s : LSt) (a : Int) (dn : Bool) (v : Value) : Prop := ∃ D0 d0 D1 d1 D3 d3 D4 d4 D5 d5 D6 d6 D7 d7, v = .agg #[.slice D0 s.data.length d0, .slice D1 s.ret.length d1, .int .i32 s.a, .slice D3 s.mem.length d3, .slice D4 s.cells.length d4, .slice D5 s.vars.length d5, .slice D6 s.out.length d6, .slice D7 s.inp.length d7, .int .i64 s.fault, .int .i64 s.fuel, .int .i64 a, .bool dn] ∧ StI w lo hi s (.agg #[.slice D0 s.data.length d0, .slice D1 s.ret.length d1, .int .i32 s.a, .slice D3 s.mem.length d3, .slice D4 s.cells.length d4, .slice D5 s.vars.length d5, .slice D6 s.out.length d6, .slice D7 s.inp.length d7, .int .i64 s.fault, .int .i64 s.fuel])
theorem MO.i {w : World} {lo : Nat} {s : LSt} {a : Int} {dn : Bool} {v : Value} (h : MO w lo s a dn v) : MI w lo w.heap.size s a dn v := by
  obtain ⟨D0, d0, D1, d1, D3, d3, D4, d4, D5, d5, D6, d6, D7, d7, rfl, k⟩ := h
  exact ⟨D0, d0, D1, d1, D3, d3, D4, d4, D5, d5, D6, d6, D7, d7, rfl, k.i⟩
theorem MO.k {w : World} {lo : Nat} {s : LSt} {a : Int} {dn : Bool} {v : Value} (h : MO w lo s a dn v) : MK w s a dn v := by
  obtain ⟨D0, d0, D1, d1, D3, d3, D4, d4, D5, d5, D6, d6, D7, d7, rfl, k⟩ := h
  exact ⟨D0, d0, D1, d1, D3, d3, D4, d4, D5, d5, D6, d6, D7, d7, rfl, k.k⟩
theorem MI.o {w : World} {lo hi : Nat} {s : LSt} {a : Int} {dn : Bool} {v : Value} (h : MI w lo hi s a dn v) : MO w lo s a dn v := by
  obtain ⟨D0, d0, D1, d1, D3, d3, D4, d4, D5, d5, D6, d6, D7, d7, rfl, k⟩ := h
  exact ⟨D0, d0, D1, d1, D3, d3, D4, d4, D5, d5, D6, d6, D7, d7, rfl, k.o⟩
theorem MI.call {w : World} {lo hi : Nat} {s : LSt} {a : Int} {dn : Bool} {v : Value} (h : MI w lo hi s a dn v) {w1 : World} (hb : Below w.heap.size w w1) : MI w1 lo hi s a dn v := by
  obtain ⟨D0, d0, D1, d1, D3, d3, D4, d4, D5, d5, D6, d6, D7, d7, rfl, k⟩ := h
  exact ⟨D0, d0, D1, d1, D3, d3, D4, d4, D5, d5, D6, d6, D7, d7, rfl, k.call hb⟩
theorem MI.frame {w : World} {lo hi : Nat} {s : LSt} {a : Int} {dn : Bool} {v : Value} (h : MI w lo hi s a dn v) {w1 : World} {l1 h1 : Nat} (hf : Fr l1 h1 w w1) (hd : hi ≤ l1 ∨ h1 ≤ lo) : MI w1 lo hi s a dn v := by
  obtain ⟨D0, d0, D1, d1, D3, d3, D4, d4, D5, d5, D6, d6, D7, d7, rfl, k⟩ := h
  exact ⟨D0, d0, D1, d1, D3, d3, D4, d4, D5, d5, D6, d6, D7, d7, rfl, k.frame hf hd⟩
theorem MK.form {w : World} {s : LSt} {a : Int} {dn : Bool} {v : Value} (h : MK w s a dn v) : ∃ D0 d0 D1 d1 D3 d3 D4 d4 D5 d5 D6 d6 D7 d7, v = .agg #[.slice D0 s.data.length d0, .slice D1 s.ret.length d1, .int .i32 s.a, .slice D3 s.mem.length d3, .slice D4 s.cells.length d4, .slice D5 s.vars.length d5, .slice D6 s.out.length d6, .slice D7 s.inp.length d7, .int .i64 s.fault, .int .i64 s.fuel, .int .i64 a, .bool dn] := by
  obtain ⟨D0, d0, D1, d1, D3, d3, D4, d4, D5, d5, D6, d6, D7, d7, rfl, k⟩ := h
  exact ⟨D0, d0, D1, d1, D3, d3, D4, d4, D5, d5, D6, d6, D7, d7, rfl⟩
theorem MO.zero (w : World) (lo : Nat) : MO w lo zeroSt 0 false (.agg #[.slice none 0 0, .slice none 0 0, .int .i32 0, .slice none 0 0, .slice none 0 0, .slice none 0 0, .slice none 0 0, .slice none 0 0, .int .i64 0, .int .i64 0, .int .i64 0, .bool false]) := by
  obtain ⟨D0, d0, D1, d1, D3, d3, D4, d4, D5, d5, D6, d6, D7, d7, he⟩ := (stO_zero w lo).k.form
  exact ⟨none, 0, none, 0, none, 0, none, 0, none, 0, none, 0, none, 0, rfl, stO_zero w lo⟩
set_option maxRecDepth 100000 in
set_option maxHeartbeats 2000000 in
theorem start_calls (s : LSt) (v : Value) (a : Int) (w : World) (hv : StK w s v) (hs : s.small 1048576) :
    Calls Tryd.prog 46 #[.int .i64 a, v] w fun e w' => ∃ v', e = .returned v' ∧ MO w' w.heap.size (backSt s (-1)) a false v' ∧ Below w.heap.size w w' := by
  obtain ⟨A0, a0, A1, a1, A3, a3, A4, a4, A5, a5, A6, a6, A7, a7, rfl⟩ := hv.form
  have HV := Lib.hid hv
  have HB := Lib.hid (bl_alloc (bl_alloc (Below.refl _ w) (.cells #[.slice A0 s.data.length a0, .slice A1 s.ret.length a1, .int .i32 s.a, .slice A3 s.mem.length a3, .slice A4 s.cells.length a4, .slice A5 s.vars.length a5, .slice A6 s.out.length a6, .slice A7 s.inp.length a7, .int .i64 s.fault, .int .i64 s.fuel] 34)) (.cells #[.slice none 0 0, .slice none 0 0, .int .i32 0, .slice none 0 0, .slice none 0 0, .slice none 0 0, .slice none 0 0, .slice none 0 0, .int .i64 0, .int .i64 0, .int .i64 0, .bool false] 36))
  obtain ⟨k0, k1, -⟩ := Bx.two w #[.slice A0 s.data.length a0, .slice A1 s.ret.length a1, .int .i32 s.a, .slice A3 s.mem.length a3, .slice A4 s.cells.length a4, .slice A5 s.vars.length a5, .slice A6 s.out.length a6, .slice A7 s.inp.length a7, .int .i64 s.fault, .int .i64 s.fuel] #[.slice none 0 0, .slice none 0 0, .int .i32 0, .slice none 0 0, .slice none 0 0, .slice none 0 0, .slice none 0 0, .slice none 0 0, .int .i64 0, .int .i64 0, .int .i64 0, .bool false] 34 36
  have K1 := Lib.hid k1
  clear hv k0 k1
  go_enter Tryd.func46, Tryd.ntmps46
  go_wp2_with fail
  refine (ownSt_calls s _ _ (HV.out.keepB HB.out) hs).mono ?_
  rintro e w1 ⟨v1, rfl, hO, hb⟩
  obtain ⟨E0, e0, E1, e1, E3, e3, E4, e4, E5, e5, E6, e6, E7, e7, rfl⟩ := hO.k.form
  have HG := Lib.hid (MG.of (a := a) (dn := false) hO)
  replace K1 := Lib.hid (blk_call K1.out hb)
  replace HB := Lib.hid (bl_call HB.out hb)
  have hz := hb.size
  simp at hz
  clear hO hb
  have cK1 := blk_cell K1.out
  have fK1 := blk_frozen K1.out
  have zK1 := blk_lt K1.out
  go_wp2_with fail
  refine (back_calls s a false (-1) w1.heap.size _ _ HG.out (by simp; omega) hs.2.1 (by decide +kernel)).mono ?_
  rintro e w2 ⟨rfl, hG, hF⟩
  obtain ⟨F0, f0, F1, f1, F3, f3, F4, f4, F5, f5, F6, f6, F7, f7, hg, hO⟩ := hG.o
  have HO := Lib.hid (hO.low (lo' := w.heap.size + 1 + 1) (by simp))
  have HB2 := Lib.hid (FrG.below (w := w) hF (bl_alloc HB.out _) (by simp; omega) (by omega) (by simp; omega))
  have cg := blk_cell hg
  have fg := blk_frozen hg
  have zg := blk_lt hg
  have k1 := (hF.block (w.heap.size + 1) (by simp; omega) (by simp) (by omega)).trans (blk_alloc K1.out _)
  have cr := blk_cell k1
  have fr := blk_frozen k1
  have zr := blk_lt k1
  clear hG hF hO hg k1 cK1 fK1 zK1
  go_wp2_with fail
  refine bodyPost_ret (v := .agg #[.slice F0 (backSt s (-1)).data.length f0, .slice F1 (backSt s (-1)).ret.length f1, .int .i32 (backSt s (-1)).a, .slice F3 (backSt s (-1)).mem.length f3, .slice F4 (backSt s (-1)).cells.length f4, .slice F5 (backSt s (-1)).vars.length f5, .slice F6 (backSt s (-1)).out.length f6, .slice F7 (backSt s (-1)).inp.length f7, .int .i64 (backSt s (-1)).fault, .int .i64 (backSt s (-1)).fuel, .int .i64 a, .bool false]) (by simp [results, Tryd.results46, go_sem, cr, zr]) rfl ⟨_, rfl, ⟨F0, f0, F1, f1, F3, f3, F4, f4, F5, f5, F6, f6, F7, f7, rfl, ?_⟩, ?_⟩
  · refine StO.low (lo := w.heap.size + 1 + 1) ?_ (by omega)
    have l1 : w.heap.size + 1 < w.heap.size + 1 + 1 := by omega
    have HO' := HO.out
    with_reducible repeat (first | refine StO.far ?_ l1 _ | exact HO')
  · with_reducible repeat (first | apply bl_set1 | exact HB2.out)
end Go.Proofs.YtjciibhaifabjaaDoor

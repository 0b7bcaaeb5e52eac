/- The reference's draws: the cursor; contracts that say the ranges alone. -/
import Derived.Test.YtfmmfgjelaekhaaDoorS
import Derived.Deep.QuietTactic
import Derived.BigQuiet
set_option linter.unusedVariables false
set_option linter.unusedSimpArgs false
namespace Go.Proofs.YtfmmfgjelaekhaaDoor
open Go.RowKit

theorem and255 (n : Int) : bits .and .i64 n 255 = n % 256 := by
  have h255 : (BitVec.ofInt 64 255).toNat = 2 ^ 8 - 1 := by decide
  have key : (BitVec.ofInt 64 n &&& BitVec.ofInt 64 255).toNat = (n % ((2 ^ 64 : Nat) : Int)).toNat % 2 ^ 8 := by
    rw [BitVec.toNat_and, BitVec.toNat_ofInt, h255, Nat.and_two_pow_sub_one_eq_mod]
  show IntKind.i64.wrap ((BitVec.ofInt 64 n &&& BitVec.ofInt 64 255).toNat : Nat) = n % 256
  rw [key, IntKind.wrap_i64]
  omega
theorem rd_alloc {w : World} {arr : Array Value} {t : TypeId} {cs : List Value} {n : Nat} (hs : w.heap.size = n) (h : arr.toList = cs) : Rd (w.alloc (.cells arr t)) (some ⟨n, 0, none⟩) cs := by
  subst hs h
  intro j u hu
  refine ⟨_, rfl, ?_⟩
  rw [add_plain, blk_cell (blk_new w _)]
  simpa using hu
/-- Nothing but block g has turned, nothing was laid. -/
def Turned (w w' : World) (g : Nat) : Prop := w'.os = w.os ∧ w'.tape = w.tape ∧ w'.output = w.output ∧ w.heap.size = w'.heap.size ∧ ∀ k, k ≠ g → w'.heap[k]? = w.heap[k]?
theorem Turned.refl (w : World) (g : Nat) : Turned w w g := ⟨rfl, rfl, rfl, rfl, fun _ _ => rfl⟩
theorem Turned.set {w w' : World} {g : Nat} (h : Turned w w' g) (j : Nat) (u : Value) : Turned w (w'.setCell ⟨g, j, none⟩ u) g := by
  obtain ⟨a, b, c, d, e⟩ := h
  exact ⟨a, b, c, by rw [d]; simp, fun k hk => (Below.heap_setCell w' ⟨g, j, none⟩ u k (fun e' => hk e')).trans (e k hk)⟩
theorem Turned.trans {a b c : World} {g : Nat} (h : Turned a b g) (k : Turned b c g) : Turned a c g := ⟨k.1.trans h.1, k.2.1.trans h.2.1, k.2.2.1.trans h.2.2.1, h.2.2.2.1.trans k.2.2.2.1, fun i hi => (k.2.2.2.2 i hi).trans (h.2.2.2.2 i hi)⟩
theorem Turned.drewN {a b : World} {g : Nat} (h : Turned a b g) (n : Nat) : Turned a (b.drewN n) g := h
theorem Turned.below {w w' : World} {g B : Nat} (h : Turned w w' g) (hB : B ≤ g) : Below B w w' := ⟨h.1, h.2.1, h.2.2.1, Nat.le_of_eq h.2.2.2.1, fun k hk => h.2.2.2.2 k (by omega)⟩
theorem Turned.rd {w w' : World} {g : Nat} (h : Turned w w' g) {A : Option Addr} {cs : List Value} (hA : ∀ a, A = some a → a.block ≠ g) (hr : Rd w A cs) : Rd w' A cs := fun j u hu => by
  obtain ⟨ad, e, hc⟩ := hr j u hu
  refine ⟨ad, e, ?_⟩
  have hb := h.2.2.2.2 (ad.add j).block (by rw [block_of_add]; exact hA ad e)
  rw [← hc]
  simp only [World.cell?, hb]
/-- Block g holds the cursor. -/
def Cur (w : World) (g : Nat) : Prop := ∃ (A : Option Addr) (c : Nat) (xs : List Int) (i h : Int), w.heap[g]? = some (.cells #[.slice A xs.length c, .int .i64 i, .int .i64 h] 146 (0, 0)) ∧ 0 ≤ i ∧ i ≤ xs.length ∧ xs.length ≤ 1048576 ∧
  Rd w A (xs.map (Value.int .u8)) ∧ (xs ≠ [] → ∀ a, A = some a → a.block < g) ∧ ∀ x ∈ xs, 0 ≤ x ∧ x ≤ 255

set_option maxRecDepth 100000 in
set_option maxHeartbeats 1000000 in
theorem l01Byte_calls (g : Nat) (w : World) (hC : Cur w g) : Calls Tryd.prog 125 #[.pointer (some ⟨g, 0, none⟩)] w fun e w' => ∃ x : Int, e = .returned (.int .i64 x) ∧ 0 ≤ x ∧ x ≤ 255 ∧ Cur w' g ∧ Turned w w' g := by
  obtain ⟨A, c, xs, i, h, hb, hi0, hi1, hn, hr, hal, hx⟩ := hC
  have ha : xs ≠ [] → ∀ a, A = some a → a.block ≠ g := fun h a e => Nat.ne_of_lt (hal h a e)
  have HAL := Lib.hid hal
  clear hal
  have c0 : w.cell? ⟨g, 0, none⟩ = some (.slice A xs.length c) := blk_cell hb 0
  have c1 : w.cell? ⟨g, 1, none⟩ = some (.int .i64 i) := blk_cell hb 1
  have c2 : w.cell? ⟨g, 2, none⟩ = some (.int .i64 h) := blk_cell hb 2
  have f1 := blk_frozen hb 1
  have f2 := blk_frozen hb 2
  have HB := Lib.hid hb
  clear hb
  go_enter Tryd.func125, Tryd.ntmps125
  go_wp2_with fail
  obtain ⟨h', hh⟩ : ∃ h' : Int, wrap64 (wrap64 (h * 6364136223846793005) + 1442695040888963407) = h' := ⟨_, rfl⟩
  try rw [hh]
  have HH := Lib.hid hh
  clear hh
  obtain ⟨W, hW⟩ : ∃ W, w.setCell ⟨g, 2, none⟩ (.int .i64 h') = W := ⟨_, rfl⟩
  try rw [hW]
  have HB1 : Hid (W.heap[g]? = some (.cells #[.slice A xs.length c, .int .i64 i, .int .i64 h'] 146 (0, 0))) := Lib.hid (by rw [← hW]; exact blk_set HB.out 2 _)
  have HG : Hid (Turned w W g) := Lib.hid (by rw [← hW]; exact (Turned.refl w g).set 2 _)
  have hr1 : Rd W A (xs.map (Value.int .u8)) := fun j u hu => by
    obtain ⟨ad, e, hc⟩ := hr j u hu
    refine ⟨ad, e, ?_⟩
    rw [← hW, World.cell?_setCell_other _ _ _ _ (fun e' => ha (by rintro rfl; simp at hu) ad e (by rw [← block_of_add ad j, ← e']))]
    exact hc
  have HW := Lib.hid hW
  clear hW c0 c1 c2 f1 f2 hr
  have c0 : W.cell? ⟨g, 0, none⟩ = some (.slice A xs.length c) := blk_cell HB1.out 0
  have c1 : W.cell? ⟨g, 1, none⟩ = some (.int .i64 i) := blk_cell HB1.out 1
  have c2 : W.cell? ⟨g, 2, none⟩ = some (.int .i64 h') := blk_cell HB1.out 2
  have f1 := blk_frozen HB1.out 1
  go_quiet (fail)
  obtain ⟨x, hx0⟩ : ∃ x : Int, bits BinOp.and IntKind.i64 (bits BinOp.xor IntKind.i64 (h' / 8589934592) (h' / 35184372088832)) 255 = x := ⟨_, rfl⟩
  rw [hx0]
  have HX : Hid (0 ≤ x ∧ x ≤ 255) := Lib.hid (by rw [← hx0, and255]; omega)
  clear hx0
  go_wp2_with fail
  by_cases hlt : i < xs.length
  · have d0 : decide (i < (xs.length : Int)) = true := decide_eq_true hlt
    obtain ⟨k, rfl⟩ := Int.eq_ofNat_of_zero_le hi0
    have hk : k < xs.length := by omega
    obtain ⟨ad, hA, hcell⟩ := hr1 k (.int .u8 xs[k]) (by simp [List.getElem?_eq_getElem hk])
    have HA := Lib.hid hA
    have HR := Lib.hid hr1
    have HAA := Lib.hid ha
    clear hr1 ha
    subst hA
    have hx8 := hx xs[k] (List.getElem_mem hk)
    have HXX := Lib.hid hx
    clear hx
    generalize xs[k] = b at hcell hx8
    go_quiet (fail)
    go_wp2_with fail
    go_quiet (fail)
    obtain ⟨y, hy0⟩ : ∃ y : Int, bits BinOp.and IntKind.i64 (wrap64 (x + b)) 255 = y := ⟨_, rfl⟩
    rw [hy0]
    have HY : Hid (0 ≤ y ∧ y ≤ 255) := Lib.hid (by rw [← hy0, and255]; omega)
    clear hy0
    go_wp2
    go_ret
    refine ⟨y, rfl, HY.out.1, HY.out.2, ⟨some ad, c, xs, (k : Int) + 1, h', ?_, by omega, by omega, hn, ?_, HAL.out, HXX.out⟩, ?_⟩
    · exact blk_set (w := W) HB1.out 1 _
    · exact fun j u hu => by
        obtain ⟨a2, e2, hc2⟩ := HR.out j u hu
        exact ⟨a2, e2, (World.cell?_setCell_other _ _ _ _ (fun e' => HAA.out (by rintro rfl; simp at hu) a2 e2 (by rw [← block_of_add a2 j, ← e']))).trans hc2⟩
    · exact HG.out.set 1 _
  · have d0 : decide (i < (xs.length : Int)) = false := decide_eq_false hlt
    go_quiet (fail)
    go_wp2
    go_ret
    refine ⟨x, rfl, HX.out.1, HX.out.2, ?_, ?_⟩
    · exact ⟨A, c, xs, i, h', HB1.out, hi0, hi1, hn, hr1, HAL.out, hx⟩
    · exact HG.out
set_option maxRecDepth 100000 in
theorem l01Below_calls (g : Nat) (n : Int) (w : World) (h0 : 1 ≤ n) (h1 : n ≤ 256) (hC : Cur w g) : Calls Tryd.prog 107 #[.pointer (some ⟨g, 0, none⟩), .int .i64 n] w fun e w' => ∃ x : Int, e = .returned (.int .i64 x) ∧ 0 ≤ x ∧ x < n ∧ Cur w' g ∧ Turned w w' g := by
  have HC := Lib.hid hC
  clear hC
  have d0 : decide (n ≤ 0) = false := decide_eq_false (by omega)
  have d1 : decide (n ≤ 256) = true := decide_eq_true h1
  go_enter Tryd.func107, Tryd.ntmps107
  go_wp2_with fail
  refine (l01Byte_calls g w HC.out).mono ?_
  rintro e w1 ⟨x, rfl, hx0, hx1, hC1, hT⟩
  have HC1 := Lib.hid hC1
  have HT := Lib.hid hT
  clear hC1 hT
  go_wp2
  go_ret
  refine ⟨_, rfl, ?_, ?_, HC1.out, HT.out⟩
  · exact Int.emod_nonneg _ (by omega)
  · exact Int.emod_lt_of_pos _ (by omega)
set_option maxRecDepth 100000 in
theorem l01PickInt_calls (g : Nat) (A : Option Addr) (c : Nat) (xs : List Int) (w : World) (h0 : 1 ≤ xs.length) (h1 : xs.length ≤ 256) (hr : Rd w A (xs.map (Value.int .i64))) (hA : ∀ a, A = some a → a.block ≠ g) (hC : Cur w g) :
    Calls Tryd.prog 113 #[.pointer (some ⟨g, 0, none⟩), .slice A xs.length c] w fun e w' => ∃ x : Int, e = .returned (.int .i64 x) ∧ x ∈ xs ∧ Cur w' g ∧ Turned w w' g := by
  have HC := Lib.hid hC
  have HR := Lib.hid hr
  have HA := Lib.hid hA
  clear hC hr hA
  go_enter Tryd.func113, Tryd.ntmps113
  go_wp2_with fail
  refine (l01Below_calls g xs.length w (by omega) (by omega) HC.out).mono ?_
  rintro e w1 ⟨i, rfl, hi0, hi1, hC1, hT⟩
  have HC1 := Lib.hid hC1
  have HT := Lib.hid hT
  clear hC1 hT
  obtain ⟨k, rfl⟩ := Int.eq_ofNat_of_zero_le hi0
  have hk : k < xs.length := by omega
  obtain ⟨ad, rfl, hc⟩ := HT.out.rd HA.out HR.out k (.int .i64 xs[k]) (by simp [List.getElem?_eq_getElem hk])
  have HM : Hid (xs[k] ∈ xs) := Lib.hid (List.getElem_mem hk)
  generalize xs[k] = b at hc HM
  go_wp2
  go_ret
  exact ⟨b, rfl, HM.out, HC1.out, HT.out⟩
/-- The cursor in block g has been drawn from: nothing else that lay has turned. -/
structure Dr (g : Nat) (w w' : World) : Prop where
  grown : w.grownBy w' (some g)
  lt : g < w.heap.size
theorem Cur.lt {w : World} {g : Nat} (h : Cur w g) : g < w.heap.size := by
  obtain ⟨A, c, xs, i, k, h1, _⟩ := h
  exact blk_lt h1
theorem Dr.refl {w : World} {g : Nat} (h : Cur w g) : Dr g w w := ⟨grownBy_refl _ _, h.lt⟩
theorem Dr.size {g : Nat} {w w' : World} (h : Dr g w w') : w.heap.size ≤ w'.heap.size := h.grown.size
theorem Dr.trans {g : Nat} {a b c : World} (h : Dr g a b) (k : Dr g b c) : Dr g a c := ⟨World.grownBy.trans h.grown k.grown, h.lt⟩
theorem Dr.turned {g : Nat} {a b c : World} (h : Dr g a b) (k : Turned b c g) : Dr g a c :=
  ⟨World.grownBy.trans h.grown ⟨k.1, k.2.1, k.2.2.1, Nat.le_of_eq k.2.2.2.1, fun i _ hi => k.2.2.2.2 i (fun e => hi (by rw [e]))⟩, h.lt⟩
theorem Dr.alloc {g : Nat} {a b : World} (h : Dr g a b) (o : Obj) : Dr g a (b.alloc o) := ⟨World.grownBy.trans h.grown (World.grownBy_alloc _ _ _), h.lt⟩
theorem Dr.drew {g : Nat} {a b : World} (h : Dr g a b) : Dr g a b.drew := ⟨World.grownBy.trans h.grown ⟨rfl, rfl, rfl, Nat.le_refl _, fun _ _ _ => rfl⟩, h.lt⟩
theorem Dr.drewN {g : Nat} {a b : World} (h : Dr g a b) (n : Nat) : Dr g a (b.drewN n) := ⟨World.grownBy.trans h.grown ⟨rfl, rfl, rfl, Nat.le_refl _, fun _ _ _ => rfl⟩, h.lt⟩
/-- A store into what was laid since. -/
theorem Dr.set {g n j : Nat} {a b : World} (h : Dr g a b) (hn : a.heap.size ≤ n) (u : Value) : Dr g a (b.setCell ⟨n, j, none⟩ u) :=
  ⟨⟨h.grown.os, h.grown.tape, h.grown.output, by simpa using h.grown.size, fun k hk hg => (Below.heap_setCell b ⟨n, j, none⟩ u k (fun e => by simp only at e; omega)).trans (h.grown.block k hk hg)⟩, h.lt⟩
theorem Dr.below {g : Nat} {a b w : World} (h : Dr g a b) (hg : w.heap.size ≤ g) (hb : Below w.heap.size w a) : Below w.heap.size w b :=
  hb.trans ⟨h.grown.os, h.grown.tape, h.grown.output, h.grown.size, fun k hk => h.grown.block k (by have := h.lt; omega) (fun e => by injection e; omega)⟩
/-- What lay reads as it did. -/
theorem Dr.cells {g : Nat} {W w1 : World} (h : Dr g W w1) : (∀ b o, b < W.heap.size → b ≠ g → w1.cell? ⟨b, o, none⟩ = W.cell? ⟨b, o, none⟩) ∧ (∀ b o, b < W.heap.size → b ≠ g → w1.frozen? ⟨b, o, none⟩ = W.frozen? ⟨b, o, none⟩) :=
  ⟨fun b o hb hg => by simp only [World.cell?, h.grown.block b hb (fun e => hg (by injection e))], fun b o hb hg => by simp only [World.frozen?, h.grown.block b hb (fun e => hg (by injection e))]⟩
theorem Dr.blk {g n : Nat} {W w1 : World} {o : Obj} (h : Dr g W w1) (hne : n ≠ g) (hb : W.heap[n]? = some o) : w1.heap[n]? = some o := (h.grown.block n (blk_lt hb) (fun e => hne (by injection e))).trans hb
theorem Turned.blk {g n : Nat} {W w1 : World} {o : Obj} (h : Turned W w1 g) (hne : n ≠ g) (hb : W.heap[n]? = some o) : w1.heap[n]? = some o := (h.2.2.2.2 n hne).trans hb
theorem blk_drew {w : World} {g : Nat} {o : Obj} (h : w.heap[g]? = some o) : w.drew.heap[g]? = some o := h
theorem Dr.rd {g : Nat} {W w1 : World} (h : Dr g W w1) {A : Option Addr} {cs : List Value} (hA : ∀ a, A = some a → a.block ≠ g) (hr : Rd W A cs) : Rd w1 A cs := fun j u hu => by
  obtain ⟨ad, e, hc⟩ := hr j u hu
  refine ⟨ad, e, ?_⟩
  have hlt := World.block_lt_of_cell? W _ hc
  have hb := h.grown.block (ad.add j).block hlt (fun e' => hA ad e (by injection e' with e'; rw [← e', block_of_add]))
  rw [← hc]
  simp only [World.cell?, hb]
theorem Turned.cells {g : Nat} {W w1 : World} (h : Turned W w1 g) : (∀ b o, b ≠ g → w1.cell? ⟨b, o, none⟩ = W.cell? ⟨b, o, none⟩) ∧ (∀ b o, b ≠ g → w1.frozen? ⟨b, o, none⟩ = W.frozen? ⟨b, o, none⟩) :=
  ⟨fun b o hg => by simp only [World.cell?, h.2.2.2.2 b hg], fun b o hg => by simp only [World.frozen?, h.2.2.2.2 b hg]⟩
theorem Cur.alloc {w : World} {g : Nat} (h : Cur w g) (o : Obj) : Cur (w.alloc o) g := by
  obtain ⟨A, c, xs, i, k, h1, h2, h3, h4, h5, h6, h7⟩ := h
  exact ⟨A, c, xs, i, k, blk_alloc h1 o, h2, h3, h4, h5.call (bl_alloc (Below.refl _ _) o), h6, h7⟩
theorem Cur.set {w : World} {g n j : Nat} (h : Cur w g) (hn : g < n) (u : Value) : Cur (w.setCell ⟨n, j, none⟩ u) g := by
  obtain ⟨A, c, xs, i, k, h1, h2, h3, h4, h5, h6, h7⟩ := h
  refine ⟨A, c, xs, i, k, blk_far h1 (fun e => by simp only at e; omega) u, h2, h3, h4, ?_, h6, h7⟩
  intro m x hx
  obtain ⟨ad, e, hc⟩ := h5 m x hx
  exact ⟨ad, e, (World.cell?_setCell_other _ _ _ _ (fun e' => by
    have h1 := h6 (by rintro rfl; simp at hx) ad e
    have h2 : (ad.add m).block = n := by rw [← e']
    rw [block_of_add] at h2
    omega)).trans hc⟩
theorem Cur.draw {w : World} {g : Nat} (h : Cur w g) (n : Nat) : Cur (w.drewN n) g := h
theorem Cur.draw1 {w : World} {g : Nat} (h : Cur w g) : Cur w.drew g := h
theorem Dr.call {g : Nat} {a b c : World} (h : Dr g a b) (hb : Below b.heap.size b c) : Dr g a c :=
  ⟨World.grownBy.trans h.grown ⟨hb.os, hb.tape, hb.output, hb.size, fun i hi _ => hb.block i hi⟩, h.lt⟩
end Go.Proofs.YtfmmfgjelaekhaaDoor

/- Bodies that are drawn: contracts that say how long they may be, and that their numbers are of 32 bits. -/
import Derived.Test.YtfmmfgjelaekhaaDoorQe
import Derived.Test.YtfmmfgjelaekhaaDoorFo
set_option linter.unusedVariables false
set_option linter.unusedSimpArgs false
namespace Go.Proofs.YtfmmfgjelaekhaaDoor
open Go.RowKit

theorem Cur.call {w w1 : World} {g : Nat} (h : Cur w g) (hb : Below w.heap.size w w1) : Cur w1 g := by
  obtain ⟨A, c, xs, i, k, h1, h2, h3, h4, h5, h6, h7⟩ := h
  exact ⟨A, c, xs, i, k, blk_call h1 hb, h2, h3, h4, h5.call hb, h6, h7⟩
theorem Cur.grown {w w1 : World} {g : Nat} {b : Option Nat} (h : Cur w g) (hg : w.grownBy w1 b) (hb : ∀ x, b = some x → g < x) : Cur w1 g := by
  obtain ⟨A, c, xs, i, k, h1, h2, h3, h4, h5, h6, h7⟩ := h
  refine ⟨A, c, xs, i, k, (hg.block g (blk_lt h1) (fun e => by have := hb g e.symm; omega)).trans h1, h2, h3, h4, ?_, h6, h7⟩
  intro m x hx
  obtain ⟨ad, e, hc⟩ := h5 m x hx
  refine ⟨ad, e, ?_⟩
  have hl := h6 (by rintro rfl; simp at hx) ad e
  have hlt := World.block_lt_of_cell? w _ hc
  have hk := hg.block (ad.add m).block hlt (fun e' => by have := hb _ e'.symm; rw [block_of_add] at this; omega)
  rw [← hc]
  simp only [World.cell?, hk]
theorem Dr.more {g : Nat} {w w1 w2 : World} {b : Option Nat} (h : Dr g w w1) (hg : w1.grownBy w2 b) (hb : ∀ x, b = some x → w.heap.size ≤ x) : Dr g w w2 :=
  ⟨⟨hg.os.trans h.grown.os, hg.tape.trans h.grown.tape, hg.output.trans h.grown.output, Nat.le_trans h.size hg.size, fun k hk hn => (hg.block k (Nat.lt_of_lt_of_le hk h.size) (fun e => by have := hb k e.symm; omega)).trans (h.grown.block k hk hn)⟩, h.lt⟩
theorem Turned.dr {w w' : World} {g : Nat} (h : Turned w w' g) (hl : g < w.heap.size) : Dr g w w' := ⟨⟨h.1, h.2.1, h.2.2.1, Nat.le_of_eq h.2.2.2.1, fun i _ hi => h.2.2.2.2 i (fun e => hi (by rw [e]))⟩, hl⟩
theorem Row.dr {w w1 : World} {e : TypeId} {sz : Nat} {A : Option Addr} {n c : Nat} {cs : List Value} {b : Option Nat} {g : Nat} (h : Row w e sz A n c cs b) (hd : Dr g w w1) (hb : b ≠ some g) : Row w1 e sz A n c cs b :=
  h.keep fun x hx => hd.grown.block x (h.lt x hx) (fun e => hb (by rw [hx, e]))
/-- A row of ops of the call's own, drawn since w; the cursor lies in block g. -/
structure DrawnRow (g : Nat) (w w1 : World) (B : Option Addr) (d : Nat) (b : Option Nat) (L : Nat) (xs : List LOp) : Prop where
  row : Row w1 71 2 B L d (xs.flatMap LOp.enc) b
  lo : ∀ x, b = some x → w.heap.size ≤ x
  ok : ∀ x ∈ xs, x.ok32
  cur : Cur w1 g
  dr : Dr g w w1
  len : L = xs.length
section
variable {g : Nat} {w w1 w2 : World} {B B2 : Option Addr} {d d2 L : Nat} {b b2 : Option Nat} {xs ys : List LOp}
theorem DrawnRow.ne (h : DrawnRow g w w1 B d b L xs) : b ≠ some g := fun e => by have := h.lo g e; have := h.dr.lt; omega
theorem DrawnRow.gt (h : DrawnRow g w w1 B d b L xs) : ∀ x, b = some x → g < x := fun x e => by have := h.lo x e; have := h.dr.lt; omega
theorem DrawnRow.drawn (h : DrawnRow g w w1 B d b L xs) (hd : Dr g w1 w2) (hc : Cur w2 g) : DrawnRow g w w2 B d b L xs :=
  ⟨h.row.dr hd h.ne, h.lo, h.ok, hc, h.dr.trans hd, h.len⟩
theorem DrawnRow.turned (h : DrawnRow g w w1 B d b L xs) (hd : Turned w1 w2 g) (hc : Cur w2 g) : DrawnRow g w w2 B d b L xs := h.drawn (hd.dr h.cur.lt) hc
theorem DrawnRow.alloc (h : DrawnRow g w w1 B d b L xs) (o : Obj) : DrawnRow g w (w1.alloc o) B d b L xs :=
  ⟨h.row.alloc o, h.lo, h.ok, h.cur.alloc o, h.dr.alloc o, h.len⟩
theorem DrawnRow.app (h : DrawnRow g w w1 B d b L xs) {m : Nat} (hr : Row w2 71 2 B2 (L + m) d2 (xs.flatMap LOp.enc ++ ys.flatMap LOp.enc) b2) (hg : w1.grownBy w2 b) (hb : b2 = b ∨ ∃ x, b2 = some x ∧ w1.heap.size ≤ x) (ho : ∀ x ∈ ys, x.ok32) (hm : m = ys.length) : DrawnRow g w w2 B2 d2 b2 (L + m) (xs ++ ys) := by
  refine ⟨by rw [List.flatMap_append]; exact hr, fun x e => ?_, fun x hx => ?_, h.cur.grown hg h.gt, h.dr.more hg h.lo, by rw [h.len, hm, List.length_append]⟩
  · have hs := h.dr.size
    rcases hb with hb | ⟨y, hb, hy⟩
    · exact h.lo x (hb.symm.trans e)
    · rw [hb] at e; cases e; omega
  · rcases List.mem_append.1 hx with hx | hx
    · exact h.ok x hx
    · exact ho x hx
theorem DrawnRow.app1 (h : DrawnRow g w w1 B d b L xs) {k n : Int} (hr : Row w2 71 2 B2 (L + 1) d2 (xs.flatMap LOp.enc ++ (#[Value.int .i64 k, .int .i32 n] : Array Value).toList) b2) (hg : w1.grownBy w2 b) (hb : b2 = b ∨ ∃ x, b2 = some x ∧ w1.heap.size ≤ x) (ho : LOp.ok32 ⟨k, n⟩) : DrawnRow g w w2 B2 d2 b2 (L + 1) (xs ++ [⟨k, n⟩]) :=
  h.app (ys := [⟨k, n⟩]) (by simpa [LOp.enc] using hr) hg hb (fun x hx => by simp at hx; subst hx; exact ho) rfl
theorem DrawnRow.app2 (h : DrawnRow g w w1 B d b L xs) {k n k' n' : Int} (hr : Row w2 71 2 B2 (L + 2) d2 (xs.flatMap LOp.enc ++ [Value.int .i64 k, .int .i32 n, .int .i64 k', .int .i32 n']) b2) (hg : w1.grownBy w2 b) (hb : b2 = b ∨ ∃ x, b2 = some x ∧ w1.heap.size ≤ x) (ho : LOp.ok32 ⟨k, n⟩) (ho' : LOp.ok32 ⟨k', n'⟩) : DrawnRow g w w2 B2 d2 b2 (L + 2) (xs ++ [⟨k, n⟩, ⟨k', n'⟩]) :=
  h.app (ys := [⟨k, n⟩, ⟨k', n'⟩]) (by simpa [LOp.enc] using hr) hg hb (fun x hx => by simp at hx; rcases hx with rfl | rfl; exact ho; exact ho') rfl
end
set_option maxRecDepth 100000 in
theorem l01Once_calls (g : Nat) (n : Int) (w : World) (h0 : 1 ≤ n) (h1 : n ≤ 256) (hC : Cur w g) : Calls Tryd.prog 127 #[.pointer (some ⟨g, 0, none⟩), .int .i64 n] w fun e w' => ∃ x : Bool, e = .returned (.bool x) ∧ Cur w' g ∧ Turned w w' g := by
  have HC := Lib.hid hC
  clear hC
  go_enter Tryd.func127, Tryd.ntmps127
  go_wp2_with fail
  refine (l01Below_calls g n w h0 h1 HC.out).mono ?_
  rintro e w1 ⟨x, rfl, hx0, hx1, hC1, hT⟩
  have HC1 := Lib.hid hC1
  have HT := Lib.hid hT
  clear hC1 hT
  go_wp2
  go_ret
  exact ⟨_, rfl, HC1.out, HT.out⟩
set_option maxRecDepth 100000 in
theorem l01BelowW_calls (g : Nat) (n : Int) (w : World) (h0 : 1 ≤ n) (h1 : n ≤ 1048576) (hC : Cur w g) : Calls Tryd.prog 107 #[.pointer (some ⟨g, 0, none⟩), .int .i64 n] w fun e w' => ∃ x : Int, e = .returned (.int .i64 x) ∧ 0 ≤ x ∧ x < n ∧ Cur w' g ∧ Turned w w' g := by
  by_cases hn : n ≤ 256
  · exact l01Below_calls g n w h0 hn hC
  have HC := Lib.hid hC
  clear hC
  have d0 : decide (n ≤ 0) = false := decide_eq_false (by omega)
  have d1 : decide (n ≤ 256) = false := decide_eq_false hn
  go_enter Tryd.func107, Tryd.ntmps107
  go_wp2_with fail
  refine (l01Byte_calls g _ HC.out).mono ?_
  rintro e w1 ⟨x1, rfl, l1, u1, hC1, hT⟩
  have HC1 := Lib.hid hC1
  have HT1 : Hid (Turned w w1 g) := Lib.hid (hT)
  clear hC1 hT
  go_wp2_with fail
  refine (l01Byte_calls g _ HC1.out).mono ?_
  rintro e w2 ⟨x2, rfl, l2, u2, hC1, hT⟩
  have HC2 := Lib.hid hC1
  have HT2 : Hid (Turned w w2 g) := Lib.hid (HT1.out.trans hT)
  clear hC1 hT
  go_wp2_with fail
  refine (l01Byte_calls g _ HC2.out).mono ?_
  rintro e w3 ⟨x3, rfl, l3, u3, hC1, hT⟩
  have HC3 := Lib.hid hC1
  have HT3 : Hid (Turned w w3 g) := Lib.hid (HT2.out.trans hT)
  clear hC1 hT
  go_wp2_with fail
  refine (l01Byte_calls g _ HC3.out).mono ?_
  rintro e w4 ⟨x4, rfl, l4, u4, hC1, hT⟩
  have HC4 := Lib.hid hC1
  have HT4 : Hid (Turned w w4 g) := Lib.hid (HT3.out.trans hT)
  clear hC1 hT
  go_wp2
  go_ret
  refine ⟨_, rfl, ?_, ?_, HC4.out, HT4.out⟩
  · exact Int.emod_nonneg _ (by omega)
  · exact Int.emod_lt_of_pos _ (by omega)
set_option maxRecDepth 100000 in
set_option maxHeartbeats 1000000 in
theorem l09Plain_calls (g : Nat) (n : Int) (w : World) (hn0 : 0 ≤ n) (hn1 : n ≤ 256) (hC : Cur w g) : Calls Tryd.prog 126 #[.pointer (some ⟨g, 0, none⟩), .int .i64 n] w fun e w' => ∃ k m : Int, e = .returned (.agg #[.int .i64 k, .int .i32 m]) ∧ LOp.ok32 ⟨k, m⟩ ∧ Cur w' g ∧ Dr g w w' := by
  have hlt := hC.lt
  have n0 : ¬ (w.heap.size = g) := by omega
  have HC := Lib.hid hC
  have HD := Lib.hid (Dr.refl hC)
  clear hC
  go_enter Tryd.func126, Tryd.ntmps126
  go_wp2_with fail
  refine (l01Below_calls g 7 _ (by omega) (by omega) (by repeat (first | exact HC.out | apply Cur.alloc))).mono ?_
  rintro e w1 ⟨x1, rfl, h1a, h1b, hC1, hT1⟩
  have HB1 : Hid (w1.heap[w.heap.size]? = some (.cells #[.int .i64 0, .int .i32 0] 71 (0, 0))) := Lib.hid ((hT1.2.2.2.2 _ n0).trans (blk_new _ _))
  have z1 : w1.heap.size = w.heap.size + 1 := by have := hT1.2.2.2.1; simp at this; omega
  replace HD := Lib.hid (Dr.turned (by repeat (first | exact HD.out | apply Dr.alloc)) hT1)
  replace HC := Lib.hid hC1
  clear hC1 hT1
  have c1 := blk_cell HB1.out
  have f1 := blk_frozen HB1.out
  have zz1 := blk_lt HB1.out
  have hx : x1 = 0 ∨ x1 = 1 ∨ x1 = 2 ∨ (¬ x1 = 0 ∧ ¬ x1 = 1 ∧ ¬ x1 = 2) := by omega
  rcases hx with rfl | rfl | rfl | ⟨o0, o1, o2⟩
  · skip
    go_wp2_with fail
    refine (l01Below_calls g 9 _ (by omega) (by omega) HC.out).mono ?_
    rintro e w2 ⟨x2, rfl, h2a, h2b, hC1, hT1⟩
    have HB2 : Hid (w2.heap[w.heap.size]? = some (.cells #[.int .i64 0, .int .i32 0] 71 (0, 0))) := Lib.hid ((hT1.2.2.2.2 _ n0).trans HB1.out)
    have HD2 := Lib.hid (Dr.turned HD.out hT1)
    have HC2 := Lib.hid hC1
    clear hC1 hT1 c1 f1 zz1
    have c2 := blk_cell HB2.out
    have f2 := blk_frozen HB2.out
    have z2 := blk_lt HB2.out
    go_wp2_with fail
    refine bodyPost_ret (v := .agg #[.int .i64 0, .int .i32 (x2 - 2)]) (by simp [results, Tryd.results126, go_sem, c2]) rfl ⟨0, (x2 - 2), rfl, by simp only [LOp.ok32]; omega, ?_, ?_⟩
    · with_reducible repeat (first | exact HC2.out | refine Cur.set ?_ (by omega) _)
    · with_reducible repeat (first | exact HD2.out | refine Dr.set ?_ (by omega) _)
  · skip
    go_wp2_with fail
    refine (l01Below_calls g 9 _ (by omega) (by omega) HC.out).mono ?_
    rintro e w2 ⟨x2, rfl, h2a, h2b, hC1, hT1⟩
    have HB2 : Hid (w2.heap[w.heap.size]? = some (.cells #[.int .i64 0, .int .i32 0] 71 (0, 0))) := Lib.hid ((hT1.2.2.2.2 _ n0).trans HB1.out)
    have HD2 := Lib.hid (Dr.turned HD.out hT1)
    have HC2 := Lib.hid hC1
    clear hC1 hT1 c1 f1 zz1
    have c2 := blk_cell HB2.out
    have f2 := blk_frozen HB2.out
    have z2 := blk_lt HB2.out
    go_wp2_with fail
    refine bodyPost_ret (v := .agg #[.int .i64 0, .int .i32 (x2 - 2)]) (by simp [results, Tryd.results126, go_sem, c2]) rfl ⟨0, (x2 - 2), rfl, by simp only [LOp.ok32]; omega, ?_, ?_⟩
    · with_reducible repeat (first | exact HC2.out | refine Cur.set ?_ (by omega) _)
    · with_reducible repeat (first | exact HD2.out | refine Dr.set ?_ (by omega) _)
  · by_cases hn : 0 < n
    · skip
      go_wp2_with fail
      refine (l01Below_calls g n _ (by omega) (by omega) HC.out).mono ?_
      rintro e w2 ⟨x2, rfl, h2a, h2b, hC1, hT1⟩
      have HB2 : Hid (w2.heap[w.heap.size]? = some (.cells #[.int .i64 0, .int .i32 0] 71 (0, 0))) := Lib.hid ((hT1.2.2.2.2 _ n0).trans HB1.out)
      have HD2 := Lib.hid (Dr.turned HD.out hT1)
      have HC2 := Lib.hid hC1
      clear hC1 hT1 c1 f1 zz1
      have c2 := blk_cell HB2.out
      have f2 := blk_frozen HB2.out
      have z2 := blk_lt HB2.out
      go_wp2_with fail
      refine bodyPost_ret (v := .agg #[.int .i64 2, .int .i32 x2]) (by simp [results, Tryd.results126, go_sem, c2]) rfl ⟨2, x2, rfl, by simp only [LOp.ok32]; omega, ?_, ?_⟩
      · with_reducible repeat (first | exact HC2.out | refine Cur.set ?_ (by omega) _)
      · with_reducible repeat (first | exact HD2.out | refine Dr.set ?_ (by omega) _)
    · skip
      go_wp2_with fail
      refine (l01PickInt_calls g _ _ [0, 0, 1, 2, 3, 4, 5, 5, 6, 7, 8, 9, 10, 11, 12, 13, 14, 15, 16, 17, 18, 19, 20, 21, 22, 22, 23] _ ?_ ?_ ?_ ?_ ?_).mono ?_
      · decide
      · decide
      · exact rd_alloc (by simp [*]) rfl
      · intro a ea; injection ea with ea; subst ea; simp only; omega
      · repeat (first | exact HC.out | apply Cur.alloc)
      rintro e w2 ⟨x2, rfl, hx2, hC1, hT1⟩
      have HB2 : Hid (w2.heap[w.heap.size]? = some (.cells #[.int .i64 0, .int .i32 0] 71 (0, 0))) := Lib.hid ((hT1.2.2.2.2 _ n0).trans (blk_alloc HB1.out _))
      have HD2 := Lib.hid (Dr.turned (by repeat (first | exact HD.out | apply Dr.alloc)) hT1)
      have HC2 := Lib.hid hC1
      have hr : 0 ≤ x2 ∧ x2 ≤ 23 := by simp only [List.mem_cons, List.not_mem_nil, or_false] at hx2; omega
      clear hC1 hT1 c1 f1 zz1 hx2
      have c2 := blk_cell HB2.out
      have f2 := blk_frozen HB2.out
      have z2 := blk_lt HB2.out
      go_wp2_with fail
      refine bodyPost_ret (v := .agg #[.int .i64 1, .int .i32 x2]) (by simp [results, Tryd.results126, go_sem, c2]) rfl ⟨1, x2, rfl, by simp only [LOp.ok32]; omega, ?_, ?_⟩
      · with_reducible repeat (first | exact HC2.out | refine Cur.set ?_ (by omega) _)
      · with_reducible repeat (first | exact HD2.out | refine Dr.set ?_ (by omega) _)
  · have e0 : (x1 == (0 : Int)) = false := by simp [o0]
    have e1 : (x1 == (1 : Int)) = false := by simp [o1]
    have e2 : (x1 == (2 : Int)) = false := by simp [o2]
    go_wp2_with fail
    refine (l01PickInt_calls g _ _ [0, 0, 1, 2, 3, 4, 5, 5, 6, 7, 8, 9, 10, 11, 12, 13, 14, 15, 16, 17, 18, 19, 20, 21, 22, 22, 23] _ ?_ ?_ ?_ ?_ ?_).mono ?_
    · decide
    · decide
    · exact rd_alloc (by simp [*]) rfl
    · intro a ea; injection ea with ea; subst ea; simp only; omega
    · repeat (first | exact HC.out | apply Cur.alloc)
    rintro e w2 ⟨x2, rfl, hx2, hC1, hT1⟩
    have HB2 : Hid (w2.heap[w.heap.size]? = some (.cells #[.int .i64 0, .int .i32 0] 71 (0, 0))) := Lib.hid ((hT1.2.2.2.2 _ n0).trans (blk_alloc HB1.out _))
    have HD2 := Lib.hid (Dr.turned (by repeat (first | exact HD.out | apply Dr.alloc)) hT1)
    have HC2 := Lib.hid hC1
    have hr : 0 ≤ x2 ∧ x2 ≤ 23 := by simp only [List.mem_cons, List.not_mem_nil, or_false] at hx2; omega
    clear hC1 hT1 c1 f1 zz1 hx2
    have c2 := blk_cell HB2.out
    have f2 := blk_frozen HB2.out
    have z2 := blk_lt HB2.out
    go_wp2_with fail
    refine bodyPost_ret (v := .agg #[.int .i64 1, .int .i32 x2]) (by simp [results, Tryd.results126, go_sem, c2]) rfl ⟨1, x2, rfl, by simp only [LOp.ok32]; omega, ?_, ?_⟩
    · with_reducible repeat (first | exact HC2.out | refine Cur.set ?_ (by omega) _)
    · with_reducible repeat (first | exact HD2.out | refine Dr.set ?_ (by omega) _)
theorem hne_of {b b' : Option Nat} (h : ∀ x, b = some x → b' ≠ some x) : b = none ∨ b ≠ b' := by
  cases b with
  | none => exact .inl rfl
  | some x => exact .inr (fun e => h x rfl e.symm)
theorem ne_fresh {w : World} {e : TypeId} {sz : Nat} {A : Option Addr} {n c : Nat} {cs : List Value} {b b1 b2 : Option Nat} (hr : Row w e sz A n c cs b) (h : ∀ x, b = some x → b1 ≠ some x) (hb : b2 = b1 ∨ ∃ x, b2 = some x ∧ w.heap.size ≤ x) : ∀ x, b = some x → b2 ≠ some x := fun x e e2 => by
  rcases hb with hb | ⟨y, hb, hy⟩
  · exact h x e (hb.symm.trans e2)
  · rw [hb] at e2; cases e2; have := hr.lt x e; omega
def bodyMax : Nat → Nat
  | 0 => 17
  | d + 1 => 4 * (4 + bodyMax d) + 1
def bodyR : Nat → Nat
  | 0 => 4
  | d + 1 => 4 + bodyMax d
theorem bodyMax_eq (d : Nat) : bodyMax d = 4 * bodyR d + 1 := by cases d <;> rfl
theorem bodyR_le {d : Nat} (h : d ≤ 3) : 4 ≤ bodyR d ∧ bodyR d ≤ 361 := by
  have : d = 0 ∨ d = 1 ∨ d = 2 ∨ d = 3 := by omega
  rcases this with rfl | rfl | rfl | rfl <;> decide
theorem ok_zero {k n : Int} (h : 0 ≤ n) (h1 : n ≤ 1000) : LOp.ok32 ⟨k, n⟩ := by simp only [LOp.ok32]; omega
set_option maxRecDepth 100000 in
set_option maxHeartbeats 4000000 in
theorem l09Body_calls : ∀ (deep : Nat) (g : Nat) (n : Int) (w : World), Cur w g → 0 ≤ n → n ≤ 256 → deep ≤ 3 →
    Calls Tryd.prog 108 #[.pointer (some ⟨g, 0, none⟩), .int .i64 n, .int .i64 deep] w fun e w' => ∃ xs L B d b, e = .returned (.slice B L d) ∧ DrawnRow g w w' B d b L xs ∧ L ≤ bodyMax deep := by
  intro deep
  induction deep using Nat.strongRecOn with
  | _ deep ih =>
  intro g n w hC hn0 hn1 hd
  have hlt := hC.lt
  have IH := Lib.hid ih
  have HC := Lib.hid hC
  have HD := Lib.hid (Dr.refl hC)
  have HM := Lib.hid (bodyMax_eq deep)
  obtain ⟨R, hR⟩ : ∃ R, bodyR deep = R := ⟨_, rfl⟩
  have hRb := bodyR_le hd
  rw [hR] at hRb HM
  obtain ⟨hR0, hR1⟩ := hRb
  have HR := Lib.hid hR
  obtain ⟨dv, hdv⟩ : ∃ dv : Int, (deep : Int) = dv := ⟨_, rfl⟩
  rw [hdv]
  have HDV := Lib.hid hdv
  have dv0 : 0 ≤ dv := by omega
  have dv3 : dv ≤ 3 := by omega
  clear hC ih hR hdv
  go_enter Tryd.func108, Tryd.ntmps108
  go_wp2_with fail
  refine (l01Below_calls g 5 _ (by omega) (by omega) (by repeat (first | exact HC.out | apply Cur.alloc))).mono ?_
  rintro e w1 ⟨x, rfl, hx0, hx1, hC1, hT1⟩
  obtain ⟨kk, rfl⟩ := Int.eq_ofNat_of_zero_le hx0
  have hkk : kk ≤ 4 := by omega
  have HX0 : Hid (DrawnRow g w w1 (some ⟨w.heap.size, 0, none⟩) 0 (some w.heap.size) 0 []) := Lib.hid (DrawnRow.turned (w1 := w.alloc (.cells #[] 71)) ⟨Row.made w #[] 71 2 0 (by decide) rfl, fun x e => by cases e; exact Nat.le_refl _, by simp, HC.out.alloc _, HD.out.alloc _, rfl⟩ hT1 hC1)
  clear hC1 hT1 HC HD hx0 hx1
  go_wp2_with fail
  go_loopw [7, 9] (fun bv i wr => ∃ (k L : Nat) (xs : List LOp) (B : Option Addr) (d : Nat) (b : Option Nat), k ≤ kk ∧ bv = .slice B L d ∧ i = .int .i64 k ∧ Hid (DrawnRow g w wr B d b L xs) ∧ Hid (L ≤ k * R)) (fun _ i _ => kk - (intOf i).toNat)
  case atStart => exact ⟨0, 0, [], some ⟨w.heap.size, 0, none⟩, 0, some w.heap.size, Nat.zero_le _, rfl, rfl, HX0, Lib.hid (by simp)⟩
  case round =>
    obtain ⟨k, L, xs, B, d, b, hk, rfl, rfl, HX, HL⟩ := hrel
    have hLb : L ≤ 4 * 361 := Nat.le_trans HL.out (Nat.mul_le_mul (by omega) hR1)
    by_cases hltk : k < kk
    · have i1 : (k : Int) < (kk : Int) := by omega
      have HSM : Hid (∀ m, m ≤ R → L + m ≤ (k + 1) * R) := Lib.hid (fun m hm => by have := HL.out; rw [Nat.succ_mul]; omega)
      go_wp2_with fail
      refine (l09Plain_calls g n wr hn0 hn1 HX.out.cur).mono ?_
      rintro e w1 ⟨k1, m1, rfl, hok, hC1, hD1⟩
      have HX1 := Lib.hid (HX.out.drawn hD1 hC1)
      clear hC1 hD1
      by_cases hdp : deep = 0
      · have dd : dv ≤ 0 := by have := HDV.out; omega
        go_wp2_with (at_builtin; refine wp_append1s _ (m := w1.heap.size) rfl rfl _ _ 41 rfl 71 (.agg #[.int .i64 0, .int .i32 0]) 2 16 Tryd.underlying41 info_op rfl (by decide) rfl HX1.out.row rfl rfl ?_ ?_ ?_ ?_; (intro u hu; simp at hu; rcases hu with rfl | rfl <;> rfl); (unfold maxLen; omega); omega; intro B2 d2 w3 b2 hR3 hg3 hb3; have HX3 := Lib.hid (HX1.out.app1 hR3 hg3 hb3 hok); clear hR3 hg3 hb3)
        go_roundw
        case rel => exact ⟨k + 1, L + 1, _, B2, d2, b2, by omega, rfl, by go_num, HX3, Lib.hid (HSM.out 1 (by omega))⟩
        case measure => simp [intOf]; omega
      obtain ⟨dm, hdm⟩ : ∃ dm, deep = dm + 1 := ⟨deep - 1, by omega⟩
      have dd : ¬ (dv ≤ 0) := by have := HDV.out; omega
      have HRD : Hid (R = 4 + bodyMax dm) := Lib.hid (by have := HR.out; rw [hdm] at this; exact this.symm)
      go_wp2_with (at_builtin; refine wp_append1s _ (m := w1.heap.size) rfl rfl _ _ 41 rfl 71 (.agg #[.int .i64 0, .int .i32 0]) 2 16 Tryd.underlying41 info_op rfl (by decide) rfl HX1.out.row rfl rfl ?_ ?_ ?_ ?_; (intro u hu; simp at hu; rcases hu with rfl | rfl <;> rfl); (unfold maxLen; omega); omega; intro B2 d2 w3 b2 hR3 hg3 hb3; have HX3 := Lib.hid (HX1.out.app1 hR3 hg3 hb3 hok); clear hR3 hg3 hb3)
      refine (l01Once_calls g 3 w3 (by omega) (by omega) HX3.out.cur).mono ?_
      rintro e w4 ⟨x, rfl, hC1, hT1⟩
      have HX4 := Lib.hid (HX3.out.turned hT1 hC1)
      clear hC1 hT1
      cases x
      · go_wp2_with fail
        go_roundw
        case rel => exact ⟨k + 1, L + 1, _, B2, d2, b2, by omega, rfl, by go_num, HX4, Lib.hid (HSM.out 1 (by omega))⟩
        case measure => simp [intOf]; omega
      · go_wp2_with fail
        have hih := IH.out dm (by omega) g n w4 HX4.out.cur hn0 hn1 (by omega)
        rw [show ((dm : Nat) : Int) = dv - 1 by have := HDV.out; omega] at hih
        refine hih.mono ?_
        rintro e w5 ⟨ys, M, B5, d5, b5, rfl, hY, hM⟩
        have HY := Lib.hid hY
        have HX5 := Lib.hid (HX4.out.drawn hY.dr hY.cur)
        have HM5 : Hid (4 + M ≤ R) := Lib.hid (by rw [HRD.out]; omega)
        have hMb : M ≤ 361 := by have := HM5.out; omega
        have HBY : Hid (∀ x, b5 = some x → b2 ≠ some x) := Lib.hid (fun x e e2 => by have := hY.lo x e; have := HX4.out.row.lt x e2; omega)
        clear hY hM
        go_wp2_with fail
        refine (l01Below_calls g 3 w5 (by omega) (by omega) HX5.out.cur).mono ?_
        rintro e w6 ⟨x, rfl, hx0, hx1, hC1, hT1⟩
        have HX6 := Lib.hid (HX5.out.turned hT1 hC1)
        have HY6 := Lib.hid (HY.out.turned hT1 hC1)
        clear hC1 hT1
        have hx : x = 0 ∨ x = 1 ∨ x = 2 := by omega
        rcases hx with rfl | rfl | rfl
        · go_wp2_with fail
          refine (l01Below_calls g 4 w6 (by omega) (by omega) HX6.out.cur).mono ?_
          rintro e w7 ⟨x7, rfl, hx0, hx1, hC1, hT1⟩
          have HX7 := Lib.hid (HX6.out.turned hT1 hC1)
          have HY7 := Lib.hid (HY6.out.turned hT1 hC1)
          clear hC1 hT1
          go_wp2_with (first | (at_builtin; refine wp_append _ rfl _ _ 41 rfl 71 (.agg #[.int .i64 0, .int .i32 0]) 2 16 Tryd.underlying41 info_op rfl (by decide) rfl (HX7.out.row.alloc _) rfl (by rfl) (Row.made w7 #[.int .i64 0, .int .i32 x7, .int .i64 6, .int .i32 0] 71 2 2 (by decide) rfl).rd (by intro u hu; simp at hu; rcases hu with rfl | rfl | rfl | rfl <;> rfl) (by unfold maxLen; omega) (by omega) ?_; intro B8 d8 w8 b8 hR3 hg3 hb3; have HX8 := Lib.hid ((HX7.out.alloc _).app2 hR3 hg3 hb3 (ok_zero hx0 (by omega)) (ok_zero (by omega) (by omega))); have HY8 := Lib.hid (Row.grown (HY7.out.row.alloc _) hg3 (hne_of HBY.out)); have HN8 : Hid (∀ x, b5 = some x → b8 ≠ some x) := Lib.hid (ne_fresh (HY7.out.row.alloc _) HBY.out hb3); clear hR3 hg3 hb3) | (at_builtin; refine wp_append _ rfl _ _ 41 rfl 71 (.agg #[.int .i64 0, .int .i32 0]) 2 16 Tryd.underlying41 info_op rfl (by decide) rfl HX8.out.row rfl (by rw [flat_length LOp.enc_len, HY.out.len]) HY8.out.rd enc_one (by unfold maxLen; omega) (by omega) ?_; intro B9 d9 w9 b9 hR3 hg3 hb3; have HX9 := Lib.hid (HX8.out.app hR3 hg3 hb3 HY.out.ok HY.out.len); clear hR3 hg3 hb3) | (at_builtin; refine wp_append1s _ (m := w9.heap.size) rfl rfl _ _ 41 rfl 71 (.agg #[.int .i64 0, .int .i32 0]) 2 16 Tryd.underlying41 info_op rfl (by decide) rfl HX9.out.row rfl rfl ?_ ?_ ?_ ?_; (intro u hu; simp at hu; rcases hu with rfl | rfl <;> rfl); (unfold maxLen; omega); omega; intro B10 d10 w10 b10 hR3 hg3 hb3; have HX10 := Lib.hid (HX9.out.app1 hR3 hg3 hb3 (ok_zero (by omega) (by omega))); clear hR3 hg3 hb3))
          go_roundw
          case rel => exact ⟨k + 1, L + 1 + 2 + M + 1, _, B10, d10, b10, by omega, rfl, by go_num, HX10, Lib.hid (by have := HSM.out (1 + 2 + M + 1) (by have := HM5.out; omega); omega)⟩
          case measure => simp [intOf]; omega
        · go_wp2_with (first | (at_builtin; refine wp_append1s _ (m := w6.heap.size) rfl rfl _ _ 41 rfl 71 (.agg #[.int .i64 0, .int .i32 0]) 2 16 Tryd.underlying41 info_op rfl (by decide) rfl HX6.out.row rfl rfl ?_ ?_ ?_ ?_; (intro u hu; simp at hu; rcases hu with rfl | rfl <;> rfl); (unfold maxLen; omega); omega; intro B8 d8 w8 b8 hR3 hg3 hb3; have HX8 := Lib.hid (HX6.out.app1 hR3 hg3 hb3 (ok_zero (by omega) (by omega))); have HY8 := Lib.hid (Row.grown HY6.out.row hg3 (hne_of HBY.out)); have HN8 : Hid (∀ x, b5 = some x → b8 ≠ some x) := Lib.hid (ne_fresh HY6.out.row HBY.out hb3); clear hR3 hg3 hb3) | (at_builtin; refine wp_append _ rfl _ _ 41 rfl 71 (.agg #[.int .i64 0, .int .i32 0]) 2 16 Tryd.underlying41 info_op rfl (by decide) rfl HX8.out.row rfl (by rw [flat_length LOp.enc_len, HY.out.len]) HY8.out.rd enc_one (by unfold maxLen; omega) (by omega) ?_; intro B9 d9 w9 b9 hR3 hg3 hb3; have HX9 := Lib.hid (HX8.out.app hR3 hg3 hb3 HY.out.ok HY.out.len); clear hR3 hg3 hb3) | (at_builtin; refine wp_append1s _ (m := w9.heap.size) rfl rfl _ _ 41 rfl 71 (.agg #[.int .i64 0, .int .i32 0]) 2 16 Tryd.underlying41 info_op rfl (by decide) rfl HX9.out.row rfl rfl ?_ ?_ ?_ ?_; (intro u hu; simp at hu; rcases hu with rfl | rfl <;> rfl); (unfold maxLen; omega); omega; intro B10 d10 w10 b10 hR3 hg3 hb3; have HX10 := Lib.hid (HX9.out.app1 hR3 hg3 hb3 (ok_zero (by omega) (by omega))); clear hR3 hg3 hb3))
          go_roundw
          case rel => exact ⟨k + 1, L + 1 + 1 + M + 1, _, B10, d10, b10, by omega, rfl, by go_num, HX10, Lib.hid (by have := HSM.out (1 + 1 + M + 1) (by have := HM5.out; omega); omega)⟩
          case measure => simp [intOf]; omega
        · go_wp2_with (first | (at_builtin; refine wp_append1s _ (m := w6.heap.size) rfl rfl _ _ 41 rfl 71 (.agg #[.int .i64 0, .int .i32 0]) 2 16 Tryd.underlying41 info_op rfl (by decide) rfl HX6.out.row rfl rfl ?_ ?_ ?_ ?_; (intro u hu; simp at hu; rcases hu with rfl | rfl <;> rfl); (unfold maxLen; omega); omega; intro B8 d8 w8 b8 hR3 hg3 hb3; have HX8 := Lib.hid (HX6.out.app1 hR3 hg3 hb3 (ok_zero (by omega) (by omega))); have HY8 := Lib.hid (Row.grown HY6.out.row hg3 (hne_of HBY.out)); have HN8 : Hid (∀ x, b5 = some x → b8 ≠ some x) := Lib.hid (ne_fresh HY6.out.row HBY.out hb3); clear hR3 hg3 hb3) | (at_builtin; refine wp_append _ rfl _ _ 41 rfl 71 (.agg #[.int .i64 0, .int .i32 0]) 2 16 Tryd.underlying41 info_op rfl (by decide) rfl HX8.out.row rfl (by rw [flat_length LOp.enc_len, HY.out.len]) HY8.out.rd enc_one (by unfold maxLen; omega) (by omega) ?_; intro B9 d9 w9 b9 hR3 hg3 hb3; have HX9 := Lib.hid (HX8.out.app hR3 hg3 hb3 HY.out.ok HY.out.len); clear hR3 hg3 hb3) | (at_builtin; refine wp_append1s _ (m := w9.heap.size) rfl rfl _ _ 41 rfl 71 (.agg #[.int .i64 0, .int .i32 0]) 2 16 Tryd.underlying41 info_op rfl (by decide) rfl HX9.out.row rfl rfl ?_ ?_ ?_ ?_; (intro u hu; simp at hu; rcases hu with rfl | rfl <;> rfl); (unfold maxLen; omega); omega; intro B10 d10 w10 b10 hR3 hg3 hb3; have HX10 := Lib.hid (HX9.out.app1 hR3 hg3 hb3 (ok_zero (by omega) (by omega))); clear hR3 hg3 hb3))
          go_roundw
          case rel => exact ⟨k + 1, L + 1 + 1 + M + 1, _, B10, d10, b10, by omega, rfl, by go_num, HX10, Lib.hid (by have := HSM.out (1 + 1 + M + 1) (by have := HM5.out; omega); omega)⟩
          case measure => simp [intOf]; omega
    · have : k = kk := by omega
      subst this
      have HLL : Hid (L + 1 ≤ bodyMax deep) := Lib.hid (by rw [HM.out]; have := HL.out; have := Nat.mul_le_mul_right R hkk; omega)
      go_wp2_with fail
      refine (l01Once_calls g 4 wr (by omega) (by omega) HX.out.cur).mono ?_
      rintro e w4 ⟨x, rfl, hC1, hT1⟩
      have HX4 := Lib.hid (HX.out.turned hT1 hC1)
      clear hC1 hT1
      cases x
      · go_wp2_with fail
        go_ret
        exact ⟨xs, L, B, d, b, rfl, HX4.out, by have := HLL.out; omega⟩
      · go_wp2_with (at_builtin; refine wp_append1s _ (m := w4.heap.size) rfl rfl _ _ 41 rfl 71 (.agg #[.int .i64 0, .int .i32 0]) 2 16 Tryd.underlying41 info_op rfl (by decide) rfl HX4.out.row rfl rfl ?_ ?_ ?_ ?_; (intro u hu; simp at hu; rcases hu with rfl | rfl <;> rfl); (unfold maxLen; omega); omega; intro B2 d2 w3 b2 hR3 hg3 hb3; have HX3 := Lib.hid (HX4.out.app1 hR3 hg3 hb3 (ok_zero (by omega) (by omega))); clear hR3 hg3 hb3)
        go_ret
        exact ⟨_, L + 1, B2, d2, b2, rfl, HX3.out, HLL.out⟩
end Go.Proofs.YtfmmfgjelaekhaaDoor

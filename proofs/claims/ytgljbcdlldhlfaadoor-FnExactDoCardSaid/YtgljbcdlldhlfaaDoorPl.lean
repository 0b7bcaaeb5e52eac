/- What a built-in word does: contracts of place, result, written, wants. -/
import Derived.Test.YtgljbcdlldhlfaaDoorDp
import Derived.Test.YtgljbcdlldhlfaaDoorSx
import Derived.Lib.AppendStr
set_option linter.unusedVariables false
set_option linter.unusedSimpArgs false
namespace Go.Proofs.YtgljbcdlldhlfaaDoor
open Go.RowKit

theorem wrap64_i32 {y : Int} (h : (Lit.int .i32 y).wf = true) : wrap64 y = y := by
  simp only [Lit.wf, IntKind.min, IntKind.max, IntKind.signed, IntKind.bits, Bool.and_eq_true, decide_eq_true_eq, if_true] at h
  unfold wrap64
  omega
theorem i32_range {y : Int} (h : (Lit.int .i32 y).wf = true) : -2147483648 ≤ y ∧ y ≤ 2147483647 := by
  simp only [Lit.wf, IntKind.min, IntKind.max, IntKind.signed, IntKind.bits, Bool.and_eq_true, decide_eq_true_eq, if_true] at h
  omega
def placeL (s : LSt) (y : Int) : Value :=
  if 0 ≤ y ∧ y ≤ 31 then .tuple #[.int .i64 y, .bool true, .bool true] else if 0 ≤ y - 1024 ∧ y - 1024 ≤ (s.cells.length : Int) - 1 then .tuple #[.int .i64 (y - 1024), .bool false, .bool true] else .tuple #[.int .i64 0, .bool false, .bool false]
set_option maxRecDepth 100000 in
theorem place_calls (s : LSt) (g lo : Nat) (y : Int) (w : World) (hG : StX w g lo s) (hc : s.cells.length ≤ 1048576) (hy : (Lit.int .i32 y).wf = true) :
    Calls Tryd.prog 96 #[.pointer (some ⟨g, 0, none⟩), .int .i32 y] w fun e w' => e = .returned (placeL s y) ∧ w = w' := by
  obtain ⟨D0, d0, D1, d1, D3, d3, D4, d4, D5, d5, D6, d6, D7, d7, hg, -⟩ := hG.cells
  have cc := blk_cell hg
  have w64 := wrap64_i32 hy
  have hr := i32_range hy
  clear hG hg hy
  by_cases h1 : 0 ≤ y ∧ y ≤ 31
  · have HP : Hid (placeL s y = .tuple #[.int .i64 y, .bool true, .bool true]) := Lib.hid (by simp [placeL, h1])
    have b1 : decide (0 ≤ y ∧ y ≤ 31) = true := decide_eq_true h1
    clear h1
    go_enter Tryd.func96, Tryd.ntmps96
    go_wp2_with (go_at_call 92; (with_reducible refine (within_calls _ _ _ _).mono ?_); rintro e w1 ⟨rfl, rfl⟩; first | rw [b1] | rw [b2])
    exact bodyPost_ret (v := .tuple #[.int .i64 y, .bool true, .bool true]) (by simp [results, Tryd.results96, go_sem]) rfl ⟨by rw [HP.out], rfl⟩
  · by_cases h2 : 0 ≤ y - 1024 ∧ y - 1024 ≤ (s.cells.length : Int) - 1
    · have HP : Hid (placeL s y = .tuple #[.int .i64 (y - 1024), .bool false, .bool true]) := Lib.hid (by simp only [placeL, if_neg h1, if_pos h2])
      have b1 : decide (0 ≤ y ∧ y ≤ 31) = false := decide_eq_false h1
      have b2 : decide (0 ≤ y - 1024 ∧ y - 1024 ≤ (s.cells.length : Int) - 1) = true := decide_eq_true h2
      clear h1 h2
      go_enter Tryd.func96, Tryd.ntmps96
      go_wp2_with (go_at_call 92; (with_reducible refine (within_calls _ _ _ _).mono ?_); rintro e w1 ⟨rfl, rfl⟩; first | rw [b1] | rw [b2])
      exact bodyPost_ret (v := .tuple #[.int .i64 (y - 1024), .bool false, .bool true]) (by simp [results, Tryd.results96, go_sem]) rfl ⟨by rw [HP.out], rfl⟩
    · have HP : Hid (placeL s y = .tuple #[.int .i64 0, .bool false, .bool false]) := Lib.hid (by simp only [placeL, if_neg h1, if_neg h2])
      have b1 : decide (0 ≤ y ∧ y ≤ 31) = false := decide_eq_false h1
      have b2 : decide (0 ≤ y - 1024 ∧ y - 1024 ≤ (s.cells.length : Int) - 1) = false := decide_eq_false h2
      clear h1 h2
      go_enter Tryd.func96, Tryd.ntmps96
      go_wp2_with (go_at_call 92; (with_reducible refine (within_calls _ _ _ _).mono ?_); rintro e w1 ⟨rfl, rfl⟩; first | rw [b1] | rw [b2])
      exact bodyPost_ret (v := .tuple #[.int .i64 0, .bool false, .bool false]) (by simp [results, Tryd.results96, go_sem]) rfl ⟨by rw [HP.out], rfl⟩
set_option maxRecDepth 100000 in
theorem result_0 (s : LSt) (x y : Int) (w : World) : Calls Tryd.prog 99 #[.string ⟨#[100, 117, 112]⟩, .int .i32 x, .int .i32 y] w fun e w' => ∃ A c, e = .returned (.tuple #[.slice A (eff 0 s x y).2.1.length c, .int .i64 (eff 0 s x y).2.2]) ∧ Rd w' A ((eff 0 s x y).2.1.map (Value.int .i32)) ∧ Below w.heap.size w w' := by
  go_enter Tryd.func99, Tryd.ntmps99
  go_wp2_with fail
  refine bodyPost_ret (v := .tuple #[.slice (some ⟨w.heap.size, 0, none⟩) 2 2, .int .i64 0]) (by simp [results, Tryd.results99, go_sem]) rfl ⟨_, _, rfl, (Row.made w _ 21 1 2 (by decide) (by rfl)).rd, ?_⟩
  repeat (first | exact Below.refl _ _ | apply bl_alloc)
set_option maxRecDepth 100000 in
theorem result_1 (s : LSt) (x y : Int) (w : World) : Calls Tryd.prog 99 #[.string ⟨#[100, 114, 111, 112]⟩, .int .i32 x, .int .i32 y] w fun e w' => ∃ A c, e = .returned (.tuple #[.slice A (eff 1 s x y).2.1.length c, .int .i64 (eff 1 s x y).2.2]) ∧ Rd w' A ((eff 1 s x y).2.1.map (Value.int .i32)) ∧ Below w.heap.size w w' := by
  go_enter Tryd.func99, Tryd.ntmps99
  go_wp2_with fail
  refine bodyPost_ret (v := .tuple #[.slice none 0 0, .int .i64 0]) (by simp [results, Tryd.results99, go_sem]) rfl ⟨_, _, rfl, Rd.nil _ _, ?_⟩
  repeat (first | exact Below.refl _ _ | apply bl_alloc)
set_option maxRecDepth 100000 in
theorem result_2 (s : LSt) (x y : Int) (w : World) : Calls Tryd.prog 99 #[.string ⟨#[111, 118, 101, 114]⟩, .int .i32 x, .int .i32 y] w fun e w' => ∃ A c, e = .returned (.tuple #[.slice A (eff 2 s x y).2.1.length c, .int .i64 (eff 2 s x y).2.2]) ∧ Rd w' A ((eff 2 s x y).2.1.map (Value.int .i32)) ∧ Below w.heap.size w w' := by
  go_enter Tryd.func99, Tryd.ntmps99
  go_wp2_with fail
  refine bodyPost_ret (v := .tuple #[.slice (some ⟨w.heap.size, 0, none⟩) 3 3, .int .i64 0]) (by simp [results, Tryd.results99, go_sem]) rfl ⟨_, _, rfl, (Row.made w _ 21 1 3 (by decide) (by rfl)).rd, ?_⟩
  repeat (first | exact Below.refl _ _ | apply bl_alloc)
set_option maxRecDepth 100000 in
theorem result_3 (s : LSt) (x y : Int) (w : World) : Calls Tryd.prog 99 #[.string ⟨#[110, 105, 112]⟩, .int .i32 x, .int .i32 y] w fun e w' => ∃ A c, e = .returned (.tuple #[.slice A (eff 3 s x y).2.1.length c, .int .i64 (eff 3 s x y).2.2]) ∧ Rd w' A ((eff 3 s x y).2.1.map (Value.int .i32)) ∧ Below w.heap.size w w' := by
  go_enter Tryd.func99, Tryd.ntmps99
  go_wp2_with fail
  refine bodyPost_ret (v := .tuple #[.slice (some ⟨w.heap.size, 0, none⟩) 1 1, .int .i64 0]) (by simp [results, Tryd.results99, go_sem]) rfl ⟨_, _, rfl, (Row.made w _ 21 1 1 (by decide) (by rfl)).rd, ?_⟩
  repeat (first | exact Below.refl _ _ | apply bl_alloc)
set_option maxRecDepth 100000 in
theorem result_4 (s : LSt) (x y : Int) (w : World) : Calls Tryd.prog 99 #[.string ⟨#[115, 119, 97, 112]⟩, .int .i32 x, .int .i32 y] w fun e w' => ∃ A c, e = .returned (.tuple #[.slice A (eff 4 s x y).2.1.length c, .int .i64 (eff 4 s x y).2.2]) ∧ Rd w' A ((eff 4 s x y).2.1.map (Value.int .i32)) ∧ Below w.heap.size w w' := by
  go_enter Tryd.func99, Tryd.ntmps99
  go_wp2_with fail
  refine bodyPost_ret (v := .tuple #[.slice (some ⟨w.heap.size, 0, none⟩) 2 2, .int .i64 0]) (by simp [results, Tryd.results99, go_sem]) rfl ⟨_, _, rfl, (Row.made w _ 21 1 2 (by decide) (by rfl)).rd, ?_⟩
  repeat (first | exact Below.refl _ _ | apply bl_alloc)
set_option maxRecDepth 100000 in
theorem result_5 (s : LSt) (x y : Int) (w : World) : Calls Tryd.prog 99 #[.string ⟨#[43]⟩, .int .i32 x, .int .i32 y] w fun e w' => ∃ A c, e = .returned (.tuple #[.slice A (eff 5 s x y).2.1.length c, .int .i64 (eff 5 s x y).2.2]) ∧ Rd w' A ((eff 5 s x y).2.1.map (Value.int .i32)) ∧ Below w.heap.size w w' := by
  go_enter Tryd.func99, Tryd.ntmps99
  go_wp2_with fail
  refine bodyPost_ret (v := .tuple #[.slice (some ⟨w.heap.size, 0, none⟩) 1 1, .int .i64 0]) (by simp [results, Tryd.results99, go_sem]) rfl ⟨_, _, rfl, (Row.made w _ 21 1 1 (by decide) (by rfl)).rd, ?_⟩
  repeat (first | exact Below.refl _ _ | apply bl_alloc)
set_option maxRecDepth 100000 in
theorem result_6 (s : LSt) (x y : Int) (w : World) : Calls Tryd.prog 99 #[.string ⟨#[45]⟩, .int .i32 x, .int .i32 y] w fun e w' => ∃ A c, e = .returned (.tuple #[.slice A (eff 6 s x y).2.1.length c, .int .i64 (eff 6 s x y).2.2]) ∧ Rd w' A ((eff 6 s x y).2.1.map (Value.int .i32)) ∧ Below w.heap.size w w' := by
  have hsg : IntKind.i32.signed = true := rfl
  go_enter Tryd.func99, Tryd.ntmps99
  go_wp2_with fail
  refine bodyPost_ret (v := .tuple #[.slice (some ⟨w.heap.size, 0, none⟩) 1 1, .int .i64 0]) (by simp [results, Tryd.results99, go_sem]) rfl ⟨_, _, rfl, (Row.made w _ 21 1 1 (by decide) (by rfl)).rd, ?_⟩
  repeat (first | exact Below.refl _ _ | apply bl_alloc)
set_option maxRecDepth 100000 in
theorem result_7 (s : LSt) (x y : Int) (w : World) : Calls Tryd.prog 99 #[.string ⟨#[42]⟩, .int .i32 x, .int .i32 y] w fun e w' => ∃ A c, e = .returned (.tuple #[.slice A (eff 7 s x y).2.1.length c, .int .i64 (eff 7 s x y).2.2]) ∧ Rd w' A ((eff 7 s x y).2.1.map (Value.int .i32)) ∧ Below w.heap.size w w' := by
  go_enter Tryd.func99, Tryd.ntmps99
  go_wp2_with fail
  refine bodyPost_ret (v := .tuple #[.slice (some ⟨w.heap.size, 0, none⟩) 1 1, .int .i64 0]) (by simp [results, Tryd.results99, go_sem]) rfl ⟨_, _, rfl, (Row.made w _ 21 1 1 (by decide) (by rfl)).rd, ?_⟩
  repeat (first | exact Below.refl _ _ | apply bl_alloc)
set_option maxRecDepth 100000 in
theorem result_8 (s : LSt) (x y : Int) (w : World) : Calls Tryd.prog 99 #[.string ⟨#[97, 110, 100]⟩, .int .i32 x, .int .i32 y] w fun e w' => ∃ A c, e = .returned (.tuple #[.slice A (eff 8 s x y).2.1.length c, .int .i64 (eff 8 s x y).2.2]) ∧ Rd w' A ((eff 8 s x y).2.1.map (Value.int .i32)) ∧ Below w.heap.size w w' := by
  go_enter Tryd.func99, Tryd.ntmps99
  go_wp2_with fail
  refine bodyPost_ret (v := .tuple #[.slice (some ⟨w.heap.size, 0, none⟩) 1 1, .int .i64 0]) (by simp [results, Tryd.results99, go_sem]) rfl ⟨_, _, rfl, (Row.made w _ 21 1 1 (by decide) (by rfl)).rd, ?_⟩
  repeat (first | exact Below.refl _ _ | apply bl_alloc)
set_option maxRecDepth 100000 in
theorem result_9 (s : LSt) (x y : Int) (w : World) : Calls Tryd.prog 99 #[.string ⟨#[111, 114]⟩, .int .i32 x, .int .i32 y] w fun e w' => ∃ A c, e = .returned (.tuple #[.slice A (eff 9 s x y).2.1.length c, .int .i64 (eff 9 s x y).2.2]) ∧ Rd w' A ((eff 9 s x y).2.1.map (Value.int .i32)) ∧ Below w.heap.size w w' := by
  go_enter Tryd.func99, Tryd.ntmps99
  go_wp2_with fail
  refine bodyPost_ret (v := .tuple #[.slice (some ⟨w.heap.size, 0, none⟩) 1 1, .int .i64 0]) (by simp [results, Tryd.results99, go_sem]) rfl ⟨_, _, rfl, (Row.made w _ 21 1 1 (by decide) (by rfl)).rd, ?_⟩
  repeat (first | exact Below.refl _ _ | apply bl_alloc)
set_option maxRecDepth 100000 in
theorem result_10 (s : LSt) (x y : Int) (w : World) : Calls Tryd.prog 99 #[.string ⟨#[50, 42]⟩, .int .i32 x, .int .i32 y] w fun e w' => ∃ A c, e = .returned (.tuple #[.slice A (eff 10 s x y).2.1.length c, .int .i64 (eff 10 s x y).2.2]) ∧ Rd w' A ((eff 10 s x y).2.1.map (Value.int .i32)) ∧ Below w.heap.size w w' := by
  go_enter Tryd.func99, Tryd.ntmps99
  go_wp2_with fail
  refine bodyPost_ret (v := .tuple #[.slice (some ⟨w.heap.size, 0, none⟩) 1 1, .int .i64 0]) (by simp [results, Tryd.results99, go_sem]) rfl ⟨_, _, rfl, (Row.made w _ 21 1 1 (by decide) (by rfl)).rd, ?_⟩
  repeat (first | exact Below.refl _ _ | apply bl_alloc)
set_option maxRecDepth 100000 in
theorem result_11 (s : LSt) (x y : Int) (w : World) : Calls Tryd.prog 99 #[.string ⟨#[50, 47]⟩, .int .i32 x, .int .i32 y] w fun e w' => ∃ A c, e = .returned (.tuple #[.slice A (eff 11 s x y).2.1.length c, .int .i64 (eff 11 s x y).2.2]) ∧ Rd w' A ((eff 11 s x y).2.1.map (Value.int .i32)) ∧ Below w.heap.size w w' := by
  go_enter Tryd.func99, Tryd.ntmps99
  go_wp2_with fail
  refine bodyPost_ret (v := .tuple #[.slice (some ⟨w.heap.size, 0, none⟩) 1 1, .int .i64 0]) (by simp [results, Tryd.results99, go_sem]) rfl ⟨_, _, rfl, (Row.made w _ 21 1 1 (by decide) (by rfl)).rd, ?_⟩
  repeat (first | exact Below.refl _ _ | apply bl_alloc)
set_option maxRecDepth 100000 in
theorem result_23 (s : LSt) (x y : Int) (w : World) : Calls Tryd.prog 99 #[.string ⟨#[110, 111, 112]⟩, .int .i32 x, .int .i32 y] w fun e w' => ∃ A c, e = .returned (.tuple #[.slice A (eff 23 s x y).2.1.length c, .int .i64 (eff 23 s x y).2.2]) ∧ Rd w' A ((eff 23 s x y).2.1.map (Value.int .i32)) ∧ Below w.heap.size w w' := by
  go_enter Tryd.func99, Tryd.ntmps99
  go_wp2_with fail
  refine bodyPost_ret (v := .tuple #[.slice none 0 0, .int .i64 0]) (by simp [results, Tryd.results99, go_sem]) rfl ⟨_, _, rfl, Rd.nil _ _, ?_⟩
  repeat (first | exact Below.refl _ _ | apply bl_alloc)
theorem tdiv_le (x y : Int) : (x.tdiv y).natAbs ≤ x.natAbs := by rw [Int.natAbs_tdiv]; exact Nat.div_le_self _ _
theorem wrap64_tdiv {x y : Int} (h : (Lit.int .i32 x).wf = true) : wrap64 (x.tdiv y) = x.tdiv y := by
  have h1 := i32_range h
  have h2 := tdiv_le x y
  unfold wrap64
  omega
set_option maxRecDepth 100000 in
theorem result_12_zero (s : LSt) (x y : Int) (w : World) (hy : y = 0) : Calls Tryd.prog 99 #[.string ⟨#[47, 109, 111, 100]⟩, .int .i32 x, .int .i32 y] w fun e w' => ∃ A c, e = .returned (.tuple #[.slice A (eff 12 s x y).2.1.length c, .int .i64 (eff 12 s x y).2.2]) ∧ Rd w' A ((eff 12 s x y).2.1.map (Value.int .i32)) ∧ Below w.heap.size w w' := by
  subst hy
  go_enter Tryd.func99, Tryd.ntmps99
  go_wp2_with fail
  refine bodyPost_ret (v := .tuple #[.slice none 0 0, .int .i64 5]) (by simp [results, Tryd.results99, go_sem]) rfl ⟨none, 0, rfl, Rd.nil _ _, Below.refl _ _⟩
set_option maxRecDepth 100000 in
theorem result_12_div (s : LSt) (x y : Int) (w : World) (hx : (Lit.int .i32 x).wf = true) (hyw : (Lit.int .i32 y).wf = true) (hy : y ≠ 0) : Calls Tryd.prog 99 #[.string ⟨#[47, 109, 111, 100]⟩, .int .i32 x, .int .i32 y] w fun e w' => ∃ A c, e = .returned (.tuple #[.slice A (eff 12 s x y).2.1.length c, .int .i64 (eff 12 s x y).2.2]) ∧ Rd w' A ((eff 12 s x y).2.1.map (Value.int .i32)) ∧ Below w.heap.size w w' := by
  have HE : Hid (eff 12 s x y = (s, [w32 (x.tmod y), w32 (x.tdiv y)], 0)) := Lib.hid (if_neg hy)
  have x64 := wrap64_i32 hx
  have y64 := wrap64_i32 hyw
  have q64 := wrap64_tdiv (y := y) hx
  have y0 : (y == 0) = false := by simpa using hy
  go_enter Tryd.func99, Tryd.ntmps99
  go_wp2_with fail
  refine bodyPost_ret (v := .tuple #[.slice (some ⟨w.heap.size, 0, none⟩) 2 2, .int .i64 0]) (by simp [results, Tryd.results99, go_sem]) rfl ⟨_, _, by rw [HE.out]; rfl, ?_, ?_⟩
  · rw [HE.out]
    exact (Row.made w _ 21 1 2 (by decide) (by rfl)).rd
  · repeat (first | exact Below.refl _ _ | apply bl_alloc)
end Go.Proofs.YtgljbcdlldhlfaaDoor

/- The reference's built-in words: contracts of l08Takes, l08Pure, l08Place, l08Divide, l08Fetch, l08Say. -/
import Derived.Test.YtgljbcdlldhlfaaDoorDz
import Derived.Test.YtgljbcdlldhlfaaDoorEh
import Derived.Test.YtgljbcdlldhlfaaDoorDr
set_option linter.unusedVariables false
set_option linter.unusedSimpArgs false
namespace Go.Proofs.YtgljbcdlldhlfaaDoor
open Go.RowKit

theorem resK_put {s : LSt} {t : Nat} {xs : List Int} : resK s t (s, xs, 0) = putSt s t xs := by simp [resK, putSt]
theorem resK_fault {s s' : LSt} {t : Nat} {xs : List Int} {f : Int} (h : f ≠ 0) : resK s t (s', xs, f) = { s with fault := f } := by simp [resK, h]
theorem resK_ok {s s' : LSt} {t : Nat} {xs : List Int} (h : s.data.length - t + xs.length ≤ 16) : resK s t (s', xs, 0) = { s' with data := s.data.take (s.data.length - t) ++ xs } := by
  simp only [resK]
  rw [if_neg (by simp), if_neg (by omega)]
theorem resK_over {s s' : LSt} {t : Nat} {xs : List Int} (h : 16 < s.data.length - t + xs.length) : resK s t (s', xs, 0) = { s with fault := 2 } := by
  simp only [resK]
  rw [if_neg (by simp), if_pos h]
theorem putSt_nil {s : LSt} {t : Nat} (h : s.data.length ≤ 16) : putSt s t [] = { s with data := s.data.take (s.data.length - t) } := by
  unfold putSt
  rw [if_neg (by simp; omega), List.append_nil]
theorem l08Put_at (s : LSt) (v : Value) (t n : Nat) (ti : Int) (A : Option Addr) (c : Nat) (xs : List Int) (w : World) (hv : StK w s v) (hs : s.small 1048576) (ht : t ≤ s.data.length) (hti : ti = (t : Int)) (hl : xs.length = n) (hr : Rd w A (xs.map (Value.int .i32))) (hn : n ≤ 1048576) :
    Calls Tryd.prog 32 #[v, .int .i64 ti, .slice A n c] w fun e w' => ∃ v', e = .returned v' ∧ StO w' w.heap.size (putSt s t xs) v' ∧ Below w.heap.size w w' := by
  subst hti hl
  exact l08Put_calls s v t A c xs w hv hs ht hr hn
set_option maxRecDepth 100000 in
set_option maxHeartbeats 1000000 in
theorem takes_calls (k : Nat) (hk : k ≤ 23) (w : World) : Calls Tryd.prog 30 #[.string (primName k)] w fun e w' => e = .returned (.int .i64 (needN k : Nat)) ∧ w = w' := by
  have hc : k = 0 ∨ k = 1 ∨ k = 2 ∨ k = 3 ∨ k = 4 ∨ k = 5 ∨ k = 6 ∨ k = 7 ∨ k = 8 ∨ k = 9 ∨ k = 10 ∨ k = 11 ∨ k = 12 ∨ k = 13 ∨ k = 14 ∨ k = 15 ∨ k = 16 ∨ k = 17 ∨ k = 18 ∨ k = 19 ∨ k = 20 ∨ k = 21 ∨ k = 22 ∨ k = 23 := by omega
  rcases hc with rfl | rfl | rfl | rfl | rfl | rfl | rfl | rfl | rfl | rfl | rfl | rfl | rfl | rfl | rfl | rfl | rfl | rfl | rfl | rfl | rfl | rfl | rfl | rfl
  · rw [show primName (0 : Nat) = ⟨#[100, 117, 112]⟩ from rfl, show ((needN 0 : Nat) : Int) = 1 from rfl]
    go_enter Tryd.func30, Tryd.ntmps30
    go_wp2
    go_ret
    exact ⟨rfl, rfl⟩
  · rw [show primName (1 : Nat) = ⟨#[100, 114, 111, 112]⟩ from rfl, show ((needN 1 : Nat) : Int) = 1 from rfl]
    go_enter Tryd.func30, Tryd.ntmps30
    go_wp2
    go_ret
    exact ⟨rfl, rfl⟩
  · rw [show primName (2 : Nat) = ⟨#[111, 118, 101, 114]⟩ from rfl, show ((needN 2 : Nat) : Int) = 2 from rfl]
    go_enter Tryd.func30, Tryd.ntmps30
    go_wp2
    go_ret
    exact ⟨rfl, rfl⟩
  · rw [show primName (3 : Nat) = ⟨#[110, 105, 112]⟩ from rfl, show ((needN 3 : Nat) : Int) = 2 from rfl]
    go_enter Tryd.func30, Tryd.ntmps30
    go_wp2
    go_ret
    exact ⟨rfl, rfl⟩
  · rw [show primName (4 : Nat) = ⟨#[115, 119, 97, 112]⟩ from rfl, show ((needN 4 : Nat) : Int) = 2 from rfl]
    go_enter Tryd.func30, Tryd.ntmps30
    go_wp2
    go_ret
    exact ⟨rfl, rfl⟩
  · rw [show primName (5 : Nat) = ⟨#[43]⟩ from rfl, show ((needN 5 : Nat) : Int) = 2 from rfl]
    go_enter Tryd.func30, Tryd.ntmps30
    go_wp2
    go_ret
    exact ⟨rfl, rfl⟩
  · rw [show primName (6 : Nat) = ⟨#[45]⟩ from rfl, show ((needN 6 : Nat) : Int) = 1 from rfl]
    go_enter Tryd.func30, Tryd.ntmps30
    go_wp2
    go_ret
    exact ⟨rfl, rfl⟩
  · rw [show primName (7 : Nat) = ⟨#[42]⟩ from rfl, show ((needN 7 : Nat) : Int) = 2 from rfl]
    go_enter Tryd.func30, Tryd.ntmps30
    go_wp2
    go_ret
    exact ⟨rfl, rfl⟩
  · rw [show primName (8 : Nat) = ⟨#[97, 110, 100]⟩ from rfl, show ((needN 8 : Nat) : Int) = 2 from rfl]
    go_enter Tryd.func30, Tryd.ntmps30
    go_wp2
    go_ret
    exact ⟨rfl, rfl⟩
  · rw [show primName (9 : Nat) = ⟨#[111, 114]⟩ from rfl, show ((needN 9 : Nat) : Int) = 2 from rfl]
    go_enter Tryd.func30, Tryd.ntmps30
    go_wp2
    go_ret
    exact ⟨rfl, rfl⟩
  · rw [show primName (10 : Nat) = ⟨#[50, 42]⟩ from rfl, show ((needN 10 : Nat) : Int) = 1 from rfl]
    go_enter Tryd.func30, Tryd.ntmps30
    go_wp2
    go_ret
    exact ⟨rfl, rfl⟩
  · rw [show primName (11 : Nat) = ⟨#[50, 47]⟩ from rfl, show ((needN 11 : Nat) : Int) = 1 from rfl]
    go_enter Tryd.func30, Tryd.ntmps30
    go_wp2
    go_ret
    exact ⟨rfl, rfl⟩
  · rw [show primName (12 : Nat) = ⟨#[47, 109, 111, 100]⟩ from rfl, show ((needN 12 : Nat) : Int) = 2 from rfl]
    go_enter Tryd.func30, Tryd.ntmps30
    go_wp2
    go_ret
    exact ⟨rfl, rfl⟩
  · rw [show primName (13 : Nat) = ⟨#[64]⟩ from rfl, show ((needN 13 : Nat) : Int) = 1 from rfl]
    go_enter Tryd.func30, Tryd.ntmps30
    go_wp2
    go_ret
    exact ⟨rfl, rfl⟩
  · rw [show primName (14 : Nat) = ⟨#[33]⟩ from rfl, show ((needN 14 : Nat) : Int) = 2 from rfl]
    go_enter Tryd.func30, Tryd.ntmps30
    go_wp2
    go_ret
    exact ⟨rfl, rfl⟩
  · rw [show primName (15 : Nat) = ⟨#[97]⟩ from rfl, show ((needN 15 : Nat) : Int) = 0 from rfl]
    go_enter Tryd.func30, Tryd.ntmps30
    go_wp2
    go_ret
    exact ⟨rfl, rfl⟩
  · rw [show primName (16 : Nat) = ⟨#[97, 33]⟩ from rfl, show ((needN 16 : Nat) : Int) = 1 from rfl]
    go_enter Tryd.func30, Tryd.ntmps30
    go_wp2
    go_ret
    exact ⟨rfl, rfl⟩
  · rw [show primName (17 : Nat) = ⟨#[101, 109, 105, 116]⟩ from rfl, show ((needN 17 : Nat) : Int) = 1 from rfl]
    go_enter Tryd.func30, Tryd.ntmps30
    go_wp2
    go_ret
    exact ⟨rfl, rfl⟩
  · rw [show primName (18 : Nat) = ⟨#[107, 101, 121]⟩ from rfl, show ((needN 18 : Nat) : Int) = 0 from rfl]
    go_enter Tryd.func30, Tryd.ntmps30
    go_wp2
    go_ret
    exact ⟨rfl, rfl⟩
  · rw [show primName (19 : Nat) = ⟨#[112, 117, 115, 104]⟩ from rfl, show ((needN 19 : Nat) : Int) = 1 from rfl]
    go_enter Tryd.func30, Tryd.ntmps30
    go_wp2
    go_ret
    exact ⟨rfl, rfl⟩
  · rw [show primName (20 : Nat) = ⟨#[112, 111, 112]⟩ from rfl, show ((needN 20 : Nat) : Int) = 0 from rfl]
    go_enter Tryd.func30, Tryd.ntmps30
    go_wp2
    go_ret
    exact ⟨rfl, rfl⟩
  · rw [show primName (21 : Nat) = ⟨#[105]⟩ from rfl, show ((needN 21 : Nat) : Int) = 0 from rfl]
    go_enter Tryd.func30, Tryd.ntmps30
    go_wp2
    go_ret
    exact ⟨rfl, rfl⟩
  · rw [show primName (22 : Nat) = ⟨#[46]⟩ from rfl, show ((needN 22 : Nat) : Int) = 1 from rfl]
    go_enter Tryd.func30, Tryd.ntmps30
    go_wp2
    go_ret
    exact ⟨rfl, rfl⟩
  · rw [show primName (23 : Nat) = ⟨#[110, 111, 112]⟩ from rfl, show ((needN 23 : Nat) : Int) = 0 from rfl]
    go_enter Tryd.func30, Tryd.ntmps30
    go_wp2
    go_ret
    exact ⟨rfl, rfl⟩
theorem not32 {y : Int} (h : (Lit.int .i32 y).wf = true) : wrap32 (-1 - y) = bits .xor .i32 (-1) y := by
  have hr := i32_range h
  have hb : bits .xor .i32 (-1) y = IntKind.wrap .i32 (((BitVec.ofInt 32 (-1) ^^^ BitVec.ofInt 32 y).toNat : Nat) : Int) := rfl
  have h1 : (BitVec.ofInt 32 (-1) ^^^ BitVec.ofInt 32 y) = ~~~ (BitVec.ofInt 32 y) := by
    rw [show BitVec.ofInt 32 (-1) = BitVec.allOnes 32 from by decide]
    exact BitVec.allOnes_xor
  have h2 : ((BitVec.ofInt 32 y).toNat : Int) = y % 4294967296 := by
    rw [BitVec.toNat_ofInt]
    omega
  rw [hb, h1, BitVec.toNat_not]
  have h3 := (BitVec.ofInt 32 y).isLt
  simp only [IntKind.wrap, IntKind.signed, IntKind.bits, wrap32]
  simp
  split <;> omega
set_option maxRecDepth 100000 in
set_option maxHeartbeats 1000000 in
theorem pure_0 (s : LSt) (x y : Int) (hy : (Lit.int .i32 y).wf = true) (w : World) : Calls Tryd.prog 31 #[.string ⟨#[100, 117, 112]⟩, .int .i32 x, .int .i32 y] w fun e w' => ∃ A c, e = .returned (.tuple #[.slice A (eff 0 s x y).2.1.length c, .bool true]) ∧ Rd w' A ((eff 0 s x y).2.1.map (Value.int .i32)) ∧ Below w.heap.size w w' := by
  go_enter Tryd.func31, Tryd.ntmps31
  go_wp2_with fail
  refine bodyPost_ret (v := .tuple #[.slice (some ⟨w.heap.size, 0, none⟩) 2 2, .bool true]) (by simp [results, Tryd.results31, go_sem]) rfl ⟨_, _, rfl, (Row.made w _ 21 1 2 (by decide) (by rfl)).rd, by repeat (first | exact Below.refl _ _ | apply bl_alloc)⟩
set_option maxRecDepth 100000 in
set_option maxHeartbeats 1000000 in
theorem pure_1 (s : LSt) (x y : Int) (hy : (Lit.int .i32 y).wf = true) (w : World) : Calls Tryd.prog 31 #[.string ⟨#[100, 114, 111, 112]⟩, .int .i32 x, .int .i32 y] w fun e w' => ∃ A c, e = .returned (.tuple #[.slice A (eff 1 s x y).2.1.length c, .bool true]) ∧ Rd w' A ((eff 1 s x y).2.1.map (Value.int .i32)) ∧ Below w.heap.size w w' := by
  go_enter Tryd.func31, Tryd.ntmps31
  go_wp2_with fail
  refine bodyPost_ret (v := .tuple #[.slice (some ⟨w.heap.size, 0, none⟩) 0 0, .bool true]) (by simp [results, Tryd.results31, go_sem]) rfl ⟨_, _, rfl, Rd.nil _ _, by repeat (first | exact Below.refl _ _ | apply bl_alloc)⟩
set_option maxRecDepth 100000 in
set_option maxHeartbeats 1000000 in
theorem pure_2 (s : LSt) (x y : Int) (hy : (Lit.int .i32 y).wf = true) (w : World) : Calls Tryd.prog 31 #[.string ⟨#[111, 118, 101, 114]⟩, .int .i32 x, .int .i32 y] w fun e w' => ∃ A c, e = .returned (.tuple #[.slice A (eff 2 s x y).2.1.length c, .bool true]) ∧ Rd w' A ((eff 2 s x y).2.1.map (Value.int .i32)) ∧ Below w.heap.size w w' := by
  go_enter Tryd.func31, Tryd.ntmps31
  go_wp2_with fail
  refine bodyPost_ret (v := .tuple #[.slice (some ⟨w.heap.size, 0, none⟩) 3 3, .bool true]) (by simp [results, Tryd.results31, go_sem]) rfl ⟨_, _, rfl, (Row.made w _ 21 1 3 (by decide) (by rfl)).rd, by repeat (first | exact Below.refl _ _ | apply bl_alloc)⟩
set_option maxRecDepth 100000 in
set_option maxHeartbeats 1000000 in
theorem pure_3 (s : LSt) (x y : Int) (hy : (Lit.int .i32 y).wf = true) (w : World) : Calls Tryd.prog 31 #[.string ⟨#[110, 105, 112]⟩, .int .i32 x, .int .i32 y] w fun e w' => ∃ A c, e = .returned (.tuple #[.slice A (eff 3 s x y).2.1.length c, .bool true]) ∧ Rd w' A ((eff 3 s x y).2.1.map (Value.int .i32)) ∧ Below w.heap.size w w' := by
  go_enter Tryd.func31, Tryd.ntmps31
  go_wp2_with fail
  refine bodyPost_ret (v := .tuple #[.slice (some ⟨w.heap.size, 0, none⟩) 1 1, .bool true]) (by simp [results, Tryd.results31, go_sem]) rfl ⟨_, _, rfl, (Row.made w _ 21 1 1 (by decide) (by rfl)).rd, by repeat (first | exact Below.refl _ _ | apply bl_alloc)⟩
set_option maxRecDepth 100000 in
set_option maxHeartbeats 1000000 in
theorem pure_4 (s : LSt) (x y : Int) (hy : (Lit.int .i32 y).wf = true) (w : World) : Calls Tryd.prog 31 #[.string ⟨#[115, 119, 97, 112]⟩, .int .i32 x, .int .i32 y] w fun e w' => ∃ A c, e = .returned (.tuple #[.slice A (eff 4 s x y).2.1.length c, .bool true]) ∧ Rd w' A ((eff 4 s x y).2.1.map (Value.int .i32)) ∧ Below w.heap.size w w' := by
  go_enter Tryd.func31, Tryd.ntmps31
  go_wp2_with fail
  refine bodyPost_ret (v := .tuple #[.slice (some ⟨w.heap.size, 0, none⟩) 2 2, .bool true]) (by simp [results, Tryd.results31, go_sem]) rfl ⟨_, _, rfl, (Row.made w _ 21 1 2 (by decide) (by rfl)).rd, by repeat (first | exact Below.refl _ _ | apply bl_alloc)⟩
set_option maxRecDepth 100000 in
set_option maxHeartbeats 1000000 in
theorem pure_5 (s : LSt) (x y : Int) (hy : (Lit.int .i32 y).wf = true) (w : World) : Calls Tryd.prog 31 #[.string ⟨#[43]⟩, .int .i32 x, .int .i32 y] w fun e w' => ∃ A c, e = .returned (.tuple #[.slice A (eff 5 s x y).2.1.length c, .bool true]) ∧ Rd w' A ((eff 5 s x y).2.1.map (Value.int .i32)) ∧ Below w.heap.size w w' := by
  go_enter Tryd.func31, Tryd.ntmps31
  go_wp2_with fail
  refine bodyPost_ret (v := .tuple #[.slice (some ⟨w.heap.size, 0, none⟩) 1 1, .bool true]) (by simp [results, Tryd.results31, go_sem]) rfl ⟨_, _, rfl, (Row.made w _ 21 1 1 (by decide) (by rfl)).rd, by repeat (first | exact Below.refl _ _ | apply bl_alloc)⟩
set_option maxRecDepth 100000 in
set_option maxHeartbeats 1000000 in
theorem pure_6 (s : LSt) (x y : Int) (hy : (Lit.int .i32 y).wf = true) (w : World) : Calls Tryd.prog 31 #[.string ⟨#[45]⟩, .int .i32 x, .int .i32 y] w fun e w' => ∃ A c, e = .returned (.tuple #[.slice A (eff 6 s x y).2.1.length c, .bool true]) ∧ Rd w' A ((eff 6 s x y).2.1.map (Value.int .i32)) ∧ Below w.heap.size w w' := by
  have h6 := not32 hy
  go_enter Tryd.func31, Tryd.ntmps31
  go_wp2_with fail
  refine bodyPost_ret (v := .tuple #[.slice (some ⟨w.heap.size, 0, none⟩) 1 1, .bool true]) (by simp [results, Tryd.results31, go_sem]) rfl ⟨_, _, rfl, (Row.made w _ 21 1 1 (by decide) (by rfl)).rd, by repeat (first | exact Below.refl _ _ | apply bl_alloc)⟩
set_option maxRecDepth 100000 in
set_option maxHeartbeats 1000000 in
theorem pure_7 (s : LSt) (x y : Int) (hy : (Lit.int .i32 y).wf = true) (w : World) : Calls Tryd.prog 31 #[.string ⟨#[42]⟩, .int .i32 x, .int .i32 y] w fun e w' => ∃ A c, e = .returned (.tuple #[.slice A (eff 7 s x y).2.1.length c, .bool true]) ∧ Rd w' A ((eff 7 s x y).2.1.map (Value.int .i32)) ∧ Below w.heap.size w w' := by
  go_enter Tryd.func31, Tryd.ntmps31
  go_wp2_with fail
  refine bodyPost_ret (v := .tuple #[.slice (some ⟨w.heap.size, 0, none⟩) 1 1, .bool true]) (by simp [results, Tryd.results31, go_sem]) rfl ⟨_, _, rfl, (Row.made w _ 21 1 1 (by decide) (by rfl)).rd, by repeat (first | exact Below.refl _ _ | apply bl_alloc)⟩
set_option maxRecDepth 100000 in
set_option maxHeartbeats 1000000 in
theorem pure_8 (s : LSt) (x y : Int) (hy : (Lit.int .i32 y).wf = true) (w : World) : Calls Tryd.prog 31 #[.string ⟨#[97, 110, 100]⟩, .int .i32 x, .int .i32 y] w fun e w' => ∃ A c, e = .returned (.tuple #[.slice A (eff 8 s x y).2.1.length c, .bool true]) ∧ Rd w' A ((eff 8 s x y).2.1.map (Value.int .i32)) ∧ Below w.heap.size w w' := by
  go_enter Tryd.func31, Tryd.ntmps31
  go_wp2_with fail
  refine bodyPost_ret (v := .tuple #[.slice (some ⟨w.heap.size, 0, none⟩) 1 1, .bool true]) (by simp [results, Tryd.results31, go_sem]) rfl ⟨_, _, rfl, (Row.made w _ 21 1 1 (by decide) (by rfl)).rd, by repeat (first | exact Below.refl _ _ | apply bl_alloc)⟩
set_option maxRecDepth 100000 in
set_option maxHeartbeats 1000000 in
theorem pure_9 (s : LSt) (x y : Int) (hy : (Lit.int .i32 y).wf = true) (w : World) : Calls Tryd.prog 31 #[.string ⟨#[111, 114]⟩, .int .i32 x, .int .i32 y] w fun e w' => ∃ A c, e = .returned (.tuple #[.slice A (eff 9 s x y).2.1.length c, .bool true]) ∧ Rd w' A ((eff 9 s x y).2.1.map (Value.int .i32)) ∧ Below w.heap.size w w' := by
  go_enter Tryd.func31, Tryd.ntmps31
  go_wp2_with fail
  refine bodyPost_ret (v := .tuple #[.slice (some ⟨w.heap.size, 0, none⟩) 1 1, .bool true]) (by simp [results, Tryd.results31, go_sem]) rfl ⟨_, _, rfl, (Row.made w _ 21 1 1 (by decide) (by rfl)).rd, by repeat (first | exact Below.refl _ _ | apply bl_alloc)⟩
set_option maxRecDepth 100000 in
set_option maxHeartbeats 1000000 in
theorem pure_10 (s : LSt) (x y : Int) (hy : (Lit.int .i32 y).wf = true) (w : World) : Calls Tryd.prog 31 #[.string ⟨#[50, 42]⟩, .int .i32 x, .int .i32 y] w fun e w' => ∃ A c, e = .returned (.tuple #[.slice A (eff 10 s x y).2.1.length c, .bool true]) ∧ Rd w' A ((eff 10 s x y).2.1.map (Value.int .i32)) ∧ Below w.heap.size w w' := by
  have h10 : y + y = 2 * y := by omega
  go_enter Tryd.func31, Tryd.ntmps31
  go_wp2_with fail
  refine bodyPost_ret (v := .tuple #[.slice (some ⟨w.heap.size, 0, none⟩) 1 1, .bool true]) (by simp [results, Tryd.results31, go_sem]) rfl ⟨_, _, rfl, (Row.made w _ 21 1 1 (by decide) (by rfl)).rd, by repeat (first | exact Below.refl _ _ | apply bl_alloc)⟩
set_option maxRecDepth 100000 in
set_option maxHeartbeats 1000000 in
theorem pure_11 (s : LSt) (x y : Int) (hy : (Lit.int .i32 y).wf = true) (w : World) : Calls Tryd.prog 31 #[.string ⟨#[50, 47]⟩, .int .i32 x, .int .i32 y] w fun e w' => ∃ A c, e = .returned (.tuple #[.slice A (eff 11 s x y).2.1.length c, .bool true]) ∧ Rd w' A ((eff 11 s x y).2.1.map (Value.int .i32)) ∧ Below w.heap.size w w' := by
  go_enter Tryd.func31, Tryd.ntmps31
  go_wp2_with fail
  refine bodyPost_ret (v := .tuple #[.slice (some ⟨w.heap.size, 0, none⟩) 1 1, .bool true]) (by simp [results, Tryd.results31, go_sem]) rfl ⟨_, _, rfl, (Row.made w _ 21 1 1 (by decide) (by rfl)).rd, by repeat (first | exact Below.refl _ _ | apply bl_alloc)⟩
set_option maxRecDepth 100000 in
set_option maxHeartbeats 1000000 in
theorem pure_12 (s : LSt) (x y : Int) (hy : (Lit.int .i32 y).wf = true) (w : World) : Calls Tryd.prog 31 #[.string ⟨#[47, 109, 111, 100]⟩, .int .i32 x, .int .i32 y] w fun e w' => e = .returned (.tuple #[.slice none 0 0, .bool false]) ∧ w = w' := by
  go_enter Tryd.func31, Tryd.ntmps31
  go_wp2_with fail
  exact bodyPost_ret (v := .tuple #[.slice none 0 0, .bool false]) (by simp [results, Tryd.results31, go_sem]) rfl ⟨rfl, rfl⟩
set_option maxRecDepth 100000 in
set_option maxHeartbeats 1000000 in
theorem pure_13 (s : LSt) (x y : Int) (hy : (Lit.int .i32 y).wf = true) (w : World) : Calls Tryd.prog 31 #[.string ⟨#[64]⟩, .int .i32 x, .int .i32 y] w fun e w' => e = .returned (.tuple #[.slice none 0 0, .bool false]) ∧ w = w' := by
  go_enter Tryd.func31, Tryd.ntmps31
  go_wp2_with fail
  exact bodyPost_ret (v := .tuple #[.slice none 0 0, .bool false]) (by simp [results, Tryd.results31, go_sem]) rfl ⟨rfl, rfl⟩
set_option maxRecDepth 100000 in
set_option maxHeartbeats 1000000 in
theorem pure_14 (s : LSt) (x y : Int) (hy : (Lit.int .i32 y).wf = true) (w : World) : Calls Tryd.prog 31 #[.string ⟨#[33]⟩, .int .i32 x, .int .i32 y] w fun e w' => e = .returned (.tuple #[.slice none 0 0, .bool false]) ∧ w = w' := by
  go_enter Tryd.func31, Tryd.ntmps31
  go_wp2_with fail
  exact bodyPost_ret (v := .tuple #[.slice none 0 0, .bool false]) (by simp [results, Tryd.results31, go_sem]) rfl ⟨rfl, rfl⟩
set_option maxRecDepth 100000 in
set_option maxHeartbeats 1000000 in
theorem pure_15 (s : LSt) (x y : Int) (hy : (Lit.int .i32 y).wf = true) (w : World) : Calls Tryd.prog 31 #[.string ⟨#[97]⟩, .int .i32 x, .int .i32 y] w fun e w' => e = .returned (.tuple #[.slice none 0 0, .bool false]) ∧ w = w' := by
  go_enter Tryd.func31, Tryd.ntmps31
  go_wp2_with fail
  exact bodyPost_ret (v := .tuple #[.slice none 0 0, .bool false]) (by simp [results, Tryd.results31, go_sem]) rfl ⟨rfl, rfl⟩
set_option maxRecDepth 100000 in
set_option maxHeartbeats 1000000 in
theorem pure_16 (s : LSt) (x y : Int) (hy : (Lit.int .i32 y).wf = true) (w : World) : Calls Tryd.prog 31 #[.string ⟨#[97, 33]⟩, .int .i32 x, .int .i32 y] w fun e w' => e = .returned (.tuple #[.slice none 0 0, .bool false]) ∧ w = w' := by
  go_enter Tryd.func31, Tryd.ntmps31
  go_wp2_with fail
  exact bodyPost_ret (v := .tuple #[.slice none 0 0, .bool false]) (by simp [results, Tryd.results31, go_sem]) rfl ⟨rfl, rfl⟩
set_option maxRecDepth 100000 in
set_option maxHeartbeats 1000000 in
theorem pure_17 (s : LSt) (x y : Int) (hy : (Lit.int .i32 y).wf = true) (w : World) : Calls Tryd.prog 31 #[.string ⟨#[101, 109, 105, 116]⟩, .int .i32 x, .int .i32 y] w fun e w' => e = .returned (.tuple #[.slice none 0 0, .bool false]) ∧ w = w' := by
  go_enter Tryd.func31, Tryd.ntmps31
  go_wp2_with fail
  exact bodyPost_ret (v := .tuple #[.slice none 0 0, .bool false]) (by simp [results, Tryd.results31, go_sem]) rfl ⟨rfl, rfl⟩
set_option maxRecDepth 100000 in
set_option maxHeartbeats 1000000 in
theorem pure_18 (s : LSt) (x y : Int) (hy : (Lit.int .i32 y).wf = true) (w : World) : Calls Tryd.prog 31 #[.string ⟨#[107, 101, 121]⟩, .int .i32 x, .int .i32 y] w fun e w' => e = .returned (.tuple #[.slice none 0 0, .bool false]) ∧ w = w' := by
  go_enter Tryd.func31, Tryd.ntmps31
  go_wp2_with fail
  exact bodyPost_ret (v := .tuple #[.slice none 0 0, .bool false]) (by simp [results, Tryd.results31, go_sem]) rfl ⟨rfl, rfl⟩
set_option maxRecDepth 100000 in
set_option maxHeartbeats 1000000 in
theorem pure_19 (s : LSt) (x y : Int) (hy : (Lit.int .i32 y).wf = true) (w : World) : Calls Tryd.prog 31 #[.string ⟨#[112, 117, 115, 104]⟩, .int .i32 x, .int .i32 y] w fun e w' => e = .returned (.tuple #[.slice none 0 0, .bool false]) ∧ w = w' := by
  go_enter Tryd.func31, Tryd.ntmps31
  go_wp2_with fail
  exact bodyPost_ret (v := .tuple #[.slice none 0 0, .bool false]) (by simp [results, Tryd.results31, go_sem]) rfl ⟨rfl, rfl⟩
set_option maxRecDepth 100000 in
set_option maxHeartbeats 1000000 in
theorem pure_20 (s : LSt) (x y : Int) (hy : (Lit.int .i32 y).wf = true) (w : World) : Calls Tryd.prog 31 #[.string ⟨#[112, 111, 112]⟩, .int .i32 x, .int .i32 y] w fun e w' => e = .returned (.tuple #[.slice none 0 0, .bool false]) ∧ w = w' := by
  go_enter Tryd.func31, Tryd.ntmps31
  go_wp2_with fail
  exact bodyPost_ret (v := .tuple #[.slice none 0 0, .bool false]) (by simp [results, Tryd.results31, go_sem]) rfl ⟨rfl, rfl⟩
set_option maxRecDepth 100000 in
set_option maxHeartbeats 1000000 in
theorem pure_21 (s : LSt) (x y : Int) (hy : (Lit.int .i32 y).wf = true) (w : World) : Calls Tryd.prog 31 #[.string ⟨#[105]⟩, .int .i32 x, .int .i32 y] w fun e w' => e = .returned (.tuple #[.slice none 0 0, .bool false]) ∧ w = w' := by
  go_enter Tryd.func31, Tryd.ntmps31
  go_wp2_with fail
  exact bodyPost_ret (v := .tuple #[.slice none 0 0, .bool false]) (by simp [results, Tryd.results31, go_sem]) rfl ⟨rfl, rfl⟩
set_option maxRecDepth 100000 in
set_option maxHeartbeats 1000000 in
theorem pure_22 (s : LSt) (x y : Int) (hy : (Lit.int .i32 y).wf = true) (w : World) : Calls Tryd.prog 31 #[.string ⟨#[46]⟩, .int .i32 x, .int .i32 y] w fun e w' => e = .returned (.tuple #[.slice none 0 0, .bool false]) ∧ w = w' := by
  go_enter Tryd.func31, Tryd.ntmps31
  go_wp2_with fail
  exact bodyPost_ret (v := .tuple #[.slice none 0 0, .bool false]) (by simp [results, Tryd.results31, go_sem]) rfl ⟨rfl, rfl⟩
set_option maxRecDepth 100000 in
set_option maxHeartbeats 1000000 in
theorem pure_23 (s : LSt) (x y : Int) (hy : (Lit.int .i32 y).wf = true) (w : World) : Calls Tryd.prog 31 #[.string ⟨#[110, 111, 112]⟩, .int .i32 x, .int .i32 y] w fun e w' => ∃ A c, e = .returned (.tuple #[.slice A (eff 23 s x y).2.1.length c, .bool true]) ∧ Rd w' A ((eff 23 s x y).2.1.map (Value.int .i32)) ∧ Below w.heap.size w w' := by
  go_enter Tryd.func31, Tryd.ntmps31
  go_wp2_with fail
  refine bodyPost_ret (v := .tuple #[.slice (some ⟨w.heap.size, 0, none⟩) 0 0, .bool true]) (by simp [results, Tryd.results31, go_sem]) rfl ⟨_, _, rfl, Rd.nil _ _, by repeat (first | exact Below.refl _ _ | apply bl_alloc)⟩
end Go.Proofs.YtgljbcdlldhlfaaDoor

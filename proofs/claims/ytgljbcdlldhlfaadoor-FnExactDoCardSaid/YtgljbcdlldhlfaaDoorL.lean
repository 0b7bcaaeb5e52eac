/- Contracts of the laws' helpers over slices of whole numbers. -/
import Derived.Test.YtgljbcdlldhlfaaDoorProg
import Derived.Test.YtgljbcdlldhlfaaDoorR
import Derived.Deep.OwnRows
import Derived.Deep.QuietTactic
import Derived.BigQuiet
set_option linter.unusedVariables false
set_option linter.unusedSimpArgs false
namespace Go.Proofs.YtgljbcdlldhlfaaDoor
open Go.RowKit

def mkInt32 (k0 : Int) (n : Nat) : List Int := (List.range n).map fun i : Nat => (fun k : Int => (wrap32 k)) (k0 + i)
theorem mkInt32_length (k0 : Int) (n : Nat) : (mkInt32 k0 n).length = n := by simp [mkInt32]

set_option maxHeartbeats 400000 in
theorem toInt32S_calls (A : Option Addr) (c : Nat) (xs : List Int) (w : World) (hA : Rd w A (xs.map (Value.int .i32))) (hn : xs.length ≤ 1048576) :
    Calls Tryd.prog 34 #[.slice A xs.length c] w fun e w' => ∃ g, e = .returned (.slice (some ⟨g, 0, none⟩) xs.length xs.length) ∧
      Row w' 21 1 (some ⟨g, 0, none⟩) xs.length xs.length (xs.map (Value.int .i32)) (some g) ∧ w.heap.size ≤ g ∧ Below w.heap.size w w' := by
  have hmk := fun W => run_make_row' (P := Tryd.prog) 22 21 (.int .i32 0) 4 Tryd.underlying22 (by kernel_rfl) rfl .i64 .i64 xs.length (by omega) (by omega) W
  go_enter Tryd.func34, Tryd.ntmps34
  go_wp2
  clear hmk
  have hrow := Row.made w (madeCells #[(.int .i32 0)] xs.length) 21 1 xs.length (by unfold maxLen; omega) (by simp [madeCells])
  rw [toList_madeCells_one] at hrow
  go_loopw [4] (fun i wr => ∃ k : Nat, k ≤ xs.length ∧ i = .int .i64 k ∧ Row wr 21 1 (some ⟨w.heap.size, 0, none⟩) xs.length xs.length ((xs.map (Value.int .i32)).take k ++ (List.replicate xs.length (.int .i32 0)).drop k) (some w.heap.size) ∧ Below w.heap.size w wr)
    (fun i _ => xs.length - (intOf i).toNat)
  case atStart => exact ⟨0, Nat.zero_le _, rfl, by simpa using hrow, (Below.refl _ _).alloc (Nat.le_refl _) _⟩
  case round =>
    obtain ⟨k, hk, rfl, hR, hB⟩ := hrel
    by_cases hlt : k < xs.length
    · have hu : (xs.map (Value.int .i32))[k]? = some ((Value.int .i32) xs[k]) := by simp [hlt]
      obtain ⟨ad, rfl, hc⟩ := (hA.keepB hB).at_ hu
      have hf := hR.frozen k
      obtain ⟨v0, hc0⟩ := hR.isCell (j := k) (by omega)
      have HR := Lib.hid (hR.stored k ((Value.int .i32) xs[k]))
      have HB := Lib.hid (hB.setCell (p := ⟨w.heap.size, k, none⟩) (Nat.le_refl _) ((Value.int .i32) xs[k]))
      rw [set_take_drop _ _ _ (by simpa using hlt) (by simp) _ hu] at HR
      clear hrow hR hB
      go_wp2
      go_roundw
      case rel => exact ⟨k + 1, by omega, by go_num, HR.out, HB.out⟩
      case measure => simp [intOf]; omega
    · have : k = xs.length := by omega
      subst this
      rw [List.take_of_length_le (by simp), List.drop_of_length_le (by simp), List.append_nil] at hR
      go_wp2
      go_ret
      exact ⟨_, rfl, hR, Nat.le_refl _, hB⟩

set_option maxHeartbeats 400000 in
theorem eqInt32S_calls (A B : Option Addr) (c d : Nat) (xs : List Int) (w : World) (hA : Rd w A (xs.map (Value.int .i32))) (hB : Rd w B (xs.map (Value.int .i32))) (hn : xs.length ≤ 140737488355328) :
    Calls Tryd.prog 43 #[.slice A xs.length c, .slice B xs.length d] w fun e w' => e = .returned (.bool true) ∧ Below w.heap.size w w' := by
  go_enter Tryd.func43, Tryd.ntmps43
  go_wp2
  go_loopw [5] (fun i wr => ∃ k : Nat, k ≤ xs.length ∧ i = .int .i64 k ∧ ∃ q, wr = w.drewN q) (fun i _ => xs.length - (intOf i).toNat)
  case atStart => exact ⟨0, Nat.zero_le _, rfl, 0, rfl⟩
  case round =>
    obtain ⟨k, hk, rfl, q, rfl⟩ := hrel
    by_cases hlt : k < xs.length
    · have hu : (xs.map (Value.int .i32))[k]? = some ((Value.int .i32) xs[k]) := by simp [hlt]
      obtain ⟨ad, rfl, hc⟩ := hA.at_ hu
      obtain ⟨bd, rfl, hd⟩ := hB.at_ hu
      have i0 : (0 : Int) ≤ (k : Int) := by omega
      have i1 : (k : Int) < (xs.length : Int) := by omega
      go_wp2
      go_quiet (fail)
      go_wp2
      go_roundw
      case rel => exact ⟨k + 1, by omega, by go_num, _, rfl⟩
      case measure => simp [intOf]; omega
    · have : k = xs.length := by omega
      subst this
      go_wp2
      go_ret
      exact ⟨rfl, bl_drewN (Below.refl _ _) _⟩

theorem szInt32S_ok (A : Option Addr) (n c : Nat) (left : Int) (w : World) (h : (n : Int) ≤ left) (hl : left ≤ 1048576) :
    Calls Tryd.prog 22 #[.slice A n c, .int .i64 left] w fun e w' => e = .returned (.int .i64 (left - n)) ∧ w' = w := by
  have h0 : ¬ (left - n < 0) := by omega
  go_enter Tryd.func22, Tryd.ntmps22
  go_wp2
  go_ret
  exact ⟨rfl, rfl⟩
theorem szInt32S_no (A : Option Addr) (n c : Nat) (left : Int) (w : World) (h : left < n) (h0 : 0 ≤ left) (hn : n ≤ 9223372036854775807) :
    Calls Tryd.prog 22 #[.slice A n c, .int .i64 left] w fun e w' => e = .returned (.int .i64 (-1)) ∧ w' = w := by
  have h1 : left - n < 0 := by omega
  go_enter Tryd.func22, Tryd.ntmps22
  go_wp2
  go_ret
  exact ⟨rfl, rfl⟩

set_option maxHeartbeats 400000 in
theorem markInt32S_calls (A : Option Addr) (c : Nat) (xs : List Int) (b : Option Nat) (k0 : Int) (w : World) (hR : Row w 21 1 A xs.length c (xs.map (Value.int .i32)) b) (hk0 : 0 ≤ k0) (hk1 : k0 ≤ 1152921504606846976) (hn : xs.length ≤ 140737488355328) :
    Calls Tryd.prog 48 #[.slice A xs.length c, .int .i64 k0] w fun e w' => e = .returned (.int .i64 (k0 + xs.length)) ∧
      Row w' 21 1 A xs.length c ((mkInt32 k0 xs.length).map (Value.int .i32)) b ∧ w.grownBy w' b := by
  go_enter Tryd.func48, Tryd.ntmps48
  go_wp2
  go_loopw [1, 5] (fun kv i wr => ∃ k : Nat, k ≤ xs.length ∧ i = .int .i64 k ∧ kv = .int .i64 (k0 + k) ∧ Row wr 21 1 A xs.length c (((mkInt32 k0 xs.length).map (Value.int .i32)).take k ++ (xs.map (Value.int .i32)).drop k) b ∧ w.grownBy wr b)
    (fun _ i _ => xs.length - (intOf i).toNat)
  case atStart => exact ⟨0, Nat.zero_le _, rfl, by simp, by simpa using hR, grownBy_refl _ _⟩
  case round =>
    obtain ⟨k, hk, rfl, rfl, hR, hB⟩ := hrel
    by_cases hlt : k < xs.length
    · obtain ⟨g, rfl, rfl⟩ := hR.pos (by omega)
      have hf := hR.frozen k
      obtain ⟨v0, hc0⟩ := hR.isCell (j := k) (by omega)
      have hu : ((mkInt32 k0 xs.length).map (Value.int .i32))[k]? = some ((Value.int .i32) ((fun k : Int => (wrap32 k)) (k0 + k))) := by simp [mkInt32, hlt]
      have HR := Lib.hid (hR.stored k ((Value.int .i32) ((fun k : Int => (wrap32 k)) (k0 + k))))
      have HB := Lib.hid (World.grownBy.trans hB (grownBy_setCell wr ⟨g, k, none⟩ ((Value.int .i32) ((fun k : Int => (wrap32 k)) (k0 + k)))))
      rw [set_take_drop _ _ _ (by simpa using hlt) (by simp [mkInt32]) _ hu] at HR
      clear hR hB hu
      have b0 : 0 ≤ k0 + k := by omega
      have b1 : k0 + k ≤ 2305843009213693952 := by omega
      go_wp2
      go_roundw
      case rel => exact ⟨k + 1, by omega, by go_num, by go_num, HR.out, HB.out⟩
      case measure => simp [intOf]; omega
    · have : k = xs.length := by omega
      subst this
      rw [List.take_of_length_le (by simp [mkInt32]), List.drop_of_length_le (by simp), List.append_nil] at hR
      go_wp2
      go_ret
      exact ⟨rfl, hR, hB⟩

set_option maxHeartbeats 400000 in
theorem heldInt32S_calls (A : Option Addr) (n c : Nat) (k0 : Int) (w : World) (hA : Rd w A ((mkInt32 k0 n).map (Value.int .i32))) (hk0 : 0 ≤ k0) (hk1 : k0 ≤ 1152921504606846976) (hn : n ≤ 140737488355328) :
    Calls Tryd.prog 53 #[.slice A n c, .int .i64 k0] w fun e w' => e = .returned (.int .i64 (k0 + n)) ∧ w' = w := by
  go_enter Tryd.func53, Tryd.ntmps53
  go_wp2
  go_loop [1, 5] (fun kv i => ∃ k : Nat, k ≤ n ∧ i = .int .i64 k ∧ kv = .int .i64 (k0 + k)) (fun _ i => n - (intOf i).toNat)
  case atStart => exact ⟨0, Nat.zero_le _, rfl, by simp⟩
  case round =>
    obtain ⟨k, hk, rfl, rfl⟩ := hrel
    by_cases hlt : k < n
    · have hu : ((mkInt32 k0 n).map (Value.int .i32))[k]? = some ((Value.int .i32) ((fun k : Int => (wrap32 k)) (k0 + k))) := by simp [mkInt32, hlt]
      obtain ⟨ad, rfl, hc⟩ := hA.at_ hu
      have b0 : 0 ≤ k0 + k := by omega
      have b1 : k0 + k ≤ 2305843009213693952 := by omega
      clear hu
      go_wp2
      go_round
      case rel => exact ⟨k + 1, by omega, by go_num, by go_num⟩
      case measure => simp [intOf]; omega
    · have : k = n := by omega
      subst this
      go_wp2
      go_ret
      exact ⟨rfl, rfl⟩

def mkUint32 (k0 : Int) (n : Nat) : List Int := (List.range n).map fun i : Nat => (fun k : Int => (k % 4294967296)) (k0 + i)
theorem mkUint32_length (k0 : Int) (n : Nat) : (mkUint32 k0 n).length = n := by simp [mkUint32]

set_option maxHeartbeats 400000 in
theorem toUint32S_calls (A : Option Addr) (c : Nat) (xs : List Int) (w : World) (hA : Rd w A (xs.map (Value.int .u32))) (hn : xs.length ≤ 1048576) :
    Calls Tryd.prog 36 #[.slice A xs.length c] w fun e w' => ∃ g, e = .returned (.slice (some ⟨g, 0, none⟩) xs.length xs.length) ∧
      Row w' 93 1 (some ⟨g, 0, none⟩) xs.length xs.length (xs.map (Value.int .u32)) (some g) ∧ w.heap.size ≤ g ∧ Below w.heap.size w w' := by
  have hmk := fun W => run_make_row' (P := Tryd.prog) 24 93 (.int .u32 0) 4 Tryd.underlying24 (by kernel_rfl) rfl .i64 .i64 xs.length (by omega) (by omega) W
  go_enter Tryd.func36, Tryd.ntmps36
  go_wp2
  clear hmk
  have hrow := Row.made w (madeCells #[(.int .u32 0)] xs.length) 93 1 xs.length (by unfold maxLen; omega) (by simp [madeCells])
  rw [toList_madeCells_one] at hrow
  go_loopw [4] (fun i wr => ∃ k : Nat, k ≤ xs.length ∧ i = .int .i64 k ∧ Row wr 93 1 (some ⟨w.heap.size, 0, none⟩) xs.length xs.length ((xs.map (Value.int .u32)).take k ++ (List.replicate xs.length (.int .u32 0)).drop k) (some w.heap.size) ∧ Below w.heap.size w wr)
    (fun i _ => xs.length - (intOf i).toNat)
  case atStart => exact ⟨0, Nat.zero_le _, rfl, by simpa using hrow, (Below.refl _ _).alloc (Nat.le_refl _) _⟩
  case round =>
    obtain ⟨k, hk, rfl, hR, hB⟩ := hrel
    by_cases hlt : k < xs.length
    · have hu : (xs.map (Value.int .u32))[k]? = some ((Value.int .u32) xs[k]) := by simp [hlt]
      obtain ⟨ad, rfl, hc⟩ := (hA.keepB hB).at_ hu
      have hf := hR.frozen k
      obtain ⟨v0, hc0⟩ := hR.isCell (j := k) (by omega)
      have HR := Lib.hid (hR.stored k ((Value.int .u32) xs[k]))
      have HB := Lib.hid (hB.setCell (p := ⟨w.heap.size, k, none⟩) (Nat.le_refl _) ((Value.int .u32) xs[k]))
      rw [set_take_drop _ _ _ (by simpa using hlt) (by simp) _ hu] at HR
      clear hrow hR hB
      go_wp2
      go_roundw
      case rel => exact ⟨k + 1, by omega, by go_num, HR.out, HB.out⟩
      case measure => simp [intOf]; omega
    · have : k = xs.length := by omega
      subst this
      rw [List.take_of_length_le (by simp), List.drop_of_length_le (by simp), List.append_nil] at hR
      go_wp2
      go_ret
      exact ⟨_, rfl, hR, Nat.le_refl _, hB⟩

set_option maxHeartbeats 400000 in
theorem eqUint32S_calls (A B : Option Addr) (c d : Nat) (xs : List Int) (w : World) (hA : Rd w A (xs.map (Value.int .u32))) (hB : Rd w B (xs.map (Value.int .u32))) (hn : xs.length ≤ 140737488355328) :
    Calls Tryd.prog 45 #[.slice A xs.length c, .slice B xs.length d] w fun e w' => e = .returned (.bool true) ∧ Below w.heap.size w w' := by
  go_enter Tryd.func45, Tryd.ntmps45
  go_wp2
  go_loopw [5] (fun i wr => ∃ k : Nat, k ≤ xs.length ∧ i = .int .i64 k ∧ ∃ q, wr = w.drewN q) (fun i _ => xs.length - (intOf i).toNat)
  case atStart => exact ⟨0, Nat.zero_le _, rfl, 0, rfl⟩
  case round =>
    obtain ⟨k, hk, rfl, q, rfl⟩ := hrel
    by_cases hlt : k < xs.length
    · have hu : (xs.map (Value.int .u32))[k]? = some ((Value.int .u32) xs[k]) := by simp [hlt]
      obtain ⟨ad, rfl, hc⟩ := hA.at_ hu
      obtain ⟨bd, rfl, hd⟩ := hB.at_ hu
      have i0 : (0 : Int) ≤ (k : Int) := by omega
      have i1 : (k : Int) < (xs.length : Int) := by omega
      go_wp2
      go_quiet (fail)
      go_wp2
      go_roundw
      case rel => exact ⟨k + 1, by omega, by go_num, _, rfl⟩
      case measure => simp [intOf]; omega
    · have : k = xs.length := by omega
      subst this
      go_wp2
      go_ret
      exact ⟨rfl, bl_drewN (Below.refl _ _) _⟩

theorem szUint32S_ok (A : Option Addr) (n c : Nat) (left : Int) (w : World) (h : (n : Int) ≤ left) (hl : left ≤ 1048576) :
    Calls Tryd.prog 24 #[.slice A n c, .int .i64 left] w fun e w' => e = .returned (.int .i64 (left - n)) ∧ w' = w := by
  have h0 : ¬ (left - n < 0) := by omega
  go_enter Tryd.func24, Tryd.ntmps24
  go_wp2
  go_ret
  exact ⟨rfl, rfl⟩
theorem szUint32S_no (A : Option Addr) (n c : Nat) (left : Int) (w : World) (h : left < n) (h0 : 0 ≤ left) (hn : n ≤ 9223372036854775807) :
    Calls Tryd.prog 24 #[.slice A n c, .int .i64 left] w fun e w' => e = .returned (.int .i64 (-1)) ∧ w' = w := by
  have h1 : left - n < 0 := by omega
  go_enter Tryd.func24, Tryd.ntmps24
  go_wp2
  go_ret
  exact ⟨rfl, rfl⟩

set_option maxHeartbeats 400000 in
theorem markUint32S_calls (A : Option Addr) (c : Nat) (xs : List Int) (b : Option Nat) (k0 : Int) (w : World) (hR : Row w 93 1 A xs.length c (xs.map (Value.int .u32)) b) (hk0 : 0 ≤ k0) (hk1 : k0 ≤ 1152921504606846976) (hn : xs.length ≤ 140737488355328) :
    Calls Tryd.prog 50 #[.slice A xs.length c, .int .i64 k0] w fun e w' => e = .returned (.int .i64 (k0 + xs.length)) ∧
      Row w' 93 1 A xs.length c ((mkUint32 k0 xs.length).map (Value.int .u32)) b ∧ w.grownBy w' b := by
  go_enter Tryd.func50, Tryd.ntmps50
  go_wp2
  go_loopw [1, 5] (fun kv i wr => ∃ k : Nat, k ≤ xs.length ∧ i = .int .i64 k ∧ kv = .int .i64 (k0 + k) ∧ Row wr 93 1 A xs.length c (((mkUint32 k0 xs.length).map (Value.int .u32)).take k ++ (xs.map (Value.int .u32)).drop k) b ∧ w.grownBy wr b)
    (fun _ i _ => xs.length - (intOf i).toNat)
  case atStart => exact ⟨0, Nat.zero_le _, rfl, by simp, by simpa using hR, grownBy_refl _ _⟩
  case round =>
    obtain ⟨k, hk, rfl, rfl, hR, hB⟩ := hrel
    by_cases hlt : k < xs.length
    · obtain ⟨g, rfl, rfl⟩ := hR.pos (by omega)
      have hf := hR.frozen k
      obtain ⟨v0, hc0⟩ := hR.isCell (j := k) (by omega)
      have hu : ((mkUint32 k0 xs.length).map (Value.int .u32))[k]? = some ((Value.int .u32) ((fun k : Int => (k % 4294967296)) (k0 + k))) := by simp [mkUint32, hlt]
      have HR := Lib.hid (hR.stored k ((Value.int .u32) ((fun k : Int => (k % 4294967296)) (k0 + k))))
      have HB := Lib.hid (World.grownBy.trans hB (grownBy_setCell wr ⟨g, k, none⟩ ((Value.int .u32) ((fun k : Int => (k % 4294967296)) (k0 + k)))))
      rw [set_take_drop _ _ _ (by simpa using hlt) (by simp [mkUint32]) _ hu] at HR
      clear hR hB hu
      have b0 : 0 ≤ k0 + k := by omega
      have b1 : k0 + k ≤ 2305843009213693952 := by omega
      go_wp2
      go_roundw
      case rel => exact ⟨k + 1, by omega, by go_num, by go_num, HR.out, HB.out⟩
      case measure => simp [intOf]; omega
    · have : k = xs.length := by omega
      subst this
      rw [List.take_of_length_le (by simp [mkUint32]), List.drop_of_length_le (by simp), List.append_nil] at hR
      go_wp2
      go_ret
      exact ⟨rfl, hR, hB⟩

set_option maxHeartbeats 400000 in
theorem heldUint32S_calls (A : Option Addr) (n c : Nat) (k0 : Int) (w : World) (hA : Rd w A ((mkUint32 k0 n).map (Value.int .u32))) (hk0 : 0 ≤ k0) (hk1 : k0 ≤ 1152921504606846976) (hn : n ≤ 140737488355328) :
    Calls Tryd.prog 55 #[.slice A n c, .int .i64 k0] w fun e w' => e = .returned (.int .i64 (k0 + n)) ∧ w' = w := by
  go_enter Tryd.func55, Tryd.ntmps55
  go_wp2
  go_loop [1, 5] (fun kv i => ∃ k : Nat, k ≤ n ∧ i = .int .i64 k ∧ kv = .int .i64 (k0 + k)) (fun _ i => n - (intOf i).toNat)
  case atStart => exact ⟨0, Nat.zero_le _, rfl, by simp⟩
  case round =>
    obtain ⟨k, hk, rfl, rfl⟩ := hrel
    by_cases hlt : k < n
    · have hu : ((mkUint32 k0 n).map (Value.int .u32))[k]? = some ((Value.int .u32) ((fun k : Int => (k % 4294967296)) (k0 + k))) := by simp [mkUint32, hlt]
      obtain ⟨ad, rfl, hc⟩ := hA.at_ hu
      have b0 : 0 ≤ k0 + k := by omega
      have b1 : k0 + k ≤ 2305843009213693952 := by omega
      clear hu
      go_wp2
      go_round
      case rel => exact ⟨k + 1, by omega, by go_num, by go_num⟩
      case measure => simp [intOf]; omega
    · have : k = n := by omega
      subst this
      go_wp2
      go_ret
      exact ⟨rfl, rfl⟩

def mkInt (k0 : Int) (n : Nat) : List Int := (List.range n).map fun i : Nat => (fun k : Int => k) (k0 + i)
theorem mkInt_length (k0 : Int) (n : Nat) : (mkInt k0 n).length = n := by simp [mkInt]

set_option maxHeartbeats 400000 in
theorem toIntS_calls (A : Option Addr) (c : Nat) (xs : List Int) (w : World) (hA : Rd w A (xs.map (Value.int .i64))) (hn : xs.length ≤ 1048576) :
    Calls Tryd.prog 37 #[.slice A xs.length c] w fun e w' => ∃ g, e = .returned (.slice (some ⟨g, 0, none⟩) xs.length xs.length) ∧
      Row w' 3 1 (some ⟨g, 0, none⟩) xs.length xs.length (xs.map (Value.int .i64)) (some g) ∧ w.heap.size ≤ g ∧ Below w.heap.size w w' := by
  have hmk := fun W => run_make_row' (P := Tryd.prog) 25 3 (.int .i64 0) 8 Tryd.underlying25 (by kernel_rfl) rfl .i64 .i64 xs.length (by omega) (by omega) W
  go_enter Tryd.func37, Tryd.ntmps37
  go_wp2
  clear hmk
  have hrow := Row.made w (madeCells #[(.int .i64 0)] xs.length) 3 1 xs.length (by unfold maxLen; omega) (by simp [madeCells])
  rw [toList_madeCells_one] at hrow
  go_loopw [4] (fun i wr => ∃ k : Nat, k ≤ xs.length ∧ i = .int .i64 k ∧ Row wr 3 1 (some ⟨w.heap.size, 0, none⟩) xs.length xs.length ((xs.map (Value.int .i64)).take k ++ (List.replicate xs.length (.int .i64 0)).drop k) (some w.heap.size) ∧ Below w.heap.size w wr)
    (fun i _ => xs.length - (intOf i).toNat)
  case atStart => exact ⟨0, Nat.zero_le _, rfl, by simpa using hrow, (Below.refl _ _).alloc (Nat.le_refl _) _⟩
  case round =>
    obtain ⟨k, hk, rfl, hR, hB⟩ := hrel
    by_cases hlt : k < xs.length
    · have hu : (xs.map (Value.int .i64))[k]? = some ((Value.int .i64) xs[k]) := by simp [hlt]
      obtain ⟨ad, rfl, hc⟩ := (hA.keepB hB).at_ hu
      have hf := hR.frozen k
      obtain ⟨v0, hc0⟩ := hR.isCell (j := k) (by omega)
      have HR := Lib.hid (hR.stored k ((Value.int .i64) xs[k]))
      have HB := Lib.hid (hB.setCell (p := ⟨w.heap.size, k, none⟩) (Nat.le_refl _) ((Value.int .i64) xs[k]))
      rw [set_take_drop _ _ _ (by simpa using hlt) (by simp) _ hu] at HR
      clear hrow hR hB
      go_wp2
      go_roundw
      case rel => exact ⟨k + 1, by omega, by go_num, HR.out, HB.out⟩
      case measure => simp [intOf]; omega
    · have : k = xs.length := by omega
      subst this
      rw [List.take_of_length_le (by simp), List.drop_of_length_le (by simp), List.append_nil] at hR
      go_wp2
      go_ret
      exact ⟨_, rfl, hR, Nat.le_refl _, hB⟩

set_option maxHeartbeats 400000 in
theorem eqIntS_calls (A B : Option Addr) (c d : Nat) (xs : List Int) (w : World) (hA : Rd w A (xs.map (Value.int .i64))) (hB : Rd w B (xs.map (Value.int .i64))) (hn : xs.length ≤ 140737488355328) :
    Calls Tryd.prog 46 #[.slice A xs.length c, .slice B xs.length d] w fun e w' => e = .returned (.bool true) ∧ Below w.heap.size w w' := by
  go_enter Tryd.func46, Tryd.ntmps46
  go_wp2
  go_loopw [5] (fun i wr => ∃ k : Nat, k ≤ xs.length ∧ i = .int .i64 k ∧ ∃ q, wr = w.drewN q) (fun i _ => xs.length - (intOf i).toNat)
  case atStart => exact ⟨0, Nat.zero_le _, rfl, 0, rfl⟩
  case round =>
    obtain ⟨k, hk, rfl, q, rfl⟩ := hrel
    by_cases hlt : k < xs.length
    · have hu : (xs.map (Value.int .i64))[k]? = some ((Value.int .i64) xs[k]) := by simp [hlt]
      obtain ⟨ad, rfl, hc⟩ := hA.at_ hu
      obtain ⟨bd, rfl, hd⟩ := hB.at_ hu
      have i0 : (0 : Int) ≤ (k : Int) := by omega
      have i1 : (k : Int) < (xs.length : Int) := by omega
      go_wp2
      go_quiet (fail)
      go_wp2
      go_roundw
      case rel => exact ⟨k + 1, by omega, by go_num, _, rfl⟩
      case measure => simp [intOf]; omega
    · have : k = xs.length := by omega
      subst this
      go_wp2
      go_ret
      exact ⟨rfl, bl_drewN (Below.refl _ _) _⟩

theorem szIntS_ok (A : Option Addr) (n c : Nat) (left : Int) (w : World) (h : (n : Int) ≤ left) (hl : left ≤ 1048576) :
    Calls Tryd.prog 25 #[.slice A n c, .int .i64 left] w fun e w' => e = .returned (.int .i64 (left - n)) ∧ w' = w := by
  have h0 : ¬ (left - n < 0) := by omega
  go_enter Tryd.func25, Tryd.ntmps25
  go_wp2
  go_ret
  exact ⟨rfl, rfl⟩
theorem szIntS_no (A : Option Addr) (n c : Nat) (left : Int) (w : World) (h : left < n) (h0 : 0 ≤ left) (hn : n ≤ 9223372036854775807) :
    Calls Tryd.prog 25 #[.slice A n c, .int .i64 left] w fun e w' => e = .returned (.int .i64 (-1)) ∧ w' = w := by
  have h1 : left - n < 0 := by omega
  go_enter Tryd.func25, Tryd.ntmps25
  go_wp2
  go_ret
  exact ⟨rfl, rfl⟩

set_option maxHeartbeats 400000 in
theorem markIntS_calls (A : Option Addr) (c : Nat) (xs : List Int) (b : Option Nat) (k0 : Int) (w : World) (hR : Row w 3 1 A xs.length c (xs.map (Value.int .i64)) b) (hk0 : 0 ≤ k0) (hk1 : k0 ≤ 1152921504606846976) (hn : xs.length ≤ 140737488355328) :
    Calls Tryd.prog 51 #[.slice A xs.length c, .int .i64 k0] w fun e w' => e = .returned (.int .i64 (k0 + xs.length)) ∧
      Row w' 3 1 A xs.length c ((mkInt k0 xs.length).map (Value.int .i64)) b ∧ w.grownBy w' b := by
  go_enter Tryd.func51, Tryd.ntmps51
  go_wp2
  go_loopw [1, 5] (fun kv i wr => ∃ k : Nat, k ≤ xs.length ∧ i = .int .i64 k ∧ kv = .int .i64 (k0 + k) ∧ Row wr 3 1 A xs.length c (((mkInt k0 xs.length).map (Value.int .i64)).take k ++ (xs.map (Value.int .i64)).drop k) b ∧ w.grownBy wr b)
    (fun _ i _ => xs.length - (intOf i).toNat)
  case atStart => exact ⟨0, Nat.zero_le _, rfl, by simp, by simpa using hR, grownBy_refl _ _⟩
  case round =>
    obtain ⟨k, hk, rfl, rfl, hR, hB⟩ := hrel
    by_cases hlt : k < xs.length
    · obtain ⟨g, rfl, rfl⟩ := hR.pos (by omega)
      have hf := hR.frozen k
      obtain ⟨v0, hc0⟩ := hR.isCell (j := k) (by omega)
      have hu : ((mkInt k0 xs.length).map (Value.int .i64))[k]? = some ((Value.int .i64) ((fun k : Int => k) (k0 + k))) := by simp [mkInt, hlt]
      have HR := Lib.hid (hR.stored k ((Value.int .i64) ((fun k : Int => k) (k0 + k))))
      have HB := Lib.hid (World.grownBy.trans hB (grownBy_setCell wr ⟨g, k, none⟩ ((Value.int .i64) ((fun k : Int => k) (k0 + k)))))
      rw [set_take_drop _ _ _ (by simpa using hlt) (by simp [mkInt]) _ hu] at HR
      clear hR hB hu
      have b0 : 0 ≤ k0 + k := by omega
      have b1 : k0 + k ≤ 2305843009213693952 := by omega
      go_wp2
      go_roundw
      case rel => exact ⟨k + 1, by omega, by go_num, by go_num, HR.out, HB.out⟩
      case measure => simp [intOf]; omega
    · have : k = xs.length := by omega
      subst this
      rw [List.take_of_length_le (by simp [mkInt]), List.drop_of_length_le (by simp), List.append_nil] at hR
      go_wp2
      go_ret
      exact ⟨rfl, hR, hB⟩

set_option maxHeartbeats 400000 in
theorem heldIntS_calls (A : Option Addr) (n c : Nat) (k0 : Int) (w : World) (hA : Rd w A ((mkInt k0 n).map (Value.int .i64))) (hk0 : 0 ≤ k0) (hk1 : k0 ≤ 1152921504606846976) (hn : n ≤ 140737488355328) :
    Calls Tryd.prog 56 #[.slice A n c, .int .i64 k0] w fun e w' => e = .returned (.int .i64 (k0 + n)) ∧ w' = w := by
  go_enter Tryd.func56, Tryd.ntmps56
  go_wp2
  go_loop [1, 5] (fun kv i => ∃ k : Nat, k ≤ n ∧ i = .int .i64 k ∧ kv = .int .i64 (k0 + k)) (fun _ i => n - (intOf i).toNat)
  case atStart => exact ⟨0, Nat.zero_le _, rfl, by simp⟩
  case round =>
    obtain ⟨k, hk, rfl, rfl⟩ := hrel
    by_cases hlt : k < n
    · have hu : ((mkInt k0 n).map (Value.int .i64))[k]? = some ((Value.int .i64) ((fun k : Int => k) (k0 + k))) := by simp [mkInt, hlt]
      obtain ⟨ad, rfl, hc⟩ := hA.at_ hu
      have b0 : 0 ≤ k0 + k := by omega
      have b1 : k0 + k ≤ 2305843009213693952 := by omega
      clear hu
      go_wp2
      go_round
      case rel => exact ⟨k + 1, by omega, by go_num, by go_num⟩
      case measure => simp [intOf]; omega
    · have : k = n := by omega
      subst this
      go_wp2
      go_ret
      exact ⟨rfl, rfl⟩

def mkByte (k0 : Int) (n : Nat) : List Int := (List.range n).map fun i : Nat => (fun k : Int => (k % 256)) (k0 + i)
theorem mkByte_length (k0 : Int) (n : Nat) : (mkByte k0 n).length = n := by simp [mkByte]

set_option maxHeartbeats 400000 in
theorem toByteS_calls (A : Option Addr) (c : Nat) (xs : List Int) (w : World) (hA : Rd w A (xs.map (Value.int .u8))) (hn : xs.length ≤ 1048576) :
    Calls Tryd.prog 38 #[.slice A xs.length c] w fun e w' => ∃ g, e = .returned (.slice (some ⟨g, 0, none⟩) xs.length xs.length) ∧
      Row w' 5 1 (some ⟨g, 0, none⟩) xs.length xs.length (xs.map (Value.int .u8)) (some g) ∧ w.heap.size ≤ g ∧ Below w.heap.size w w' := by
  have hmk := fun W => run_make_row' (P := Tryd.prog) 26 5 (.int .u8 0) 1 Tryd.underlying26 (by kernel_rfl) rfl .i64 .i64 xs.length (by omega) (by omega) W
  go_enter Tryd.func38, Tryd.ntmps38
  go_wp2
  clear hmk
  have hrow := Row.made w (madeCells #[(.int .u8 0)] xs.length) 5 1 xs.length (by unfold maxLen; omega) (by simp [madeCells])
  rw [toList_madeCells_one] at hrow
  go_loopw [4] (fun i wr => ∃ k : Nat, k ≤ xs.length ∧ i = .int .i64 k ∧ Row wr 5 1 (some ⟨w.heap.size, 0, none⟩) xs.length xs.length ((xs.map (Value.int .u8)).take k ++ (List.replicate xs.length (.int .u8 0)).drop k) (some w.heap.size) ∧ Below w.heap.size w wr)
    (fun i _ => xs.length - (intOf i).toNat)
  case atStart => exact ⟨0, Nat.zero_le _, rfl, by simpa using hrow, (Below.refl _ _).alloc (Nat.le_refl _) _⟩
  case round =>
    obtain ⟨k, hk, rfl, hR, hB⟩ := hrel
    by_cases hlt : k < xs.length
    · have hu : (xs.map (Value.int .u8))[k]? = some ((Value.int .u8) xs[k]) := by simp [hlt]
      obtain ⟨ad, rfl, hc⟩ := (hA.keepB hB).at_ hu
      have hf := hR.frozen k
      obtain ⟨v0, hc0⟩ := hR.isCell (j := k) (by omega)
      have HR := Lib.hid (hR.stored k ((Value.int .u8) xs[k]))
      have HB := Lib.hid (hB.setCell (p := ⟨w.heap.size, k, none⟩) (Nat.le_refl _) ((Value.int .u8) xs[k]))
      rw [set_take_drop _ _ _ (by simpa using hlt) (by simp) _ hu] at HR
      clear hrow hR hB
      go_wp2
      go_roundw
      case rel => exact ⟨k + 1, by omega, by go_num, HR.out, HB.out⟩
      case measure => simp [intOf]; omega
    · have : k = xs.length := by omega
      subst this
      rw [List.take_of_length_le (by simp), List.drop_of_length_le (by simp), List.append_nil] at hR
      go_wp2
      go_ret
      exact ⟨_, rfl, hR, Nat.le_refl _, hB⟩

set_option maxHeartbeats 400000 in
theorem eqByteS_calls (A B : Option Addr) (c d : Nat) (xs : List Int) (w : World) (hA : Rd w A (xs.map (Value.int .u8))) (hB : Rd w B (xs.map (Value.int .u8))) (hn : xs.length ≤ 140737488355328) :
    Calls Tryd.prog 47 #[.slice A xs.length c, .slice B xs.length d] w fun e w' => e = .returned (.bool true) ∧ Below w.heap.size w w' := by
  go_enter Tryd.func47, Tryd.ntmps47
  go_wp2
  go_loopw [5] (fun i wr => ∃ k : Nat, k ≤ xs.length ∧ i = .int .i64 k ∧ ∃ q, wr = w.drewN q) (fun i _ => xs.length - (intOf i).toNat)
  case atStart => exact ⟨0, Nat.zero_le _, rfl, 0, rfl⟩
  case round =>
    obtain ⟨k, hk, rfl, q, rfl⟩ := hrel
    by_cases hlt : k < xs.length
    · have hu : (xs.map (Value.int .u8))[k]? = some ((Value.int .u8) xs[k]) := by simp [hlt]
      obtain ⟨ad, rfl, hc⟩ := hA.at_ hu
      obtain ⟨bd, rfl, hd⟩ := hB.at_ hu
      have i0 : (0 : Int) ≤ (k : Int) := by omega
      have i1 : (k : Int) < (xs.length : Int) := by omega
      go_wp2
      go_quiet (fail)
      go_wp2
      go_roundw
      case rel => exact ⟨k + 1, by omega, by go_num, _, rfl⟩
      case measure => simp [intOf]; omega
    · have : k = xs.length := by omega
      subst this
      go_wp2
      go_ret
      exact ⟨rfl, bl_drewN (Below.refl _ _) _⟩

theorem szByteS_ok (A : Option Addr) (n c : Nat) (left : Int) (w : World) (h : (n : Int) ≤ left) (hl : left ≤ 1048576) :
    Calls Tryd.prog 26 #[.slice A n c, .int .i64 left] w fun e w' => e = .returned (.int .i64 (left - n)) ∧ w' = w := by
  have h0 : ¬ (left - n < 0) := by omega
  go_enter Tryd.func26, Tryd.ntmps26
  go_wp2
  go_ret
  exact ⟨rfl, rfl⟩
theorem szByteS_no (A : Option Addr) (n c : Nat) (left : Int) (w : World) (h : left < n) (h0 : 0 ≤ left) (hn : n ≤ 9223372036854775807) :
    Calls Tryd.prog 26 #[.slice A n c, .int .i64 left] w fun e w' => e = .returned (.int .i64 (-1)) ∧ w' = w := by
  have h1 : left - n < 0 := by omega
  go_enter Tryd.func26, Tryd.ntmps26
  go_wp2
  go_ret
  exact ⟨rfl, rfl⟩

set_option maxHeartbeats 400000 in
theorem markByteS_calls (A : Option Addr) (c : Nat) (xs : List Int) (b : Option Nat) (k0 : Int) (w : World) (hR : Row w 5 1 A xs.length c (xs.map (Value.int .u8)) b) (hk0 : 0 ≤ k0) (hk1 : k0 ≤ 1152921504606846976) (hn : xs.length ≤ 140737488355328) :
    Calls Tryd.prog 52 #[.slice A xs.length c, .int .i64 k0] w fun e w' => e = .returned (.int .i64 (k0 + xs.length)) ∧
      Row w' 5 1 A xs.length c ((mkByte k0 xs.length).map (Value.int .u8)) b ∧ w.grownBy w' b := by
  go_enter Tryd.func52, Tryd.ntmps52
  go_wp2
  go_loopw [1, 5] (fun kv i wr => ∃ k : Nat, k ≤ xs.length ∧ i = .int .i64 k ∧ kv = .int .i64 (k0 + k) ∧ Row wr 5 1 A xs.length c (((mkByte k0 xs.length).map (Value.int .u8)).take k ++ (xs.map (Value.int .u8)).drop k) b ∧ w.grownBy wr b)
    (fun _ i _ => xs.length - (intOf i).toNat)
  case atStart => exact ⟨0, Nat.zero_le _, rfl, by simp, by simpa using hR, grownBy_refl _ _⟩
  case round =>
    obtain ⟨k, hk, rfl, rfl, hR, hB⟩ := hrel
    by_cases hlt : k < xs.length
    · obtain ⟨g, rfl, rfl⟩ := hR.pos (by omega)
      have hf := hR.frozen k
      obtain ⟨v0, hc0⟩ := hR.isCell (j := k) (by omega)
      have hu : ((mkByte k0 xs.length).map (Value.int .u8))[k]? = some ((Value.int .u8) ((fun k : Int => (k % 256)) (k0 + k))) := by simp [mkByte, hlt]
      have HR := Lib.hid (hR.stored k ((Value.int .u8) ((fun k : Int => (k % 256)) (k0 + k))))
      have HB := Lib.hid (World.grownBy.trans hB (grownBy_setCell wr ⟨g, k, none⟩ ((Value.int .u8) ((fun k : Int => (k % 256)) (k0 + k)))))
      rw [set_take_drop _ _ _ (by simpa using hlt) (by simp [mkByte]) _ hu] at HR
      clear hR hB hu
      have b0 : 0 ≤ k0 + k := by omega
      have b1 : k0 + k ≤ 2305843009213693952 := by omega
      go_wp2
      go_roundw
      case rel => exact ⟨k + 1, by omega, by go_num, by go_num, HR.out, HB.out⟩
      case measure => simp [intOf]; omega
    · have : k = xs.length := by omega
      subst this
      rw [List.take_of_length_le (by simp [mkByte]), List.drop_of_length_le (by simp), List.append_nil] at hR
      go_wp2
      go_ret
      exact ⟨rfl, hR, hB⟩

set_option maxHeartbeats 400000 in
theorem heldByteS_calls (A : Option Addr) (n c : Nat) (k0 : Int) (w : World) (hA : Rd w A ((mkByte k0 n).map (Value.int .u8))) (hk0 : 0 ≤ k0) (hk1 : k0 ≤ 1152921504606846976) (hn : n ≤ 140737488355328) :
    Calls Tryd.prog 57 #[.slice A n c, .int .i64 k0] w fun e w' => e = .returned (.int .i64 (k0 + n)) ∧ w' = w := by
  go_enter Tryd.func57, Tryd.ntmps57
  go_wp2
  go_loop [1, 5] (fun kv i => ∃ k : Nat, k ≤ n ∧ i = .int .i64 k ∧ kv = .int .i64 (k0 + k)) (fun _ i => n - (intOf i).toNat)
  case atStart => exact ⟨0, Nat.zero_le _, rfl, by simp⟩
  case round =>
    obtain ⟨k, hk, rfl, rfl⟩ := hrel
    by_cases hlt : k < n
    · have hu : ((mkByte k0 n).map (Value.int .u8))[k]? = some ((Value.int .u8) ((fun k : Int => (k % 256)) (k0 + k))) := by simp [mkByte, hlt]
      obtain ⟨ad, rfl, hc⟩ := hA.at_ hu
      have b0 : 0 ≤ k0 + k := by omega
      have b1 : k0 + k ≤ 2305843009213693952 := by omega
      clear hu
      go_wp2
      go_round
      case rel => exact ⟨k + 1, by omega, by go_num, by go_num⟩
      case measure => simp [intOf]; omega
    · have : k = n := by omega
      subst this
      go_wp2
      go_ret
      exact ⟨rfl, rfl⟩

end Go.Proofs.YtgljbcdlldhlfaaDoor

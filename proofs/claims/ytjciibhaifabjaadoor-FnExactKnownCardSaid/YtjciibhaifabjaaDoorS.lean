/- Contracts of the laws' helpers over flat structs. -/
import Derived.Test.YtjciibhaifabjaaDoorProg
import Derived.Test.YtjciibhaifabjaaDoorR
import Derived.Test.YtjciibhaifabjaaDoorD
import Derived.Deep.OwnRows
import Derived.Deep.QuietTactic
import Derived.BigQuiet
import Derived.StillTailTactics
set_option linter.unusedVariables false
set_option linter.unusedSimpArgs false
namespace Go.Proofs.YtjciibhaifabjaaDoor
open Go.RowKit

theorem toSlot_calls (x : LSlot) (w : World) : Calls Tryd.prog 82 #[.agg #[.int .i64 x.kind, .int .i32 x.n]] w fun e w' => e = .returned (.agg #[.int .i64 x.kind, .int .i32 x.n]) ∧ Below w.heap.size w w' := by
  go_enter Tryd.func82, Tryd.ntmps82
  go_wp2
  exact bodyPost_ret (v := .agg #[.int .i64 x.kind, .int .i32 x.n]) (by simp [results, Tryd.results82, go_sem]) rfl ⟨rfl, by repeat (first | exact Below.refl _ _ | apply bl_alloc)⟩
theorem eqSlot_calls (x : LSlot) (w : World) : Calls Tryd.prog 87 #[.agg #[.int .i64 x.kind, .int .i32 x.n], .agg #[.int .i64 x.kind, .int .i32 x.n]] w fun e w' => e = .returned (.bool true) ∧ Below w.heap.size w w' := by
  go_enter Tryd.func87, Tryd.ntmps87
  go_wp2
  go_ret
  exact ⟨rfl, by repeat (first | exact Below.refl _ _ | apply bl_alloc)⟩

set_option maxRecDepth 100000 in
set_option maxHeartbeats 400000 in
theorem eqSlotS_calls (A B : Option Addr) (c d : Nat) (xs : List LSlot) (w : World) (hA : Rd w A (xs.flatMap LSlot.enc)) (hB : Rd w B (xs.flatMap LSlot.enc)) (hn : xs.length ≤ 140737488355328) :
    Calls Tryd.prog 49 #[.slice A xs.length c, .slice B xs.length d] w fun e w' => e = .returned (.bool true) ∧ Below w.heap.size w w' := by
  go_enter Tryd.func49, Tryd.ntmps49
  go_wp2
  go_loopw [5] (fun i wr => ∃ k : Nat, k ≤ xs.length ∧ i = .int .i64 k ∧ Below w.heap.size w wr) (fun i _ => xs.length - (intOf i).toNat)
  case atStart => exact ⟨0, Nat.zero_le _, rfl, Below.refl _ _⟩
  case round =>
    obtain ⟨k, hk, rfl, hW⟩ := hrel
    by_cases hlt : k < xs.length
    · have hu : xs[k]? = some xs[k] := List.getElem?_eq_getElem hlt
      obtain ⟨ad, rfl, hc⟩ := (hA.keepB hW).el LSlot.enc_len hu (by omega)
      obtain ⟨bd, rfl, hd⟩ := (hB.keepB hW).el LSlot.enc_len hu (by omega)
      have hc0 := hc 0 _ rfl
      have hc1 := hc 1 _ rfl
      rw [Nat.add_zero] at hc0
      rw [add_field _ _ _ (by omega)] at hc1
      have hd0 := hd 0 _ rfl
      have hd1 := hd 1 _ rfl
      rw [Nat.add_zero] at hd0
      rw [add_field _ _ _ (by omega)] at hd1
      have i0 : (0 : Int) ≤ (k : Int) := by omega
      have i1 : (k : Int) < (xs.length : Int) := by omega
      clear hc hd
      have HW := Lib.hid hW
      clear hW
      go_wp2
      go_still_tail 8, (by kernel_rfl)
      go_wp2_with (go_at_call 87; refine (eqSlot_calls xs[k] _).mono ?_; rintro e w2 ⟨rfl, hb⟩)
      go_roundw
      case rel => exact ⟨k + 1, by omega, by go_num, bl_call (bl_drew HW.out) hb⟩
      case measure => simp [intOf]; omega
    · have : k = xs.length := by omega
      subst this
      go_wp2
      go_ret
      exact ⟨rfl, hW⟩
set_option maxRecDepth 100000 in
set_option maxHeartbeats 400000 in
theorem toSlotS_calls (A : Option Addr) (c : Nat) (xs : List LSlot) (w : World) (hA : Rd w A (xs.flatMap LSlot.enc)) (hn : xs.length ≤ 1048576) :
    Calls Tryd.prog 41 #[.slice A xs.length c] w fun e w' => ∃ g, e = .returned (.slice (some ⟨g, 0, none⟩) xs.length xs.length) ∧
      Row w' 76 2 (some ⟨g, 0, none⟩) xs.length xs.length (xs.flatMap LSlot.enc) (some g) ∧ w.heap.size ≤ g ∧ Below w.heap.size w w' := by
  have hmk := fun W => run_make_rows (P := Tryd.prog) W 32 76 (.agg #[.int .i64 0, .int .i32 0]) 2 16 Tryd.underlying32 (by kernel_rfl) xs.length (by omega) (by omega)
  go_enter Tryd.func41, Tryd.ntmps41
  go_wp2
  clear hmk
  have hrow := Row.made w (madeCells (LSlot.enc ⟨0, 0⟩).toArray (xs.length * 2)) 76 2 xs.length (by unfold maxLen; omega) (by simp [madeCells])
  rw [madeCells_flat LSlot.enc_len] at hrow
  have HR0 := Lib.hid hrow
  clear hrow
  go_loopw [4] (fun i wr => ∃ k : Nat, k ≤ xs.length ∧ i = .int .i64 k ∧ Row wr 76 2 (some ⟨w.heap.size, 0, none⟩) xs.length xs.length ((xs.take k ++ (List.replicate xs.length (⟨0, 0⟩ : LSlot)).drop k).flatMap LSlot.enc) (some w.heap.size) ∧ Below w.heap.size w wr)
    (fun i _ => xs.length - (intOf i).toNat)
  case atStart => exact ⟨0, Nat.zero_le _, rfl, by (simp only [List.take_zero, List.nil_append, List.drop_zero]; exact HR0.out), (Below.refl _ _).alloc (Nat.le_refl _) _⟩
  case round =>
    obtain ⟨k, hk, rfl, hR, hB⟩ := hrel
    by_cases hlt : k < xs.length
    · have hu : xs[k]? = some xs[k] := List.getElem?_eq_getElem hlt
      obtain ⟨ad, rfl, hc⟩ := (hA.keepB hB).el LSlot.enc_len hu (by omega)
      have hc0 := hc 0 _ rfl
      have hc1 := hc 1 _ rfl
      rw [Nat.add_zero] at hc0
      rw [add_field _ _ _ (by omega)] at hc1
      clear hc
      have HR := Lib.hid hR
      have HB := Lib.hid hB
      clear hR hB
      go_wp2_with (go_at_call 82; refine (toSlot_calls xs[k] _).mono ?_; rintro e w2 ⟨rfl, hb⟩; have H2 := Lib.hid (HR.out.call hb); have B2 := Lib.hid (bl_call HB.out hb); obtain ⟨v0, q0⟩ := H2.out.isCell (j := k * 2) (by omega); have f0 := H2.out.frozen (k * 2); obtain ⟨v1, q1⟩ := H2.out.isCell (j := k * 2 + 1) (by omega); have f1 := H2.out.frozen (k * 2 + 1))
      go_roundw
      case rel => exact ⟨k + 1, by omega, by go_num, H2.out.put LSlot.enc_len (by simpa using hlt) (by simp) hu, bl_wset (g := w.heap.size) (Nat.le_refl _) (LSlot.enc xs[k]) _ (k * 2) B2.out⟩
      case measure => simp [intOf]; omega
    · have : k = xs.length := by omega
      subst this
      rw [List.take_of_length_le (by simp), List.drop_of_length_le (by simp), List.append_nil] at hR
      go_wp2
      go_ret
      exact ⟨_, rfl, hR, Nat.le_refl _, hB⟩

theorem szSlotS_ok (A : Option Addr) (n c : Nat) (left : Int) (w : World) (h : (n : Int) ≤ left) (hl : left ≤ 1048576) :
    Calls Tryd.prog 31 #[.slice A n c, .int .i64 left] w fun e w' => e = .returned (.int .i64 (left - n)) ∧ w' = w := by
  have h0 : ¬ (left - n < 0) := by omega
  go_enter Tryd.func31, Tryd.ntmps31
  go_wp2
  go_ret
  exact ⟨rfl, rfl⟩
theorem szSlotS_no (A : Option Addr) (n c : Nat) (left : Int) (w : World) (h : left < n) (h0 : 0 ≤ left) (hn : n ≤ 9223372036854775807) :
    Calls Tryd.prog 31 #[.slice A n c, .int .i64 left] w fun e w' => e = .returned (.int .i64 (-1)) ∧ w' = w := by
  have h1 : left - n < 0 := by omega
  go_enter Tryd.func31, Tryd.ntmps31
  go_wp2
  go_ret
  exact ⟨rfl, rfl⟩

def mkSlot (k0 : Int) (n : Nat) : List LSlot := (List.range n).map fun i : Nat => ⟨(k0 + 2 * i), (wrap32 (k0 + 2 * i + 1))⟩
theorem mkSlot_length (k0 : Int) (n : Nat) : (mkSlot k0 n).length = n := by simp [mkSlot]
theorem mkSlot_at (k0 : Int) (n k : Nat) (h : k < n) : (mkSlot k0 n)[k]? = some (⟨(k0 + 2 * (k : Int)), (wrap32 (k0 + 2 * (k : Int) + 1))⟩ : LSlot) := by simp [mkSlot, h]
set_option maxRecDepth 100000 in
set_option maxHeartbeats 400000 in
theorem markSlotS_calls (A : Option Addr) (c : Nat) (xs : List LSlot) (b : Option Nat) (k0 : Int) (w : World) (hR : Row w 76 2 A xs.length c (xs.flatMap LSlot.enc) b) (hk0 : 0 ≤ k0) (hk1 : k0 ≤ 1152921504606846976) (hn : xs.length ≤ 140737488355328) :
    Calls Tryd.prog 54 #[.slice A xs.length c, .int .i64 k0] w fun e w' => e = .returned (.int .i64 (k0 + 2 * xs.length)) ∧
      Row w' 76 2 A xs.length c ((mkSlot k0 xs.length).flatMap LSlot.enc) b ∧ w.grownBy w' b := by
  go_enter Tryd.func54, Tryd.ntmps54
  go_wp2
  go_loopw [1, 5] (fun kv i wr => ∃ k : Nat, k ≤ xs.length ∧ i = .int .i64 k ∧ kv = .int .i64 (k0 + 2 * k) ∧ Row wr 76 2 A xs.length c (((mkSlot k0 xs.length).take k ++ xs.drop k).flatMap LSlot.enc) b ∧ w.grownBy wr b)
    (fun _ i _ => xs.length - (intOf i).toNat)
  case atStart => exact ⟨0, Nat.zero_le _, rfl, by simp, by simpa using hR, grownBy_refl _ _⟩
  case round =>
    obtain ⟨k, hk, rfl, rfl, hR, hB⟩ := hrel
    by_cases hlt : k < xs.length
    · obtain ⟨g, rfl, rfl⟩ := hR.pos (by omega)
      have f0 := hR.frozen (k * 2)
      obtain ⟨v0, q0⟩ := hR.isCell (j := k * 2) (by omega)
      have f1 := hR.frozen (k * 2 + 1)
      obtain ⟨v1, q1⟩ := hR.isCell (j := k * 2 + 1) (by omega)
      have HR := Lib.hid (hR.put LSlot.enc_len (by simpa using hlt) (by simp [mkSlot]) (mkSlot_at k0 xs.length k hlt))
      have HB := Lib.hid (grownBy_wset (LSlot.enc (⟨(k0 + 2 * (k : Int)), (wrap32 (k0 + 2 * (k : Int) + 1))⟩ : LSlot)) _ (k * 2) hB)
      clear hR hB
      have b0 : 0 ≤ k0 + 2 * (k : Int) := by omega
      have b1 : k0 + 2 * (k : Int) ≤ 2305843009213693952 := by omega
      go_wp2
      go_roundw
      case rel => exact ⟨k + 1, by omega, by go_num, by go_num, HR.out, HB.out⟩
      case measure => simp [intOf]; omega
    · have : k = xs.length := by omega
      subst this
      rw [List.take_of_length_le (by simp [mkSlot]), List.drop_of_length_le (by simp), List.append_nil] at hR
      go_wp2
      go_ret
      exact ⟨rfl, hR, hB⟩
set_option maxRecDepth 100000 in
set_option maxHeartbeats 400000 in
theorem heldSlotS_calls (A : Option Addr) (n c : Nat) (k0 : Int) (w : World) (hA : Rd w A ((mkSlot k0 n).flatMap LSlot.enc)) (hk0 : 0 ≤ k0) (hk1 : k0 ≤ 1152921504606846976) (hn : n ≤ 140737488355328) :
    Calls Tryd.prog 89 #[.slice A n c, .int .i64 k0] w fun e w' => e = .returned (.int .i64 (k0 + 2 * n)) ∧ w' = w := by
  go_enter Tryd.func89, Tryd.ntmps89
  go_wp2
  go_loop [1, 5] (fun kv i => ∃ k : Nat, k ≤ n ∧ i = .int .i64 k ∧ kv = .int .i64 (k0 + 2 * k)) (fun _ i => n - (intOf i).toNat)
  case atStart => exact ⟨0, Nat.zero_le _, rfl, by simp⟩
  case round =>
    obtain ⟨k, hk, rfl, rfl⟩ := hrel
    by_cases hlt : k < n
    · obtain ⟨ad, rfl, hc⟩ := hA.el LSlot.enc_len (mkSlot_at k0 n k hlt) (by omega)
      have hc0 := hc 0 _ rfl
      have hc1 := hc 1 _ rfl
      rw [Nat.add_zero] at hc0
      rw [add_field _ _ _ (by omega)] at hc1
      clear hc
      have b0 : 0 ≤ k0 + 2 * (k : Int) := by omega
      have b1 : k0 + 2 * (k : Int) ≤ 2305843009213693952 := by omega
      go_wp2
      go_round
      case rel => exact ⟨k + 1, by omega, by go_num, by go_num⟩
      case measure => simp [intOf]; omega
    · have : k = n := by omega
      subst this
      go_wp2
      go_ret
      exact ⟨rfl, rfl⟩

theorem toOp_calls (x : LOp) (w : World) : Calls Tryd.prog 128 #[.agg #[.int .i64 x.kind, .int .i32 x.n]] w fun e w' => e = .returned (.agg #[.int .i64 x.kind, .int .i32 x.n]) ∧ Below w.heap.size w w' := by
  go_enter Tryd.func128, Tryd.ntmps128
  go_wp2
  exact bodyPost_ret (v := .agg #[.int .i64 x.kind, .int .i32 x.n]) (by simp [results, Tryd.results128, go_sem]) rfl ⟨rfl, by repeat (first | exact Below.refl _ _ | apply bl_alloc)⟩
theorem eqOp_calls (x : LOp) (w : World) : Calls Tryd.prog 130 #[.agg #[.int .i64 x.kind, .int .i32 x.n], .agg #[.int .i64 x.kind, .int .i32 x.n]] w fun e w' => e = .returned (.bool true) ∧ Below w.heap.size w w' := by
  go_enter Tryd.func130, Tryd.ntmps130
  go_wp2
  go_ret
  exact ⟨rfl, by repeat (first | exact Below.refl _ _ | apply bl_alloc)⟩

set_option maxRecDepth 100000 in
set_option maxHeartbeats 400000 in
theorem eqOpS_calls (A B : Option Addr) (c d : Nat) (xs : List LOp) (w : World) (hA : Rd w A (xs.flatMap LOp.enc)) (hB : Rd w B (xs.flatMap LOp.enc)) (hn : xs.length ≤ 140737488355328) :
    Calls Tryd.prog 125 #[.slice A xs.length c, .slice B xs.length d] w fun e w' => e = .returned (.bool true) ∧ Below w.heap.size w w' := by
  go_enter Tryd.func125, Tryd.ntmps125
  go_wp2
  go_loopw [5] (fun i wr => ∃ k : Nat, k ≤ xs.length ∧ i = .int .i64 k ∧ Below w.heap.size w wr) (fun i _ => xs.length - (intOf i).toNat)
  case atStart => exact ⟨0, Nat.zero_le _, rfl, Below.refl _ _⟩
  case round =>
    obtain ⟨k, hk, rfl, hW⟩ := hrel
    by_cases hlt : k < xs.length
    · have hu : xs[k]? = some xs[k] := List.getElem?_eq_getElem hlt
      obtain ⟨ad, rfl, hc⟩ := (hA.keepB hW).el LOp.enc_len hu (by omega)
      obtain ⟨bd, rfl, hd⟩ := (hB.keepB hW).el LOp.enc_len hu (by omega)
      have hc0 := hc 0 _ rfl
      have hc1 := hc 1 _ rfl
      rw [Nat.add_zero] at hc0
      rw [add_field _ _ _ (by omega)] at hc1
      have hd0 := hd 0 _ rfl
      have hd1 := hd 1 _ rfl
      rw [Nat.add_zero] at hd0
      rw [add_field _ _ _ (by omega)] at hd1
      have i0 : (0 : Int) ≤ (k : Int) := by omega
      have i1 : (k : Int) < (xs.length : Int) := by omega
      clear hc hd
      have HW := Lib.hid hW
      clear hW
      go_wp2
      go_still_tail 8, (by kernel_rfl)
      go_wp2_with (go_at_call 130; refine (eqOp_calls xs[k] _).mono ?_; rintro e w2 ⟨rfl, hb⟩)
      go_roundw
      case rel => exact ⟨k + 1, by omega, by go_num, bl_call (bl_drew HW.out) hb⟩
      case measure => simp [intOf]; omega
    · have : k = xs.length := by omega
      subst this
      go_wp2
      go_ret
      exact ⟨rfl, hW⟩
set_option maxRecDepth 100000 in
set_option maxHeartbeats 400000 in
theorem toOpS_calls (A : Option Addr) (c : Nat) (xs : List LOp) (w : World) (hA : Rd w A (xs.flatMap LOp.enc)) (hn : xs.length ≤ 1048576) :
    Calls Tryd.prog 121 #[.slice A xs.length c] w fun e w' => ∃ g, e = .returned (.slice (some ⟨g, 0, none⟩) xs.length xs.length) ∧
      Row w' 133 2 (some ⟨g, 0, none⟩) xs.length xs.length (xs.flatMap LOp.enc) (some g) ∧ w.heap.size ≤ g ∧ Below w.heap.size w w' := by
  have hmk := fun W => run_make_rows (P := Tryd.prog) W 104 133 (.agg #[.int .i64 0, .int .i32 0]) 2 16 Tryd.underlying104 (by kernel_rfl) xs.length (by omega) (by omega)
  go_enter Tryd.func121, Tryd.ntmps121
  go_wp2
  clear hmk
  have hrow := Row.made w (madeCells (LOp.enc ⟨0, 0⟩).toArray (xs.length * 2)) 133 2 xs.length (by unfold maxLen; omega) (by simp [madeCells])
  rw [madeCells_flat LOp.enc_len] at hrow
  have HR0 := Lib.hid hrow
  clear hrow
  go_loopw [4] (fun i wr => ∃ k : Nat, k ≤ xs.length ∧ i = .int .i64 k ∧ Row wr 133 2 (some ⟨w.heap.size, 0, none⟩) xs.length xs.length ((xs.take k ++ (List.replicate xs.length (⟨0, 0⟩ : LOp)).drop k).flatMap LOp.enc) (some w.heap.size) ∧ Below w.heap.size w wr)
    (fun i _ => xs.length - (intOf i).toNat)
  case atStart => exact ⟨0, Nat.zero_le _, rfl, by (simp only [List.take_zero, List.nil_append, List.drop_zero]; exact HR0.out), (Below.refl _ _).alloc (Nat.le_refl _) _⟩
  case round =>
    obtain ⟨k, hk, rfl, hR, hB⟩ := hrel
    by_cases hlt : k < xs.length
    · have hu : xs[k]? = some xs[k] := List.getElem?_eq_getElem hlt
      obtain ⟨ad, rfl, hc⟩ := (hA.keepB hB).el LOp.enc_len hu (by omega)
      have hc0 := hc 0 _ rfl
      have hc1 := hc 1 _ rfl
      rw [Nat.add_zero] at hc0
      rw [add_field _ _ _ (by omega)] at hc1
      clear hc
      have HR := Lib.hid hR
      have HB := Lib.hid hB
      clear hR hB
      go_wp2_with (go_at_call 128; refine (toOp_calls xs[k] _).mono ?_; rintro e w2 ⟨rfl, hb⟩; have H2 := Lib.hid (HR.out.call hb); have B2 := Lib.hid (bl_call HB.out hb); obtain ⟨v0, q0⟩ := H2.out.isCell (j := k * 2) (by omega); have f0 := H2.out.frozen (k * 2); obtain ⟨v1, q1⟩ := H2.out.isCell (j := k * 2 + 1) (by omega); have f1 := H2.out.frozen (k * 2 + 1))
      go_roundw
      case rel => exact ⟨k + 1, by omega, by go_num, H2.out.put LOp.enc_len (by simpa using hlt) (by simp) hu, bl_wset (g := w.heap.size) (Nat.le_refl _) (LOp.enc xs[k]) _ (k * 2) B2.out⟩
      case measure => simp [intOf]; omega
    · have : k = xs.length := by omega
      subst this
      rw [List.take_of_length_le (by simp), List.drop_of_length_le (by simp), List.append_nil] at hR
      go_wp2
      go_ret
      exact ⟨_, rfl, hR, Nat.le_refl _, hB⟩

theorem szOpS_ok (A : Option Addr) (n c : Nat) (left : Int) (w : World) (h : (n : Int) ≤ left) (hl : left ≤ 1048576) :
    Calls Tryd.prog 119 #[.slice A n c, .int .i64 left] w fun e w' => e = .returned (.int .i64 (left - n)) ∧ w' = w := by
  have h0 : ¬ (left - n < 0) := by omega
  go_enter Tryd.func119, Tryd.ntmps119
  go_wp2
  go_ret
  exact ⟨rfl, rfl⟩
theorem szOpS_no (A : Option Addr) (n c : Nat) (left : Int) (w : World) (h : left < n) (h0 : 0 ≤ left) (hn : n ≤ 9223372036854775807) :
    Calls Tryd.prog 119 #[.slice A n c, .int .i64 left] w fun e w' => e = .returned (.int .i64 (-1)) ∧ w' = w := by
  have h1 : left - n < 0 := by omega
  go_enter Tryd.func119, Tryd.ntmps119
  go_wp2
  go_ret
  exact ⟨rfl, rfl⟩

def mkOp (k0 : Int) (n : Nat) : List LOp := (List.range n).map fun i : Nat => ⟨(k0 + 2 * i), (wrap32 (k0 + 2 * i + 1))⟩
theorem mkOp_length (k0 : Int) (n : Nat) : (mkOp k0 n).length = n := by simp [mkOp]
theorem mkOp_at (k0 : Int) (n k : Nat) (h : k < n) : (mkOp k0 n)[k]? = some (⟨(k0 + 2 * (k : Int)), (wrap32 (k0 + 2 * (k : Int) + 1))⟩ : LOp) := by simp [mkOp, h]
set_option maxRecDepth 100000 in
set_option maxHeartbeats 400000 in
theorem markOpS_calls (A : Option Addr) (c : Nat) (xs : List LOp) (b : Option Nat) (k0 : Int) (w : World) (hR : Row w 133 2 A xs.length c (xs.flatMap LOp.enc) b) (hk0 : 0 ≤ k0) (hk1 : k0 ≤ 1152921504606846976) (hn : xs.length ≤ 140737488355328) :
    Calls Tryd.prog 109 #[.slice A xs.length c, .int .i64 k0] w fun e w' => e = .returned (.int .i64 (k0 + 2 * xs.length)) ∧
      Row w' 133 2 A xs.length c ((mkOp k0 xs.length).flatMap LOp.enc) b ∧ w.grownBy w' b := by
  go_enter Tryd.func109, Tryd.ntmps109
  go_wp2
  go_loopw [1, 5] (fun kv i wr => ∃ k : Nat, k ≤ xs.length ∧ i = .int .i64 k ∧ kv = .int .i64 (k0 + 2 * k) ∧ Row wr 133 2 A xs.length c (((mkOp k0 xs.length).take k ++ xs.drop k).flatMap LOp.enc) b ∧ w.grownBy wr b)
    (fun _ i _ => xs.length - (intOf i).toNat)
  case atStart => exact ⟨0, Nat.zero_le _, rfl, by simp, by simpa using hR, grownBy_refl _ _⟩
  case round =>
    obtain ⟨k, hk, rfl, rfl, hR, hB⟩ := hrel
    by_cases hlt : k < xs.length
    · obtain ⟨g, rfl, rfl⟩ := hR.pos (by omega)
      have f0 := hR.frozen (k * 2)
      obtain ⟨v0, q0⟩ := hR.isCell (j := k * 2) (by omega)
      have f1 := hR.frozen (k * 2 + 1)
      obtain ⟨v1, q1⟩ := hR.isCell (j := k * 2 + 1) (by omega)
      have HR := Lib.hid (hR.put LOp.enc_len (by simpa using hlt) (by simp [mkOp]) (mkOp_at k0 xs.length k hlt))
      have HB := Lib.hid (grownBy_wset (LOp.enc (⟨(k0 + 2 * (k : Int)), (wrap32 (k0 + 2 * (k : Int) + 1))⟩ : LOp)) _ (k * 2) hB)
      clear hR hB
      have b0 : 0 ≤ k0 + 2 * (k : Int) := by omega
      have b1 : k0 + 2 * (k : Int) ≤ 2305843009213693952 := by omega
      go_wp2
      go_roundw
      case rel => exact ⟨k + 1, by omega, by go_num, by go_num, HR.out, HB.out⟩
      case measure => simp [intOf]; omega
    · have : k = xs.length := by omega
      subst this
      rw [List.take_of_length_le (by simp [mkOp]), List.drop_of_length_le (by simp), List.append_nil] at hR
      go_wp2
      go_ret
      exact ⟨rfl, hR, hB⟩
theorem toIns_calls (x : LIns) (w : World) : Calls Tryd.prog 39 #[.agg #[.int .i64 x.op, .int .i64 x.n]] w fun e w' => e = .returned (.agg #[.int .i64 x.op, .int .i64 x.n]) ∧ Below w.heap.size w w' := by
  go_enter Tryd.func39, Tryd.ntmps39
  go_wp2
  exact bodyPost_ret (v := .agg #[.int .i64 x.op, .int .i64 x.n]) (by simp [results, Tryd.results39, go_sem]) rfl ⟨rfl, by repeat (first | exact Below.refl _ _ | apply bl_alloc)⟩
theorem eqIns_calls (x : LIns) (w : World) : Calls Tryd.prog 47 #[.agg #[.int .i64 x.op, .int .i64 x.n], .agg #[.int .i64 x.op, .int .i64 x.n]] w fun e w' => e = .returned (.bool true) ∧ Below w.heap.size w w' := by
  go_enter Tryd.func47, Tryd.ntmps47
  go_wp2
  go_ret
  exact ⟨rfl, by repeat (first | exact Below.refl _ _ | apply bl_alloc)⟩

set_option maxRecDepth 100000 in
set_option maxHeartbeats 400000 in
theorem eqInsS_calls (A B : Option Addr) (c d : Nat) (xs : List LIns) (w : World) (hA : Rd w A (xs.flatMap LIns.enc)) (hB : Rd w B (xs.flatMap LIns.enc)) (hn : xs.length ≤ 140737488355328) :
    Calls Tryd.prog 13 #[.slice A xs.length c, .slice B xs.length d] w fun e w' => e = .returned (.bool true) ∧ Below w.heap.size w w' := by
  go_enter Tryd.func13, Tryd.ntmps13
  go_wp2
  go_loopw [5] (fun i wr => ∃ k : Nat, k ≤ xs.length ∧ i = .int .i64 k ∧ Below w.heap.size w wr) (fun i _ => xs.length - (intOf i).toNat)
  case atStart => exact ⟨0, Nat.zero_le _, rfl, Below.refl _ _⟩
  case round =>
    obtain ⟨k, hk, rfl, hW⟩ := hrel
    by_cases hlt : k < xs.length
    · have hu : xs[k]? = some xs[k] := List.getElem?_eq_getElem hlt
      obtain ⟨ad, rfl, hc⟩ := (hA.keepB hW).el LIns.enc_len hu (by omega)
      obtain ⟨bd, rfl, hd⟩ := (hB.keepB hW).el LIns.enc_len hu (by omega)
      have hc0 := hc 0 _ rfl
      have hc1 := hc 1 _ rfl
      rw [Nat.add_zero] at hc0
      rw [add_field _ _ _ (by omega)] at hc1
      have hd0 := hd 0 _ rfl
      have hd1 := hd 1 _ rfl
      rw [Nat.add_zero] at hd0
      rw [add_field _ _ _ (by omega)] at hd1
      have i0 : (0 : Int) ≤ (k : Int) := by omega
      have i1 : (k : Int) < (xs.length : Int) := by omega
      clear hc hd
      have HW := Lib.hid hW
      clear hW
      go_wp2
      go_still_tail 8, (by kernel_rfl)
      go_wp2_with (go_at_call 47; refine (eqIns_calls xs[k] _).mono ?_; rintro e w2 ⟨rfl, hb⟩)
      go_roundw
      case rel => exact ⟨k + 1, by omega, by go_num, bl_call (bl_drew HW.out) hb⟩
      case measure => simp [intOf]; omega
    · have : k = xs.length := by omega
      subst this
      go_wp2
      go_ret
      exact ⟨rfl, hW⟩
set_option maxRecDepth 100000 in
set_option maxHeartbeats 400000 in
theorem toInsS_calls (A : Option Addr) (c : Nat) (xs : List LIns) (w : World) (hA : Rd w A (xs.flatMap LIns.enc)) (hn : xs.length ≤ 1048576) :
    Calls Tryd.prog 9 #[.slice A xs.length c] w fun e w' => ∃ g, e = .returned (.slice (some ⟨g, 0, none⟩) xs.length xs.length) ∧
      Row w' 78 2 (some ⟨g, 0, none⟩) xs.length xs.length (xs.flatMap LIns.enc) (some g) ∧ w.heap.size ≤ g ∧ Below w.heap.size w w' := by
  have hmk := fun W => run_make_rows (P := Tryd.prog) W 38 78 (.agg #[.int .i64 0, .int .i64 0]) 2 16 Tryd.underlying38 (by kernel_rfl) xs.length (by omega) (by omega)
  go_enter Tryd.func9, Tryd.ntmps9
  go_wp2
  clear hmk
  have hrow := Row.made w (madeCells (LIns.enc ⟨0, 0⟩).toArray (xs.length * 2)) 78 2 xs.length (by unfold maxLen; omega) (by simp [madeCells])
  rw [madeCells_flat LIns.enc_len] at hrow
  have HR0 := Lib.hid hrow
  clear hrow
  go_loopw [4] (fun i wr => ∃ k : Nat, k ≤ xs.length ∧ i = .int .i64 k ∧ Row wr 78 2 (some ⟨w.heap.size, 0, none⟩) xs.length xs.length ((xs.take k ++ (List.replicate xs.length (⟨0, 0⟩ : LIns)).drop k).flatMap LIns.enc) (some w.heap.size) ∧ Below w.heap.size w wr)
    (fun i _ => xs.length - (intOf i).toNat)
  case atStart => exact ⟨0, Nat.zero_le _, rfl, by (simp only [List.take_zero, List.nil_append, List.drop_zero]; exact HR0.out), (Below.refl _ _).alloc (Nat.le_refl _) _⟩
  case round =>
    obtain ⟨k, hk, rfl, hR, hB⟩ := hrel
    by_cases hlt : k < xs.length
    · have hu : xs[k]? = some xs[k] := List.getElem?_eq_getElem hlt
      obtain ⟨ad, rfl, hc⟩ := (hA.keepB hB).el LIns.enc_len hu (by omega)
      have hc0 := hc 0 _ rfl
      have hc1 := hc 1 _ rfl
      rw [Nat.add_zero] at hc0
      rw [add_field _ _ _ (by omega)] at hc1
      clear hc
      have HR := Lib.hid hR
      have HB := Lib.hid hB
      clear hR hB
      go_wp2_with (go_at_call 39; refine (toIns_calls xs[k] _).mono ?_; rintro e w2 ⟨rfl, hb⟩; have H2 := Lib.hid (HR.out.call hb); have B2 := Lib.hid (bl_call HB.out hb); obtain ⟨v0, q0⟩ := H2.out.isCell (j := k * 2) (by omega); have f0 := H2.out.frozen (k * 2); obtain ⟨v1, q1⟩ := H2.out.isCell (j := k * 2 + 1) (by omega); have f1 := H2.out.frozen (k * 2 + 1))
      go_roundw
      case rel => exact ⟨k + 1, by omega, by go_num, H2.out.put LIns.enc_len (by simpa using hlt) (by simp) hu, bl_wset (g := w.heap.size) (Nat.le_refl _) (LIns.enc xs[k]) _ (k * 2) B2.out⟩
      case measure => simp [intOf]; omega
    · have : k = xs.length := by omega
      subst this
      rw [List.take_of_length_le (by simp), List.drop_of_length_le (by simp), List.append_nil] at hR
      go_wp2
      go_ret
      exact ⟨_, rfl, hR, Nat.le_refl _, hB⟩

theorem szInsS_ok (A : Option Addr) (n c : Nat) (left : Int) (w : World) (h : (n : Int) ≤ left) (hl : left ≤ 1048576) :
    Calls Tryd.prog 6 #[.slice A n c, .int .i64 left] w fun e w' => e = .returned (.int .i64 (left - n)) ∧ w' = w := by
  have h0 : ¬ (left - n < 0) := by omega
  go_enter Tryd.func6, Tryd.ntmps6
  go_wp2
  go_ret
  exact ⟨rfl, rfl⟩
theorem szInsS_no (A : Option Addr) (n c : Nat) (left : Int) (w : World) (h : left < n) (h0 : 0 ≤ left) (hn : n ≤ 9223372036854775807) :
    Calls Tryd.prog 6 #[.slice A n c, .int .i64 left] w fun e w' => e = .returned (.int .i64 (-1)) ∧ w' = w := by
  have h1 : left - n < 0 := by omega
  go_enter Tryd.func6, Tryd.ntmps6
  go_wp2
  go_ret
  exact ⟨rfl, rfl⟩

def mkIns (k0 : Int) (n : Nat) : List LIns := (List.range n).map fun i : Nat => ⟨(k0 + 2 * i), (k0 + 2 * i + 1)⟩
theorem mkIns_length (k0 : Int) (n : Nat) : (mkIns k0 n).length = n := by simp [mkIns]
theorem mkIns_at (k0 : Int) (n k : Nat) (h : k < n) : (mkIns k0 n)[k]? = some (⟨(k0 + 2 * (k : Int)), (k0 + 2 * (k : Int) + 1)⟩ : LIns) := by simp [mkIns, h]
set_option maxRecDepth 100000 in
set_option maxHeartbeats 400000 in
theorem markInsS_calls (A : Option Addr) (c : Nat) (xs : List LIns) (b : Option Nat) (k0 : Int) (w : World) (hR : Row w 78 2 A xs.length c (xs.flatMap LIns.enc) b) (hk0 : 0 ≤ k0) (hk1 : k0 ≤ 1152921504606846976) (hn : xs.length ≤ 140737488355328) :
    Calls Tryd.prog 15 #[.slice A xs.length c, .int .i64 k0] w fun e w' => e = .returned (.int .i64 (k0 + 2 * xs.length)) ∧
      Row w' 78 2 A xs.length c ((mkIns k0 xs.length).flatMap LIns.enc) b ∧ w.grownBy w' b := by
  go_enter Tryd.func15, Tryd.ntmps15
  go_wp2
  go_loopw [1, 5] (fun kv i wr => ∃ k : Nat, k ≤ xs.length ∧ i = .int .i64 k ∧ kv = .int .i64 (k0 + 2 * k) ∧ Row wr 78 2 A xs.length c (((mkIns k0 xs.length).take k ++ xs.drop k).flatMap LIns.enc) b ∧ w.grownBy wr b)
    (fun _ i _ => xs.length - (intOf i).toNat)
  case atStart => exact ⟨0, Nat.zero_le _, rfl, by simp, by simpa using hR, grownBy_refl _ _⟩
  case round =>
    obtain ⟨k, hk, rfl, rfl, hR, hB⟩ := hrel
    by_cases hlt : k < xs.length
    · obtain ⟨g, rfl, rfl⟩ := hR.pos (by omega)
      have f0 := hR.frozen (k * 2)
      obtain ⟨v0, q0⟩ := hR.isCell (j := k * 2) (by omega)
      have f1 := hR.frozen (k * 2 + 1)
      obtain ⟨v1, q1⟩ := hR.isCell (j := k * 2 + 1) (by omega)
      have HR := Lib.hid (hR.put LIns.enc_len (by simpa using hlt) (by simp [mkIns]) (mkIns_at k0 xs.length k hlt))
      have HB := Lib.hid (grownBy_wset (LIns.enc (⟨(k0 + 2 * (k : Int)), (k0 + 2 * (k : Int) + 1)⟩ : LIns)) _ (k * 2) hB)
      clear hR hB
      have b0 : 0 ≤ k0 + 2 * (k : Int) := by omega
      have b1 : k0 + 2 * (k : Int) ≤ 2305843009213693952 := by omega
      go_wp2
      go_roundw
      case rel => exact ⟨k + 1, by omega, by go_num, by go_num, HR.out, HB.out⟩
      case measure => simp [intOf]; omega
    · have : k = xs.length := by omega
      subst this
      rw [List.take_of_length_le (by simp [mkIns]), List.drop_of_length_le (by simp), List.append_nil] at hR
      go_wp2
      go_ret
      exact ⟨rfl, hR, hB⟩
theorem toEntry_calls (x : LEntry) (w : World) : Calls Tryd.prog 99 #[.agg #[.string x.name, .bool x.var, .int .i64 x.n]] w fun e w' => e = .returned (.agg #[.string x.name, .bool x.var, .int .i64 x.n]) ∧ Below w.heap.size w w' := by
  go_enter Tryd.func99, Tryd.ntmps99
  go_wp2
  exact bodyPost_ret (v := .agg #[.string x.name, .bool x.var, .int .i64 x.n]) (by simp [results, Tryd.results99, go_sem]) rfl ⟨rfl, by repeat (first | exact Below.refl _ _ | apply bl_alloc)⟩
theorem eqEntry_calls (x : LEntry) (w : World) : Calls Tryd.prog 107 #[.agg #[.string x.name, .bool x.var, .int .i64 x.n], .agg #[.string x.name, .bool x.var, .int .i64 x.n]] w fun e w' => e = .returned (.bool true) ∧ Below w.heap.size w w' := by
  go_enter Tryd.func107, Tryd.ntmps107
  go_wp2
  go_ret
  exact ⟨rfl, by repeat (first | exact Below.refl _ _ | apply bl_alloc)⟩

set_option maxRecDepth 100000 in
set_option maxHeartbeats 400000 in
theorem eqEntryS_calls (A B : Option Addr) (c d : Nat) (xs : List LEntry) (w : World) (hA : Rd w A (xs.flatMap LEntry.enc)) (hB : Rd w B (xs.flatMap LEntry.enc)) (hn : xs.length ≤ 140737488355328) :
    Calls Tryd.prog 73 #[.slice A xs.length c, .slice B xs.length d] w fun e w' => e = .returned (.bool true) ∧ Below w.heap.size w w' := by
  go_enter Tryd.func73, Tryd.ntmps73
  go_wp2
  go_loopw [5] (fun i wr => ∃ k : Nat, k ≤ xs.length ∧ i = .int .i64 k ∧ Below w.heap.size w wr) (fun i _ => xs.length - (intOf i).toNat)
  case atStart => exact ⟨0, Nat.zero_le _, rfl, Below.refl _ _⟩
  case round =>
    obtain ⟨k, hk, rfl, hW⟩ := hrel
    by_cases hlt : k < xs.length
    · have hu : xs[k]? = some xs[k] := List.getElem?_eq_getElem hlt
      obtain ⟨ad, rfl, hc⟩ := (hA.keepB hW).el LEntry.enc_len hu (by omega)
      obtain ⟨bd, rfl, hd⟩ := (hB.keepB hW).el LEntry.enc_len hu (by omega)
      have hc0 := hc 0 _ rfl
      have hc1 := hc 1 _ rfl
      have hc2 := hc 2 _ rfl
      rw [Nat.add_zero] at hc0
      rw [add_field _ _ _ (by omega)] at hc1
      rw [add_field _ _ _ (by omega)] at hc2
      have hd0 := hd 0 _ rfl
      have hd1 := hd 1 _ rfl
      have hd2 := hd 2 _ rfl
      rw [Nat.add_zero] at hd0
      rw [add_field _ _ _ (by omega)] at hd1
      rw [add_field _ _ _ (by omega)] at hd2
      have i0 : (0 : Int) ≤ (k : Int) := by omega
      have i1 : (k : Int) < (xs.length : Int) := by omega
      clear hc hd
      have HW := Lib.hid hW
      clear hW
      go_wp2
      go_still_tail 8, (by kernel_rfl)
      go_wp2_with (go_at_call 107; refine (eqEntry_calls xs[k] _).mono ?_; rintro e w2 ⟨rfl, hb⟩)
      go_roundw
      case rel => exact ⟨k + 1, by omega, by go_num, bl_call (bl_drew HW.out) hb⟩
      case measure => simp [intOf]; omega
    · have : k = xs.length := by omega
      subst this
      go_wp2
      go_ret
      exact ⟨rfl, hW⟩
set_option maxRecDepth 100000 in
set_option maxHeartbeats 400000 in
theorem toEntryS_calls (A : Option Addr) (c : Nat) (xs : List LEntry) (w : World) (hA : Rd w A (xs.flatMap LEntry.enc)) (hn : xs.length ≤ 1048576) :
    Calls Tryd.prog 65 #[.slice A xs.length c] w fun e w' => ∃ g, e = .returned (.slice (some ⟨g, 0, none⟩) xs.length xs.length) ∧
      Row w' 99 3 (some ⟨g, 0, none⟩) xs.length xs.length (xs.flatMap LEntry.enc) (some g) ∧ w.heap.size ≤ g ∧ Below w.heap.size w w' := by
  have hmk := fun W => run_make_rows (P := Tryd.prog) W 55 99 (.agg #[.string ByteArray.empty, .bool false, .int .i64 0]) 3 32 Tryd.underlying55 (by kernel_rfl) xs.length (by omega) (by omega)
  go_enter Tryd.func65, Tryd.ntmps65
  go_wp2
  clear hmk
  have hrow := Row.made w (madeCells (LEntry.enc ⟨ByteArray.empty, false, 0⟩).toArray (xs.length * 3)) 99 3 xs.length (by unfold maxLen; omega) (by simp [madeCells])
  rw [madeCells_flat LEntry.enc_len] at hrow
  have HR0 := Lib.hid hrow
  clear hrow
  go_loopw [4] (fun i wr => ∃ k : Nat, k ≤ xs.length ∧ i = .int .i64 k ∧ Row wr 99 3 (some ⟨w.heap.size, 0, none⟩) xs.length xs.length ((xs.take k ++ (List.replicate xs.length (⟨ByteArray.empty, false, 0⟩ : LEntry)).drop k).flatMap LEntry.enc) (some w.heap.size) ∧ Below w.heap.size w wr)
    (fun i _ => xs.length - (intOf i).toNat)
  case atStart => exact ⟨0, Nat.zero_le _, rfl, by (simp only [List.take_zero, List.nil_append, List.drop_zero]; exact HR0.out), (Below.refl _ _).alloc (Nat.le_refl _) _⟩
  case round =>
    obtain ⟨k, hk, rfl, hR, hB⟩ := hrel
    by_cases hlt : k < xs.length
    · have hu : xs[k]? = some xs[k] := List.getElem?_eq_getElem hlt
      obtain ⟨ad, rfl, hc⟩ := (hA.keepB hB).el LEntry.enc_len hu (by omega)
      have hc0 := hc 0 _ rfl
      have hc1 := hc 1 _ rfl
      have hc2 := hc 2 _ rfl
      rw [Nat.add_zero] at hc0
      rw [add_field _ _ _ (by omega)] at hc1
      rw [add_field _ _ _ (by omega)] at hc2
      clear hc
      have HR := Lib.hid hR
      have HB := Lib.hid hB
      clear hR hB
      go_wp2_with (go_at_call 99; refine (toEntry_calls xs[k] _).mono ?_; rintro e w2 ⟨rfl, hb⟩; have H2 := Lib.hid (HR.out.call hb); have B2 := Lib.hid (bl_call HB.out hb); obtain ⟨v0, q0⟩ := H2.out.isCell (j := k * 3) (by omega); have f0 := H2.out.frozen (k * 3); obtain ⟨v1, q1⟩ := H2.out.isCell (j := k * 3 + 1) (by omega); have f1 := H2.out.frozen (k * 3 + 1); obtain ⟨v2, q2⟩ := H2.out.isCell (j := k * 3 + 2) (by omega); have f2 := H2.out.frozen (k * 3 + 2))
      go_roundw
      case rel => exact ⟨k + 1, by omega, by go_num, H2.out.put LEntry.enc_len (by simpa using hlt) (by simp) hu, bl_wset (g := w.heap.size) (Nat.le_refl _) (LEntry.enc xs[k]) _ (k * 3) B2.out⟩
      case measure => simp [intOf]; omega
    · have : k = xs.length := by omega
      subst this
      rw [List.take_of_length_le (by simp), List.drop_of_length_le (by simp), List.append_nil] at hR
      go_wp2
      go_ret
      exact ⟨_, rfl, hR, Nat.le_refl _, hB⟩

end Go.Proofs.YtjciibhaifabjaaDoor

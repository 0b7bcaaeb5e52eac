/- Contracts of the laws' helpers over flat structs. -/
import Derived.Test.YtgljbcdlldhlfaaDoorProg
import Derived.Test.YtgljbcdlldhlfaaDoorR
import Derived.Test.YtgljbcdlldhlfaaDoorD
import Derived.Deep.OwnRows
import Derived.Deep.QuietTactic
import Derived.BigQuiet
import Derived.StillTailTactics
set_option linter.unusedVariables false
set_option linter.unusedSimpArgs false
namespace Go.Proofs.YtgljbcdlldhlfaaDoor
open Go.RowKit

theorem toSlot_calls (x : LSlot) (w : World) : Calls Tryd.prog 76 #[.agg #[.int .i64 x.kind, .int .i32 x.n]] w fun e w' => e = .returned (.agg #[.int .i64 x.kind, .int .i32 x.n]) ∧ Below w.heap.size w w' := by
  go_enter Tryd.func76, Tryd.ntmps76
  go_wp2
  exact bodyPost_ret (v := .agg #[.int .i64 x.kind, .int .i32 x.n]) (by simp [results, Tryd.results76, go_sem]) rfl ⟨rfl, by repeat (first | exact Below.refl _ _ | apply bl_alloc)⟩
theorem eqSlot_calls (x : LSlot) (w : World) : Calls Tryd.prog 86 #[.agg #[.int .i64 x.kind, .int .i32 x.n], .agg #[.int .i64 x.kind, .int .i32 x.n]] w fun e w' => e = .returned (.bool true) ∧ Below w.heap.size w w' := by
  go_enter Tryd.func86, Tryd.ntmps86
  go_wp2
  go_ret
  exact ⟨rfl, by repeat (first | exact Below.refl _ _ | apply bl_alloc)⟩

set_option maxRecDepth 100000 in
set_option maxHeartbeats 400000 in
theorem eqSlotS_calls (A B : Option Addr) (c d : Nat) (xs : List LSlot) (w : World) (hA : Rd w A (xs.flatMap LSlot.enc)) (hB : Rd w B (xs.flatMap LSlot.enc)) (hn : xs.length ≤ 140737488355328) :
    Calls Tryd.prog 44 #[.slice A xs.length c, .slice B xs.length d] w fun e w' => e = .returned (.bool true) ∧ Below w.heap.size w w' := by
  go_enter Tryd.func44, Tryd.ntmps44
  go_wp2
  go_loopw [5] (fun i wr => ∃ k : Nat, k ≤ xs.length ∧ i = .int .i64 k ∧ Below w.heap.size w wr) (fun i _ => xs.length - (intOf i).toNat)
  case atStart => exact ⟨0, Nat.zero_le _, rfl, Below.refl _ _⟩
  case round =>
    obtain ⟨k, hk, rfl, hW⟩ := hrel
    by_cases hlt : k < xs.length
    · have hu : xs[k]? = some xs[k] := List.getElem?_eq_getElem hlt
      obtain ⟨ad, rfl, hc⟩ := (hA.keepB hW).el LSlot.enc_len hu (by omega)
      obtain ⟨bd, rfl, hd⟩ := (hB.keepB hW).el LSlot.enc_len hu (by omega)
      have hc0 := hc 0 _ rfl
      have hc1 := hc 1 _ rfl
      rw [Nat.add_zero] at hc0
      rw [add_field _ _ _ (by omega)] at hc1
      have hd0 := hd 0 _ rfl
      have hd1 := hd 1 _ rfl
      rw [Nat.add_zero] at hd0
      rw [add_field _ _ _ (by omega)] at hd1
      have i0 : (0 : Int) ≤ (k : Int) := by omega
      have i1 : (k : Int) < (xs.length : Int) := by omega
      clear hc hd
      have HW := Lib.hid hW
      clear hW
      go_wp2
      go_still_tail 8, (by kernel_rfl)
      go_wp2_with (go_at_call 86; refine (eqSlot_calls xs[k] _).mono ?_; rintro e w2 ⟨rfl, hb⟩)
      go_roundw
      case rel => exact ⟨k + 1, by omega, by go_num, bl_call (bl_drew HW.out) hb⟩
      case measure => simp [intOf]; omega
    · have : k = xs.length := by omega
      subst this
      go_wp2
      go_ret
      exact ⟨rfl, hW⟩
set_option maxRecDepth 100000 in
set_option maxHeartbeats 400000 in
theorem toSlotS_calls (A : Option Addr) (c : Nat) (xs : List LSlot) (w : World) (hA : Rd w A (xs.flatMap LSlot.enc)) (hn : xs.length ≤ 1048576) :
    Calls Tryd.prog 35 #[.slice A xs.length c] w fun e w' => ∃ g, e = .returned (.slice (some ⟨g, 0, none⟩) xs.length xs.length) ∧
      Row w' 77 2 (some ⟨g, 0, none⟩) xs.length xs.length (xs.flatMap LSlot.enc) (some g) ∧ w.heap.size ≤ g ∧ Below w.heap.size w w' := by
  have hmk := fun W => run_make_rows (P := Tryd.prog) W 30 77 (.agg #[.int .i64 0, .int .i32 0]) 2 16 Tryd.underlying30 (by kernel_rfl) xs.length (by omega) (by omega)
  go_enter Tryd.func35, Tryd.ntmps35
  go_wp2
  clear hmk
  have hrow := Row.made w (madeCells (LSlot.enc ⟨0, 0⟩).toArray (xs.length * 2)) 77 2 xs.length (by unfold maxLen; omega) (by simp [madeCells])
  rw [madeCells_flat LSlot.enc_len] at hrow
  have HR0 := Lib.hid hrow
  clear hrow
  go_loopw [4] (fun i wr => ∃ k : Nat, k ≤ xs.length ∧ i = .int .i64 k ∧ Row wr 77 2 (some ⟨w.heap.size, 0, none⟩) xs.length xs.length ((xs.take k ++ (List.replicate xs.length (⟨0, 0⟩ : LSlot)).drop k).flatMap LSlot.enc) (some w.heap.size) ∧ Below w.heap.size w wr)
    (fun i _ => xs.length - (intOf i).toNat)
  case atStart => exact ⟨0, Nat.zero_le _, rfl, by (simp only [List.take_zero, List.nil_append, List.drop_zero]; exact HR0.out), (Below.refl _ _).alloc (Nat.le_refl _) _⟩
  case round =>
    obtain ⟨k, hk, rfl, hR, hB⟩ := hrel
    by_cases hlt : k < xs.length
    · have hu : xs[k]? = some xs[k] := List.getElem?_eq_getElem hlt
      obtain ⟨ad, rfl, hc⟩ := (hA.keepB hB).el LSlot.enc_len hu (by omega)
      have hc0 := hc 0 _ rfl
      have hc1 := hc 1 _ rfl
      rw [Nat.add_zero] at hc0
      rw [add_field _ _ _ (by omega)] at hc1
      clear hc
      have HR := Lib.hid hR
      have HB := Lib.hid hB
      clear hR hB
      go_wp2_with (go_at_call 76; refine (toSlot_calls xs[k] _).mono ?_; rintro e w2 ⟨rfl, hb⟩; have H2 := Lib.hid (HR.out.call hb); have B2 := Lib.hid (bl_call HB.out hb); obtain ⟨v0, q0⟩ := H2.out.isCell (j := k * 2) (by omega); have f0 := H2.out.frozen (k * 2); obtain ⟨v1, q1⟩ := H2.out.isCell (j := k * 2 + 1) (by omega); have f1 := H2.out.frozen (k * 2 + 1))
      go_roundw
      case rel => exact ⟨k + 1, by omega, by go_num, H2.out.put LSlot.enc_len (by simpa using hlt) (by simp) hu, bl_wset (g := w.heap.size) (Nat.le_refl _) (LSlot.enc xs[k]) _ (k * 2) B2.out⟩
      case measure => simp [intOf]; omega
    · have : k = xs.length := by omega
      subst this
      rw [List.take_of_length_le (by simp), List.drop_of_length_le (by simp), List.append_nil] at hR
      go_wp2
      go_ret
      exact ⟨_, rfl, hR, Nat.le_refl _, hB⟩

theorem szSlotS_ok (A : Option Addr) (n c : Nat) (left : Int) (w : World) (h : (n : Int) ≤ left) (hl : left ≤ 1048576) :
    Calls Tryd.prog 23 #[.slice A n c, .int .i64 left] w fun e w' => e = .returned (.int .i64 (left - n)) ∧ w' = w := by
  have h0 : ¬ (left - n < 0) := by omega
  go_enter Tryd.func23, Tryd.ntmps23
  go_wp2
  go_ret
  exact ⟨rfl, rfl⟩
theorem szSlotS_no (A : Option Addr) (n c : Nat) (left : Int) (w : World) (h : left < n) (h0 : 0 ≤ left) (hn : n ≤ 9223372036854775807) :
    Calls Tryd.prog 23 #[.slice A n c, .int .i64 left] w fun e w' => e = .returned (.int .i64 (-1)) ∧ w' = w := by
  have h1 : left - n < 0 := by omega
  go_enter Tryd.func23, Tryd.ntmps23
  go_wp2
  go_ret
  exact ⟨rfl, rfl⟩

def mkSlot (k0 : Int) (n : Nat) : List LSlot := (List.range n).map fun i : Nat => ⟨(k0 + 2 * i), (wrap32 (k0 + 2 * i + 1))⟩
theorem mkSlot_length (k0 : Int) (n : Nat) : (mkSlot k0 n).length = n := by simp [mkSlot]
theorem mkSlot_at (k0 : Int) (n k : Nat) (h : k < n) : (mkSlot k0 n)[k]? = some (⟨(k0 + 2 * (k : Int)), (wrap32 (k0 + 2 * (k : Int) + 1))⟩ : LSlot) := by simp [mkSlot, h]
set_option maxRecDepth 100000 in
set_option maxHeartbeats 400000 in
theorem markSlotS_calls (A : Option Addr) (c : Nat) (xs : List LSlot) (b : Option Nat) (k0 : Int) (w : World) (hR : Row w 77 2 A xs.length c (xs.flatMap LSlot.enc) b) (hk0 : 0 ≤ k0) (hk1 : k0 ≤ 1152921504606846976) (hn : xs.length ≤ 140737488355328) :
    Calls Tryd.prog 49 #[.slice A xs.length c, .int .i64 k0] w fun e w' => e = .returned (.int .i64 (k0 + 2 * xs.length)) ∧
      Row w' 77 2 A xs.length c ((mkSlot k0 xs.length).flatMap LSlot.enc) b ∧ w.grownBy w' b := by
  go_enter Tryd.func49, Tryd.ntmps49
  go_wp2
  go_loopw [1, 5] (fun kv i wr => ∃ k : Nat, k ≤ xs.length ∧ i = .int .i64 k ∧ kv = .int .i64 (k0 + 2 * k) ∧ Row wr 77 2 A xs.length c (((mkSlot k0 xs.length).take k ++ xs.drop k).flatMap LSlot.enc) b ∧ w.grownBy wr b)
    (fun _ i _ => xs.length - (intOf i).toNat)
  case atStart => exact ⟨0, Nat.zero_le _, rfl, by simp, by simpa using hR, grownBy_refl _ _⟩
  case round =>
    obtain ⟨k, hk, rfl, rfl, hR, hB⟩ := hrel
    by_cases hlt : k < xs.length
    · obtain ⟨g, rfl, rfl⟩ := hR.pos (by omega)
      have f0 := hR.frozen (k * 2)
      obtain ⟨v0, q0⟩ := hR.isCell (j := k * 2) (by omega)
      have f1 := hR.frozen (k * 2 + 1)
      obtain ⟨v1, q1⟩ := hR.isCell (j := k * 2 + 1) (by omega)
      have HR := Lib.hid (hR.put LSlot.enc_len (by simpa using hlt) (by simp [mkSlot]) (mkSlot_at k0 xs.length k hlt))
      have HB := Lib.hid (grownBy_wset (LSlot.enc (⟨(k0 + 2 * (k : Int)), (wrap32 (k0 + 2 * (k : Int) + 1))⟩ : LSlot)) _ (k * 2) hB)
      clear hR hB
      have b0 : 0 ≤ k0 + 2 * (k : Int) := by omega
      have b1 : k0 + 2 * (k : Int) ≤ 2305843009213693952 := by omega
      go_wp2
      go_roundw
      case rel => exact ⟨k + 1, by omega, by go_num, by go_num, HR.out, HB.out⟩
      case measure => simp [intOf]; omega
    · have : k = xs.length := by omega
      subst this
      rw [List.take_of_length_le (by simp [mkSlot]), List.drop_of_length_le (by simp), List.append_nil] at hR
      go_wp2
      go_ret
      exact ⟨rfl, hR, hB⟩
set_option maxRecDepth 100000 in
set_option maxHeartbeats 400000 in
theorem heldSlotS_calls (A : Option Addr) (n c : Nat) (k0 : Int) (w : World) (hA : Rd w A ((mkSlot k0 n).flatMap LSlot.enc)) (hk0 : 0 ≤ k0) (hk1 : k0 ≤ 1152921504606846976) (hn : n ≤ 140737488355328) :
    Calls Tryd.prog 54 #[.slice A n c, .int .i64 k0] w fun e w' => e = .returned (.int .i64 (k0 + 2 * n)) ∧ w' = w := by
  go_enter Tryd.func54, Tryd.ntmps54
  go_wp2
  go_loop [1, 5] (fun kv i => ∃ k : Nat, k ≤ n ∧ i = .int .i64 k ∧ kv = .int .i64 (k0 + 2 * k)) (fun _ i => n - (intOf i).toNat)
  case atStart => exact ⟨0, Nat.zero_le _, rfl, by simp⟩
  case round =>
    obtain ⟨k, hk, rfl, rfl⟩ := hrel
    by_cases hlt : k < n
    · obtain ⟨ad, rfl, hc⟩ := hA.el LSlot.enc_len (mkSlot_at k0 n k hlt) (by omega)
      have hc0 := hc 0 _ rfl
      have hc1 := hc 1 _ rfl
      rw [Nat.add_zero] at hc0
      rw [add_field _ _ _ (by omega)] at hc1
      clear hc
      have b0 : 0 ≤ k0 + 2 * (k : Int) := by omega
      have b1 : k0 + 2 * (k : Int) ≤ 2305843009213693952 := by omega
      go_wp2
      go_round
      case rel => exact ⟨k + 1, by omega, by go_num, by go_num⟩
      case measure => simp [intOf]; omega
    · have : k = n := by omega
      subst this
      go_wp2
      go_ret
      exact ⟨rfl, rfl⟩

end Go.Proofs.YtgljbcdlldhlfaaDoor

/- Contracts of the laws' helpers over flat structs. -/
import Derived.Test.YtfmmfgjelaekhaaDoorProg
import Derived.Test.YtfmmfgjelaekhaaDoorR
import Derived.Test.YtfmmfgjelaekhaaDoorD
import Derived.Deep.OwnRows
import Derived.Deep.QuietTactic
import Derived.BigQuiet
import Derived.StillTailTactics
set_option linter.unusedVariables false
set_option linter.unusedSimpArgs false
namespace Go.Proofs.YtfmmfgjelaekhaaDoor
open Go.RowKit

theorem toOp_calls (x : LOp) (w : World) : Calls Tryd.prog 51 #[.agg #[.int .i64 x.kind, .int .i32 x.n]] w fun e w' => e = .returned (.agg #[.int .i64 x.kind, .int .i32 x.n]) ∧ Below w.heap.size w w' := by
  go_enter Tryd.func51, Tryd.ntmps51
  go_wp2
  exact bodyPost_ret (v := .agg #[.int .i64 x.kind, .int .i32 x.n]) (by simp [results, Tryd.results51, go_sem]) rfl ⟨rfl, by repeat (first | exact Below.refl _ _ | apply bl_alloc)⟩
theorem eqOp_calls (x : LOp) (w : World) : Calls Tryd.prog 83 #[.agg #[.int .i64 x.kind, .int .i32 x.n], .agg #[.int .i64 x.kind, .int .i32 x.n]] w fun e w' => e = .returned (.bool true) ∧ Below w.heap.size w w' := by
  go_enter Tryd.func83, Tryd.ntmps83
  go_wp2
  go_ret
  exact ⟨rfl, by repeat (first | exact Below.refl _ _ | apply bl_alloc)⟩

set_option maxRecDepth 100000 in
set_option maxHeartbeats 400000 in
theorem eqOpS_calls (A B : Option Addr) (c d : Nat) (xs : List LOp) (w : World) (hA : Rd w A (xs.flatMap LOp.enc)) (hB : Rd w B (xs.flatMap LOp.enc)) (hn : xs.length ≤ 140737488355328) :
    Calls Tryd.prog 30 #[.slice A xs.length c, .slice B xs.length d] w fun e w' => e = .returned (.bool true) ∧ Below w.heap.size w w' := by
  go_enter Tryd.func30, Tryd.ntmps30
  go_wp2
  go_loopw [5] (fun i wr => ∃ k : Nat, k ≤ xs.length ∧ i = .int .i64 k ∧ Below w.heap.size w wr) (fun i _ => xs.length - (intOf i).toNat)
  case atStart => exact ⟨0, Nat.zero_le _, rfl, Below.refl _ _⟩
  case round =>
    obtain ⟨k, hk, rfl, hW⟩ := hrel
    by_cases hlt : k < xs.length
    · have hu : xs[k]? = some xs[k] := List.getElem?_eq_getElem hlt
      obtain ⟨ad, rfl, hc⟩ := (hA.keepB hW).el LOp.enc_len hu (by omega)
      obtain ⟨bd, rfl, hd⟩ := (hB.keepB hW).el LOp.enc_len hu (by omega)
      have hc0 := hc 0 _ rfl
      have hc1 := hc 1 _ rfl
      rw [Nat.add_zero] at hc0
      rw [add_field _ _ _ (by omega)] at hc1
      have hd0 := hd 0 _ rfl
      have hd1 := hd 1 _ rfl
      rw [Nat.add_zero] at hd0
      rw [add_field _ _ _ (by omega)] at hd1
      have i0 : (0 : Int) ≤ (k : Int) := by omega
      have i1 : (k : Int) < (xs.length : Int) := by omega
      clear hc hd
      have HW := Lib.hid hW
      clear hW
      go_wp2
      go_still_tail 8, (by kernel_rfl)
      go_wp2_with (go_at_call 83; refine (eqOp_calls xs[k] _).mono ?_; rintro e w2 ⟨rfl, hb⟩)
      go_roundw
      case rel => exact ⟨k + 1, by omega, by go_num, bl_call (bl_drew HW.out) hb⟩
      case measure => simp [intOf]; omega
    · have : k = xs.length := by omega
      subst this
      go_wp2
      go_ret
      exact ⟨rfl, hW⟩
set_option maxRecDepth 100000 in
set_option maxHeartbeats 400000 in
theorem toOpS_calls (A : Option Addr) (c : Nat) (xs : List LOp) (w : World) (hA : Rd w A (xs.flatMap LOp.enc)) (hn : xs.length ≤ 1048576) :
    Calls Tryd.prog 28 #[.slice A xs.length c] w fun e w' => ∃ g, e = .returned (.slice (some ⟨g, 0, none⟩) xs.length xs.length) ∧
      Row w' 71 2 (some ⟨g, 0, none⟩) xs.length xs.length (xs.flatMap LOp.enc) (some g) ∧ w.heap.size ≤ g ∧ Below w.heap.size w w' := by
  have hmk := fun W => run_make_rows (P := Tryd.prog) W 41 71 (.agg #[.int .i64 0, .int .i32 0]) 2 16 Tryd.underlying41 (by kernel_rfl) xs.length (by omega) (by omega)
  go_enter Tryd.func28, Tryd.ntmps28
  go_wp2
  clear hmk
  have hrow := Row.made w (madeCells (LOp.enc ⟨0, 0⟩).toArray (xs.length * 2)) 71 2 xs.length (by unfold maxLen; omega) (by simp [madeCells])
  rw [madeCells_flat LOp.enc_len] at hrow
  have HR0 := Lib.hid hrow
  clear hrow
  go_loopw [4] (fun i wr => ∃ k : Nat, k ≤ xs.length ∧ i = .int .i64 k ∧ Row wr 71 2 (some ⟨w.heap.size, 0, none⟩) xs.length xs.length ((xs.take k ++ (List.replicate xs.length (⟨0, 0⟩ : LOp)).drop k).flatMap LOp.enc) (some w.heap.size) ∧ Below w.heap.size w wr)
    (fun i _ => xs.length - (intOf i).toNat)
  case atStart => exact ⟨0, Nat.zero_le _, rfl, by (simp only [List.take_zero, List.nil_append, List.drop_zero]; exact HR0.out), (Below.refl _ _).alloc (Nat.le_refl _) _⟩
  case round =>
    obtain ⟨k, hk, rfl, hR, hB⟩ := hrel
    by_cases hlt : k < xs.length
    · have hu : xs[k]? = some xs[k] := List.getElem?_eq_getElem hlt
      obtain ⟨ad, rfl, hc⟩ := (hA.keepB hB).el LOp.enc_len hu (by omega)
      have hc0 := hc 0 _ rfl
      have hc1 := hc 1 _ rfl
      rw [Nat.add_zero] at hc0
      rw [add_field _ _ _ (by omega)] at hc1
      clear hc
      have HR := Lib.hid hR
      have HB := Lib.hid hB
      clear hR hB
      go_wp2_with (go_at_call 51; refine (toOp_calls xs[k] _).mono ?_; rintro e w2 ⟨rfl, hb⟩; have H2 := Lib.hid (HR.out.call hb); have B2 := Lib.hid (bl_call HB.out hb); obtain ⟨v0, q0⟩ := H2.out.isCell (j := k * 2) (by omega); have f0 := H2.out.frozen (k * 2); obtain ⟨v1, q1⟩ := H2.out.isCell (j := k * 2 + 1) (by omega); have f1 := H2.out.frozen (k * 2 + 1))
      go_roundw
      case rel => exact ⟨k + 1, by omega, by go_num, H2.out.put LOp.enc_len (by simpa using hlt) (by simp) hu, bl_wset (g := w.heap.size) (Nat.le_refl _) (LOp.enc xs[k]) _ (k * 2) B2.out⟩
      case measure => simp [intOf]; omega
    · have : k = xs.length := by omega
      subst this
      rw [List.take_of_length_le (by simp), List.drop_of_length_le (by simp), List.append_nil] at hR
      go_wp2
      go_ret
      exact ⟨_, rfl, hR, Nat.le_refl _, hB⟩

theorem szOpS_ok (A : Option Addr) (n c : Nat) (left : Int) (w : World) (h : (n : Int) ≤ left) (hl : left ≤ 1048576) :
    Calls Tryd.prog 26 #[.slice A n c, .int .i64 left] w fun e w' => e = .returned (.int .i64 (left - n)) ∧ w' = w := by
  have h0 : ¬ (left - n < 0) := by omega
  go_enter Tryd.func26, Tryd.ntmps26
  go_wp2
  go_ret
  exact ⟨rfl, rfl⟩
theorem szOpS_no (A : Option Addr) (n c : Nat) (left : Int) (w : World) (h : left < n) (h0 : 0 ≤ left) (hn : n ≤ 9223372036854775807) :
    Calls Tryd.prog 26 #[.slice A n c, .int .i64 left] w fun e w' => e = .returned (.int .i64 (-1)) ∧ w' = w := by
  have h1 : left - n < 0 := by omega
  go_enter Tryd.func26, Tryd.ntmps26
  go_wp2
  go_ret
  exact ⟨rfl, rfl⟩

def mkOp (k0 : Int) (n : Nat) : List LOp := (List.range n).map fun i : Nat => ⟨(k0 + 2 * i), (wrap32 (k0 + 2 * i + 1))⟩
theorem mkOp_length (k0 : Int) (n : Nat) : (mkOp k0 n).length = n := by simp [mkOp]
theorem mkOp_at (k0 : Int) (n k : Nat) (h : k < n) : (mkOp k0 n)[k]? = some (⟨(k0 + 2 * (k : Int)), (wrap32 (k0 + 2 * (k : Int) + 1))⟩ : LOp) := by simp [mkOp, h]
set_option maxRecDepth 100000 in
set_option maxHeartbeats 400000 in
theorem markOpS_calls (A : Option Addr) (c : Nat) (xs : List LOp) (b : Option Nat) (k0 : Int) (w : World) (hR : Row w 71 2 A xs.length c (xs.flatMap LOp.enc) b) (hk0 : 0 ≤ k0) (hk1 : k0 ≤ 1152921504606846976) (hn : xs.length ≤ 140737488355328) :
    Calls Tryd.prog 34 #[.slice A xs.length c, .int .i64 k0] w fun e w' => e = .returned (.int .i64 (k0 + 2 * xs.length)) ∧
      Row w' 71 2 A xs.length c ((mkOp k0 xs.length).flatMap LOp.enc) b ∧ w.grownBy w' b := by
  go_enter Tryd.func34, Tryd.ntmps34
  go_wp2
  go_loopw [1, 5] (fun kv i wr => ∃ k : Nat, k ≤ xs.length ∧ i = .int .i64 k ∧ kv = .int .i64 (k0 + 2 * k) ∧ Row wr 71 2 A xs.length c (((mkOp k0 xs.length).take k ++ xs.drop k).flatMap LOp.enc) b ∧ w.grownBy wr b)
    (fun _ i _ => xs.length - (intOf i).toNat)
  case atStart => exact ⟨0, Nat.zero_le _, rfl, by simp, by simpa using hR, grownBy_refl _ _⟩
  case round =>
    obtain ⟨k, hk, rfl, rfl, hR, hB⟩ := hrel
    by_cases hlt : k < xs.length
    · obtain ⟨g, rfl, rfl⟩ := hR.pos (by omega)
      have f0 := hR.frozen (k * 2)
      obtain ⟨v0, q0⟩ := hR.isCell (j := k * 2) (by omega)
      have f1 := hR.frozen (k * 2 + 1)
      obtain ⟨v1, q1⟩ := hR.isCell (j := k * 2 + 1) (by omega)
      have HR := Lib.hid (hR.put LOp.enc_len (by simpa using hlt) (by simp [mkOp]) (mkOp_at k0 xs.length k hlt))
      have HB := Lib.hid (grownBy_wset (LOp.enc (⟨(k0 + 2 * (k : Int)), (wrap32 (k0 + 2 * (k : Int) + 1))⟩ : LOp)) _ (k * 2) hB)
      clear hR hB
      have b0 : 0 ≤ k0 + 2 * (k : Int) := by omega
      have b1 : k0 + 2 * (k : Int) ≤ 2305843009213693952 := by omega
      go_wp2
      go_roundw
      case rel => exact ⟨k + 1, by omega, by go_num, by go_num, HR.out, HB.out⟩
      case measure => simp [intOf]; omega
    · have : k = xs.length := by omega
      subst this
      rw [List.take_of_length_le (by simp [mkOp]), List.drop_of_length_le (by simp), List.append_nil] at hR
      go_wp2
      go_ret
      exact ⟨rfl, hR, hB⟩
set_option maxRecDepth 100000 in
set_option maxHeartbeats 400000 in
theorem heldOpS_calls (A : Option Addr) (n c : Nat) (k0 : Int) (w : World) (hA : Rd w A ((mkOp k0 n).flatMap LOp.enc)) (hk0 : 0 ≤ k0) (hk1 : k0 ≤ 1152921504606846976) (hn : n ≤ 140737488355328) :
    Calls Tryd.prog 41 #[.slice A n c, .int .i64 k0] w fun e w' => e = .returned (.int .i64 (k0 + 2 * n)) ∧ w' = w := by
  go_enter Tryd.func41, Tryd.ntmps41
  go_wp2
  go_loop [1, 5] (fun kv i => ∃ k : Nat, k ≤ n ∧ i = .int .i64 k ∧ kv = .int .i64 (k0 + 2 * k)) (fun _ i => n - (intOf i).toNat)
  case atStart => exact ⟨0, Nat.zero_le _, rfl, by simp⟩
  case round =>
    obtain ⟨k, hk, rfl, rfl⟩ := hrel
    by_cases hlt : k < n
    · obtain ⟨ad, rfl, hc⟩ := hA.el LOp.enc_len (mkOp_at k0 n k hlt) (by omega)
      have hc0 := hc 0 _ rfl
      have hc1 := hc 1 _ rfl
      rw [Nat.add_zero] at hc0
      rw [add_field _ _ _ (by omega)] at hc1
      clear hc
      have b0 : 0 ≤ k0 + 2 * (k : Int) := by omega
      have b1 : k0 + 2 * (k : Int) ≤ 2305843009213693952 := by omega
      go_wp2
      go_round
      case rel => exact ⟨k + 1, by omega, by go_num, by go_num⟩
      case measure => simp [intOf]; omega
    · have : k = n := by omega
      subst this
      go_wp2
      go_ret
      exact ⟨rfl, rfl⟩

theorem toIns_calls (x : LIns) (w : World) : Calls Tryd.prog 48 #[.agg #[.int .i64 x.op, .int .i64 x.n]] w fun e w' => e = .returned (.agg #[.int .i64 x.op, .int .i64 x.n]) ∧ Below w.heap.size w w' := by
  go_enter Tryd.func48, Tryd.ntmps48
  go_wp2
  exact bodyPost_ret (v := .agg #[.int .i64 x.op, .int .i64 x.n]) (by simp [results, Tryd.results48, go_sem]) rfl ⟨rfl, by repeat (first | exact Below.refl _ _ | apply bl_alloc)⟩
theorem eqIns_calls (x : LIns) (w : World) : Calls Tryd.prog 79 #[.agg #[.int .i64 x.op, .int .i64 x.n], .agg #[.int .i64 x.op, .int .i64 x.n]] w fun e w' => e = .returned (.bool true) ∧ Below w.heap.size w w' := by
  go_enter Tryd.func79, Tryd.ntmps79
  go_wp2
  go_ret
  exact ⟨rfl, by repeat (first | exact Below.refl _ _ | apply bl_alloc)⟩

set_option maxRecDepth 100000 in
set_option maxHeartbeats 400000 in
theorem eqInsS_calls (A B : Option Addr) (c d : Nat) (xs : List LIns) (w : World) (hA : Rd w A (xs.flatMap LIns.enc)) (hB : Rd w B (xs.flatMap LIns.enc)) (hn : xs.length ≤ 140737488355328) :
    Calls Tryd.prog 25 #[.slice A xs.length c, .slice B xs.length d] w fun e w' => e = .returned (.bool true) ∧ Below w.heap.size w w' := by
  go_enter Tryd.func25, Tryd.ntmps25
  go_wp2
  go_loopw [5] (fun i wr => ∃ k : Nat, k ≤ xs.length ∧ i = .int .i64 k ∧ Below w.heap.size w wr) (fun i _ => xs.length - (intOf i).toNat)
  case atStart => exact ⟨0, Nat.zero_le _, rfl, Below.refl _ _⟩
  case round =>
    obtain ⟨k, hk, rfl, hW⟩ := hrel
    by_cases hlt : k < xs.length
    · have hu : xs[k]? = some xs[k] := List.getElem?_eq_getElem hlt
      obtain ⟨ad, rfl, hc⟩ := (hA.keepB hW).el LIns.enc_len hu (by omega)
      obtain ⟨bd, rfl, hd⟩ := (hB.keepB hW).el LIns.enc_len hu (by omega)
      have hc0 := hc 0 _ rfl
      have hc1 := hc 1 _ rfl
      rw [Nat.add_zero] at hc0
      rw [add_field _ _ _ (by omega)] at hc1
      have hd0 := hd 0 _ rfl
      have hd1 := hd 1 _ rfl
      rw [Nat.add_zero] at hd0
      rw [add_field _ _ _ (by omega)] at hd1
      have i0 : (0 : Int) ≤ (k : Int) := by omega
      have i1 : (k : Int) < (xs.length : Int) := by omega
      clear hc hd
      have HW := Lib.hid hW
      clear hW
      go_wp2
      go_still_tail 8, (by kernel_rfl)
      go_wp2_with (go_at_call 79; refine (eqIns_calls xs[k] _).mono ?_; rintro e w2 ⟨rfl, hb⟩)
      go_roundw
      case rel => exact ⟨k + 1, by omega, by go_num, bl_call (bl_drew HW.out) hb⟩
      case measure => simp [intOf]; omega
    · have : k = xs.length := by omega
      subst this
      go_wp2
      go_ret
      exact ⟨rfl, hW⟩
set_option maxRecDepth 100000 in
set_option maxHeartbeats 400000 in
theorem toInsS_calls (A : Option Addr) (c : Nat) (xs : List LIns) (w : World) (hA : Rd w A (xs.flatMap LIns.enc)) (hn : xs.length ≤ 1048576) :
    Calls Tryd.prog 23 #[.slice A xs.length c] w fun e w' => ∃ g, e = .returned (.slice (some ⟨g, 0, none⟩) xs.length xs.length) ∧
      Row w' 65 2 (some ⟨g, 0, none⟩) xs.length xs.length (xs.flatMap LIns.enc) (some g) ∧ w.heap.size ≤ g ∧ Below w.heap.size w w' := by
  have hmk := fun W => run_make_rows (P := Tryd.prog) W 34 65 (.agg #[.int .i64 0, .int .i64 0]) 2 16 Tryd.underlying34 (by kernel_rfl) xs.length (by omega) (by omega)
  go_enter Tryd.func23, Tryd.ntmps23
  go_wp2
  clear hmk
  have hrow := Row.made w (madeCells (LIns.enc ⟨0, 0⟩).toArray (xs.length * 2)) 65 2 xs.length (by unfold maxLen; omega) (by simp [madeCells])
  rw [madeCells_flat LIns.enc_len] at hrow
  have HR0 := Lib.hid hrow
  clear hrow
  go_loopw [4] (fun i wr => ∃ k : Nat, k ≤ xs.length ∧ i = .int .i64 k ∧ Row wr 65 2 (some ⟨w.heap.size, 0, none⟩) xs.length xs.length ((xs.take k ++ (List.replicate xs.length (⟨0, 0⟩ : LIns)).drop k).flatMap LIns.enc) (some w.heap.size) ∧ Below w.heap.size w wr)
    (fun i _ => xs.length - (intOf i).toNat)
  case atStart => exact ⟨0, Nat.zero_le _, rfl, by (simp only [List.take_zero, List.nil_append, List.drop_zero]; exact HR0.out), (Below.refl _ _).alloc (Nat.le_refl _) _⟩
  case round =>
    obtain ⟨k, hk, rfl, hR, hB⟩ := hrel
    by_cases hlt : k < xs.length
    · have hu : xs[k]? = some xs[k] := List.getElem?_eq_getElem hlt
      obtain ⟨ad, rfl, hc⟩ := (hA.keepB hB).el LIns.enc_len hu (by omega)
      have hc0 := hc 0 _ rfl
      have hc1 := hc 1 _ rfl
      rw [Nat.add_zero] at hc0
      rw [add_field _ _ _ (by omega)] at hc1
      clear hc
      have HR := Lib.hid hR
      have HB := Lib.hid hB
      clear hR hB
      go_wp2_with (go_at_call 48; refine (toIns_calls xs[k] _).mono ?_; rintro e w2 ⟨rfl, hb⟩; have H2 := Lib.hid (HR.out.call hb); have B2 := Lib.hid (bl_call HB.out hb); obtain ⟨v0, q0⟩ := H2.out.isCell (j := k * 2) (by omega); have f0 := H2.out.frozen (k * 2); obtain ⟨v1, q1⟩ := H2.out.isCell (j := k * 2 + 1) (by omega); have f1 := H2.out.frozen (k * 2 + 1))
      go_roundw
      case rel => exact ⟨k + 1, by omega, by go_num, H2.out.put LIns.enc_len (by simpa using hlt) (by simp) hu, bl_wset (g := w.heap.size) (Nat.le_refl _) (LIns.enc xs[k]) _ (k * 2) B2.out⟩
      case measure => simp [intOf]; omega
    · have : k = xs.length := by omega
      subst this
      rw [List.take_of_length_le (by simp), List.drop_of_length_le (by simp), List.append_nil] at hR
      go_wp2
      go_ret
      exact ⟨_, rfl, hR, Nat.le_refl _, hB⟩

theorem szInsS_ok (A : Option Addr) (n c : Nat) (left : Int) (w : World) (h : (n : Int) ≤ left) (hl : left ≤ 1048576) :
    Calls Tryd.prog 21 #[.slice A n c, .int .i64 left] w fun e w' => e = .returned (.int .i64 (left - n)) ∧ w' = w := by
  have h0 : ¬ (left - n < 0) := by omega
  go_enter Tryd.func21, Tryd.ntmps21
  go_wp2
  go_ret
  exact ⟨rfl, rfl⟩
theorem szInsS_no (A : Option Addr) (n c : Nat) (left : Int) (w : World) (h : left < n) (h0 : 0 ≤ left) (hn : n ≤ 9223372036854775807) :
    Calls Tryd.prog 21 #[.slice A n c, .int .i64 left] w fun e w' => e = .returned (.int .i64 (-1)) ∧ w' = w := by
  have h1 : left - n < 0 := by omega
  go_enter Tryd.func21, Tryd.ntmps21
  go_wp2
  go_ret
  exact ⟨rfl, rfl⟩

theorem eqEffect_calls (x : LEffect) (w : World) : Calls Tryd.prog 111 #[.agg #[.bool x.ok, .int .i64 x.need, .int .i64 x.most, .int .i64 x.gain], .agg #[.bool x.ok, .int .i64 x.need, .int .i64 x.most, .int .i64 x.gain]] w fun e w' => e = .returned (.bool true) ∧ Below w.heap.size w w' := by
  go_enter Tryd.func111, Tryd.ntmps111
  go_wp2
  go_ret
  exact ⟨rfl, by repeat (first | exact Below.refl _ _ | apply bl_alloc)⟩

set_option maxRecDepth 100000 in
set_option maxHeartbeats 400000 in
theorem eqEffectS_calls (A B : Option Addr) (c d : Nat) (xs : List LEffect) (w : World) (hA : Rd w A (xs.flatMap LEffect.enc)) (hB : Rd w B (xs.flatMap LEffect.enc)) (hn : xs.length ≤ 140737488355328) :
    Calls Tryd.prog 62 #[.slice A xs.length c, .slice B xs.length d] w fun e w' => e = .returned (.bool true) ∧ Below w.heap.size w w' := by
  go_enter Tryd.func62, Tryd.ntmps62
  go_wp2
  go_loopw [5] (fun i wr => ∃ k : Nat, k ≤ xs.length ∧ i = .int .i64 k ∧ Below w.heap.size w wr) (fun i _ => xs.length - (intOf i).toNat)
  case atStart => exact ⟨0, Nat.zero_le _, rfl, Below.refl _ _⟩
  case round =>
    obtain ⟨k, hk, rfl, hW⟩ := hrel
    by_cases hlt : k < xs.length
    · have hu : xs[k]? = some xs[k] := List.getElem?_eq_getElem hlt
      obtain ⟨ad, rfl, hc⟩ := (hA.keepB hW).el LEffect.enc_len hu (by omega)
      obtain ⟨bd, rfl, hd⟩ := (hB.keepB hW).el LEffect.enc_len hu (by omega)
      have hc0 := hc 0 _ rfl
      have hc1 := hc 1 _ rfl
      have hc2 := hc 2 _ rfl
      have hc3 := hc 3 _ rfl
      rw [Nat.add_zero] at hc0
      rw [add_field _ _ _ (by omega)] at hc1
      rw [add_field _ _ _ (by omega)] at hc2
      rw [add_field _ _ _ (by omega)] at hc3
      have hd0 := hd 0 _ rfl
      have hd1 := hd 1 _ rfl
      have hd2 := hd 2 _ rfl
      have hd3 := hd 3 _ rfl
      rw [Nat.add_zero] at hd0
      rw [add_field _ _ _ (by omega)] at hd1
      rw [add_field _ _ _ (by omega)] at hd2
      rw [add_field _ _ _ (by omega)] at hd3
      have i0 : (0 : Int) ≤ (k : Int) := by omega
      have i1 : (k : Int) < (xs.length : Int) := by omega
      clear hc hd
      have HW := Lib.hid hW
      clear hW
      go_wp2
      go_still_tail 8, (by kernel_rfl)
      go_wp2_with (go_at_call 111; refine (eqEffect_calls xs[k] _).mono ?_; rintro e w2 ⟨rfl, hb⟩)
      go_roundw
      case rel => exact ⟨k + 1, by omega, by go_num, bl_call (bl_drew HW.out) hb⟩
      case measure => simp [intOf]; omega
    · have : k = xs.length := by omega
      subst this
      go_wp2
      go_ret
      exact ⟨rfl, hW⟩
end Go.Proofs.YtfmmfgjelaekhaaDoor

/- slices.Clone at the types of a state's rows. -/
import Derived.Test.YtgljbcdlldhlfaaDoorK
set_option linter.unusedVariables false
set_option linter.unusedSimpArgs false
namespace Go.Proofs.YtgljbcdlldhlfaaDoor
open Go.RowKit

theorem one_map {k : IntKind} {xs : List Int} : ∀ u ∈ xs.map (Value.int k), u.oneCell' = true := by
  intro u hu
  obtain ⟨x, _, rfl⟩ := List.mem_map.1 hu
  rfl
theorem one_slot {xs : List LSlot} : ∀ u ∈ xs.flatMap LSlot.enc, u.oneCell' = true := by
  intro u hu
  obtain ⟨x, _, hx⟩ := List.mem_flatMap.1 hu
  simp [LSlot.enc] at hx
  rcases hx with rfl | rfl <;> rfl
theorem Row.madeS {w : World} {m : Nat} (hm : w.heap.size = m) (e : TypeId) (sz : Nat) : Row (w.alloc (.cells #[] e)) e sz (some ⟨m, 0, none⟩) 0 0 [] (some m) := by
  subst hm
  exact Row.made w #[] e sz 0 (by decide) (by simp)
theorem copiedS {w w1 : World} {m : Nat} {e : TypeId} {arr : Array Value} {b' : Option Nat} (hm : w.heap.size = m) (hg : (w.alloc (.cells arr e)).grownBy w1 (some m)) (hb : b' = some m ∨ ∃ g, b' = some g ∧ (w.alloc (.cells arr e)).heap.size ≤ g) :
    (∀ g, b' = some g → w.heap.size ≤ g) ∧ Below w.heap.size w w1 := by
  subst hm
  exact ⟨fun g hg' => by
    rcases hb with h | ⟨g2, h, h2⟩
    · rw [h] at hg'; cases hg'; exact Nat.le_refl _
    · rw [h] at hg'; cases hg'; simp at h2; omega, Below.grown (bl_alloc (Below.refl _ _) _) hg (by simp) (fun k e => by cases e; exact Nat.le_refl _)⟩
/-- What append gives behind an empty row just made. -/
theorem copied {w w1 : World} {e : TypeId} {arr : Array Value} {b' : Option Nat} (hg : (w.alloc (.cells arr e)).grownBy w1 (some w.heap.size)) (hb : b' = some w.heap.size ∨ ∃ g, b' = some g ∧ (w.alloc (.cells arr e)).heap.size ≤ g) :
    (∀ g, b' = some g → w.heap.size ≤ g) ∧ Below w.heap.size w w1 :=
  ⟨fun g hg' => by
    rcases hb with h | ⟨g2, h, h2⟩
    · rw [h] at hg'; cases hg'; exact Nat.le_refl _
    · rw [h] at hg'; cases hg'; simp at h2; omega, Below.grown (bl_alloc (Below.refl _ _) _) hg (by simp) (fun k e => by cases e; exact Nat.le_refl _)⟩
theorem info_Int32 : (Tryd.prog.info? 21).map (fun i => (i.zero, i.size, i.bytes)) = some (some (.int .i32 0), 1, 4) := by kernel_rfl
set_option maxRecDepth 100000 in
set_option maxHeartbeats 1000000 in
theorem cloneInt32_calls (A : Option Addr) (c : Nat) (xs : List Int) (w : World) (hr : Rd w A (xs.map (Value.int .i32))) (hn : xs.length ≤ 1048576) :
    Calls Tryd.prog 78 #[.slice A xs.length c] w fun e w' => ∃ B d b, e = .returned (.slice B xs.length d) ∧ Row w' 21 1 B xs.length d (xs.map (Value.int .i32)) b ∧ (∀ g, b = some g → w.heap.size ≤ g) ∧ Below w.heap.size w w' := by
  have qn := fun (w : World) a n c n' c' => Lib.run_eql_slice_nil (P := Tryd.prog) w _ _ a n c n' c' Tryd.underlying22
  cases A with
  | none =>
    have hx : xs = [] := by
      cases xs with
      | nil => rfl
      | cons x xs => obtain ⟨ad, e, _⟩ := hr 0 _ rfl; cases e
    subst hx
    go_enter Tryd.func78, Tryd.ntmps78
    go_wp2_with fail
    go_ret
    exact ⟨none, 0, none, rfl, Row.nil _ _ _ _, by simp, Below.refl _ _⟩
  | some ad =>
    have HR := Lib.hid hr
    clear hr
    go_enter Tryd.func78, Tryd.ntmps78
    go_wp2_with (at_builtin; refine wp_append _ rfl _ _ 22 rfl 21 (.int .i32 0) 1 4 Tryd.underlying22 info_Int32 rfl (by decide) rfl (Row.made w #[] 21 1 0 (by decide) rfl) rfl (by simp) (HR.out.call (bl_alloc (Below.refl _ _) _)) one_map (by unfold maxLen; omega) (by omega) ?_; intro B d w1 b hR hg hb; have HC := Lib.hid (copied hg hb); have HRow := Lib.hid hR; clear hR hg hb)
    go_ret
    exact ⟨B, d, by simp, b, by simpa using HRow.out, HC.out.1, HC.out.2⟩
theorem info_Uint32 : (Tryd.prog.info? 93).map (fun i => (i.zero, i.size, i.bytes)) = some (some (.int .u32 0), 1, 4) := by kernel_rfl
set_option maxRecDepth 100000 in
set_option maxHeartbeats 1000000 in
theorem cloneUint32_calls (A : Option Addr) (c : Nat) (xs : List Int) (w : World) (hr : Rd w A (xs.map (Value.int .u32))) (hn : xs.length ≤ 1048576) :
    Calls Tryd.prog 80 #[.slice A xs.length c] w fun e w' => ∃ B d b, e = .returned (.slice B xs.length d) ∧ Row w' 93 1 B xs.length d (xs.map (Value.int .u32)) b ∧ (∀ g, b = some g → w.heap.size ≤ g) ∧ Below w.heap.size w w' := by
  have qn := fun (w : World) a n c n' c' => Lib.run_eql_slice_nil (P := Tryd.prog) w _ _ a n c n' c' Tryd.underlying24
  cases A with
  | none =>
    have hx : xs = [] := by
      cases xs with
      | nil => rfl
      | cons x xs => obtain ⟨ad, e, _⟩ := hr 0 _ rfl; cases e
    subst hx
    go_enter Tryd.func80, Tryd.ntmps80
    go_wp2_with fail
    go_ret
    exact ⟨none, 0, none, rfl, Row.nil _ _ _ _, by simp, Below.refl _ _⟩
  | some ad =>
    have HR := Lib.hid hr
    clear hr
    go_enter Tryd.func80, Tryd.ntmps80
    go_wp2_with (at_builtin; refine wp_append _ rfl _ _ 24 rfl 93 (.int .u32 0) 1 4 Tryd.underlying24 info_Uint32 rfl (by decide) rfl (Row.made w #[] 93 1 0 (by decide) rfl) rfl (by simp) (HR.out.call (bl_alloc (Below.refl _ _) _)) one_map (by unfold maxLen; omega) (by omega) ?_; intro B d w1 b hR hg hb; have HC := Lib.hid (copied hg hb); have HRow := Lib.hid hR; clear hR hg hb)
    go_ret
    exact ⟨B, d, by simp, b, by simpa using HRow.out, HC.out.1, HC.out.2⟩
theorem info_Int : (Tryd.prog.info? 3).map (fun i => (i.zero, i.size, i.bytes)) = some (some (.int .i64 0), 1, 8) := by kernel_rfl
set_option maxRecDepth 100000 in
set_option maxHeartbeats 1000000 in
theorem cloneInt_calls (A : Option Addr) (c : Nat) (xs : List Int) (w : World) (hr : Rd w A (xs.map (Value.int .i64))) (hn : xs.length ≤ 1048576) :
    Calls Tryd.prog 81 #[.slice A xs.length c] w fun e w' => ∃ B d b, e = .returned (.slice B xs.length d) ∧ Row w' 3 1 B xs.length d (xs.map (Value.int .i64)) b ∧ (∀ g, b = some g → w.heap.size ≤ g) ∧ Below w.heap.size w w' := by
  have qn := fun (w : World) a n c n' c' => Lib.run_eql_slice_nil (P := Tryd.prog) w _ _ a n c n' c' Tryd.underlying25
  cases A with
  | none =>
    have hx : xs = [] := by
      cases xs with
      | nil => rfl
      | cons x xs => obtain ⟨ad, e, _⟩ := hr 0 _ rfl; cases e
    subst hx
    go_enter Tryd.func81, Tryd.ntmps81
    go_wp2_with fail
    go_ret
    exact ⟨none, 0, none, rfl, Row.nil _ _ _ _, by simp, Below.refl _ _⟩
  | some ad =>
    have HR := Lib.hid hr
    clear hr
    go_enter Tryd.func81, Tryd.ntmps81
    go_wp2_with (at_builtin; refine wp_append _ rfl _ _ 25 rfl 3 (.int .i64 0) 1 8 Tryd.underlying25 info_Int rfl (by decide) rfl (Row.made w #[] 3 1 0 (by decide) rfl) rfl (by simp) (HR.out.call (bl_alloc (Below.refl _ _) _)) one_map (by unfold maxLen; omega) (by omega) ?_; intro B d w1 b hR hg hb; have HC := Lib.hid (copied hg hb); have HRow := Lib.hid hR; clear hR hg hb)
    go_ret
    exact ⟨B, d, by simp, b, by simpa using HRow.out, HC.out.1, HC.out.2⟩
theorem info_Byte : (Tryd.prog.info? 5).map (fun i => (i.zero, i.size, i.bytes)) = some (some (.int .u8 0), 1, 1) := by kernel_rfl
set_option maxRecDepth 100000 in
set_option maxHeartbeats 1000000 in
theorem cloneByte_calls (A : Option Addr) (c : Nat) (xs : List Int) (w : World) (hr : Rd w A (xs.map (Value.int .u8))) (hn : xs.length ≤ 1048576) :
    Calls Tryd.prog 82 #[.slice A xs.length c] w fun e w' => ∃ B d b, e = .returned (.slice B xs.length d) ∧ Row w' 5 1 B xs.length d (xs.map (Value.int .u8)) b ∧ (∀ g, b = some g → w.heap.size ≤ g) ∧ Below w.heap.size w w' := by
  have qn := fun (w : World) a n c n' c' => Lib.run_eql_slice_nil (P := Tryd.prog) w _ _ a n c n' c' Tryd.underlying26
  cases A with
  | none =>
    have hx : xs = [] := by
      cases xs with
      | nil => rfl
      | cons x xs => obtain ⟨ad, e, _⟩ := hr 0 _ rfl; cases e
    subst hx
    go_enter Tryd.func82, Tryd.ntmps82
    go_wp2_with fail
    go_ret
    exact ⟨none, 0, none, rfl, Row.nil _ _ _ _, by simp, Below.refl _ _⟩
  | some ad =>
    have HR := Lib.hid hr
    clear hr
    go_enter Tryd.func82, Tryd.ntmps82
    go_wp2_with (at_builtin; refine wp_append _ rfl _ _ 26 rfl 5 (.int .u8 0) 1 1 Tryd.underlying26 info_Byte rfl (by decide) rfl (Row.made w #[] 5 1 0 (by decide) rfl) rfl (by simp) (HR.out.call (bl_alloc (Below.refl _ _) _)) one_map (by unfold maxLen; omega) (by omega) ?_; intro B d w1 b hR hg hb; have HC := Lib.hid (copied hg hb); have HRow := Lib.hid hR; clear hR hg hb)
    go_ret
    exact ⟨B, d, by simp, b, by simpa using HRow.out, HC.out.1, HC.out.2⟩
theorem info_Slot : (Tryd.prog.info? 77).map (fun i => (i.zero, i.size, i.bytes)) = some (some (.agg #[.int .i64 0, .int .i32 0]), 2, 16) := by kernel_rfl
set_option maxRecDepth 100000 in
set_option maxHeartbeats 1000000 in
theorem cloneSlot_calls (A : Option Addr) (c : Nat) (xs : List LSlot) (w : World) (hr : Rd w A (xs.flatMap LSlot.enc)) (hn : xs.length ≤ 1048576) :
    Calls Tryd.prog 79 #[.slice A xs.length c] w fun e w' => ∃ B d b, e = .returned (.slice B xs.length d) ∧ Row w' 77 2 B xs.length d (xs.flatMap LSlot.enc) b ∧ (∀ g, b = some g → w.heap.size ≤ g) ∧ Below w.heap.size w w' := by
  have qn := fun (w : World) a n c n' c' => Lib.run_eql_slice_nil (P := Tryd.prog) w _ _ a n c n' c' Tryd.underlying30
  cases A with
  | none =>
    have hx : xs = [] := by
      cases xs with
      | nil => rfl
      | cons x xs => obtain ⟨ad, e, _⟩ := hr 0 _ rfl; cases e
    subst hx
    go_enter Tryd.func79, Tryd.ntmps79
    go_wp2_with fail
    go_ret
    exact ⟨none, 0, none, rfl, Row.nil _ _ _ _, by simp, Below.refl _ _⟩
  | some ad =>
    have HR := Lib.hid hr
    clear hr
    go_enter Tryd.func79, Tryd.ntmps79
    go_wp2_with (at_builtin; refine wp_append _ rfl _ _ 30 rfl 77 (.agg #[.int .i64 0, .int .i32 0]) 2 16 Tryd.underlying30 info_Slot rfl (by decide) rfl (Row.made w #[] 77 2 0 (by decide) rfl) rfl (flat_length LSlot.enc_len _) (HR.out.call (bl_alloc (Below.refl _ _) _)) one_slot (by unfold maxLen; omega) (by omega) ?_; intro B d w1 b hR hg hb; have HC := Lib.hid (copied hg hb); have HRow := Lib.hid hR; clear hR hg hb)
    go_ret
    exact ⟨B, d, by simp, b, by simpa using HRow.out, HC.out.1, HC.out.2⟩
end Go.Proofs.YtgljbcdlldhlfaaDoor

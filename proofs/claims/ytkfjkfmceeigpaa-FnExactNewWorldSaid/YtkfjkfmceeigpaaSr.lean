/- Stores (a struct of one row): contracts of szStore, toStore, eqStore, markStore. -/
import Derived.Test.YtkfjkfmceeigpaaOw
set_option linter.unusedVariables false
set_option linter.unusedSimpArgs false
namespace Go.Proofs.Ytkfjkfmceeigpaa
open Go.RowKit

theorem szStore_ok (A : Option Addr) (n c : Nat) (left : Int) (w : World) (h : (n : Int) ≤ left) (hl : left ≤ 1048576) :
    Calls Try.prog 8 #[.agg #[.slice A n c], .int .i64 left] w fun e w' => e = .returned (.int .i64 (left - n)) ∧ Below w.heap.size w w' := by
  have h0 : ¬ (left - n < 0) := by omega
  go_enter Try.func8, Try.ntmps8
  go_wp2_with (go_at_call 36; refine (szUint32S_ok _ _ _ _ _ h hl).mono ?_; rintro e w' ⟨rfl, rfl⟩)
  go_ret
  exact ⟨rfl, bl_alloc (Below.refl _ _) _⟩
theorem szStore_no (A : Option Addr) (n c : Nat) (left : Int) (w : World) (h : left < n) (h0 : 0 ≤ left) (hn : n ≤ 9223372036854775807) :
    Calls Try.prog 8 #[.agg #[.slice A n c], .int .i64 left] w fun e w' => e = .returned (.int .i64 (-1)) ∧ Below w.heap.size w w' := by
  go_enter Try.func8, Try.ntmps8
  go_wp2_with (go_at_call 36; refine (szUint32S_no _ _ _ _ _ h h0 hn).mono ?_; rintro e w' ⟨rfl, rfl⟩)
  go_ret
  exact ⟨rfl, bl_alloc (Below.refl _ _) _⟩
set_option maxRecDepth 100000 in
theorem toStore_calls (A : Option Addr) (c : Nat) (xs : List Int) (w : World) (hr : Rd w A (xs.map (Value.int .u32))) (hn : xs.length ≤ 1048576) :
    Calls Try.prog 10 #[.agg #[.slice A xs.length c]] w fun e w' => ∃ g, e = .returned (.agg #[.slice (some ⟨g, 0, none⟩) xs.length xs.length]) ∧
      Row w' 75 1 (some ⟨g, 0, none⟩) xs.length xs.length (xs.map (Value.int .u32)) (some g) ∧ w.heap.size ≤ g ∧ Below w.heap.size w w' := by
  have HR := Lib.hid hr
  clear hr
  go_enter Try.func10, Try.ntmps10
  go_wp2_with fail
  refine (toUint32S_calls A c xs _ (HR.out.call (bl_alloc (bl_alloc (bl_alloc (Below.refl _ w) _) _) _)) hn).mono ?_
  rintro e w1 ⟨g, rfl, R, lo, hb⟩
  have HB := Lib.hid (bl_call (bl_alloc (bl_alloc (bl_alloc (Below.refl _ w) _) _) _) hb)
  have HRow := Lib.hid R
  have HK := (Bx.three w #[.slice A xs.length c] #[.slice none 0 0] #[.slice none 0 0] 24 33 33).call hb
  obtain ⟨k0, k1, k2, -⟩ := HK
  have c1 := blk_cell k1
  have f1 := blk_frozen k1
  have z1 := blk_lt k1
  have c2 := blk_cell k2
  have f2 := blk_frozen k2
  have z2 := blk_lt k2
  simp at lo
  clear R hb k0 k1 k2
  go_wp2_with fail
  refine bodyPost_ret (v := .agg #[.slice (some ⟨g, 0, none⟩) xs.length xs.length]) (by simp [results, Try.results10, go_sem, c1, z1, c2, z2]) rfl ⟨g, rfl, ?_, by omega, ?_⟩
  · with_reducible repeat (first | exact HRow.out | refine Row.far ?_ (fun e => by injection e with e; simp only at e; omega) _)
  · with_reducible repeat (first | exact HB.out | apply bl_set2 | apply bl_set1)
set_option maxRecDepth 100000 in
theorem eqStore_calls (A B : Option Addr) (c d : Nat) (xs : List Int) (w : World) (hA : Rd w A (xs.map (Value.int .u32))) (hB : Rd w B (xs.map (Value.int .u32))) (hn : xs.length ≤ 140737488355328) :
    Calls Try.prog 14 #[.agg #[.slice A xs.length c], .agg #[.slice B xs.length d]] w fun e w' => e = .returned (.bool true) ∧ Below w.heap.size w w' := by
  have HA := Lib.hid hA
  have HB := Lib.hid hB
  clear hA hB
  go_enter Try.func14, Try.ntmps14
  go_wp2_with fail
  refine (eqUint32S_calls A B c d xs _ (HA.out.call (bl_alloc (bl_alloc (Below.refl _ w) _) _)) (HB.out.call (bl_alloc (bl_alloc (Below.refl _ w) _) _)) hn).mono ?_
  rintro e w1 ⟨rfl, hb⟩
  have HBB := Lib.hid (bl_call (bl_alloc (bl_alloc (Below.refl _ w) _) _) hb)
  clear hb
  go_wp2_with fail
  go_ret
  exact ⟨rfl, HBB.out⟩
set_option maxRecDepth 100000 in
theorem markStore_calls (A : Option Addr) (c : Nat) (xs : List Int) (b : Option Nat) (k0 : Int) (w : World) (hR : Row w 75 1 A xs.length c (xs.map (Value.int .u32)) b) (hk0 : 0 ≤ k0) (hk1 : k0 ≤ 1152921504606846976) (hn : xs.length ≤ 140737488355328) :
    Calls Try.prog 16 #[.agg #[.slice A xs.length c], .int .i64 k0] w fun e w' => e = .returned (.int .i64 (k0 + xs.length)) ∧ w.grownBy w' b := by
  have HR := Lib.hid hR
  clear hR
  go_enter Try.func16, Try.ntmps16
  go_wp2_with fail
  refine (markUint32S_calls A c xs b k0 _ (HR.out.alloc _) hk0 hk1 hn).mono ?_
  rintro e w1 ⟨rfl, R, hg⟩
  have HG := Lib.hid (World.grownBy.trans (World.grownBy_alloc w (.cells #[.slice A xs.length c] 33) _) hg)
  clear R hg
  go_wp2_with fail
  go_ret
  exact ⟨rfl, HG.out⟩
end Go.Proofs.Ytkfjkfmceeigpaa

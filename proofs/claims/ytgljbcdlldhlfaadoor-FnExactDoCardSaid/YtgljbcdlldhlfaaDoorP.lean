/- The built-in words' names: contracts of prims, PrimName, PrimOf, the program's and the reference's. -/
import Derived.Test.YtgljbcdlldhlfaaDoorR
import Derived.Test.YtgljbcdlldhlfaaDoorShelf
import Derived.Lib.SmallJoins
import Derived.Lib.AppendIntMem
import Derived.KernelRfl
set_option linter.unusedVariables false
set_option linter.unusedSimpArgs false
namespace Go.Proofs.YtgljbcdlldhlfaaDoor
open Go.RowKit

def str (l : List UInt8) : ByteArray := ⟨l.toArray⟩
def primB : List (List UInt8) := [[100, 117, 112], [100, 114, 111, 112], [111, 118, 101, 114], [110, 105, 112], [115, 119, 97, 112], [43], [45], [42], [97, 110, 100], [111, 114], [50, 42], [50, 47], [47, 109, 111, 100], [64], [33], [97], [97, 33], [101, 109, 105, 116], [107, 101, 121], [112, 117, 115, 104], [112, 111, 112], [105], [46], [110, 111, 112]]
def primL : List ByteArray := primB.map str
theorem primL_length : primL.length = 24 := rfl
/-- The name of a built-in word; the empty text where there is none. -/
def primName (k : Int) : ByteArray := if 0 ≤ k ∧ k ≤ 23 then primL.getD k.toNat ByteArray.empty else ByteArray.empty
/-- The library's table of blanks is as it was laid. -/
def Asc (w : World) : Prop := Lib.TabIs Tryd.prog w "strings.asciiSpace" .u8 Lib.asciiSpaceTab
theorem Asc.call {w w1 : World} (h : Asc w) (hb : Below w.heap.size w w1) : Asc w1 := Lib.tabBelow_of_tabIs h w1 hb
def primsText : List UInt8 := [100, 117, 112, 32, 100, 114, 111, 112, 32, 111, 118, 101, 114, 32, 110, 105, 112, 32, 115, 119, 97, 112, 32, 43, 32, 45, 32, 42, 32, 97, 110, 100, 32, 111, 114, 32, 50, 42, 32, 50, 47, 32, 47, 109, 111, 100, 32, 64, 32, 33, 32, 97, 32, 97, 33, 32, 101, 109, 105, 116, 32, 107, 101, 121, 32, 112, 117, 115, 104, 32, 112, 111, 112, 32, 105, 32, 46, 32, 110, 111, 112]
theorem primsText_fields : Lib.fields primsText = primB := by decide +kernel

set_option maxRecDepth 100000 in
theorem prims_calls (w : World) (hA : Asc w) : Calls Tryd.prog 65 #[] w fun e w' => e = .returned (.slice (some ⟨w.heap.size, 0, none⟩) 24 24) ∧ w' = w.alloc (.cells (primL.map Value.string).toArray 9) := by
  have hb : ∀ b ∈ primsText, b.toNat < 128 := by decide
  have hF := Tryd.strings_Fields (str primsText) w (by decide) (fun j b h => hb b (List.mem_of_getElem? h)) hA
  have e1 : Lib.fields (str primsText).data.toList = primB := primsText_fields
  rw [e1] at hF
  have HF := Lib.hid hF
  clear hF
  go_enter Tryd.func65, Tryd.ntmps65
  go_wp2_with fail
  refine HF.out.mono ?_
  rintro e w1 ⟨rfl, rfl⟩
  go_wp2
  go_ret
  exact ⟨rfl, by rw [primL, List.map_map]; rfl⟩
set_option maxRecDepth 100000 in
theorem primName_calls (k : Int) (w : World) (hA : Asc w) : Calls Tryd.prog 67 #[.int .i64 k] w fun e w' => e = .returned (.string (primName k)) ∧ Below w.heap.size w w' := by
  have HL := Lib.hid (prims_calls w hA)
  by_cases hk : 0 ≤ k ∧ k ≤ 23
  · have hd : decide (0 ≤ k ∧ k ≤ 23) = true := decide_eq_true hk
    obtain ⟨n, rfl⟩ := Int.eq_ofNat_of_zero_le hk.1
    have hn : n < 24 := by omega
    have hc : ∀ w0 : World, (w0.alloc (.cells (primL.map Value.string).toArray 9)).cell? ⟨w0.heap.size, n, none⟩ = some (.string (primL[n]?.getD ByteArray.empty)) := fun w0 => by
      rw [blk_cell (blk_new _ _) n]
      have hl : n < primL.length := by rw [primL_length]; exact hn
      simp [hl]
    have HE : Hid (primName n = primL[n]?.getD ByteArray.empty) := Lib.hid (by simp [primName, hk.2])
    have h23 : (n : Int) ≤ 23 := hk.2
    have d23 : decide ((n : Int) ≤ 23) = true := decide_eq_true h23
    clear hk
    go_enter Tryd.func67, Tryd.ntmps67
    go_wp2_with (first | (go_at_call 65; refine HL.out.mono ?_; rintro e w1 ⟨rfl, rfl⟩) | (go_at_call 92; go_in))
    go_ret
    exact ⟨by rw [HE.out]; rfl, bl_alloc (Below.refl _ _) _⟩
  · have HE : Hid (primName k = ByteArray.empty) := Lib.hid (by simp [primName, hk])
    have hc : k < 0 ∨ (0 ≤ k ∧ 23 < k) := by omega
    clear hk
    rcases hc with h | ⟨h, h'⟩
    all_goals
      try have d23 : decide (k ≤ 23) = false := decide_eq_false (by omega)
      go_enter Tryd.func67, Tryd.ntmps67
      go_wp2_with (first | (go_at_call 65; refine HL.out.mono ?_; rintro e w1 ⟨rfl, rfl⟩) | (go_at_call 92; go_in))
      go_ret
      exact ⟨by rw [HE.out]; rfl, bl_alloc (Below.refl _ _) _⟩
set_option maxRecDepth 100000 in
theorem l08Names_calls (w : World) : Calls Tryd.prog 69 #[] w fun e w' => e = .returned (.slice (some ⟨w.heap.size, 0, none⟩) 24 24) ∧ w' = w.alloc (.cells (primL.map Value.string).toArray 9) := by
  go_enter Tryd.func69, Tryd.ntmps69
  go_wp2
  go_ret
  exact ⟨rfl, rfl⟩
set_option maxRecDepth 100000 in
theorem specPrimName_calls (k : Int) (w : World) : Calls Tryd.prog 28 #[.int .i64 k] w fun e w' => e = .returned (.string (primName k)) ∧ Below w.heap.size w w' := by
  have HL := Lib.hid (l08Names_calls w)
  by_cases hk : 0 ≤ k ∧ k ≤ 23
  · have hd : decide (0 ≤ k ∧ k ≤ 23) = true := decide_eq_true hk
    obtain ⟨n, rfl⟩ := Int.eq_ofNat_of_zero_le hk.1
    have hn : n < 24 := by omega
    have hc : ∀ w0 : World, (w0.alloc (.cells (primL.map Value.string).toArray 9)).cell? ⟨w0.heap.size, n, none⟩ = some (.string (primL[n]?.getD ByteArray.empty)) := fun w0 => by
      rw [blk_cell (blk_new _ _) n]
      have hl : n < primL.length := by rw [primL_length]; exact hn
      simp [hl]
    have HE : Hid (primName n = primL[n]?.getD ByteArray.empty) := Lib.hid (by simp [primName, hk.2])
    have h23 : (n : Int) ≤ 23 := hk.2
    have d23 : decide ((n : Int) ≤ 23) = true := decide_eq_true h23
    clear hk
    go_enter Tryd.func28, Tryd.ntmps28
    go_wp2_with (first | (go_at_call 69; refine HL.out.mono ?_; rintro e w1 ⟨rfl, rfl⟩) | (go_at_call 61; go_in))
    go_ret
    exact ⟨by rw [HE.out]; rfl, bl_alloc (Below.refl _ _) _⟩
  · have HE : Hid (primName k = ByteArray.empty) := Lib.hid (by simp [primName, hk])
    have hc : k < 0 ∨ (0 ≤ k ∧ 23 < k) := by omega
    clear hk
    rcases hc with h | ⟨h, h'⟩
    all_goals
      try have d23 : decide (k ≤ 23) = false := decide_eq_false (by omega)
      go_enter Tryd.func28, Tryd.ntmps28
      go_wp2_with (first | (go_at_call 69; refine HL.out.mono ?_; rintro e w1 ⟨rfl, rfl⟩) | (go_at_call 61; go_in))
      go_ret
      exact ⟨by rw [HE.out]; rfl, bl_alloc (Below.refl _ _) _⟩
def primOf (x : ByteArray) : Int := Lib.idxOfS primL x
set_option maxRecDepth 100000 in
theorem primOf_calls (x : ByteArray) (w : World) (hA : Asc w) : Calls Tryd.prog 18 #[.string x] w fun e w' => e = .returned (.int .i64 (primOf x)) ∧ Below w.heap.size w w' := by
  have HL := Lib.hid (prims_calls w hA)
  have HC := Lib.hid (Tryd.slices_Index_string w.heap.size 0 24 24 primL x (w.alloc (.cells (primL.map Value.string).toArray 9)) (by rw [primL_length]; omega) (by omega) (fun j hj => by
    rw [Nat.zero_add, blk_cell (blk_new _ _) j]
    simp [hj]))
  go_enter Tryd.func18, Tryd.ntmps18
  go_wp2_with (first | (go_at_call 65; refine HL.out.mono ?_; rintro e w1 ⟨rfl, rfl⟩) | (go_at_call 64; refine HC.out.mono ?_; rintro e w1 ⟨rfl, rfl⟩))
  go_ret
  exact ⟨rfl, bl_alloc (Below.refl _ _) _⟩
end Go.Proofs.YtgljbcdlldhlfaaDoor

/- Which text is a name: contracts of LetterOf and NameOk, the program's and the reference's. -/
import Derived.Test.YtjciibhaifabjaaDoorCo
import Derived.Lib.IndexLaws
set_option linter.unusedVariables false
set_option linter.unusedSimpArgs false
namespace Go.Proofs.YtjciibhaifabjaaDoor
open Go.RowKit

def letB : List UInt8 := [32, 114, 116, 111, 101, 97, 110, 105, 115, 109, 99, 121, 108, 103, 102, 119, 100, 118, 112, 98, 104, 120, 117, 113, 48, 49, 50, 51, 52, 53, 54, 55, 56, 57, 106, 45, 107, 46, 122, 47, 59, 39, 33, 43, 64, 42, 44, 63]
/-- The number of a letter; -1 where it is none. -/
def letterOf (b : UInt8) : Int := Lib.indexByte letB b
theorem u8_back (b : UInt8) : ((b.toNat : Int)).toNat.toUInt8 = b := by simp
theorem letterOf_none {b : UInt8} (h : ∀ x ∈ letB, x ≠ b) : letterOf b = -1 := by
  unfold letterOf
  have hg := Lib.indexByte_ge letB b
  by_cases h0 : Lib.indexByte letB b = -1
  · exact h0
  · obtain ⟨n, hn⟩ := Int.eq_ofNat_of_zero_le (by omega : 0 ≤ Lib.indexByte letB b)
    exact absurd rfl (h b (List.mem_of_getElem? (Lib.indexByte_some hn).1))
theorem letterOf_at {b : UInt8} {k : Nat} (hk : letB[k]? = some b) (h : ∀ x ∈ letB.take k, x ≠ b) : letterOf b = k := by
  unfold letterOf
  have hg := Lib.indexByte_ge letB b
  by_cases h0 : Lib.indexByte letB b = -1
  · exact absurd hk (Lib.indexByte_none h0 k)
  · obtain ⟨n, hn⟩ := Int.eq_ofNat_of_zero_le (by omega : 0 ≤ Lib.indexByte letB b)
    have hs := Lib.indexByte_some hn
    have h1 : ¬ k < n := fun hlt => hs.2 k hlt hk
    have h2 : ¬ n < k := fun hlt => h b (List.mem_of_getElem? (by rw [List.getElem?_take_of_lt hlt]; exact hs.1)) rfl
    rw [hn]
    omega
theorem letterOf_calls (b : UInt8) (w : World) : Calls Tryd.prog 102 #[.int .u8 b.toNat] w fun e w' => e = .returned (.int .i64 (letterOf b)) ∧ w = w' := by
  go_enter Tryd.func102, Tryd.ntmps102
  go_wp2_with (first | (go_at_call 123; go_in) | (go_at_call 122; refine (Tryd.strings_IndexByte _ _ _).mono ?_; rintro e w' ⟨rfl, hw⟩; subst hw; rw [u8_back]))
  go_ret
  exact ⟨rfl, rfl⟩
set_option maxRecDepth 100000 in
theorem specLetterOf_calls (b : UInt8) (w : World) : Calls Tryd.prog 97 #[.int .u8 b.toNat] w fun e w' => e = .returned (.int .i64 (letterOf b)) ∧ w = w' := by
  go_enter Tryd.func97, Tryd.ntmps97
  go_wp2_with (go_at_call 120; go_in)
  go_loop [4] (fun i => ∃ k : Nat, k ≤ 48 ∧ i = .int .i64 k ∧ ∀ x ∈ letB.take k, x ≠ b) (fun i => 48 - (intOf i).toNat)
  case atStart => exact ⟨0, Nat.zero_le _, rfl, by simp⟩
  case round =>
    obtain ⟨k, hk, rfl, hN⟩ := hrel
    have HN := Lib.hid hN
    clear hN
    by_cases hlt : k < 48
    · have hu : letB[k]? = some (letB[k]'hlt) := List.getElem?_eq_getElem hlt
      have i1 : (k : Int) < 48 := by omega
      have hb : k < ({ data := #[32, 114, 116, 111, 101, 97, 110, 105, 115, 109, 99, 121, 108, 103, 102, 119, 100, 118, 112, 98, 104, 120, 117, 113, 48, 49, 50, 51, 52, 53, 54, 55, 56, 57, 106, 45, 107, 46, 122, 47, 59, 39, 33, 43, 64, 42, 44, 63] } : ByteArray).size := hlt
      by_cases he : letB[k]'hlt = b
      · have hq : (((({ data := #[32, 114, 116, 111, 101, 97, 110, 105, 115, 109, 99, 121, 108, 103, 102, 119, 100, 118, 112, 98, 104, 120, 117, 113, 48, 49, 50, 51, 52, 53, 54, 55, 56, 57, 106, 45, 107, 46, 122, 47, 59, 39, 33, 43, 64, 42, 44, 63] } : ByteArray)[k]'hb).toNat : Int) == (b.toNat : Int)) = true := by
          show (((letB[k]'hlt).toNat : Int) == (b.toNat : Int)) = true
          rw [he]; simp
        rw [he] at hu
        have HF := Lib.hid (letterOf_at hu HN.out)
        clear he hu
        go_wp2
        go_ret
        exact ⟨ret_int HF.out.symm, rfl⟩
      · have hq : (((({ data := #[32, 114, 116, 111, 101, 97, 110, 105, 115, 109, 99, 121, 108, 103, 102, 119, 100, 118, 112, 98, 104, 120, 117, 113, 48, 49, 50, 51, 52, 53, 54, 55, 56, 57, 106, 45, 107, 46, 122, 47, 59, 39, 33, 43, 64, 42, 44, 63] } : ByteArray)[k]'hb).toNat : Int) == (b.toNat : Int)) = false := by
          show (((letB[k]'hlt).toNat : Int) == (b.toNat : Int)) = false
          refine beq_false_of_ne fun h => he ?_
          exact UInt8.toNat_inj.1 (Int.ofNat_inj.1 h)
        have HN2 := Lib.hid (take_all_snoc HN.out hu he)
        clear he hu
        go_wp2
        go_round
        case rel => exact ⟨k + 1, by omega, by go_num, HN2.out⟩
        case measure => simp [intOf]; omega
    · have : k = 48 := by omega
      subst this
      have HF := Lib.hid (letterOf_none HN.out)
      go_wp2
      go_ret
      exact ⟨ret_int HF.out.symm, rfl⟩
def nameOk (s : ByteArray) : Bool := inB s.size 1 24 && s.data.toList.all fun b => decide (1 ≤ letterOf b)
theorem bytes_at {s : ByteArray} {k : Nat} (h : k < s.size) : s.data.toList[k]? = some (s[k]'h) := by
  rw [Array.getElem?_toList, Array.getElem?_eq_getElem (show k < s.data.size from h)]
  rfl
theorem letterOf_big (b : UInt8) : -1 ≤ letterOf b := Lib.indexByte_ge _ _
theorem nameOk_no {s : ByteArray} (h : inB s.size 1 24 = false) : nameOk s = false := by simp [nameOk, h]
theorem nameOk_at {s : ByteArray} {k : Nat} {b : UInt8} (hu : s.data.toList[k]? = some b) (h : decide (1 ≤ letterOf b) = false) : nameOk s = false := by
  have : (s.data.toList.all fun b => decide (1 ≤ letterOf b)) = false := by
    rw [List.all_eq_false]
    exact ⟨b, List.mem_of_getElem? hu, by rw [h]; simp⟩
  rw [nameOk, this, Bool.and_false]
theorem nameOk_all' {s : ByteArray} (h : ∀ x ∈ s.data.toList.take s.size, decide (1 ≤ letterOf x) = true) : nameOk s = inB s.size 1 24 := by
  rw [List.take_of_length_le (show s.data.toList.length ≤ s.size from Nat.le_of_eq (Array.length_toList (xs := s.data)))] at h
  rw [nameOk, List.all_eq_true.2 h, Bool.and_true]
theorem nameOk_all {s : ByteArray} (h1 : inB s.size 1 24 = true) (h : ∀ x ∈ s.data.toList.take s.size, decide (1 ≤ letterOf x) = true) : nameOk s = true := by rw [nameOk_all' h, h1]
set_option maxRecDepth 100000 in
theorem nameOk_calls (s : ByteArray) (w : World) (hs : s.size ≤ 1048576) : Calls Tryd.prog 68 #[.string s] w fun e w' => e = .returned (.bool (nameOk s)) ∧ w = w' := by
  go_enter Tryd.func68, Tryd.ntmps68
  go_wp2_with (go_at_call 70; refine (withinB_calls _ _ _ _).mono ?_; rintro e w' ⟨rfl, rfl⟩)
  go_loop [3, 6] (fun _ i => ∃ k : Nat, k ≤ s.size ∧ i = .int .i64 k ∧ ∀ x ∈ s.data.toList.take k, decide (1 ≤ letterOf x) = true) (fun _ i => s.size - (intOf i).toNat)
  case atStart => exact ⟨0, Nat.zero_le _, rfl, by simp⟩
  case round =>
    obtain ⟨k, hk, rfl, hN⟩ := hrel
    have HN := Lib.hid hN
    clear hN
    by_cases hlt : k < s.size
    · have hu : s.data.toList[k]? = some (s[k]'hlt) := bytes_at hlt
      have i1 : (k : Int) < (s.size : Int) := by omega
      have HU := Lib.hid hu
      have HB := Lib.hid (letterOf_big (s[k]'hlt))
      clear hu
      cases hl : decide (1 ≤ letterOf (s[k]'hlt))
      · have HF := Lib.hid (nameOk_at HU.out hl)
        have hl2 : letterOf (s[k]'hlt) < 1 := by have := of_decide_eq_false hl; omega
        have hl3 : decide (letterOf (s[k]'hlt) < 1) = true := decide_eq_true hl2
        clear hl
        go_wp2_with (go_at_call 102; refine (letterOf_calls _ _).mono ?_; rintro e w' ⟨rfl, rfl⟩)
        go_ret
        exact ⟨ret_bool HF.out.symm, rfl⟩
      · have HN2 := Lib.hid (take_all_snoc HN.out HU.out hl)
        have hl2 : ¬ letterOf (s[k]'hlt) < 1 := by have := of_decide_eq_true hl; omega
        have hl3 : decide (letterOf (s[k]'hlt) < 1) = false := decide_eq_false hl2
        clear hl
        go_wp2_with (go_at_call 102; refine (letterOf_calls _ _).mono ?_; rintro e w' ⟨rfl, rfl⟩)
        go_round
        case rel => exact ⟨k + 1, by omega, by go_num, HN2.out⟩
        case measure => simp [intOf]; omega
    · have : k = s.size := by omega
      subst this
      have HF := Lib.hid (nameOk_all' HN.out)
      go_wp2_with (go_at_call 70; refine (withinB_calls _ _ _ _).mono ?_; rintro e w' ⟨rfl, rfl⟩)
      go_ret
      exact ⟨ret_bool HF.out.symm, rfl⟩
set_option maxRecDepth 100000 in
theorem specNameOk_calls (s : ByteArray) (w : World) (hs : s.size ≤ 1048576) : Calls Tryd.prog 63 #[.string s] w fun e w' => e = .returned (.bool (nameOk s)) ∧ w = w' := by
  cases h1 : inB s.size 1 24
  · have HF := Lib.hid (nameOk_no h1)
    go_enter Tryd.func63, Tryd.ntmps63
    go_wp2_with (go_at_call 36; refine (specInB_calls _ _ _ _).mono ?_; rintro e w' ⟨rfl, rfl⟩)
    go_ret
    exact ⟨ret_bool HF.out.symm, rfl⟩
  go_enter Tryd.func63, Tryd.ntmps63
  go_wp2_with (go_at_call 36; refine (specInB_calls _ _ _ _).mono ?_; rintro e w' ⟨rfl, rfl⟩)
  go_loop [3] (fun i => ∃ k : Nat, k ≤ s.size ∧ i = .int .i64 k ∧ ∀ x ∈ s.data.toList.take k, decide (1 ≤ letterOf x) = true) (fun i => s.size - (intOf i).toNat)
  case atStart => exact ⟨0, Nat.zero_le _, rfl, by simp⟩
  case round =>
    obtain ⟨k, hk, rfl, hN⟩ := hrel
    have HN := Lib.hid hN
    clear hN
    by_cases hlt : k < s.size
    · have hu : s.data.toList[k]? = some (s[k]'hlt) := bytes_at hlt
      have i1 : (k : Int) < (s.size : Int) := by omega
      have HU := Lib.hid hu
      have HB := Lib.hid (letterOf_big (s[k]'hlt))
      clear hu
      cases hl : decide (1 ≤ letterOf (s[k]'hlt))
      · have HF := Lib.hid (nameOk_at HU.out hl)
        have hl2 : letterOf (s[k]'hlt) < 1 := by have := of_decide_eq_false hl; omega
        have hl3 : decide (letterOf (s[k]'hlt) < 1) = true := decide_eq_true hl2
        clear hl
        go_wp2_with (go_at_call 97; refine (specLetterOf_calls _ _).mono ?_; rintro e w' ⟨rfl, rfl⟩)
        go_ret
        exact ⟨ret_bool HF.out.symm, rfl⟩
      · have HN2 := Lib.hid (take_all_snoc HN.out HU.out hl)
        have hl2 : ¬ letterOf (s[k]'hlt) < 1 := by have := of_decide_eq_true hl; omega
        have hl3 : decide (letterOf (s[k]'hlt) < 1) = false := decide_eq_false hl2
        clear hl
        go_wp2_with (go_at_call 97; refine (specLetterOf_calls _ _).mono ?_; rintro e w' ⟨rfl, rfl⟩)
        go_round
        case rel => exact ⟨k + 1, by omega, by go_num, HN2.out⟩
        case measure => simp [intOf]; omega
    · have : k = s.size := by omega
      subst this
      have HF := Lib.hid (nameOk_all h1 HN.out)
      go_wp2_with (go_at_call 36; refine (specInB_calls _ _ _ _).mono ?_; rintro e w' ⟨rfl, rfl⟩)
      go_ret
      exact ⟨ret_bool HF.out.symm, rfl⟩
end Go.Proofs.YtjciibhaifabjaaDoor

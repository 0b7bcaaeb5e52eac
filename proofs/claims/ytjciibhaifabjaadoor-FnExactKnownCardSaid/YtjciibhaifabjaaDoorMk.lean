/- Marks on strings: markText. -/
import Derived.Test.YtjciibhaifabjaaDoorWd
import Derived.Lib.SlBytesRow
set_option linter.unusedVariables false
set_option linter.unusedSimpArgs false
namespace Go.Proofs.YtjciibhaifabjaaDoor
open Go.RowKit

/-- The digits of a number ahead of what is there. -/
def mtx (n : Nat) (out : List UInt8) : List UInt8 := if h : n = 0 then out else mtx (n / 10) (UInt8.ofNat (48 + n % 10) :: out)
termination_by n
decreasing_by omega
theorem mtx_pos {n : Nat} {out : List UInt8} (h : 0 < n) : mtx n out = mtx (n / 10) (UInt8.ofNat (48 + n % 10) :: out) := by
  rw [mtx, dif_neg (by omega)]
theorem mtx_zero (out : List UInt8) : mtx 0 out = out := by rw [mtx]; rfl
def markT (k : Int) : ByteArray := if k ≤ 0 then ⟨#[109, 48]⟩ else ⟨(109 :: mtx k.toNat []).toArray⟩
theorem mtx_short {n m l : Nat} (h : m * 10 ^ l ≤ n) (hn : n ≤ 4611686018427387904) (hm : 0 < m) : l ≤ 18 := by
  rcases Nat.lt_or_ge l 19 with h1 | h1
  · omega
  · have h2 : 10 ^ 19 ≤ 10 ^ l := Nat.pow_le_pow_right (by omega) h1
    have h3 : 10 ^ l ≤ m * 10 ^ l := Nat.le_mul_of_pos_left _ hm
    have h4 : (10 : Nat) ^ 19 = 10000000000000000000 := by decide
    omega
theorem mtx_next {n m l : Nat} (h : m * 10 ^ l ≤ n) : m / 10 * 10 ^ (l + 1) ≤ n := by
  have h1 : m / 10 * 10 ≤ m := Nat.div_mul_le_self m 10
  have h2 : m / 10 * 10 ^ (l + 1) = m / 10 * 10 * 10 ^ l := by rw [Nat.pow_succ, Nat.mul_assoc, Nat.mul_comm 10]
  rw [h2]
  exact Nat.le_trans (Nat.mul_le_mul_right _ h1) h
theorem digit_cat (m : Nat) (out : List UInt8) : strOfNums [48 + (m : Int) % 10] ++ (⟨out.toArray⟩ : ByteArray) = ⟨(UInt8.ofNat (48 + m % 10) :: out).toArray⟩ := by
  apply ByteArray.ext
  apply Array.toList_inj.1
  rw [ByteArray.data_append, Array.toList_append, strOfNums_data]
  have : (48 + (m : Int) % 10).toNat = 48 + m % 10 := by omega
  simp [this]
set_option maxRecDepth 100000 in
set_option maxHeartbeats 1000000 in
theorem markText_calls (k : Int) (w : World) (hk : k ≤ 4611686018427387904) : Calls Tryd.prog 77 #[.int .i64 k] w fun e w' => e = .returned (.string (markT k)) ∧ Below w.heap.size w w' := by
  by_cases h0 : k ≤ 0
  · have HF : Hid (markT k = ⟨#[109, 48]⟩) := Lib.hid (if_pos h0)
    go_enter Tryd.func77, Tryd.ntmps77
    go_wp2
    go_ret
    exact ⟨by rw [HF.out]; rfl, Below.refl _ _⟩
  · have HF : Hid (markT k = ⟨(109 :: mtx k.toNat []).toArray⟩) := Lib.hid (if_neg h0)
    obtain ⟨n, rfl⟩ : ∃ n : Nat, k = n := ⟨k.toNat, by omega⟩
    have kc : ∀ (W : World) (z : Int), (convert 27 9 (.slice (some ⟨W.heap.size, 0, none⟩) 1 1)).run Tryd.prog (W.alloc (.cells #[.int .u8 z] 5)) = .ok (.string (strOfNums [z])) (W.alloc (.cells #[.int .u8 z] 5)) := fun W z =>
      run_convert_bytes_arg (P := Tryd.prog) _ 27 5 Tryd.underlying27 Tryd.underlying5 W.heap.size 0 1 1 [z] rfl (fun i hi => by
        obtain rfl : i = 0 := by omega
        simp) 9 Tryd.underlying9
    go_enter Tryd.func77, Tryd.ntmps77
    go_wp2
    go_loopw [0, 3] (fun kv ov wr => ∃ (m : Nat) (out : List UInt8), m ≤ n ∧ out.length ≤ 19 ∧ Hid (m * 10 ^ out.length ≤ n) ∧ kv = .int .i64 m ∧ ov = .string ⟨out.toArray⟩ ∧ Hid (mtx m out = mtx n []) ∧ Hid (Below w.heap.size w wr)) (fun kv _ _ => (intOf kv).toNat)
    case atStart => exact ⟨n, [], Nat.le_refl _, by simp, Lib.hid (by simp), rfl, rfl, Lib.hid rfl, Lib.hid (Below.refl _ _)⟩
    case round =>
      obtain ⟨m, out, hm, hl19, HP, rfl, rfl, HM, HB⟩ := hrel
      have hsz : (⟨out.toArray⟩ : ByteArray).size ≤ 19 := by simpa [ByteArray.size] using hl19
      by_cases hp : 0 < m
      · have hp' : (0 : Int) < (m : Int) := by omega
        have hl18 := mtx_short HP.out (by omega) hp
        have hsz2 : (strOfNums [48 + (m : Int) % 10]).size = 1 := strOfNums_size _
        have HM2 := Lib.hid ((mtx_pos hp).symm.trans HM.out)
        go_wp2
        go_roundw
        case rel => exact ⟨m / 10, UInt8.ofNat (48 + m % 10) :: out, by omega, by simp; omega, Lib.hid (mtx_next HP.out), by go_num, by rw [digit_cat], HM2, Lib.hid (bl_alloc HB.out _)⟩
        case measure => simp [intOf]; omega
      · obtain rfl : m = 0 := by omega
        have HO : Hid (out = mtx n []) := Lib.hid (by rw [← HM.out, mtx_zero])
        go_wp2
        go_ret
        exact ⟨by rw [HF.out, HO.out]; rfl, HB.out⟩
end Go.Proofs.YtjciibhaifabjaaDoor

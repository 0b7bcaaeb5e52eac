/- Decimal texts: contracts of DecText and EffectText, the program's and the reference's. -/
import Derived.Test.YtgljbcdlldhlfaaDoorP
import Derived.Test.YtgljbcdlldhlfaaDoorS
import Derived.IntWalk
import Derived.Deep.QuietTactic
import Derived.BigQuiet
set_option linter.unusedVariables false
set_option linter.unusedSimpArgs false
namespace Go.Proofs.YtgljbcdlldhlfaaDoor
open Go.RowKit

def Pow (w : World) : Prop := Lib.TabIs Tryd.prog w "internal/strconv.uint64pow10" .u64 Lib.pow10Tab
theorem Pow.call {w w1 : World} (h : Pow w) (hb : Below w.heap.size w w1) : Pow w1 := Lib.tabBelow_of_tabIs h w1 hb
def decT (n : Int) : ByteArray := ⟨(Lib.itoa n).toArray⟩
theorem nDigits_le : ∀ (k u : Nat), u < 10 ^ (k + 1) → Lib.nDigits u ≤ k + 1
  | 0, u, h => by rw [Lib.nDigits_small (by simpa using h)]; omega
  | k + 1, u, h => by
    by_cases h10 : u < 10
    · rw [Lib.nDigits_small h10]; omega
    · rw [Lib.nDigits_big h10]
      have := nDigits_le k (u / 10) (by rw [Nat.div_lt_iff_lt_mul (by omega)]; rw [Nat.pow_succ] at h; exact h)
      omega
/-- What the loop holds: the digits still to come, and those written. -/
def DecAt (N u : Nat) (ds : List UInt8) : Prop := (u = 0 ∧ ds = Lib.decDigits N) ∨ (0 < u ∧ Lib.decDigits u ++ ds = Lib.decDigits N)
theorem DecAt.step {N u : Nat} {ds : List UInt8} (h : DecAt N u ds) (hu : 0 < u) : DecAt N (u / 10) (UInt8.ofNat (48 + u % 10) :: ds) := by
  rcases h with ⟨h0, _⟩ | ⟨_, h⟩
  · omega
  · by_cases h10 : u < 10
    · refine .inl ⟨by omega, ?_⟩
      rw [← h, Lib.decDigits_one h10, Nat.mod_eq_of_lt h10]
      rfl
    · refine .inr ⟨by omega, ?_⟩
      have e : Lib.decDigits u = Lib.decDigits (u / 10) ++ [UInt8.ofNat (48 + u % 10)] := by rw [Lib.decDigits, dif_neg h10]
      rw [← h, e]
      simp
theorem DecAt.short {N u : Nat} {ds : List UInt8} (h : DecAt N u ds) (hN : N ≤ 9223372036854775808) : ds.length ≤ 20 := by
  have hl := nDigits_le 18 N (by omega)
  rw [← Lib.decDigits_length] at hl
  rcases h with ⟨_, h⟩ | ⟨_, h⟩
  · rw [h]; omega
  · rw [← h, List.length_append] at hl; omega
theorem mod_cases (u : Nat) : u % 10 = 0 ∨ u % 10 = 1 ∨ u % 10 = 2 ∨ u % 10 = 3 ∨ u % 10 = 4 ∨ u % 10 = 5 ∨ u % 10 = 6 ∨ u % 10 = 7 ∨ u % 10 = 8 ∨ u % 10 = 9 := by omega
theorem tmod_of {u d : Nat} (h : u % 10 = d) : (u : Int).tmod 10 = (d : Int) := (Int.ofNat_tmod u 10).symm.trans (congrArg (fun n : Nat => (n : Int)) h)
theorem wrap_div' {u : Nat} (h : u ≤ 9223372036854775807) : wrap64 ((u : Int) / 10) = ((u / 10 : Nat) : Int) := by unfold wrap64; omega
theorem wrap_ndiv' {u : Nat} (h : u ≤ 9223372036854775808) : wrap64 (-((u : Int) / 10)) = -((u / 10 : Nat) : Int) := by unfold wrap64; omega
theorem meas_pos {u v : Nat} (h : v = u / 10) (hu : 0 < u) : (v : Int).natAbs < (u : Int).natAbs := by omega
theorem meas_neg {u v : Nat} (h : v = u / 10) (hu : 0 < u) : (-(v : Int)).natAbs < (-(u : Int)).natAbs := by omega
theorem le_up {n : Nat} (h : n ≤ 9223372036854775807) : n ≤ 9223372036854775808 := by omega
def dig10 : ByteArray := ⟨#[48, 49, 50, 51, 52, 53, 54, 55, 56, 57]⟩

theorem dig_0 (ds : List UInt8) : ByteArray.extract ⟨#[48, 49, 50, 51, 52, 53, 54, 55, 56, 57]⟩ 0 1 ++ (⟨ds.toArray⟩ : ByteArray) = ⟨(UInt8.ofNat (48 + 0) :: ds).toArray⟩ := by
  rw [show ByteArray.extract ⟨#[48, 49, 50, 51, 52, 53, 54, 55, 56, 57]⟩ 0 1 = (⟨#[48]⟩ : ByteArray) by rfl]
  apply ByteArray.ext
  simp
theorem dig_1 (ds : List UInt8) : ByteArray.extract ⟨#[48, 49, 50, 51, 52, 53, 54, 55, 56, 57]⟩ 1 2 ++ (⟨ds.toArray⟩ : ByteArray) = ⟨(UInt8.ofNat (48 + 1) :: ds).toArray⟩ := by
  rw [show ByteArray.extract ⟨#[48, 49, 50, 51, 52, 53, 54, 55, 56, 57]⟩ 1 2 = (⟨#[49]⟩ : ByteArray) by rfl]
  apply ByteArray.ext
  simp
theorem dig_2 (ds : List UInt8) : ByteArray.extract ⟨#[48, 49, 50, 51, 52, 53, 54, 55, 56, 57]⟩ 2 3 ++ (⟨ds.toArray⟩ : ByteArray) = ⟨(UInt8.ofNat (48 + 2) :: ds).toArray⟩ := by
  rw [show ByteArray.extract ⟨#[48, 49, 50, 51, 52, 53, 54, 55, 56, 57]⟩ 2 3 = (⟨#[50]⟩ : ByteArray) by rfl]
  apply ByteArray.ext
  simp
theorem dig_3 (ds : List UInt8) : ByteArray.extract ⟨#[48, 49, 50, 51, 52, 53, 54, 55, 56, 57]⟩ 3 4 ++ (⟨ds.toArray⟩ : ByteArray) = ⟨(UInt8.ofNat (48 + 3) :: ds).toArray⟩ := by
  rw [show ByteArray.extract ⟨#[48, 49, 50, 51, 52, 53, 54, 55, 56, 57]⟩ 3 4 = (⟨#[51]⟩ : ByteArray) by rfl]
  apply ByteArray.ext
  simp
theorem dig_4 (ds : List UInt8) : ByteArray.extract ⟨#[48, 49, 50, 51, 52, 53, 54, 55, 56, 57]⟩ 4 5 ++ (⟨ds.toArray⟩ : ByteArray) = ⟨(UInt8.ofNat (48 + 4) :: ds).toArray⟩ := by
  rw [show ByteArray.extract ⟨#[48, 49, 50, 51, 52, 53, 54, 55, 56, 57]⟩ 4 5 = (⟨#[52]⟩ : ByteArray) by rfl]
  apply ByteArray.ext
  simp
theorem dig_5 (ds : List UInt8) : ByteArray.extract ⟨#[48, 49, 50, 51, 52, 53, 54, 55, 56, 57]⟩ 5 6 ++ (⟨ds.toArray⟩ : ByteArray) = ⟨(UInt8.ofNat (48 + 5) :: ds).toArray⟩ := by
  rw [show ByteArray.extract ⟨#[48, 49, 50, 51, 52, 53, 54, 55, 56, 57]⟩ 5 6 = (⟨#[53]⟩ : ByteArray) by rfl]
  apply ByteArray.ext
  simp
theorem dig_6 (ds : List UInt8) : ByteArray.extract ⟨#[48, 49, 50, 51, 52, 53, 54, 55, 56, 57]⟩ 6 7 ++ (⟨ds.toArray⟩ : ByteArray) = ⟨(UInt8.ofNat (48 + 6) :: ds).toArray⟩ := by
  rw [show ByteArray.extract ⟨#[48, 49, 50, 51, 52, 53, 54, 55, 56, 57]⟩ 6 7 = (⟨#[54]⟩ : ByteArray) by rfl]
  apply ByteArray.ext
  simp
theorem dig_7 (ds : List UInt8) : ByteArray.extract ⟨#[48, 49, 50, 51, 52, 53, 54, 55, 56, 57]⟩ 7 8 ++ (⟨ds.toArray⟩ : ByteArray) = ⟨(UInt8.ofNat (48 + 7) :: ds).toArray⟩ := by
  rw [show ByteArray.extract ⟨#[48, 49, 50, 51, 52, 53, 54, 55, 56, 57]⟩ 7 8 = (⟨#[55]⟩ : ByteArray) by rfl]
  apply ByteArray.ext
  simp
theorem dig_8 (ds : List UInt8) : ByteArray.extract ⟨#[48, 49, 50, 51, 52, 53, 54, 55, 56, 57]⟩ 8 9 ++ (⟨ds.toArray⟩ : ByteArray) = ⟨(UInt8.ofNat (48 + 8) :: ds).toArray⟩ := by
  rw [show ByteArray.extract ⟨#[48, 49, 50, 51, 52, 53, 54, 55, 56, 57]⟩ 8 9 = (⟨#[56]⟩ : ByteArray) by rfl]
  apply ByteArray.ext
  simp
theorem dig_9 (ds : List UInt8) : ByteArray.extract ⟨#[48, 49, 50, 51, 52, 53, 54, 55, 56, 57]⟩ 9 10 ++ (⟨ds.toArray⟩ : ByteArray) = ⟨(UInt8.ofNat (48 + 9) :: ds).toArray⟩ := by
  rw [show ByteArray.extract ⟨#[48, 49, 50, 51, 52, 53, 54, 55, 56, 57]⟩ 9 10 = (⟨#[57]⟩ : ByteArray) by rfl]
  apply ByteArray.ext
  simp
set_option maxRecDepth 100000 in
set_option maxHeartbeats 2000000 in
theorem specDecText_pos (N : Nat) (h1 : 0 < N) (h2 : N ≤ 9223372036854775807) (w : World) : Calls Tryd.prog 74 #[.int .i64 (N : Int)] w fun e w' => e = .returned (.string (decT (N : Int))) ∧ w' = w := by
  have H2 : Hid (N ≤ 9223372036854775807) := Lib.hid h2
  clear h2
  have d0 : decide ((N : Int) = 0) = false := decide_eq_false (by omega)
  have dn : decide ((N : Int) < 0) = false := decide_eq_false (by omega)
  go_enter Tryd.func74, Tryd.ntmps74
  go_wp2
  go_loop [3, 4, 5] (fun out m _ => ∃ (u : Nat) (x : ByteArray), x.size ≤ 20 ∧ out = .string x ∧ m = .int .i64 (u : Int) ∧ Hid (u ≤ N ∧ ∃ ds : List UInt8, x = ⟨ds.toArray⟩ ∧ DecAt N u ds)) (fun _ m _ => (intOf m).natAbs)
  case atStart => exact ⟨N, ⟨#[]⟩, by simp [ByteArray.size], rfl, rfl, Lib.hid ⟨Nat.le_refl _, [], rfl, .inr ⟨h1, by simp⟩⟩⟩
  case round =>
    obtain ⟨u, x, hx, rfl, rfl, HD⟩ := hrel
    by_cases hz : u = 0
    · have d1 : decide ((u : Int) = 0) = true := decide_eq_true (by omega)
      have HE : Hid (decT (N : Int) = x) := Lib.hid (by
        obtain ⟨hu, ds, rfl, hd⟩ := HD.out
        rcases hd with ⟨_, h⟩ | ⟨h, _⟩
        · simp [decT, Lib.itoa, h]
        · omega)
      go_wp2
      go_ret
      exact ⟨by rw [HE.out]; rfl, rfl⟩
    · have d1 : decide ((u : Int) = 0) = false := decide_eq_false (by omega)
      have hu0 : 0 < u := by omega
      have HS := Lib.hid HD.out
      have HW := Lib.hid (wrap_div' (Nat.le_trans HD.out.1 H2.out))
      obtain ⟨v, HV⟩ : ∃ v, Hid (v = u / 10) := ⟨_, Lib.hid rfl⟩
      have hw := HW.out
      rw [← HV.out] at hw
      clear HW
      have HM := Lib.hid (mod_cases u)
      rcases HM.out with hm | hm | hm | hm | hm | hm | hm | hm | hm | hm
      · have ht : (u : Int).tmod 10 = 0 := tmod_of hm
        have HR : Hid (v ≤ N ∧ ∃ ds : List UInt8, (ByteArray.extract ⟨#[48, 49, 50, 51, 52, 53, 54, 55, 56, 57]⟩ 0 1 ++ x) = ⟨ds.toArray⟩ ∧ DecAt N v ds) := Lib.hid (by
          rw [HV.out]
          obtain ⟨hu, ds, rfl, hd⟩ := HS.out
          have hs := hd.step hu0
          rw [hm] at hs
          exact ⟨by omega, _, dig_0 ds, hs⟩)
        have HZ : Hid ((ByteArray.extract ⟨#[48, 49, 50, 51, 52, 53, 54, 55, 56, 57]⟩ 0 1 ++ x).size ≤ 20) := Lib.hid (by
          obtain ⟨_, ds, e, hd⟩ := HR.out
          rw [e]
          exact hd.short (le_up H2.out))
        clear hm
        go_wp2
        try rw [hw]
        go_round
        case rel => exact ⟨v, _, HZ.out, rfl, rfl, HR⟩
        case measure => exact meas_pos HV.out hu0
      · have ht : (u : Int).tmod 10 = 1 := tmod_of hm
        have HR : Hid (v ≤ N ∧ ∃ ds : List UInt8, (ByteArray.extract ⟨#[48, 49, 50, 51, 52, 53, 54, 55, 56, 57]⟩ 1 2 ++ x) = ⟨ds.toArray⟩ ∧ DecAt N v ds) := Lib.hid (by
          rw [HV.out]
          obtain ⟨hu, ds, rfl, hd⟩ := HS.out
          have hs := hd.step hu0
          rw [hm] at hs
          exact ⟨by omega, _, dig_1 ds, hs⟩)
        have HZ : Hid ((ByteArray.extract ⟨#[48, 49, 50, 51, 52, 53, 54, 55, 56, 57]⟩ 1 2 ++ x).size ≤ 20) := Lib.hid (by
          obtain ⟨_, ds, e, hd⟩ := HR.out
          rw [e]
          exact hd.short (le_up H2.out))
        clear hm
        go_wp2
        try rw [hw]
        go_round
        case rel => exact ⟨v, _, HZ.out, rfl, rfl, HR⟩
        case measure => exact meas_pos HV.out hu0
      · have ht : (u : Int).tmod 10 = 2 := tmod_of hm
        have HR : Hid (v ≤ N ∧ ∃ ds : List UInt8, (ByteArray.extract ⟨#[48, 49, 50, 51, 52, 53, 54, 55, 56, 57]⟩ 2 3 ++ x) = ⟨ds.toArray⟩ ∧ DecAt N v ds) := Lib.hid (by
          rw [HV.out]
          obtain ⟨hu, ds, rfl, hd⟩ := HS.out
          have hs := hd.step hu0
          rw [hm] at hs
          exact ⟨by omega, _, dig_2 ds, hs⟩)
        have HZ : Hid ((ByteArray.extract ⟨#[48, 49, 50, 51, 52, 53, 54, 55, 56, 57]⟩ 2 3 ++ x).size ≤ 20) := Lib.hid (by
          obtain ⟨_, ds, e, hd⟩ := HR.out
          rw [e]
          exact hd.short (le_up H2.out))
        clear hm
        go_wp2
        try rw [hw]
        go_round
        case rel => exact ⟨v, _, HZ.out, rfl, rfl, HR⟩
        case measure => exact meas_pos HV.out hu0
      · have ht : (u : Int).tmod 10 = 3 := tmod_of hm
        have HR : Hid (v ≤ N ∧ ∃ ds : List UInt8, (ByteArray.extract ⟨#[48, 49, 50, 51, 52, 53, 54, 55, 56, 57]⟩ 3 4 ++ x) = ⟨ds.toArray⟩ ∧ DecAt N v ds) := Lib.hid (by
          rw [HV.out]
          obtain ⟨hu, ds, rfl, hd⟩ := HS.out
          have hs := hd.step hu0
          rw [hm] at hs
          exact ⟨by omega, _, dig_3 ds, hs⟩)
        have HZ : Hid ((ByteArray.extract ⟨#[48, 49, 50, 51, 52, 53, 54, 55, 56, 57]⟩ 3 4 ++ x).size ≤ 20) := Lib.hid (by
          obtain ⟨_, ds, e, hd⟩ := HR.out
          rw [e]
          exact hd.short (le_up H2.out))
        clear hm
        go_wp2
        try rw [hw]
        go_round
        case rel => exact ⟨v, _, HZ.out, rfl, rfl, HR⟩
        case measure => exact meas_pos HV.out hu0
      · have ht : (u : Int).tmod 10 = 4 := tmod_of hm
        have HR : Hid (v ≤ N ∧ ∃ ds : List UInt8, (ByteArray.extract ⟨#[48, 49, 50, 51, 52, 53, 54, 55, 56, 57]⟩ 4 5 ++ x) = ⟨ds.toArray⟩ ∧ DecAt N v ds) := Lib.hid (by
          rw [HV.out]
          obtain ⟨hu, ds, rfl, hd⟩ := HS.out
          have hs := hd.step hu0
          rw [hm] at hs
          exact ⟨by omega, _, dig_4 ds, hs⟩)
        have HZ : Hid ((ByteArray.extract ⟨#[48, 49, 50, 51, 52, 53, 54, 55, 56, 57]⟩ 4 5 ++ x).size ≤ 20) := Lib.hid (by
          obtain ⟨_, ds, e, hd⟩ := HR.out
          rw [e]
          exact hd.short (le_up H2.out))
        clear hm
        go_wp2
        try rw [hw]
        go_round
        case rel => exact ⟨v, _, HZ.out, rfl, rfl, HR⟩
        case measure => exact meas_pos HV.out hu0
      · have ht : (u : Int).tmod 10 = 5 := tmod_of hm
        have HR : Hid (v ≤ N ∧ ∃ ds : List UInt8, (ByteArray.extract ⟨#[48, 49, 50, 51, 52, 53, 54, 55, 56, 57]⟩ 5 6 ++ x) = ⟨ds.toArray⟩ ∧ DecAt N v ds) := Lib.hid (by
          rw [HV.out]
          obtain ⟨hu, ds, rfl, hd⟩ := HS.out
          have hs := hd.step hu0
          rw [hm] at hs
          exact ⟨by omega, _, dig_5 ds, hs⟩)
        have HZ : Hid ((ByteArray.extract ⟨#[48, 49, 50, 51, 52, 53, 54, 55, 56, 57]⟩ 5 6 ++ x).size ≤ 20) := Lib.hid (by
          obtain ⟨_, ds, e, hd⟩ := HR.out
          rw [e]
          exact hd.short (le_up H2.out))
        clear hm
        go_wp2
        try rw [hw]
        go_round
        case rel => exact ⟨v, _, HZ.out, rfl, rfl, HR⟩
        case measure => exact meas_pos HV.out hu0
      · have ht : (u : Int).tmod 10 = 6 := tmod_of hm
        have HR : Hid (v ≤ N ∧ ∃ ds : List UInt8, (ByteArray.extract ⟨#[48, 49, 50, 51, 52, 53, 54, 55, 56, 57]⟩ 6 7 ++ x) = ⟨ds.toArray⟩ ∧ DecAt N v ds) := Lib.hid (by
          rw [HV.out]
          obtain ⟨hu, ds, rfl, hd⟩ := HS.out
          have hs := hd.step hu0
          rw [hm] at hs
          exact ⟨by omega, _, dig_6 ds, hs⟩)
        have HZ : Hid ((ByteArray.extract ⟨#[48, 49, 50, 51, 52, 53, 54, 55, 56, 57]⟩ 6 7 ++ x).size ≤ 20) := Lib.hid (by
          obtain ⟨_, ds, e, hd⟩ := HR.out
          rw [e]
          exact hd.short (le_up H2.out))
        clear hm
        go_wp2
        try rw [hw]
        go_round
        case rel => exact ⟨v, _, HZ.out, rfl, rfl, HR⟩
        case measure => exact meas_pos HV.out hu0
      · have ht : (u : Int).tmod 10 = 7 := tmod_of hm
        have HR : Hid (v ≤ N ∧ ∃ ds : List UInt8, (ByteArray.extract ⟨#[48, 49, 50, 51, 52, 53, 54, 55, 56, 57]⟩ 7 8 ++ x) = ⟨ds.toArray⟩ ∧ DecAt N v ds) := Lib.hid (by
          rw [HV.out]
          obtain ⟨hu, ds, rfl, hd⟩ := HS.out
          have hs := hd.step hu0
          rw [hm] at hs
          exact ⟨by omega, _, dig_7 ds, hs⟩)
        have HZ : Hid ((ByteArray.extract ⟨#[48, 49, 50, 51, 52, 53, 54, 55, 56, 57]⟩ 7 8 ++ x).size ≤ 20) := Lib.hid (by
          obtain ⟨_, ds, e, hd⟩ := HR.out
          rw [e]
          exact hd.short (le_up H2.out))
        clear hm
        go_wp2
        try rw [hw]
        go_round
        case rel => exact ⟨v, _, HZ.out, rfl, rfl, HR⟩
        case measure => exact meas_pos HV.out hu0
      · have ht : (u : Int).tmod 10 = 8 := tmod_of hm
        have HR : Hid (v ≤ N ∧ ∃ ds : List UInt8, (ByteArray.extract ⟨#[48, 49, 50, 51, 52, 53, 54, 55, 56, 57]⟩ 8 9 ++ x) = ⟨ds.toArray⟩ ∧ DecAt N v ds) := Lib.hid (by
          rw [HV.out]
          obtain ⟨hu, ds, rfl, hd⟩ := HS.out
          have hs := hd.step hu0
          rw [hm] at hs
          exact ⟨by omega, _, dig_8 ds, hs⟩)
        have HZ : Hid ((ByteArray.extract ⟨#[48, 49, 50, 51, 52, 53, 54, 55, 56, 57]⟩ 8 9 ++ x).size ≤ 20) := Lib.hid (by
          obtain ⟨_, ds, e, hd⟩ := HR.out
          rw [e]
          exact hd.short (le_up H2.out))
        clear hm
        go_wp2
        try rw [hw]
        go_round
        case rel => exact ⟨v, _, HZ.out, rfl, rfl, HR⟩
        case measure => exact meas_pos HV.out hu0
      · have ht : (u : Int).tmod 10 = 9 := tmod_of hm
        have HR : Hid (v ≤ N ∧ ∃ ds : List UInt8, (ByteArray.extract ⟨#[48, 49, 50, 51, 52, 53, 54, 55, 56, 57]⟩ 9 10 ++ x) = ⟨ds.toArray⟩ ∧ DecAt N v ds) := Lib.hid (by
          rw [HV.out]
          obtain ⟨hu, ds, rfl, hd⟩ := HS.out
          have hs := hd.step hu0
          rw [hm] at hs
          exact ⟨by omega, _, dig_9 ds, hs⟩)
        have HZ : Hid ((ByteArray.extract ⟨#[48, 49, 50, 51, 52, 53, 54, 55, 56, 57]⟩ 9 10 ++ x).size ≤ 20) := Lib.hid (by
          obtain ⟨_, ds, e, hd⟩ := HR.out
          rw [e]
          exact hd.short (le_up H2.out))
        clear hm
        go_wp2
        try rw [hw]
        go_round
        case rel => exact ⟨v, _, HZ.out, rfl, rfl, HR⟩
        case measure => exact meas_pos HV.out hu0
set_option maxRecDepth 100000 in
set_option maxHeartbeats 2000000 in
theorem specDecText_neg (N : Nat) (h1 : 0 < N) (h2 : N ≤ 9223372036854775808) (w : World) : Calls Tryd.prog 74 #[.int .i64 (-(N : Int))] w fun e w' => e = .returned (.string (decT (-(N : Int)))) ∧ w' = w := by
  have H2 : Hid (N ≤ 9223372036854775808) := Lib.hid h2
  clear h2
  have d0 : decide ((-(N : Int)) = 0) = false := decide_eq_false (by omega)
  have dn : decide ((-(N : Int)) < 0) = true := decide_eq_true (by omega)
  go_enter Tryd.func74, Tryd.ntmps74
  go_wp2
  go_loop [3, 4, 5] (fun out m _ => ∃ (u : Nat) (x : ByteArray), x.size ≤ 20 ∧ out = .string x ∧ m = .int .i64 (-(u : Int)) ∧ Hid (u ≤ N ∧ ∃ ds : List UInt8, x = ⟨ds.toArray⟩ ∧ DecAt N u ds)) (fun _ m _ => (intOf m).natAbs)
  case atStart => exact ⟨N, ⟨#[]⟩, by simp [ByteArray.size], rfl, rfl, Lib.hid ⟨Nat.le_refl _, [], rfl, .inr ⟨h1, by simp⟩⟩⟩
  case round =>
    obtain ⟨u, x, hx, rfl, rfl, HD⟩ := hrel
    by_cases hz : u = 0
    · have d1 : decide ((-(u : Int)) = 0) = true := decide_eq_true (by omega)
      have HE : Hid (decT (-(N : Int)) = ⟨#[45]⟩ ++ x) := Lib.hid (by
        obtain ⟨hu, ds, rfl, hd⟩ := HD.out
        rcases hd with ⟨_, h⟩ | ⟨h, _⟩
        · rw [decT, Lib.itoa, if_pos (by omega), Int.natAbs_neg, Int.natAbs_natCast, h]; apply ByteArray.ext; simp
        · omega)
      go_wp2
      go_ret
      exact ⟨by rw [HE.out]; rfl, rfl⟩
    · have d1 : decide ((-(u : Int)) = 0) = false := decide_eq_false (by omega)
      have hu0 : 0 < u := by omega
      have HS := Lib.hid HD.out
      have HW := Lib.hid (wrap_ndiv' (Nat.le_trans HD.out.1 H2.out))
      obtain ⟨v, HV⟩ : ∃ v, Hid (v = u / 10) := ⟨_, Lib.hid rfl⟩
      have hw := HW.out
      rw [← HV.out] at hw
      clear HW
      have HM := Lib.hid (mod_cases u)
      rcases HM.out with hm | hm | hm | hm | hm | hm | hm | hm | hm | hm
      · have ht : (-(u : Int)).tmod 10 = 0 := by rw [Int.neg_tmod, tmod_of hm]; rfl
        have HR : Hid (v ≤ N ∧ ∃ ds : List UInt8, (ByteArray.extract ⟨#[48, 49, 50, 51, 52, 53, 54, 55, 56, 57]⟩ 0 1 ++ x) = ⟨ds.toArray⟩ ∧ DecAt N v ds) := Lib.hid (by
          rw [HV.out]
          obtain ⟨hu, ds, rfl, hd⟩ := HS.out
          have hs := hd.step hu0
          rw [hm] at hs
          exact ⟨by omega, _, dig_0 ds, hs⟩)
        have HZ : Hid ((ByteArray.extract ⟨#[48, 49, 50, 51, 52, 53, 54, 55, 56, 57]⟩ 0 1 ++ x).size ≤ 20) := Lib.hid (by
          obtain ⟨_, ds, e, hd⟩ := HR.out
          rw [e]
          exact hd.short (H2.out))
        clear hm
        go_wp2
        try rw [hw]
        go_round
        case rel => exact ⟨v, _, HZ.out, rfl, rfl, HR⟩
        case measure => exact meas_neg HV.out hu0
      · have ht : (-(u : Int)).tmod 10 = -1 := by rw [Int.neg_tmod, tmod_of hm]; rfl
        have HR : Hid (v ≤ N ∧ ∃ ds : List UInt8, (ByteArray.extract ⟨#[48, 49, 50, 51, 52, 53, 54, 55, 56, 57]⟩ 1 2 ++ x) = ⟨ds.toArray⟩ ∧ DecAt N v ds) := Lib.hid (by
          rw [HV.out]
          obtain ⟨hu, ds, rfl, hd⟩ := HS.out
          have hs := hd.step hu0
          rw [hm] at hs
          exact ⟨by omega, _, dig_1 ds, hs⟩)
        have HZ : Hid ((ByteArray.extract ⟨#[48, 49, 50, 51, 52, 53, 54, 55, 56, 57]⟩ 1 2 ++ x).size ≤ 20) := Lib.hid (by
          obtain ⟨_, ds, e, hd⟩ := HR.out
          rw [e]
          exact hd.short (H2.out))
        clear hm
        go_wp2
        try rw [hw]
        go_round
        case rel => exact ⟨v, _, HZ.out, rfl, rfl, HR⟩
        case measure => exact meas_neg HV.out hu0
      · have ht : (-(u : Int)).tmod 10 = -2 := by rw [Int.neg_tmod, tmod_of hm]; rfl
        have HR : Hid (v ≤ N ∧ ∃ ds : List UInt8, (ByteArray.extract ⟨#[48, 49, 50, 51, 52, 53, 54, 55, 56, 57]⟩ 2 3 ++ x) = ⟨ds.toArray⟩ ∧ DecAt N v ds) := Lib.hid (by
          rw [HV.out]
          obtain ⟨hu, ds, rfl, hd⟩ := HS.out
          have hs := hd.step hu0
          rw [hm] at hs
          exact ⟨by omega, _, dig_2 ds, hs⟩)
        have HZ : Hid ((ByteArray.extract ⟨#[48, 49, 50, 51, 52, 53, 54, 55, 56, 57]⟩ 2 3 ++ x).size ≤ 20) := Lib.hid (by
          obtain ⟨_, ds, e, hd⟩ := HR.out
          rw [e]
          exact hd.short (H2.out))
        clear hm
        go_wp2
        try rw [hw]
        go_round
        case rel => exact ⟨v, _, HZ.out, rfl, rfl, HR⟩
        case measure => exact meas_neg HV.out hu0
      · have ht : (-(u : Int)).tmod 10 = -3 := by rw [Int.neg_tmod, tmod_of hm]; rfl
        have HR : Hid (v ≤ N ∧ ∃ ds : List UInt8, (ByteArray.extract ⟨#[48, 49, 50, 51, 52, 53, 54, 55, 56, 57]⟩ 3 4 ++ x) = ⟨ds.toArray⟩ ∧ DecAt N v ds) := Lib.hid (by
          rw [HV.out]
          obtain ⟨hu, ds, rfl, hd⟩ := HS.out
          have hs := hd.step hu0
          rw [hm] at hs
          exact ⟨by omega, _, dig_3 ds, hs⟩)
        have HZ : Hid ((ByteArray.extract ⟨#[48, 49, 50, 51, 52, 53, 54, 55, 56, 57]⟩ 3 4 ++ x).size ≤ 20) := Lib.hid (by
          obtain ⟨_, ds, e, hd⟩ := HR.out
          rw [e]
          exact hd.short (H2.out))
        clear hm
        go_wp2
        try rw [hw]
        go_round
        case rel => exact ⟨v, _, HZ.out, rfl, rfl, HR⟩
        case measure => exact meas_neg HV.out hu0
      · have ht : (-(u : Int)).tmod 10 = -4 := by rw [Int.neg_tmod, tmod_of hm]; rfl
        have HR : Hid (v ≤ N ∧ ∃ ds : List UInt8, (ByteArray.extract ⟨#[48, 49, 50, 51, 52, 53, 54, 55, 56, 57]⟩ 4 5 ++ x) = ⟨ds.toArray⟩ ∧ DecAt N v ds) := Lib.hid (by
          rw [HV.out]
          obtain ⟨hu, ds, rfl, hd⟩ := HS.out
          have hs := hd.step hu0
          rw [hm] at hs
          exact ⟨by omega, _, dig_4 ds, hs⟩)
        have HZ : Hid ((ByteArray.extract ⟨#[48, 49, 50, 51, 52, 53, 54, 55, 56, 57]⟩ 4 5 ++ x).size ≤ 20) := Lib.hid (by
          obtain ⟨_, ds, e, hd⟩ := HR.out
          rw [e]
          exact hd.short (H2.out))
        clear hm
        go_wp2
        try rw [hw]
        go_round
        case rel => exact ⟨v, _, HZ.out, rfl, rfl, HR⟩
        case measure => exact meas_neg HV.out hu0
      · have ht : (-(u : Int)).tmod 10 = -5 := by rw [Int.neg_tmod, tmod_of hm]; rfl
        have HR : Hid (v ≤ N ∧ ∃ ds : List UInt8, (ByteArray.extract ⟨#[48, 49, 50, 51, 52, 53, 54, 55, 56, 57]⟩ 5 6 ++ x) = ⟨ds.toArray⟩ ∧ DecAt N v ds) := Lib.hid (by
          rw [HV.out]
          obtain ⟨hu, ds, rfl, hd⟩ := HS.out
          have hs := hd.step hu0
          rw [hm] at hs
          exact ⟨by omega, _, dig_5 ds, hs⟩)
        have HZ : Hid ((ByteArray.extract ⟨#[48, 49, 50, 51, 52, 53, 54, 55, 56, 57]⟩ 5 6 ++ x).size ≤ 20) := Lib.hid (by
          obtain ⟨_, ds, e, hd⟩ := HR.out
          rw [e]
          exact hd.short (H2.out))
        clear hm
        go_wp2
        try rw [hw]
        go_round
        case rel => exact ⟨v, _, HZ.out, rfl, rfl, HR⟩
        case measure => exact meas_neg HV.out hu0
      · have ht : (-(u : Int)).tmod 10 = -6 := by rw [Int.neg_tmod, tmod_of hm]; rfl
        have HR : Hid (v ≤ N ∧ ∃ ds : List UInt8, (ByteArray.extract ⟨#[48, 49, 50, 51, 52, 53, 54, 55, 56, 57]⟩ 6 7 ++ x) = ⟨ds.toArray⟩ ∧ DecAt N v ds) := Lib.hid (by
          rw [HV.out]
          obtain ⟨hu, ds, rfl, hd⟩ := HS.out
          have hs := hd.step hu0
          rw [hm] at hs
          exact ⟨by omega, _, dig_6 ds, hs⟩)
        have HZ : Hid ((ByteArray.extract ⟨#[48, 49, 50, 51, 52, 53, 54, 55, 56, 57]⟩ 6 7 ++ x).size ≤ 20) := Lib.hid (by
          obtain ⟨_, ds, e, hd⟩ := HR.out
          rw [e]
          exact hd.short (H2.out))
        clear hm
        go_wp2
        try rw [hw]
        go_round
        case rel => exact ⟨v, _, HZ.out, rfl, rfl, HR⟩
        case measure => exact meas_neg HV.out hu0
      · have ht : (-(u : Int)).tmod 10 = -7 := by rw [Int.neg_tmod, tmod_of hm]; rfl
        have HR : Hid (v ≤ N ∧ ∃ ds : List UInt8, (ByteArray.extract ⟨#[48, 49, 50, 51, 52, 53, 54, 55, 56, 57]⟩ 7 8 ++ x) = ⟨ds.toArray⟩ ∧ DecAt N v ds) := Lib.hid (by
          rw [HV.out]
          obtain ⟨hu, ds, rfl, hd⟩ := HS.out
          have hs := hd.step hu0
          rw [hm] at hs
          exact ⟨by omega, _, dig_7 ds, hs⟩)
        have HZ : Hid ((ByteArray.extract ⟨#[48, 49, 50, 51, 52, 53, 54, 55, 56, 57]⟩ 7 8 ++ x).size ≤ 20) := Lib.hid (by
          obtain ⟨_, ds, e, hd⟩ := HR.out
          rw [e]
          exact hd.short (H2.out))
        clear hm
        go_wp2
        try rw [hw]
        go_round
        case rel => exact ⟨v, _, HZ.out, rfl, rfl, HR⟩
        case measure => exact meas_neg HV.out hu0
      · have ht : (-(u : Int)).tmod 10 = -8 := by rw [Int.neg_tmod, tmod_of hm]; rfl
        have HR : Hid (v ≤ N ∧ ∃ ds : List UInt8, (ByteArray.extract ⟨#[48, 49, 50, 51, 52, 53, 54, 55, 56, 57]⟩ 8 9 ++ x) = ⟨ds.toArray⟩ ∧ DecAt N v ds) := Lib.hid (by
          rw [HV.out]
          obtain ⟨hu, ds, rfl, hd⟩ := HS.out
          have hs := hd.step hu0
          rw [hm] at hs
          exact ⟨by omega, _, dig_8 ds, hs⟩)
        have HZ : Hid ((ByteArray.extract ⟨#[48, 49, 50, 51, 52, 53, 54, 55, 56, 57]⟩ 8 9 ++ x).size ≤ 20) := Lib.hid (by
          obtain ⟨_, ds, e, hd⟩ := HR.out
          rw [e]
          exact hd.short (H2.out))
        clear hm
        go_wp2
        try rw [hw]
        go_round
        case rel => exact ⟨v, _, HZ.out, rfl, rfl, HR⟩
        case measure => exact meas_neg HV.out hu0
      · have ht : (-(u : Int)).tmod 10 = -9 := by rw [Int.neg_tmod, tmod_of hm]; rfl
        have HR : Hid (v ≤ N ∧ ∃ ds : List UInt8, (ByteArray.extract ⟨#[48, 49, 50, 51, 52, 53, 54, 55, 56, 57]⟩ 9 10 ++ x) = ⟨ds.toArray⟩ ∧ DecAt N v ds) := Lib.hid (by
          rw [HV.out]
          obtain ⟨hu, ds, rfl, hd⟩ := HS.out
          have hs := hd.step hu0
          rw [hm] at hs
          exact ⟨by omega, _, dig_9 ds, hs⟩)
        have HZ : Hid ((ByteArray.extract ⟨#[48, 49, 50, 51, 52, 53, 54, 55, 56, 57]⟩ 9 10 ++ x).size ≤ 20) := Lib.hid (by
          obtain ⟨_, ds, e, hd⟩ := HR.out
          rw [e]
          exact hd.short (H2.out))
        clear hm
        go_wp2
        try rw [hw]
        go_round
        case rel => exact ⟨v, _, HZ.out, rfl, rfl, HR⟩
        case measure => exact meas_neg HV.out hu0
theorem specDecText_zero (w : World) : Calls Tryd.prog 74 #[.int .i64 0] w fun e w' => e = .returned (.string ⟨#[48]⟩) ∧ w' = w := by
  go_enter Tryd.func74, Tryd.ntmps74
  go_wp2
  go_ret
  exact ⟨rfl, rfl⟩
theorem decT_zero : decT 0 = ⟨#[48]⟩ := by rw [decT, Lib.itoa, if_neg (by omega), show (0 : Int).toNat = 0 from rfl, Lib.decDigits_one (by omega)]; rfl
theorem specDecText_calls (n : Int) (h0 : -9223372036854775808 ≤ n) (h1 : n ≤ 9223372036854775807) (w : World) : Calls Tryd.prog 74 #[.int .i64 n] w fun e w' => e = .returned (.string (decT n)) ∧ w' = w := by
  rcases Int.lt_trichotomy n 0 with h | h | h
  · have e : n = -((n.natAbs : Nat) : Int) := by omega
    rw [e]
    exact specDecText_neg n.natAbs (by omega) (by omega) w
  · subst h
    rw [decT_zero]
    exact specDecText_zero w
  · have e : n = ((n.natAbs : Nat) : Int) := by omega
    rw [e]
    exact specDecText_pos n.natAbs (by omega) (by omega) w
theorem decText_calls (n : Int) (h0 : -9223372036854775808 ≤ n) (h1 : n ≤ 9223372036854775807) (w : World) (hP : Pow w) : Calls Tryd.prog 98 #[.int .i64 n] w fun e w' => e = .returned (.string (decT n)) ∧ Below w.heap.size w w' := by
  have HC := Lib.hid (Tryd.strconv_Itoa n h0 h1 w hP)
  clear h0 h1 hP
  go_enter Tryd.func98, Tryd.ntmps98
  go_wp2_with fail
  refine HC.out.mono ?_
  rintro e w1 ⟨rfl, d, os, rfl⟩
  go_wp2
  go_ret
  exact ⟨rfl, Lib.below_grow _ w (Nat.le_refl _) d os⟩

end Go.Proofs.YtgljbcdlldhlfaaDoor

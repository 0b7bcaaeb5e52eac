/- slices.Index and slices.Contains over []int. -/
import Derived.Test.YtgljbcdlldhlfaaDoorK
set_option linter.unusedVariables false
set_option linter.unusedSimpArgs false
namespace Go.Proofs.YtgljbcdlldhlfaaDoor
open Go.RowKit

def ixL {α : Type} [DecidableEq α] (x : α) : List α → Int → Int
  | [], _ => -1
  | y :: ys, k => if x = y then k else ixL x ys (k + 1)
theorem ixL_none {α : Type} [DecidableEq α] {x : α} : ∀ {xs : List α} {k : Int}, x ∉ xs → ixL x xs k = -1
  | [], _, _ => rfl
  | y :: ys, k, h => by
    simp only [List.mem_cons, not_or] at h
    rw [ixL, if_neg h.1, ixL_none h.2]
theorem ixL_at {α : Type} [DecidableEq α] {x : α} : ∀ {xs : List α} {k : Int} {j : Nat}, xs[j]? = some x → (∀ y ∈ xs.take j, y ≠ x) → ixL x xs k = k + j
  | [], _, _, h, _ => by simp at h
  | y :: ys, k, 0, h, _ => by
    obtain rfl : y = x := by simpa using h
    rw [ixL, if_pos rfl]
    simp
  | y :: ys, k, j + 1, h, hn => by
    rw [ixL, if_neg (fun e => hn y (by simp) e.symm), ixL_at (k := k + 1) (j := j) (by simpa using h) (fun z hz => hn z (by simp [hz]))]
    omega
theorem ixL_mem {α : Type} [DecidableEq α] {x : α} : ∀ {xs : List α} {k : Int}, 0 ≤ k → (0 ≤ ixL x xs k ↔ x ∈ xs)
  | [], k, hk => by simp [ixL]
  | y :: ys, k, hk => by
    rw [ixL]
    split
    · rename_i h
      simp [h, hk]
    · rename_i h
      rw [ixL_mem (by omega : 0 ≤ k + 1)]
      simp [h]
set_option maxRecDepth 100000 in
set_option maxHeartbeats 400000 in
theorem indexInts_calls (A : Option Addr) (c : Nat) (xs : List Int) (x : Int) (w : World) (hA : Rd w A (xs.map (Value.int .i64))) (hn : xs.length ≤ 140737488355328) :
    Calls Tryd.prog 106 #[.slice A xs.length c, .int .i64 x] w fun e w' => e = .returned (.int .i64 (ixL x xs 0)) ∧ w = w' := by
  go_enter Tryd.func106, Tryd.ntmps106
  go_wp2
  go_loop [8] (fun i => ∃ k : Nat, k ≤ xs.length ∧ i = .int .i64 k ∧ Hid (∀ y ∈ xs.take k, y ≠ x)) (fun i => xs.length - (intOf i).toNat)
  case atStart => exact ⟨0, Nat.zero_le _, rfl, Lib.hid (by simp)⟩
  case round =>
    obtain ⟨k, hk, rfl, HK⟩ := hrel
    by_cases hlt : k < xs.length
    · have hu : (xs.map (Value.int .i64))[k]? = some (.int .i64 xs[k]) := by simp [hlt]
      have hu' : xs[k]? = some xs[k] := List.getElem?_eq_getElem hlt
      obtain ⟨ad, rfl, hc⟩ := hA.at_ hu
      clear hu
      by_cases he : x = xs[k]
      · have hd : (x == xs[k]) = true := by simp [he]
        have HF := Lib.hid (ixL_at (k := 0) (hu'.trans (by rw [← he])) HK.out)
        clear he
        go_wp2
        go_ret
        exact ⟨ret_int (by rw [HF.out]; omega), rfl⟩
      · have hd : (x == xs[k]) = false := by simp [he]
        have HK2 := Lib.hid (take_all_snoc HK.out hu' (fun e => he e.symm))
        clear he
        go_wp2
        go_round
        case rel => exact ⟨k + 1, by omega, by go_num, HK2⟩
        case measure => simp [intOf]; omega
    · have : k = xs.length := by omega
      subst this
      rw [List.take_of_length_le (Nat.le_refl _)] at HK
      go_wp2
      go_ret
      exact ⟨ret_int (ixL_none (fun h => HK.out _ h rfl)).symm, rfl⟩
theorem containsInts_calls (A : Option Addr) (c : Nat) (xs : List Int) (x : Int) (w : World) (hA : Rd w A (xs.map (Value.int .i64))) (hn : xs.length ≤ 140737488355328) :
    Calls Tryd.prog 95 #[.slice A xs.length c, .int .i64 x] w fun e w' => e = .returned (.bool (decide (x ∈ xs))) ∧ w = w' := by
  go_enter Tryd.func95, Tryd.ntmps95
  go_wp2_with (go_at_call 106; refine (indexInts_calls _ _ _ _ _ hA hn).mono ?_; rintro e w' ⟨rfl, rfl⟩)
  go_ret
  exact ⟨ret_bool (decide_eq_decide.2 (ixL_mem (by omega))), rfl⟩
theorem containsInts_len (A : Option Addr) (n c : Nat) (xs : List Int) (x : Int) (w : World) (hA : Rd w A (xs.map (Value.int .i64))) (hl : xs.length = n) (hn : n ≤ 140737488355328) :
    Calls Tryd.prog 95 #[.slice A n c, .int .i64 x] w fun e w' => e = .returned (.bool (decide (x ∈ xs))) ∧ w = w' := by
  subst hl
  exact containsInts_calls A c xs x w hA hn
end Go.Proofs.YtgljbcdlldhlfaaDoor

/- Marks on rows of strings: markStringS, heldStringS. -/
import Derived.Test.YtjciibhaifabjaaDoorMk
import Derived.Deep.RegionWith
set_option linter.unusedVariables false
set_option linter.unusedSimpArgs false
namespace Go.Proofs.YtjciibhaifabjaaDoor
open Go.RowKit

def mkStr (k0 : Int) (n : Nat) : List ByteArray := (List.range n).map fun i : Nat => markT (k0 + i)
theorem mkStr_length (k0 : Int) (n : Nat) : (mkStr k0 n).length = n := by simp [mkStr]
set_option maxRecDepth 100000 in
set_option maxHeartbeats 400000 in
theorem markStringS_calls (A : Option Addr) (c : Nat) (xs : List ByteArray) (b : Option Nat) (k0 : Int) (w : World) (hR : Row w 9 1 A xs.length c (xs.map Value.string) b) (hk0 : 0 ≤ k0) (hk1 : k0 ≤ 1152921504606846976) (hn : xs.length ≤ 140737488355328) :
    Calls Tryd.prog 28 #[.slice A xs.length c, .int .i64 k0] w fun e w' => e = .returned (.int .i64 (k0 + xs.length)) ∧
      Row w' 9 1 A xs.length c ((mkStr k0 xs.length).map Value.string) b ∧ w.grownBy w' b := by
  go_enter Tryd.func28, Tryd.ntmps28
  go_wp2
  go_loopw [1, 5] (fun kv i wr => ∃ k : Nat, k ≤ xs.length ∧ i = .int .i64 k ∧ kv = .int .i64 (k0 + k) ∧ Row wr 9 1 A xs.length c (((mkStr k0 xs.length).map Value.string).take k ++ (xs.map Value.string).drop k) b ∧ w.grownBy wr b)
    (fun _ i _ => xs.length - (intOf i).toNat)
  case atStart => exact ⟨0, Nat.zero_le _, rfl, by simp, by simpa using hR, grownBy_refl _ _⟩
  case round =>
    obtain ⟨k, hk, rfl, rfl, hR, hB⟩ := hrel
    by_cases hlt : k < xs.length
    · obtain ⟨g, rfl, rfl⟩ := hR.pos (by omega)
      have HR0 := Lib.hid hR
      have HB0 := Lib.hid hB
      have hu : ((mkStr k0 xs.length).map Value.string)[k]? = some (Value.string (markT (k0 + k))) := by simp [mkStr, hlt]
      have HU := Lib.hid hu
      have b0 : 0 ≤ k0 + k := by omega
      have b1 : k0 + k ≤ 2305843009213693952 := by omega
      clear hR hB hu
      go_wp2_with (go_at_call 77; (with_reducible refine (markText_calls (k0 + k) _ (by omega)).mono ?_); rintro e wa ⟨rfl, hb⟩; have HRa := Lib.hid (HR0.out.call hb); have HBa := Lib.hid (World.grownBy.trans HB0.out ⟨hb.os, hb.tape, hb.output, hb.size, fun k hk _ => hb.block k hk⟩); have hf := HRa.out.frozen k; obtain ⟨v0, hc0⟩ := HRa.out.isCell (j := k) (by omega); clear hb)
      have HR := Lib.hid (HRa.out.stored k (Value.string (markT (k0 + k))))
      have HB := Lib.hid (World.grownBy.trans HBa.out (grownBy_setCell wa ⟨g, k, none⟩ (Value.string (markT (k0 + k)))))
      rw [set_take_drop _ _ _ (by simpa using hlt) (by simp [mkStr]) _ HU.out] at HR
      go_roundw
      case rel => exact ⟨k + 1, by omega, by go_num, by go_num, HR.out, HB.out⟩
      case measure => simp [intOf]; omega
    · have : k = xs.length := by omega
      subst this
      rw [List.take_of_length_le (by simp [mkStr]), List.drop_of_length_le (by simp), List.append_nil] at hR
      go_wp2
      go_ret
      exact ⟨rfl, hR, hB⟩
set_option maxRecDepth 100000 in
set_option maxHeartbeats 400000 in
theorem heldStringS_calls (A : Option Addr) (n c : Nat) (k0 : Int) (w : World) (hA : Rd w A ((mkStr k0 n).map Value.string)) (hk0 : 0 ≤ k0) (hk1 : k0 ≤ 1152921504606846976) (hn : n ≤ 140737488355328) :
    Calls Tryd.prog 29 #[.slice A n c, .int .i64 k0] w fun e w' => e = .returned (.int .i64 (k0 + n)) ∧ Below w.heap.size w w' := by
  have HA := Lib.hid hA
  clear hA
  go_enter Tryd.func29, Tryd.ntmps29
  go_wp2
  go_loopw [1, 5] (fun kv i wr => ∃ k : Nat, k ≤ n ∧ i = .int .i64 k ∧ kv = .int .i64 (k0 + k) ∧ Hid (Below w.heap.size w wr)) (fun _ i _ => n - (intOf i).toNat)
  case atStart => exact ⟨0, Nat.zero_le _, rfl, by simp, Lib.hid (Below.refl _ _)⟩
  case round =>
    obtain ⟨k, hk, rfl, rfl, HB⟩ := hrel
    by_cases hlt : k < n
    · have hu : ((mkStr k0 n).map Value.string)[k]? = some (Value.string (markT (k0 + k))) := by simp [mkStr, hlt]
      obtain ⟨ad, rfl, hc⟩ := (HA.out.keepB HB.out).at_ hu
      have HC := Lib.hid hc
      have i1 : (k : Int) < (n : Int) := by omega
      clear hu
      go_wp2_with fail
      go_region_with (go_at_call 77; (with_reducible refine (markText_calls (k0 + k) _ (by omega)).mono ?_); rintro e wa ⟨rfl, hb⟩; have HBa := Lib.hid (bl_call (show Below w.heap.size w _ from by with_reducible repeat (first | exact HB.out | apply bl_drew)) hb); have hca := below_mono hb _ _ (show World.cell? _ _ = _ from HC.out); clear hb)
      all_goals
        go_wp2
        go_roundw
        case rel => exact ⟨k + 1, by omega, by go_num, by go_num, HBa⟩
        case measure => first | (simp [intOf]; done) | (simp [intOf]; omega)
    · have : k = n := by omega
      subst this
      go_wp2
      go_ret
      exact ⟨rfl, HB.out⟩
end Go.Proofs.YtjciibhaifabjaaDoor

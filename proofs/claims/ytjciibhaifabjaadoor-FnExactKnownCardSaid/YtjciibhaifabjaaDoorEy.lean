/- Entries of a dictionary: szEntry, szEntryS. -/
import Derived.Test.YtjciibhaifabjaaDoorDf
set_option linter.unusedVariables false
set_option linter.unusedSimpArgs false
namespace Go.Proofs.YtjciibhaifabjaaDoor
open Go.RowKit

def szE (z : LEntry) : Nat := z.name.size
def szEs (zs : List LEntry) : Nat := (zs.map szE).sum
theorem szEs_cons (z : LEntry) (zs : List LEntry) : szEs (z :: zs) = szE z + szEs zs := by simp [szEs]
theorem szEs_drop {zs : List LEntry} {k : Nat} {z : LEntry} (h : zs[k]? = some z) : szEs (zs.drop k) = szE z + szEs (zs.drop (k + 1)) := by
  obtain ⟨hk, rfl⟩ := List.getElem?_eq_some_iff.1 h
  rw [List.drop_eq_getElem_cons hk, szEs_cons]
def EntR (zs : List LEntry) : Prop := ∀ z ∈ zs, z.name.size ≤ 140737488355328
set_option maxRecDepth 100000 in
theorem szEntry_calls (z : LEntry) (left : Int) (w : World) (h0 : 0 ≤ left) (hl : left ≤ 1048576) (h1 : z.name.size ≤ 140737488355328) :
    Calls Tryd.prog 94 #[.agg #[.string z.name, .bool z.var, .int .i64 z.n], .int .i64 left] w fun e w' => e = .returned (.int .i64 (szR (szE z) left)) ∧ Below w.heap.size w w' := by
  by_cases hn : left < z.name.size
  · have d0 : left - z.name.size < 0 := by omega
    have e0 : ¬ ((szE z : Int) ≤ left) := by unfold szE; omega
    rw [szR_no e0]
    go_enter Tryd.func94, Tryd.ntmps94
    go_wp2
    go_ret
    exact ⟨rfl, bl_alloc (Below.refl _ _) _⟩
  · have d0 : ¬ (left - z.name.size < 0) := by omega
    have e0 : (szE z : Int) ≤ left := by unfold szE; omega
    rw [szR_yes e0]
    go_enter Tryd.func94, Tryd.ntmps94
    go_wp2
    go_ret
    exact ⟨rfl, bl_alloc (Below.refl _ _) _⟩
set_option maxRecDepth 100000 in
theorem szEntryS_calls (A : Option Addr) (c : Nat) (zs : List LEntry) (left : Int) (w : World) (hr : Rd w A (zs.flatMap LEntry.enc)) (hz : EntR zs) (h0 : 0 ≤ left) (hl : left ≤ 1048576) (hn : zs.length ≤ 140737488355328) :
    Calls Tryd.prog 60 #[.slice A zs.length c, .int .i64 left] w fun e w' => e = .returned (.int .i64 (szR (zs.length + szEs zs) left)) ∧ Below w.heap.size w w' := by
  have HR := Lib.hid hr
  have HZ := Lib.hid hz
  clear hr hz
  by_cases hlen : left < zs.length
  · have d0 : left - zs.length < 0 := by omega
    have e0 : ¬ (((zs.length + szEs zs : Nat) : Int) ≤ left) := by omega
    rw [szR_no e0]
    clear e0
    go_enter Tryd.func60, Tryd.ntmps60
    go_wp2
    go_ret
    exact ⟨rfl, Below.refl _ _⟩
  have d0 : ¬ (left - zs.length < 0) := by omega
  go_enter Tryd.func60, Tryd.ntmps60
  go_wp2
  clear d0
  go_loopw [1, 5] (fun lv i wr => ∃ (k : Nat) (l : Int), k ≤ zs.length ∧ i = .int .i64 k ∧ lv = .int .i64 l ∧ 0 ≤ l ∧ l ≤ 1048576 ∧ l - szEs (zs.drop k) = left - zs.length - szEs zs ∧ Hid (Below w.heap.size w wr)) (fun _ i _ => zs.length - (intOf i).toNat)
  case atStart => exact ⟨0, left - zs.length, Nat.zero_le _, rfl, rfl, by omega, by omega, by simp, Lib.hid (Below.refl _ _)⟩
  case round =>
    obtain ⟨k, l, hk, rfl, rfl, hl0, hl1, hsum, HW⟩ := hrel
    by_cases hlt : k < zs.length
    · have hu : zs[k]? = some zs[k] := List.getElem?_eq_getElem hlt
      obtain ⟨ad, rfl, hc⟩ := (HR.out.keepB HW.out).el LEntry.enc_len hu (by omega)
      have hc0 := hc 0 _ rfl
      have hc1 := hc 1 _ rfl
      have hc2 := hc 2 _ rfl
      rw [Nat.add_zero] at hc0
      rw [add_field _ _ _ (by omega)] at hc1
      rw [add_field _ _ _ (by omega)] at hc2
      have HZk := Lib.hid (HZ.out _ (List.mem_of_getElem? hu))
      have hs2 := szEs_drop hu
      clear hc hu
      generalize zs[k] = z at hc0 hc1 hc2 HZk hs2
      have i1 : (k : Int) < (zs.length : Int) := by omega
      by_cases hz : (szE z : Int) ≤ l
      · have dz : ¬ (l - szE z < 0) := by omega
        have hs3 : l - szE z - szEs (zs.drop (k + 1)) = left - zs.length - szEs zs := by omega
        clear hsum hs2
        go_wp2_with (go_at_call 94; (with_reducible refine (szEntry_calls z l _ ?_ ?_ ?_).mono ?_); omega; omega; exact HZk.out; rintro e w2 ⟨rfl, hb⟩; have HB := Lib.hid (bl_call HW.out hb); clear hb; rw [szR_yes hz])
        go_roundw
        case rel => exact ⟨k + 1, l - szE z, by omega, by go_num, rfl, by omega, by omega, hs3, HB⟩
        case measure => simp [intOf]; omega
      · have e0 : ¬ (((zs.length + szEs zs : Nat) : Int) ≤ left) := by omega
        have HF := Lib.hid (szR_no e0)
        clear e0 hsum hs2
        go_wp2_with (go_at_call 94; (with_reducible refine (szEntry_calls z l _ ?_ ?_ ?_).mono ?_); omega; omega; exact HZk.out; rintro e w2 ⟨rfl, hb⟩; have HB := Lib.hid (bl_call HW.out hb); clear hb; rw [szR_no hz])
        go_ret
        exact ⟨ret_int HF.out.symm, HB.out⟩
    · have : k = zs.length := by omega
      subst this
      rw [List.drop_of_length_le (Nat.le_refl _)] at hsum
      have hsum2 : l = left - ((zs.length + szEs zs : Nat) : Int) := by simp [szEs] at hsum ⊢; omega
      have e0 : ((zs.length + szEs zs : Nat) : Int) ≤ left := by omega
      have HF := Lib.hid (hsum2.trans (szR_yes e0).symm)
      clear e0 hsum hsum2
      go_wp2
      go_ret
      exact ⟨ret_int HF.out, HW.out⟩
end Go.Proofs.YtjciibhaifabjaaDoor

/- The text of a step: contracts of InsText, the program's and the reference's. -/
import Derived.Test.YtfmmfgjelaekhaaDoorCo
import Derived.Test.YtfmmfgjelaekhaaDoorPh
import Derived.Test.YtfmmfgjelaekhaaDoorV
import Derived.Deep.RegionWith
import Derived.BigRegion
import Derived.Outline
set_option linter.unusedVariables false
set_option linter.unusedSimpArgs false
namespace Go.Proofs.YtfmmfgjelaekhaaDoor
open Go.RowKit Go.Sort


def opWd (op : Int) : ByteArray := if op = 0 then ⟨#[108, 105, 116]⟩ else if op = 1 then ⟨#[100, 111]⟩ else if op = 2 then ⟨#[99, 97, 108, 108]⟩ else if op = 3 then ⟨#[106, 117, 109, 112]⟩ else if op = 4 then ⟨#[122, 101, 114, 111]⟩ else if op = 5 then ⟨#[112, 111, 115]⟩ else if op = 6 then ⟨#[102, 111, 114]⟩ else if op = 7 then ⟨#[110, 101, 120, 116]⟩ else if op = 8 then ⟨#[114, 101, 116]⟩ else if op = 9 then ⟨#[101, 110, 100]⟩ else ⟨#[]⟩
def opSp (op : Int) : ByteArray := if op = 0 then ⟨#[108, 105, 116, 32]⟩ else if op = 1 then ⟨#[100, 111, 32]⟩ else if op = 2 then ⟨#[99, 97, 108, 108, 32]⟩ else if op = 3 then ⟨#[106, 117, 109, 112, 32]⟩ else if op = 4 then ⟨#[122, 101, 114, 111, 32]⟩ else if op = 5 then ⟨#[112, 111, 115, 32]⟩ else if op = 6 then ⟨#[102, 111, 114, 32]⟩ else if op = 7 then ⟨#[110, 101, 120, 116, 32]⟩ else if op = 8 then ⟨#[114, 101, 116, 32]⟩ else if op = 9 then ⟨#[101, 110, 100, 32]⟩ else ⟨#[]⟩
/-- The text of a step. -/
def insText (i : LIns) : ByteArray := if i.op = 6 ∨ i.op = 8 ∨ i.op = 9 then opWd i.op else if i.op = 1 then (if inB i.n 0 23 = true then opSp 1 ++ primName i.n else ⟨#[]⟩) else if 0 ≤ i.op ∧ i.op ≤ 7 then opSp i.op ++ decT i.n else ⟨#[]⟩
theorem primName_size (k : Int) : (primName k).size ≤ 4 := by
  by_cases h : 0 ≤ k ∧ k ≤ 23
  · have : k = 0 ∨ k = 1 ∨ k = 2 ∨ k = 3 ∨ k = 4 ∨ k = 5 ∨ k = 6 ∨ k = 7 ∨ k = 8 ∨ k = 9 ∨ k = 10 ∨ k = 11 ∨ k = 12 ∨ k = 13 ∨ k = 14 ∨ k = 15 ∨ k = 16 ∨ k = 17 ∨ k = 18 ∨ k = 19 ∨ k = 20 ∨ k = 21 ∨ k = 22 ∨ k = 23 := by omega
    rcases this with rfl | rfl | rfl | rfl | rfl | rfl | rfl | rfl | rfl | rfl | rfl | rfl | rfl | rfl | rfl | rfl | rfl | rfl | rfl | rfl | rfl | rfl | rfl | rfl <;> decide +kernel
  · rw [primName, if_neg h]
    decide
theorem op_cases {op : Int} (h : 0 ≤ op ∧ op ≤ 9) : op = 0 ∨ op = 1 ∨ op = 2 ∨ op = 3 ∨ op = 4 ∨ op = 5 ∨ op = 6 ∨ op = 7 ∨ op = 8 ∨ op = 9 := by omega

set_option maxRecDepth 100000 in
set_option maxHeartbeats 2000000 in
theorem insText_calls (op n : Int) (w : World) (hA : Asc w) (hP : Pow w) (h0 : -9223372036854775808 ≤ n) (h1 : n ≤ 9223372036854775807) :
    Calls Tryd.prog 49 #[.agg #[.int .i64 op, .int .i64 n]] w fun e w' => e = .returned (.string (insText ⟨op, n⟩)) ∧ Below w.heap.size w w' := by
  have HA := Lib.hid hA
  have HP := Lib.hid hP
  clear hA hP
  cases hin : inB op 0 9
  · have HF : Hid (insText ⟨op, n⟩ = ⟨#[]⟩) := Lib.hid (by
      have : ¬ (0 ≤ op ∧ op ≤ 9) := fun h => by rw [inB_iff.2 h] at hin; cases hin
      simp only [insText]
      rw [if_neg (by omega), if_neg (by omega), if_neg (by omega)])
    go_enter Tryd.func49, Tryd.ntmps49
    go_wp2_with (go_at_call 76; refine (withinB_calls _ _ _ _).mono ?_; rintro e w' ⟨rfl, rfl⟩)
    go_ret
    exact ⟨by rw [HF.out]; rfl, bl_alloc (Below.refl _ _) _⟩
  · have hsz := decT_size h0 h1
    have hps := primName_size n
    have HDT := Lib.hid (fun w hP => decText_calls n h0 h1 w hP)
    have HPE := Lib.hid (primName_empty n)
    have HPN := Lib.hid (fun w hA => primName_calls n w hA)
    rcases op_cases (inB_iff.1 hin) with rfl | rfl | rfl | rfl | rfl | rfl | rfl | rfl | rfl | rfl
    · have HF : Hid (insText ⟨0, n⟩ = opSp 0 ++ decT n) := Lib.hid (by simp [insText])
      generalize decT n = x at hsz HDT HF
      have n1 : ¬ 9223372036854775807 < 4 + x.size := by omega
      go_enter Tryd.func49, Tryd.ntmps49
      go_wp2_with (first | (go_at_call 76; refine (withinB_calls _ _ _ _).mono ?_; rintro e w' ⟨rfl, rfl⟩) | (go_at_call 100; (with_reducible refine (HDT.out _ ?_).mono ?_); exact (HP.out.call (bl_alloc (Below.refl _ _) _)).call (bl_alloc (Below.refl _ _) _); rintro e w2 ⟨rfl, hb⟩; have HB := Lib.hid (bl_call (bl_alloc (bl_alloc (Below.refl _ w) _) _) hb); clear hb))
      go_ret
      exact ⟨by rw [HF.out]; rfl, HB.out⟩
    · generalize hx : primName n = x at hps HPE HPN
      have n1 : ¬ 9223372036854775807 < 3 + x.size := by omega
      cases hk : inB n 0 23
      · have HF : Hid (insText ⟨1, n⟩ = ⟨#[]⟩) := Lib.hid (by simp [insText, hk])
        have he : x.toList.isEmpty = true := by rw [HPE.out, hk]; rfl
        clear hx
        go_enter Tryd.func49, Tryd.ntmps49
        go_wp2_with (first | (go_at_call 76; refine (withinB_calls _ _ _ _).mono ?_; rintro e w' ⟨rfl, rfl⟩) | (go_at_call 68; (with_reducible refine (HPN.out _ ?_).mono ?_); exact (HA.out.call (bl_alloc (Below.refl _ _) _)).call (bl_alloc (Below.refl _ _) _); rintro e w2 ⟨rfl, hb⟩; have HB := Lib.hid (bl_call (bl_alloc (bl_alloc (Below.refl _ w) _) _) hb); clear hb))
        go_ret
        exact ⟨by rw [HF.out]; rfl, HB.out⟩
      · have HF : Hid (insText ⟨1, n⟩ = opSp 1 ++ x) := Lib.hid (by simp [insText, hk, hx])
        have he : x.toList.isEmpty = false := by rw [HPE.out, hk]; rfl
        clear hx
        go_enter Tryd.func49, Tryd.ntmps49
        go_wp2_with (first | (go_at_call 76; refine (withinB_calls _ _ _ _).mono ?_; rintro e w' ⟨rfl, rfl⟩) | (go_at_call 68; (with_reducible refine (HPN.out _ ?_).mono ?_); exact (HA.out.call (bl_alloc (Below.refl _ _) _)).call (bl_alloc (Below.refl _ _) _); rintro e w2 ⟨rfl, hb⟩; have HB := Lib.hid (bl_call (bl_alloc (bl_alloc (Below.refl _ w) _) _) hb); clear hb))
        go_ret
        exact ⟨by rw [HF.out]; rfl, HB.out⟩
    · have HF : Hid (insText ⟨2, n⟩ = opSp 2 ++ decT n) := Lib.hid (by simp [insText])
      generalize decT n = x at hsz HDT HF
      have n1 : ¬ 9223372036854775807 < 5 + x.size := by omega
      go_enter Tryd.func49, Tryd.ntmps49
      go_wp2_with (first | (go_at_call 76; refine (withinB_calls _ _ _ _).mono ?_; rintro e w' ⟨rfl, rfl⟩) | (go_at_call 100; (with_reducible refine (HDT.out _ ?_).mono ?_); exact (HP.out.call (bl_alloc (Below.refl _ _) _)).call (bl_alloc (Below.refl _ _) _); rintro e w2 ⟨rfl, hb⟩; have HB := Lib.hid (bl_call (bl_alloc (bl_alloc (Below.refl _ w) _) _) hb); clear hb))
      go_ret
      exact ⟨by rw [HF.out]; rfl, HB.out⟩
    · have HF : Hid (insText ⟨3, n⟩ = opSp 3 ++ decT n) := Lib.hid (by simp [insText])
      generalize decT n = x at hsz HDT HF
      have n1 : ¬ 9223372036854775807 < 5 + x.size := by omega
      go_enter Tryd.func49, Tryd.ntmps49
      go_wp2_with (first | (go_at_call 76; refine (withinB_calls _ _ _ _).mono ?_; rintro e w' ⟨rfl, rfl⟩) | (go_at_call 100; (with_reducible refine (HDT.out _ ?_).mono ?_); exact (HP.out.call (bl_alloc (Below.refl _ _) _)).call (bl_alloc (Below.refl _ _) _); rintro e w2 ⟨rfl, hb⟩; have HB := Lib.hid (bl_call (bl_alloc (bl_alloc (Below.refl _ w) _) _) hb); clear hb))
      go_ret
      exact ⟨by rw [HF.out]; rfl, HB.out⟩
    · have HF : Hid (insText ⟨4, n⟩ = opSp 4 ++ decT n) := Lib.hid (by simp [insText])
      generalize decT n = x at hsz HDT HF
      have n1 : ¬ 9223372036854775807 < 5 + x.size := by omega
      go_enter Tryd.func49, Tryd.ntmps49
      go_wp2_with (first | (go_at_call 76; refine (withinB_calls _ _ _ _).mono ?_; rintro e w' ⟨rfl, rfl⟩) | (go_at_call 100; (with_reducible refine (HDT.out _ ?_).mono ?_); exact (HP.out.call (bl_alloc (Below.refl _ _) _)).call (bl_alloc (Below.refl _ _) _); rintro e w2 ⟨rfl, hb⟩; have HB := Lib.hid (bl_call (bl_alloc (bl_alloc (Below.refl _ w) _) _) hb); clear hb))
      go_ret
      exact ⟨by rw [HF.out]; rfl, HB.out⟩
    · have HF : Hid (insText ⟨5, n⟩ = opSp 5 ++ decT n) := Lib.hid (by simp [insText])
      generalize decT n = x at hsz HDT HF
      have n1 : ¬ 9223372036854775807 < 4 + x.size := by omega
      go_enter Tryd.func49, Tryd.ntmps49
      go_wp2_with (first | (go_at_call 76; refine (withinB_calls _ _ _ _).mono ?_; rintro e w' ⟨rfl, rfl⟩) | (go_at_call 100; (with_reducible refine (HDT.out _ ?_).mono ?_); exact (HP.out.call (bl_alloc (Below.refl _ _) _)).call (bl_alloc (Below.refl _ _) _); rintro e w2 ⟨rfl, hb⟩; have HB := Lib.hid (bl_call (bl_alloc (bl_alloc (Below.refl _ w) _) _) hb); clear hb))
      go_ret
      exact ⟨by rw [HF.out]; rfl, HB.out⟩
    · have HF : Hid (insText ⟨6, n⟩ = opWd 6) := Lib.hid (by simp [insText])
      go_enter Tryd.func49, Tryd.ntmps49
      go_wp2_with (go_at_call 76; refine (withinB_calls _ _ _ _).mono ?_; rintro e w' ⟨rfl, rfl⟩)
      go_ret
      exact ⟨by rw [HF.out]; rfl, bl_alloc (bl_alloc (Below.refl _ _) _) _⟩
    · have HF : Hid (insText ⟨7, n⟩ = opSp 7 ++ decT n) := Lib.hid (by simp [insText])
      generalize decT n = x at hsz HDT HF
      have n1 : ¬ 9223372036854775807 < 5 + x.size := by omega
      go_enter Tryd.func49, Tryd.ntmps49
      go_wp2_with (first | (go_at_call 76; refine (withinB_calls _ _ _ _).mono ?_; rintro e w' ⟨rfl, rfl⟩) | (go_at_call 100; (with_reducible refine (HDT.out _ ?_).mono ?_); exact (HP.out.call (bl_alloc (Below.refl _ _) _)).call (bl_alloc (Below.refl _ _) _); rintro e w2 ⟨rfl, hb⟩; have HB := Lib.hid (bl_call (bl_alloc (bl_alloc (Below.refl _ w) _) _) hb); clear hb))
      go_ret
      exact ⟨by rw [HF.out]; rfl, HB.out⟩
    · have HF : Hid (insText ⟨8, n⟩ = opWd 8) := Lib.hid (by simp [insText])
      go_enter Tryd.func49, Tryd.ntmps49
      go_wp2_with (go_at_call 76; refine (withinB_calls _ _ _ _).mono ?_; rintro e w' ⟨rfl, rfl⟩)
      go_ret
      exact ⟨by rw [HF.out]; rfl, bl_alloc (bl_alloc (Below.refl _ _) _) _⟩
    · have HF : Hid (insText ⟨9, n⟩ = opWd 9) := Lib.hid (by simp [insText])
      go_enter Tryd.func49, Tryd.ntmps49
      go_wp2_with (go_at_call 76; refine (withinB_calls _ _ _ _).mono ?_; rintro e w' ⟨rfl, rfl⟩)
      go_ret
      exact ⟨by rw [HF.out]; rfl, bl_alloc (bl_alloc (Below.refl _ _) _) _⟩

set_option maxRecDepth 100000 in
set_option maxHeartbeats 4000000 in
theorem specInsText_word (k : Nat) (n : Int) (x wd : ByteArray) (w : World) (hk : k ≤ 7) (h1 : ¬ k = 1) (h6 : ¬ k = 6) (hx : x.size ≤ 20) (hwd : wd.size ≤ 4) (hc : (#[.string ⟨#[108, 105, 116]⟩, .string ⟨#[100, 111]⟩, .string ⟨#[99, 97, 108, 108]⟩, .string ⟨#[106, 117, 109, 112]⟩, .string ⟨#[122, 101, 114, 111]⟩, .string ⟨#[112, 111, 115]⟩, .string ⟨#[102, 111, 114]⟩, .string ⟨#[110, 101, 120, 116]⟩] : Array Value)[k]? = some (.string wd))
    (hd : ∀ W, Calls Tryd.prog 99 #[.int .i64 n] W fun e w' => e = .returned (.string x) ∧ w' = W) :
    Calls Tryd.prog 47 #[.agg #[.int .i64 k, .int .i64 n]] w fun e w' => e = .returned (.string ((wd ++ ⟨#[32]⟩) ++ x)) ∧ Below w.heap.size w w' := by
  have HDT := Lib.hid hd
  clear hd
  have n0 : ¬ 9223372036854775807 < wd.size + 1 := by omega
  have n1 : ¬ 9223372036854775807 < wd.size + 1 + x.size := by omega
  have d1 : inB (k : Int) 0 7 = true := inB_iff.2 (by omega)
  have e1 : ((k : Int) == 1) = false := beq_false_of_ne (by omega)
  have e6 : ((k : Int) == 6) = false := beq_false_of_ne (by omega)
  have e8 : ((k : Int) == 8) = false := beq_false_of_ne (by omega)
  have e9 : ((k : Int) == 9) = false := beq_false_of_ne (by omega)
  have i1 : (k : Int) < 8 := by omega
  have i2 : k < 8 := by omega
  have hc2 : ∀ h, ([.string ⟨#[108, 105, 116]⟩, .string ⟨#[100, 111]⟩, .string ⟨#[99, 97, 108, 108]⟩, .string ⟨#[106, 117, 109, 112]⟩, .string ⟨#[122, 101, 114, 111]⟩, .string ⟨#[112, 111, 115]⟩, .string ⟨#[102, 111, 114]⟩, .string ⟨#[110, 101, 120, 116]⟩] : List Value)[k]'h = .string wd := fun h => by
    rw [← Array.getElem?_toList, List.getElem?_eq_getElem h] at hc
    exact Option.some.inj hc
  clear h1 h6 hk hc
  go_enter Tryd.func47, Tryd.ntmps47
  go_wp2_with (go_at_call 74; refine (specInB_calls _ _ _ _).mono ?_; rintro e w' ⟨rfl, rfl⟩)
  go_region_with (go_at_call 99; (with_reducible refine (HDT.out _).mono ?_); rintro e w' ⟨rfl, rfl⟩)
  all_goals
    go_wp2_with fail
    go_ret
    exact ⟨rfl, by with_reducible repeat (first | exact Below.refl _ _ | apply bl_alloc | apply bl_drew)⟩
set_option maxRecDepth 100000 in
set_option maxHeartbeats 2000000 in
theorem specInsText_calls (op n : Int) (w : World) (h0 : -9223372036854775808 ≤ n) (h1 : n ≤ 9223372036854775807) :
    Calls Tryd.prog 47 #[.agg #[.int .i64 op, .int .i64 n]] w fun e w' => e = .returned (.string (insText ⟨op, n⟩)) ∧ Below w.heap.size w w' := by
  by_cases hin : 0 ≤ op ∧ op ≤ 9
  · have hsz := decT_size h0 h1
    have hps := primName_size n
    have HDT := Lib.hid (fun w => specDecText_calls n h0 h1 w)
    have HPE := Lib.hid (primName_empty n)
    have HPN := Lib.hid (fun w => specPrimName_calls n w)
    rcases op_cases hin with rfl | rfl | rfl | rfl | rfl | rfl | rfl | rfl | rfl | rfl
    · have HF : Hid (insText ⟨0, n⟩ = opSp 0 ++ decT n) := Lib.hid (by simp [insText])
      refine (specInsText_word 0 n (decT n) ⟨#[108, 105, 116]⟩ w (by decide) (by decide) (by decide) hsz (by decide) (by rfl) HDT.out).mono ?_
      rintro e w' ⟨rfl, hb⟩
      exact ⟨by rw [HF.out]; rfl, hb⟩
    · generalize hx : primName n = x at hps HPE HPN
      have n1 : ¬ 9223372036854775807 < 3 + x.size := by omega
      have HB := Lib.hid (Below.refl w.heap.size w)
      have HK := Lib.hid (Bx.one w #[.int .i64 1, .int .i64 n] 65)
      cases hk : inB n 0 23
      · have HF : Hid (insText ⟨1, n⟩ = ⟨#[]⟩) := Lib.hid (by simp [insText, hk])
        have he : x.toList.isEmpty = true := by rw [HPE.out, hk]; rfl
        clear hx
        go_enter Tryd.func47, Tryd.ntmps47
        go_wp2_with (go_at_call 75; (with_reducible refine (HPN.out _).mono ?_); rintro e w2 ⟨rfl, hb⟩; have HB := Lib.hid (bl_call (by with_reducible repeat (first | exact HB.out | apply bl_alloc)) hb); have HK := Lib.hid (Bx.call (by with_reducible repeat (first | exact HK.out | apply Bx.alloc)) hb); obtain ⟨k0, -⟩ := HK.out; have c0 := blk_cell k0; have z0 := blk_lt k0; clear hb k0)
        go_ret
        exact ⟨by rw [HF.out]; rfl, HB.out⟩
      · have HF : Hid (insText ⟨1, n⟩ = opSp 1 ++ x) := Lib.hid (by simp [insText, hk, hx])
        have he : x.toList.isEmpty = false := by rw [HPE.out, hk]; rfl
        clear hx
        go_enter Tryd.func47, Tryd.ntmps47
        go_wp2_with (go_at_call 75; (with_reducible refine (HPN.out _).mono ?_); rintro e w2 ⟨rfl, hb⟩; have HB := Lib.hid (bl_call (by with_reducible repeat (first | exact HB.out | apply bl_alloc)) hb); have HK := Lib.hid (Bx.call (by with_reducible repeat (first | exact HK.out | apply Bx.alloc)) hb); obtain ⟨k0, -⟩ := HK.out; have c0 := blk_cell k0; have z0 := blk_lt k0; clear hb k0)
        go_ret
        exact ⟨by rw [HF.out]; rfl, HB.out⟩
    · have HF : Hid (insText ⟨2, n⟩ = opSp 2 ++ decT n) := Lib.hid (by simp [insText])
      refine (specInsText_word 2 n (decT n) ⟨#[99, 97, 108, 108]⟩ w (by decide) (by decide) (by decide) hsz (by decide) (by rfl) HDT.out).mono ?_
      rintro e w' ⟨rfl, hb⟩
      exact ⟨by rw [HF.out]; rfl, hb⟩
    · have HF : Hid (insText ⟨3, n⟩ = opSp 3 ++ decT n) := Lib.hid (by simp [insText])
      refine (specInsText_word 3 n (decT n) ⟨#[106, 117, 109, 112]⟩ w (by decide) (by decide) (by decide) hsz (by decide) (by rfl) HDT.out).mono ?_
      rintro e w' ⟨rfl, hb⟩
      exact ⟨by rw [HF.out]; rfl, hb⟩
    · have HF : Hid (insText ⟨4, n⟩ = opSp 4 ++ decT n) := Lib.hid (by simp [insText])
      refine (specInsText_word 4 n (decT n) ⟨#[122, 101, 114, 111]⟩ w (by decide) (by decide) (by decide) hsz (by decide) (by rfl) HDT.out).mono ?_
      rintro e w' ⟨rfl, hb⟩
      exact ⟨by rw [HF.out]; rfl, hb⟩
    · have HF : Hid (insText ⟨5, n⟩ = opSp 5 ++ decT n) := Lib.hid (by simp [insText])
      refine (specInsText_word 5 n (decT n) ⟨#[112, 111, 115]⟩ w (by decide) (by decide) (by decide) hsz (by decide) (by rfl) HDT.out).mono ?_
      rintro e w' ⟨rfl, hb⟩
      exact ⟨by rw [HF.out]; rfl, hb⟩
    · have HF : Hid (insText ⟨6, n⟩ = opWd 6) := Lib.hid (by simp [insText])
      go_enter Tryd.func47, Tryd.ntmps47
      go_wp2
      go_ret
      exact ⟨by rw [HF.out]; rfl, bl_alloc (Below.refl _ _) _⟩
    · have HF : Hid (insText ⟨7, n⟩ = opSp 7 ++ decT n) := Lib.hid (by simp [insText])
      refine (specInsText_word 7 n (decT n) ⟨#[110, 101, 120, 116]⟩ w (by decide) (by decide) (by decide) hsz (by decide) (by rfl) HDT.out).mono ?_
      rintro e w' ⟨rfl, hb⟩
      exact ⟨by rw [HF.out]; rfl, hb⟩
    · have HF : Hid (insText ⟨8, n⟩ = opWd 8) := Lib.hid (by simp [insText])
      go_enter Tryd.func47, Tryd.ntmps47
      go_wp2
      go_ret
      exact ⟨by rw [HF.out]; rfl, bl_alloc (Below.refl _ _) _⟩
    · have HF : Hid (insText ⟨9, n⟩ = opWd 9) := Lib.hid (by simp [insText])
      go_enter Tryd.func47, Tryd.ntmps47
      go_wp2
      go_ret
      exact ⟨by rw [HF.out]; rfl, bl_alloc (Below.refl _ _) _⟩
  · have HF : Hid (insText ⟨op, n⟩ = ⟨#[]⟩) := Lib.hid (by simp only [insText]; rw [if_neg (by omega), if_neg (by omega), if_neg (by omega)])
    have e1 : (op == 1) = false := beq_false_of_ne (by omega)
    have e6 : (op == 6) = false := beq_false_of_ne (by omega)
    have e8 : (op == 8) = false := beq_false_of_ne (by omega)
    have e9 : (op == 9) = false := beq_false_of_ne (by omega)
    have d1 : inB op 0 7 = false := by cases h : inB op 0 7; rfl; exact absurd (inB_iff.1 h) (by omega)
    clear hin
    go_enter Tryd.func47, Tryd.ntmps47
    go_wp2_with (go_at_call 74; refine (specInB_calls _ _ _ _).mono ?_; rintro e w' ⟨rfl, rfl⟩)
    go_ret
    exact ⟨by rw [HF.out]; rfl, bl_alloc (Below.refl _ _) _⟩

end Go.Proofs.YtfmmfgjelaekhaaDoor

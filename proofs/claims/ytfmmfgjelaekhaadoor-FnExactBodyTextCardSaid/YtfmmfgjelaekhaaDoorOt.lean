/- What an op is called: contracts of OpText, the program's and the reference's. -/
import Derived.Test.YtfmmfgjelaekhaaDoorDf
import Derived.Test.YtfmmfgjelaekhaaDoorPh
import Derived.Test.YtfmmfgjelaekhaaDoorV
set_option linter.unusedVariables false
set_option linter.unusedSimpArgs false
namespace Go.Proofs.YtfmmfgjelaekhaaDoor
open Go.RowKit

def ctlL : List ByteArray := [⟨#[105, 102]⟩, ⟨#[45, 105, 102]⟩, ⟨#[116, 104, 101, 110]⟩, ⟨#[102, 111, 114]⟩, ⟨#[110, 101, 120, 116]⟩, ⟨#[59]⟩]
def nameAt (zs : List DDef) (n : Int) : ByteArray := if n < zs.length then ((zs[n.toNat]?.map DDef.name).getD ByteArray.empty) else ByteArray.empty
/-- The text of an op. -/
def opText (zs : List DDef) (o : LOp) : ByteArray :=
  if opOk o = true then (if o.kind = 0 then decT o.n else if o.kind = 1 then primName o.n else if o.kind = 2 then nameAt zs o.n else (ctlL[(o.kind - 3).toNat]?).getD ByteArray.empty) else ByteArray.empty
theorem nameAt_val {ys zs : List DDef} (h : ys.map DDef.val = zs.map DDef.val) (n : Int) : nameAt ys n = nameAt zs n := by
  have e : ∀ l : List DDef, nameAt l n = if n < (l.map DDef.val).length then (((l.map DDef.val)[n.toNat]?.map Prod.fst).getD ByteArray.empty) else ByteArray.empty := fun l => by
    simp only [nameAt, List.length_map, List.getElem?_map, Option.map_map]
    rfl
  rw [e, e, h]
theorem opText_val {ys zs : List DDef} (h : ys.map DDef.val = zs.map DDef.val) (o : LOp) : opText ys o = opText zs o := by
  simp only [opText, nameAt_val h]
theorem opText_bad {zs : List DDef} {o : LOp} (h : opOk o = false) : opText zs o = ⟨#[]⟩ := by rw [opText, if_neg (by rw [h]; simp)]; rfl
theorem opOk_kinds {k n : Int} (h : opOk ⟨k, n⟩ = true) : k = 0 ∨ (k = 1 ∧ 0 ≤ n ∧ n ≤ 23) ∨ (k = 2 ∧ 0 ≤ n ∧ n ≤ 23) ∨ (n = 0 ∧ (k = 3 ∨ k = 4 ∨ k = 5 ∨ k = 6 ∨ k = 7 ∨ k = 8)) := by
  unfold opOk at h
  simp only at h
  split at h
  · exact .inl ‹_›
  · split at h
    · have := inB_iff.1 h
      omega
    · simp only [Bool.and_eq_true, decide_eq_true_eq] at h
      have := inB_iff.1 h.1
      omega

theorem control_calls (w : World) : Calls Tryd.prog 102 #[] w fun e w' => e = .returned (.slice (some ⟨w.heap.size, 0, none⟩) 6 6) ∧ w' = w.alloc (.cells #[.string ⟨#[105, 102]⟩, .string ⟨#[45, 105, 102]⟩, .string ⟨#[116, 104, 101, 110]⟩, .string ⟨#[102, 111, 114]⟩, .string ⟨#[110, 101, 120, 116]⟩, .string ⟨#[59]⟩] 9) := by
  go_enter Tryd.func102, Tryd.ntmps102
  go_wp2
  go_ret
  exact ⟨rfl, rfl⟩

set_option maxRecDepth 100000 in
set_option maxHeartbeats 2000000 in
theorem opText_calls (k n : Int) (A : Option Addr) (c : Nat) (zs : List DDef) (w : World) (hA : Asc w) (hP : Pow w) (hr : Rd w A (zs.flatMap DDef.enc)) (hn0 : -2147483648 ≤ n) (hn1 : n ≤ 2147483647) :
    Calls Tryd.prog 52 #[.agg #[.int .i64 k, .int .i32 n], .slice A zs.length c] w fun e w' => e = .returned (.string (opText zs ⟨k, n⟩)) ∧ Below w.heap.size w w' := by
  have HA := Lib.hid hA
  have HP := Lib.hid hP
  clear hA hP
  have HR := Lib.hid hr
  clear hr
  cases hok : opOk ⟨k, n⟩
  · have HF := Lib.hid (opText_bad (zs := zs) hok)
    go_enter Tryd.func52, Tryd.ntmps52
    go_wp2_with (go_at_call 101; (with_reducible refine (opOk_calls k n _ ?_ hn0 hn1).mono ?_); exact HA.out.call (bl_alloc (Below.refl _ _) _); rintro e w2 ⟨rfl, hb⟩; rw [hok]; have HB := Lib.hid (bl_call (bl_alloc (Below.refl _ w) _) hb); have HK := Lib.hid ((Bx.one w #[.int .i64 k, .int .i32 n] 71).call hb); obtain ⟨k0, -⟩ := HK.out; have c0 := blk_cell k0; have f0 := blk_frozen k0; have z0 := blk_lt k0; clear hb k0)
    go_ret
    exact ⟨by rw [HF.out]; rfl, HB.out⟩
  rcases opOk_kinds hok with rfl | ⟨rfl, b0, b1⟩ | ⟨rfl, b0, b1⟩ | ⟨rfl, hk⟩
  · have HF : Hid (opText zs ⟨0, n⟩ = decT n) := Lib.hid (by rw [opText, if_pos hok]; rfl)
    go_enter Tryd.func52, Tryd.ntmps52
    go_wp2_with (first | (go_at_call 101; (with_reducible refine (opOk_calls 0 n _ ?_ hn0 hn1).mono ?_); exact HA.out.call (bl_alloc (Below.refl _ _) _); rintro e w2 ⟨rfl, hb⟩; rw [hok]; have HB := Lib.hid (bl_call (bl_alloc (Below.refl _ w) _) hb); have HK := Lib.hid ((Bx.one w #[.int .i64 0, .int .i32 n] 71).call hb); obtain ⟨k0, -⟩ := HK.out; have c0 := blk_cell k0; have f0 := blk_frozen k0; have z0 := blk_lt k0; clear hb k0) | (go_at_call 100; (with_reducible refine (decText_calls n (by omega) (by omega) _ ?_).mono ?_); exact HP.out.call HB.out; rintro e w3 ⟨rfl, hb⟩; have HB3 := Lib.hid (bl_call HB.out hb); clear hb))
    go_ret
    exact ⟨by rw [HF.out]; rfl, HB3.out⟩
  · have HF : Hid (opText zs ⟨1, n⟩ = primName n) := Lib.hid (by rw [opText, if_pos hok]; rfl)
    go_enter Tryd.func52, Tryd.ntmps52
    go_wp2_with (first | (go_at_call 101; (with_reducible refine (opOk_calls 1 n _ ?_ hn0 hn1).mono ?_); exact HA.out.call (bl_alloc (Below.refl _ _) _); rintro e w2 ⟨rfl, hb⟩; rw [hok]; have HB := Lib.hid (bl_call (bl_alloc (Below.refl _ w) _) hb); have HK := Lib.hid ((Bx.one w #[.int .i64 1, .int .i32 n] 71).call hb); obtain ⟨k0, -⟩ := HK.out; have c0 := blk_cell k0; have f0 := blk_frozen k0; have z0 := blk_lt k0; clear hb k0) | (go_at_call 68; (with_reducible refine (primName_calls n _ ?_).mono ?_); exact HA.out.call HB.out; rintro e w3 ⟨rfl, hb⟩; have HB3 := Lib.hid (bl_call HB.out hb); clear hb))
    go_ret
    exact ⟨by rw [HF.out]; rfl, HB3.out⟩
  · obtain ⟨m, rfl⟩ := Int.eq_ofNat_of_zero_le b0
    by_cases hlt : m < zs.length
    · have hu : zs[m]? = some zs[m] := List.getElem?_eq_getElem hlt
      have HF : Hid (opText zs ⟨2, (m : Int)⟩ = zs[m].name) := Lib.hid (by
        rw [opText, if_pos hok]
        show nameAt zs (m : Int) = _
        rw [nameAt, if_pos (by omega), Int.toNat_natCast, hu]
        rfl)
      have i1 : (m : Int) < (zs.length : Int) := by omega
      have HCC := Lib.hid (HR.out.el DDef.enc_len hu (by omega))
      clear hu
      generalize zs[m] = z at HF HCC
      go_enter Tryd.func52, Tryd.ntmps52
      go_wp2_with (go_at_call 101; (with_reducible refine (opOk_calls 2 (m : Int) _ ?_ hn0 hn1).mono ?_); exact HA.out.call (bl_alloc (Below.refl _ _) _); rintro e w2 ⟨rfl, hb⟩; rw [hok]; have HB := Lib.hid (bl_call (bl_alloc (Below.refl _ w) _) hb); have HK := Lib.hid ((Bx.one w #[.int .i64 2, .int .i32 (m : Int)] 71).call hb); obtain ⟨k0, -⟩ := HK.out; have c0 := blk_cell k0; have f0 := blk_frozen k0; have z0 := blk_lt k0; clear hb k0; obtain ⟨ad, hAd, hc⟩ := HCC.out; subst hAd; have hcN := below_mono HB.out _ _ (hc 0 _ rfl); rw [Nat.add_zero] at hcN; clear hc)
      go_ret
      exact ⟨by rw [HF.out]; rfl, HB.out⟩
    · have HF : Hid (opText zs ⟨2, (m : Int)⟩ = ⟨#[]⟩) := Lib.hid (by
        rw [opText, if_pos hok]
        show nameAt zs (m : Int) = _
        rw [nameAt, if_neg (by omega)]
        rfl)
      have i1 : ¬ (m : Int) < (zs.length : Int) := by omega
      go_enter Tryd.func52, Tryd.ntmps52
      go_wp2_with (go_at_call 101; (with_reducible refine (opOk_calls 2 (m : Int) _ ?_ hn0 hn1).mono ?_); exact HA.out.call (bl_alloc (Below.refl _ _) _); rintro e w2 ⟨rfl, hb⟩; rw [hok]; have HB := Lib.hid (bl_call (bl_alloc (Below.refl _ w) _) hb); have HK := Lib.hid ((Bx.one w #[.int .i64 2, .int .i32 (m : Int)] 71).call hb); obtain ⟨k0, -⟩ := HK.out; have c0 := blk_cell k0; have f0 := blk_frozen k0; have z0 := blk_lt k0; clear hb k0)
      go_ret
      exact ⟨by rw [HF.out]; rfl, HB.out⟩
  · rcases hk with rfl | rfl | rfl | rfl | rfl | rfl
    · have HF : Hid (opText zs ⟨3, 0⟩ = ⟨#[105, 102]⟩) := Lib.hid (by rw [opText, if_pos hok]; rfl)
      go_enter Tryd.func52, Tryd.ntmps52
      go_wp2_with (go_at_call 101; (with_reducible refine (opOk_calls 3 0 _ ?_ hn0 hn1).mono ?_); exact HA.out.call (bl_alloc (Below.refl _ _) _); rintro e w2 ⟨rfl, hb⟩; rw [hok]; have HB := Lib.hid (bl_call (bl_alloc (Below.refl _ w) _) hb); have HK := Lib.hid ((Bx.one w #[.int .i64 3, .int .i32 0] 71).call hb); obtain ⟨k0, -⟩ := HK.out; have c0 := blk_cell k0; have f0 := blk_frozen k0; have z0 := blk_lt k0; clear hb k0)
      go_region_with (go_at_call 102; (with_reducible refine (control_calls _).mono ?_); rintro e w3 ⟨rfl, hw⟩; subst hw)
      all_goals (try go_wp2)
      all_goals go_ret
      all_goals exact ⟨by rw [HF.out]; rfl, by with_reducible repeat (first | exact HB.out | apply bl_alloc | apply bl_drew)⟩
    · have HF : Hid (opText zs ⟨4, 0⟩ = ⟨#[45, 105, 102]⟩) := Lib.hid (by rw [opText, if_pos hok]; rfl)
      go_enter Tryd.func52, Tryd.ntmps52
      go_wp2_with (go_at_call 101; (with_reducible refine (opOk_calls 4 0 _ ?_ hn0 hn1).mono ?_); exact HA.out.call (bl_alloc (Below.refl _ _) _); rintro e w2 ⟨rfl, hb⟩; rw [hok]; have HB := Lib.hid (bl_call (bl_alloc (Below.refl _ w) _) hb); have HK := Lib.hid ((Bx.one w #[.int .i64 4, .int .i32 0] 71).call hb); obtain ⟨k0, -⟩ := HK.out; have c0 := blk_cell k0; have f0 := blk_frozen k0; have z0 := blk_lt k0; clear hb k0)
      go_region_with (go_at_call 102; (with_reducible refine (control_calls _).mono ?_); rintro e w3 ⟨rfl, hw⟩; subst hw)
      all_goals (try go_wp2)
      all_goals go_ret
      all_goals exact ⟨by rw [HF.out]; rfl, by with_reducible repeat (first | exact HB.out | apply bl_alloc | apply bl_drew)⟩
    · have HF : Hid (opText zs ⟨5, 0⟩ = ⟨#[116, 104, 101, 110]⟩) := Lib.hid (by rw [opText, if_pos hok]; rfl)
      go_enter Tryd.func52, Tryd.ntmps52
      go_wp2_with (go_at_call 101; (with_reducible refine (opOk_calls 5 0 _ ?_ hn0 hn1).mono ?_); exact HA.out.call (bl_alloc (Below.refl _ _) _); rintro e w2 ⟨rfl, hb⟩; rw [hok]; have HB := Lib.hid (bl_call (bl_alloc (Below.refl _ w) _) hb); have HK := Lib.hid ((Bx.one w #[.int .i64 5, .int .i32 0] 71).call hb); obtain ⟨k0, -⟩ := HK.out; have c0 := blk_cell k0; have f0 := blk_frozen k0; have z0 := blk_lt k0; clear hb k0)
      go_region_with (go_at_call 102; (with_reducible refine (control_calls _).mono ?_); rintro e w3 ⟨rfl, hw⟩; subst hw)
      all_goals (try go_wp2)
      all_goals go_ret
      all_goals exact ⟨by rw [HF.out]; rfl, by with_reducible repeat (first | exact HB.out | apply bl_alloc | apply bl_drew)⟩
    · have HF : Hid (opText zs ⟨6, 0⟩ = ⟨#[102, 111, 114]⟩) := Lib.hid (by rw [opText, if_pos hok]; rfl)
      go_enter Tryd.func52, Tryd.ntmps52
      go_wp2_with (go_at_call 101; (with_reducible refine (opOk_calls 6 0 _ ?_ hn0 hn1).mono ?_); exact HA.out.call (bl_alloc (Below.refl _ _) _); rintro e w2 ⟨rfl, hb⟩; rw [hok]; have HB := Lib.hid (bl_call (bl_alloc (Below.refl _ w) _) hb); have HK := Lib.hid ((Bx.one w #[.int .i64 6, .int .i32 0] 71).call hb); obtain ⟨k0, -⟩ := HK.out; have c0 := blk_cell k0; have f0 := blk_frozen k0; have z0 := blk_lt k0; clear hb k0)
      go_region_with (go_at_call 102; (with_reducible refine (control_calls _).mono ?_); rintro e w3 ⟨rfl, hw⟩; subst hw)
      all_goals (try go_wp2)
      all_goals go_ret
      all_goals exact ⟨by rw [HF.out]; rfl, by with_reducible repeat (first | exact HB.out | apply bl_alloc | apply bl_drew)⟩
    · have HF : Hid (opText zs ⟨7, 0⟩ = ⟨#[110, 101, 120, 116]⟩) := Lib.hid (by rw [opText, if_pos hok]; rfl)
      go_enter Tryd.func52, Tryd.ntmps52
      go_wp2_with (go_at_call 101; (with_reducible refine (opOk_calls 7 0 _ ?_ hn0 hn1).mono ?_); exact HA.out.call (bl_alloc (Below.refl _ _) _); rintro e w2 ⟨rfl, hb⟩; rw [hok]; have HB := Lib.hid (bl_call (bl_alloc (Below.refl _ w) _) hb); have HK := Lib.hid ((Bx.one w #[.int .i64 7, .int .i32 0] 71).call hb); obtain ⟨k0, -⟩ := HK.out; have c0 := blk_cell k0; have f0 := blk_frozen k0; have z0 := blk_lt k0; clear hb k0)
      go_region_with (go_at_call 102; (with_reducible refine (control_calls _).mono ?_); rintro e w3 ⟨rfl, hw⟩; subst hw)
      all_goals (try go_wp2)
      all_goals go_ret
      all_goals exact ⟨by rw [HF.out]; rfl, by with_reducible repeat (first | exact HB.out | apply bl_alloc | apply bl_drew)⟩
    · have HF : Hid (opText zs ⟨8, 0⟩ = ⟨#[59]⟩) := Lib.hid (by rw [opText, if_pos hok]; rfl)
      go_enter Tryd.func52, Tryd.ntmps52
      go_wp2_with (go_at_call 101; (with_reducible refine (opOk_calls 8 0 _ ?_ hn0 hn1).mono ?_); exact HA.out.call (bl_alloc (Below.refl _ _) _); rintro e w2 ⟨rfl, hb⟩; rw [hok]; have HB := Lib.hid (bl_call (bl_alloc (Below.refl _ w) _) hb); have HK := Lib.hid ((Bx.one w #[.int .i64 8, .int .i32 0] 71).call hb); obtain ⟨k0, -⟩ := HK.out; have c0 := blk_cell k0; have f0 := blk_frozen k0; have z0 := blk_lt k0; clear hb k0)
      go_region_with (go_at_call 102; (with_reducible refine (control_calls _).mono ?_); rintro e w3 ⟨rfl, hw⟩; subst hw)
      all_goals (try go_wp2)
      all_goals go_ret
      all_goals exact ⟨by rw [HF.out]; rfl, by with_reducible repeat (first | exact HB.out | apply bl_alloc | apply bl_drew)⟩

set_option maxRecDepth 100000 in
set_option maxHeartbeats 2000000 in
theorem specOpText_calls (k n : Int) (A : Option Addr) (c : Nat) (zs : List DDef) (w : World) (hr : Rd w A (zs.flatMap DDef.enc)) (hn0 : -2147483648 ≤ n) (hn1 : n ≤ 2147483647) :
    Calls Tryd.prog 50 #[.agg #[.int .i64 k, .int .i32 n], .slice A zs.length c] w fun e w' => e = .returned (.string (opText zs ⟨k, n⟩)) ∧ Below w.heap.size w w' := by
  have HR := Lib.hid hr
  clear hr
  cases hok : opOk ⟨k, n⟩
  · have HF := Lib.hid (opText_bad (zs := zs) hok)
    go_enter Tryd.func50, Tryd.ntmps50
    go_wp2_with (go_at_call 80; (with_reducible refine (l09Op_calls k n _ hn0 hn1).mono ?_); rintro e w2 ⟨rfl, hb⟩; rw [hok]; have HB := Lib.hid (bl_call (bl_alloc (Below.refl _ w) _) hb); have HK := Lib.hid ((Bx.one w #[.int .i64 k, .int .i32 n] 71).call hb); obtain ⟨k0, -⟩ := HK.out; have c0 := blk_cell k0; have f0 := blk_frozen k0; have z0 := blk_lt k0; clear hb k0)
    go_ret
    exact ⟨by rw [HF.out]; rfl, HB.out⟩
  rcases opOk_kinds hok with rfl | ⟨rfl, b0, b1⟩ | ⟨rfl, b0, b1⟩ | ⟨rfl, hk⟩
  · have HF : Hid (opText zs ⟨0, n⟩ = decT n) := Lib.hid (by rw [opText, if_pos hok]; rfl)
    go_enter Tryd.func50, Tryd.ntmps50
    go_wp2_with (first | (go_at_call 80; (with_reducible refine (l09Op_calls 0 n _ hn0 hn1).mono ?_); rintro e w2 ⟨rfl, hb⟩; rw [hok]; have HB := Lib.hid (bl_call (bl_alloc (Below.refl _ w) _) hb); have HK := Lib.hid ((Bx.one w #[.int .i64 0, .int .i32 n] 71).call hb); obtain ⟨k0, -⟩ := HK.out; have c0 := blk_cell k0; have f0 := blk_frozen k0; have z0 := blk_lt k0; clear hb k0) | (go_at_call 99; (with_reducible refine (specDecText_calls n (by omega) (by omega) _).mono ?_); rintro e w3 ⟨rfl, rfl⟩; have HB3 := HB))
    go_ret
    exact ⟨by rw [HF.out]; rfl, HB3.out⟩
  · have HF : Hid (opText zs ⟨1, n⟩ = primName n) := Lib.hid (by rw [opText, if_pos hok]; rfl)
    go_enter Tryd.func50, Tryd.ntmps50
    go_wp2_with (first | (go_at_call 80; (with_reducible refine (l09Op_calls 1 n _ hn0 hn1).mono ?_); rintro e w2 ⟨rfl, hb⟩; rw [hok]; have HB := Lib.hid (bl_call (bl_alloc (Below.refl _ w) _) hb); have HK := Lib.hid ((Bx.one w #[.int .i64 1, .int .i32 n] 71).call hb); obtain ⟨k0, -⟩ := HK.out; have c0 := blk_cell k0; have f0 := blk_frozen k0; have z0 := blk_lt k0; clear hb k0) | (go_at_call 75; (with_reducible refine (specPrimName_calls n _).mono ?_); rintro e w3 ⟨rfl, hb⟩; have HB3 := Lib.hid (bl_call HB.out hb); clear hb))
    go_ret
    exact ⟨by rw [HF.out]; rfl, HB3.out⟩
  · obtain ⟨m, rfl⟩ := Int.eq_ofNat_of_zero_le b0
    by_cases hlt : m < zs.length
    · have hu : zs[m]? = some zs[m] := List.getElem?_eq_getElem hlt
      have HF : Hid (opText zs ⟨2, (m : Int)⟩ = zs[m].name) := Lib.hid (by
        rw [opText, if_pos hok]
        show nameAt zs (m : Int) = _
        rw [nameAt, if_pos (by omega), Int.toNat_natCast, hu]
        rfl)
      have i1 : (m : Int) < (zs.length : Int) := by omega
      have HCC := Lib.hid (HR.out.el DDef.enc_len hu (by omega))
      clear hu
      generalize zs[m] = z at HF HCC
      go_enter Tryd.func50, Tryd.ntmps50
      go_wp2_with (go_at_call 80; (with_reducible refine (l09Op_calls 2 (m : Int) _ hn0 hn1).mono ?_); rintro e w2 ⟨rfl, hb⟩; rw [hok]; have HB := Lib.hid (bl_call (bl_alloc (Below.refl _ w) _) hb); have HK := Lib.hid ((Bx.one w #[.int .i64 2, .int .i32 (m : Int)] 71).call hb); obtain ⟨k0, -⟩ := HK.out; have c0 := blk_cell k0; have f0 := blk_frozen k0; have z0 := blk_lt k0; clear hb k0; obtain ⟨ad, hAd, hc⟩ := HCC.out; subst hAd; have hcN := below_mono HB.out _ _ (hc 0 _ rfl); rw [Nat.add_zero] at hcN; clear hc)
      go_ret
      exact ⟨by rw [HF.out]; rfl, HB.out⟩
    · have HF : Hid (opText zs ⟨2, (m : Int)⟩ = ⟨#[]⟩) := Lib.hid (by
        rw [opText, if_pos hok]
        show nameAt zs (m : Int) = _
        rw [nameAt, if_neg (by omega)]
        rfl)
      have i1 : ¬ (m : Int) < (zs.length : Int) := by omega
      go_enter Tryd.func50, Tryd.ntmps50
      go_wp2_with (go_at_call 80; (with_reducible refine (l09Op_calls 2 (m : Int) _ hn0 hn1).mono ?_); rintro e w2 ⟨rfl, hb⟩; rw [hok]; have HB := Lib.hid (bl_call (bl_alloc (Below.refl _ w) _) hb); have HK := Lib.hid ((Bx.one w #[.int .i64 2, .int .i32 (m : Int)] 71).call hb); obtain ⟨k0, -⟩ := HK.out; have c0 := blk_cell k0; have f0 := blk_frozen k0; have z0 := blk_lt k0; clear hb k0)
      go_ret
      exact ⟨by rw [HF.out]; rfl, HB.out⟩
  · rcases hk with rfl | rfl | rfl | rfl | rfl | rfl
    · have HF : Hid (opText zs ⟨3, 0⟩ = ⟨#[105, 102]⟩) := Lib.hid (by rw [opText, if_pos hok]; rfl)
      go_enter Tryd.func50, Tryd.ntmps50
      go_wp2_with (go_at_call 80; (with_reducible refine (l09Op_calls 3 0 _ hn0 hn1).mono ?_); rintro e w2 ⟨rfl, hb⟩; rw [hok]; have HB := Lib.hid (bl_call (bl_alloc (Below.refl _ w) _) hb); have HK := Lib.hid ((Bx.one w #[.int .i64 3, .int .i32 0] 71).call hb); obtain ⟨k0, -⟩ := HK.out; have c0 := blk_cell k0; have f0 := blk_frozen k0; have z0 := blk_lt k0; clear hb k0)
      go_ret
      exact ⟨by rw [HF.out]; rfl, by with_reducible repeat (first | exact HB.out | apply bl_alloc)⟩
    · have HF : Hid (opText zs ⟨4, 0⟩ = ⟨#[45, 105, 102]⟩) := Lib.hid (by rw [opText, if_pos hok]; rfl)
      go_enter Tryd.func50, Tryd.ntmps50
      go_wp2_with (go_at_call 80; (with_reducible refine (l09Op_calls 4 0 _ hn0 hn1).mono ?_); rintro e w2 ⟨rfl, hb⟩; rw [hok]; have HB := Lib.hid (bl_call (bl_alloc (Below.refl _ w) _) hb); have HK := Lib.hid ((Bx.one w #[.int .i64 4, .int .i32 0] 71).call hb); obtain ⟨k0, -⟩ := HK.out; have c0 := blk_cell k0; have f0 := blk_frozen k0; have z0 := blk_lt k0; clear hb k0)
      go_ret
      exact ⟨by rw [HF.out]; rfl, by with_reducible repeat (first | exact HB.out | apply bl_alloc)⟩
    · have HF : Hid (opText zs ⟨5, 0⟩ = ⟨#[116, 104, 101, 110]⟩) := Lib.hid (by rw [opText, if_pos hok]; rfl)
      go_enter Tryd.func50, Tryd.ntmps50
      go_wp2_with (go_at_call 80; (with_reducible refine (l09Op_calls 5 0 _ hn0 hn1).mono ?_); rintro e w2 ⟨rfl, hb⟩; rw [hok]; have HB := Lib.hid (bl_call (bl_alloc (Below.refl _ w) _) hb); have HK := Lib.hid ((Bx.one w #[.int .i64 5, .int .i32 0] 71).call hb); obtain ⟨k0, -⟩ := HK.out; have c0 := blk_cell k0; have f0 := blk_frozen k0; have z0 := blk_lt k0; clear hb k0)
      go_ret
      exact ⟨by rw [HF.out]; rfl, by with_reducible repeat (first | exact HB.out | apply bl_alloc)⟩
    · have HF : Hid (opText zs ⟨6, 0⟩ = ⟨#[102, 111, 114]⟩) := Lib.hid (by rw [opText, if_pos hok]; rfl)
      go_enter Tryd.func50, Tryd.ntmps50
      go_wp2_with (go_at_call 80; (with_reducible refine (l09Op_calls 6 0 _ hn0 hn1).mono ?_); rintro e w2 ⟨rfl, hb⟩; rw [hok]; have HB := Lib.hid (bl_call (bl_alloc (Below.refl _ w) _) hb); have HK := Lib.hid ((Bx.one w #[.int .i64 6, .int .i32 0] 71).call hb); obtain ⟨k0, -⟩ := HK.out; have c0 := blk_cell k0; have f0 := blk_frozen k0; have z0 := blk_lt k0; clear hb k0)
      go_ret
      exact ⟨by rw [HF.out]; rfl, by with_reducible repeat (first | exact HB.out | apply bl_alloc)⟩
    · have HF : Hid (opText zs ⟨7, 0⟩ = ⟨#[110, 101, 120, 116]⟩) := Lib.hid (by rw [opText, if_pos hok]; rfl)
      go_enter Tryd.func50, Tryd.ntmps50
      go_wp2_with (go_at_call 80; (with_reducible refine (l09Op_calls 7 0 _ hn0 hn1).mono ?_); rintro e w2 ⟨rfl, hb⟩; rw [hok]; have HB := Lib.hid (bl_call (bl_alloc (Below.refl _ w) _) hb); have HK := Lib.hid ((Bx.one w #[.int .i64 7, .int .i32 0] 71).call hb); obtain ⟨k0, -⟩ := HK.out; have c0 := blk_cell k0; have f0 := blk_frozen k0; have z0 := blk_lt k0; clear hb k0)
      go_ret
      exact ⟨by rw [HF.out]; rfl, by with_reducible repeat (first | exact HB.out | apply bl_alloc)⟩
    · have HF : Hid (opText zs ⟨8, 0⟩ = ⟨#[59]⟩) := Lib.hid (by rw [opText, if_pos hok]; rfl)
      go_enter Tryd.func50, Tryd.ntmps50
      go_wp2_with (go_at_call 80; (with_reducible refine (l09Op_calls 8 0 _ hn0 hn1).mono ?_); rintro e w2 ⟨rfl, hb⟩; rw [hok]; have HB := Lib.hid (bl_call (bl_alloc (Below.refl _ w) _) hb); have HK := Lib.hid ((Bx.one w #[.int .i64 8, .int .i32 0] 71).call hb); obtain ⟨k0, -⟩ := HK.out; have c0 := blk_cell k0; have f0 := blk_frozen k0; have z0 := blk_lt k0; clear hb k0)
      go_ret
      exact ⟨by rw [HF.out]; rfl, by with_reducible repeat (first | exact HB.out | apply bl_alloc)⟩

end Go.Proofs.YtfmmfgjelaekhaaDoor

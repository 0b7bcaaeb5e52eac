/- The law FnExactFlatOf, walked. -/
import Derived.Test.YtfmmfgjelaekhaaDoorFo
set_option linter.unusedVariables false
set_option linter.unusedSimpArgs false
namespace Go.Proofs.YtfmmfgjelaekhaaDoor
open Go.RowKit

set_option maxRecDepth 100000 in
set_option maxHeartbeats 2000000 in
theorem lawFlatOf_calls (A : Option Addr) (c : Nat) (ts : List LTree) (w : World) (hA : Asc w) (hr : SlR w A ts) (hs : smallF ts) (ho : okF ts) (hn : ts.length ≤ 140737488355328) :
    Calls Tryd.prog 7 #[.slice A ts.length c] w fun e w' => e = .returned (.bool true) ∧ Below w.heap.size w w' := by
  have HA := Lib.hid hA
  have HR := Lib.hid hr
  have HA0 := Lib.hid hA
  have HR0 := Lib.hid hr
  have HO := Lib.hid ho
  have HC := Lib.hid (szTreeS_calls _ A c ts 1048576 w (Nat.le_refl _) hr hs hn (by omega) (by omega))
  clear hA hr hs ho
  by_cases hbig : (nodesF ts : Int) ≤ 1048576
  rotate_left
  · rw [szR_no hbig] at HC
    go_enter Tryd.func7, Tryd.ntmps7
    go_wp2_with fail
    refine HC.out.mono ?_
    rintro e w1 ⟨rfl, hb⟩
    have HB := Lib.hid hb
    clear hb
    go_wp2_with fail
    go_ret
    exact ⟨rfl, HB.out⟩
  rw [szR_yes hbig] at HC
  have hl : ¬ ((1048576 : Int) - nodesF ts < 0) := by omega
  have hfl := flatL_len ts
  go_enter Tryd.func7, Tryd.ntmps7
  go_wp2_with fail
  refine HC.out.mono ?_
  rintro e w0 ⟨rfl, hb⟩
  have HB := Lib.hid hb
  replace HR := Lib.hid (HR.out.call hb)
  replace HA := Lib.hid (HA.out.call hb)
  clear hb HC
  go_wp2_with fail
  refine (toTreeS_calls _ A c ts _ (Nat.le_refl _) HR.out (by omega)).mono ?_
  rintro e w1 ⟨g1, S1, rfl, R1, hb⟩
  replace HB := Lib.hid (bl_call HB.out hb)
  replace HR := Lib.hid (HR.out.call hb)
  replace HA := Lib.hid (HA.out.call hb)
  have HR1 := Lib.hid R1
  clear hb R1
  go_wp2_with fail
  refine (specFlatOf_calls (some ⟨g1, 0, none⟩) _ ts _ HR1.out.rd HO.out (by omega)).mono ?_
  rintro e w2 ⟨Bw, dw, bw, rfl, RW, _, hb⟩
  replace HB := Lib.hid (bl_call HB.out hb)
  replace HR := Lib.hid (HR.out.call hb)
  replace HA := Lib.hid (HA.out.call hb)
  replace HR1 := Lib.hid (HR1.out.call hb)
  have HRW := Lib.hid RW
  clear hb RW
  have HLW := Lib.hid HRW.out.lt
  have HB2 := Lib.hid HB.out.size
  go_wp2_with fail
  refine (toTreeS_calls _ A c ts _ (Nat.le_refl _) HR.out (by omega)).mono ?_
  rintro e w3 ⟨g2, S2, rfl, R2, hb⟩
  replace HB := Lib.hid (bl_call HB.out hb)
  replace HR := Lib.hid (HR.out.call hb)
  replace HA := Lib.hid (HA.out.call hb)
  replace HRW := Lib.hid (HRW.out.call hb)
  have HR2 := Lib.hid R2
  clear hb R2
  have HS2 : Hid (∀ x ∈ S2, bw ≠ some x) := Lib.hid (fun x hx e => by obtain ⟨_, _, _, _, _, _, _, h5⟩ := HR2.out; have := h5 x hx; have := HLW.out x e; omega)
  have HB3 := Lib.hid HB.out.size
  have HLO : Hid (∀ x ∈ S2, w.heap.size ≤ x) := Lib.hid (fun x hx => by obtain ⟨_, _, _, _, _, _, _, h5⟩ := HR2.out; exact Nat.le_trans HB2.out (h5 x hx))
  have HLT2 := Lib.hid HR2.out.lt
  have HLW3 := Lib.hid HRW.out.lt
  go_wp2_with fail
  refine (flatOf_calls (some ⟨g2, 0, none⟩) _ ts _ HA.out HR2.out.rd HO.out (by omega)).mono ?_
  rintro e w4 ⟨Bg, dg, bg, rfl, RG, hlo, hb⟩
  replace HB := Lib.hid (bl_call HB.out hb)
  replace HR := Lib.hid (HR.out.call hb)
  replace HA := Lib.hid (HA.out.call hb)
  replace HRW := Lib.hid (HRW.out.call hb)
  replace HR2 := Lib.hid (HR2.out.call hb)
  have HRG := Lib.hid RG
  clear hb RG
  have HSG : Hid (∀ x ∈ S2, bg ≠ some x) := Lib.hid (fun x hx e => by have := hlo x e; have := HLT2.out x hx; omega)
  have HGW : Hid (bw = none ∨ bw ≠ bg) := Lib.hid (by cases bw with | none => exact .inl rfl | some x => exact .inr (fun e => by have := hlo x e.symm; have := HLW3.out x rfl; omega))
  have HGL : Hid (∀ x, bg = some x → w.heap.size ≤ x) := Lib.hid (fun x e => Nat.le_trans HB3.out (hlo x e))
  clear hlo
  go_wp2_with fail
  refine (eqOpS_calls Bg Bw dg dw (flatL ts) _ HRG.out.rd HRW.out.rd (by omega)).mono ?_
  rintro e w5 ⟨rfl, hb⟩
  replace HB := Lib.hid (bl_call HB.out hb)
  replace HR := Lib.hid (HR.out.call hb)
  replace HA := Lib.hid (HA.out.call hb)
  replace HRW := Lib.hid (HRW.out.call hb)
  replace HR2 := Lib.hid (HR2.out.call hb)
  replace HRG := Lib.hid (HRG.out.call hb)
  clear hb
  go_wp2_with fail
  refine (toTreeS_calls _ A c ts _ (Nat.le_refl _) HR.out (by omega)).mono ?_
  rintro e w6 ⟨g3, S3, rfl, R3, hb⟩
  replace HB := Lib.hid (bl_call HB.out hb)
  replace HR := Lib.hid (HR.out.call hb)
  replace HA := Lib.hid (HA.out.call hb)
  replace HRW := Lib.hid (HRW.out.call hb)
  replace HR2 := Lib.hid (HR2.out.call hb)
  replace HRG := Lib.hid (HRG.out.call hb)
  have HR3 := Lib.hid R3
  clear hb R3
  go_wp2_with fail
  refine (eqTreeS_calls _ (some ⟨g2, 0, none⟩) (some ⟨g3, 0, none⟩) _ _ ts _ (Nat.le_refl _) HR2.out.rd HR3.out.rd (by omega)).mono ?_
  rintro e w7 ⟨rfl, hb⟩
  replace HB := Lib.hid (bl_call HB.out hb)
  replace HR := Lib.hid (HR.out.call hb)
  replace HA := Lib.hid (HA.out.call hb)
  replace HRW := Lib.hid (HRW.out.call hb)
  replace HR2 := Lib.hid (HR2.out.call hb)
  replace HRG := Lib.hid (HRG.out.call hb)
  replace HR3 := Lib.hid (HR3.out.call hb)
  clear hb
  go_wp2_with fail
  refine (markTreeS_calls _ _ (some ⟨g2, 0, none⟩) _ ts S2 1 _ (Nat.le_refl _) HR2.out (by omega) (by omega) (by omega)).mono ?_
  rintro e w9 ⟨rfl, SM, hc⟩
  have HRW9 := Lib.hid (HRW.out.keep (w1 := w9) fun x e => hc.block x (HRW.out.lt x e) (fun h => HS2.out x h e))
  have HRG9 := Lib.hid (HRG.out.keep (w1 := w9) fun x e => hc.block x (HRG.out.lt x e) (fun h => HSG.out x h e))
  have HB9 := Lib.hid (HB.out.trans (hc.below (fun x hx => HLO.out x hx) HB.out.size))
  have HR9 : Hid (SlR w9 A ts) := Lib.hid (HR0.out.keepB HB9.out)
  have HA9 := Lib.hid (HA0.out.call HB9.out)
  clear hc SM HRW HRG HB HR HA HR2 HR3
  have hkk : ¬ (1 + 2 * (nodesF ts : Int) < 0) := by omega
  go_wp2_with fail
  refine (eqOpS_calls Bg Bw dg dw (flatL ts) _ HRG9.out.rd HRW9.out.rd (by omega)).mono ?_
  rintro e w10 ⟨rfl, hb⟩
  replace HB9 := Lib.hid (bl_call HB9.out hb)
  replace HR9 := Lib.hid (HR9.out.call hb)
  replace HA9 := Lib.hid (HA9.out.call hb)
  replace HRW9 := Lib.hid (HRW9.out.call hb)
  replace HRG9 := Lib.hid (HRG9.out.call hb)
  clear hb
  go_wp2_with fail
  refine (markOpS_calls Bg dg (flatL ts) bg 1 _ HRG9.out (by omega) (by omega) (by omega)).mono ?_
  rintro e w11 ⟨rfl, RM, hg⟩
  have HRM := Lib.hid RM
  have HRW11 := Lib.hid (HRW9.out.grown hg HGW.out)
  have HB11 := Lib.hid (Below.grown HB9.out hg HB9.out.size HGL.out)
  have HR11 : Hid (SlR w11 A ts) := Lib.hid (HR0.out.keepB HB11.out)
  have HA11 := Lib.hid (HA0.out.call HB11.out)
  clear hg RM HRW9 HRG9 HB9 HR9 HA9
  go_wp2_with fail
  refine (heldOpS_calls Bg (flatL ts).length dg 1 _ HRM.out.rd (by omega) (by omega) (by omega)).mono ?_
  rintro e w12 ⟨rfl, hw⟩
  obtain rfl : w11 = w12 := hw.symm
  go_wp2_with fail
  refine (toTreeS_calls _ A c ts _ (Nat.le_refl _) HR11.out (by omega)).mono ?_
  rintro e w13 ⟨g4, S4, rfl, R4, hb⟩
  replace HB11 := Lib.hid (bl_call HB11.out hb)
  replace HR11 := Lib.hid (HR11.out.call hb)
  replace HA11 := Lib.hid (HA11.out.call hb)
  replace HRW11 := Lib.hid (HRW11.out.call hb)
  replace HRM := Lib.hid (HRM.out.call hb)
  have HR4 := Lib.hid R4
  clear hb R4
  go_wp2_with fail
  refine (flatOf_calls (some ⟨g4, 0, none⟩) _ ts _ HA11.out HR4.out.rd HO.out (by omega)).mono ?_
  rintro e w14 ⟨Bh, dh, bh, rfl, RH, _, hb⟩
  replace HB11 := Lib.hid (bl_call HB11.out hb)
  replace HR11 := Lib.hid (HR11.out.call hb)
  replace HA11 := Lib.hid (HA11.out.call hb)
  replace HRW11 := Lib.hid (HRW11.out.call hb)
  replace HRM := Lib.hid (HRM.out.call hb)
  replace HR4 := Lib.hid (HR4.out.call hb)
  have HRH := Lib.hid RH
  clear hb RH
  go_wp2_with fail
  refine (eqOpS_calls Bh Bw dh dw (flatL ts) _ HRH.out.rd HRW11.out.rd (by omega)).mono ?_
  rintro e w15 ⟨rfl, hb⟩
  replace HB11 := Lib.hid (bl_call HB11.out hb)
  replace HR11 := Lib.hid (HR11.out.call hb)
  replace HA11 := Lib.hid (HA11.out.call hb)
  replace HRW11 := Lib.hid (HRW11.out.call hb)
  replace HRM := Lib.hid (HRM.out.call hb)
  replace HR4 := Lib.hid (HR4.out.call hb)
  replace HRH := Lib.hid (HRH.out.call hb)
  clear hb
  go_wp2_with fail
  refine (heldOpS_calls Bg (flatL ts).length dg 1 _ HRM.out.rd (by omega) (by omega) (by omega)).mono ?_
  rintro e w16 ⟨rfl, hw⟩
  obtain rfl : w15 = w16 := hw.symm
  go_wp2_with fail
  go_ret
  exact ⟨rfl, HB11.out⟩
end Go.Proofs.YtfmmfgjelaekhaaDoor

/- The law FnExactTreeOf, walked. -/
import Derived.Test.YtfmmfgjelaekhaaDoorTb
import Derived.Test.YtfmmfgjelaekhaaDoorTm
set_option linter.unusedVariables false
set_option linter.unusedSimpArgs false
namespace Go.Proofs.YtfmmfgjelaekhaaDoor
open Go.RowKit

theorem treesF_nodes : ∀ (n : Nat) (r : List LOp), nodesF (treesF n r).1 + (treesF n r).2.length ≤ r.length
  | 0, r => by simp [treesF, nodesF]
  | _ + 1, [] => by simp [treesF, nodesF]
  | n + 1, o :: r => by
    rw [treesF]
    split
    · simp [nodesF]
    · split
      · have h1 := treesF_nodes n r
        have h2 := treesF_nodes n (treesF n r).2.tail
        simp only [nodesF, LTree.nodes, List.length_tail, List.length_cons] at h2 ⊢
        omega
      · have h1 := treesF_nodes n r
        simp only [nodesF, LTree.nodes, List.length_cons]
        omega
theorem treeOf_nodes (xs : List LOp) : nodesF (treeOf xs) ≤ xs.length := by
  unfold treeOf
  split
  · have := treesF_nodes (xs.length + 1) xs
    unfold treesT
    omega
  · simp [nodesF]
set_option maxRecDepth 100000 in
set_option maxHeartbeats 2000000 in
theorem lawTreeOf_calls (A : Option Addr) (c : Nat) (xs : List LOp) (w : World) (hA : Asc w) (hr : Rd w A (xs.flatMap LOp.enc)) (hx : ∀ x ∈ xs, x.ok32) (hn : xs.length ≤ 140737488355328) :
    Calls Tryd.prog 6 #[.slice A xs.length c] w fun e w' => e = .returned (.bool true) ∧ Below w.heap.size w w' := by
  have HA := Lib.hid hA
  have HR := Lib.hid hr
  have HA0 := Lib.hid hA
  have HR0 := Lib.hid hr
  have HX := Lib.hid hx
  clear hA hr hx
  by_cases hbig : 1048576 < xs.length
  · go_enter Tryd.func6, Tryd.ntmps6
    go_wp2_with (go_at_call 26; (with_reducible refine (szOpS_no _ _ _ _ _ ?_ ?_ ?_).mono ?_); omega; omega; omega; rintro e w' ⟨rfl, hw⟩; obtain rfl : w = w' := hw.symm)
    go_ret
    exact ⟨rfl, Below.refl _ _⟩
  have HB := Lib.hid (Below.refl w.heap.size w)
  have hl : ¬ ((1048576 : Int) - xs.length < 0) := by omega
  have hno := treeOf_nodes xs
  go_enter Tryd.func6, Tryd.ntmps6
  go_wp2_with (go_at_call 26; (with_reducible refine (szOpS_ok _ _ _ _ _ ?_ ?_).mono ?_); omega; omega; rintro e w' ⟨rfl, hw⟩; obtain rfl : w = w' := hw.symm)
  go_wp2_with fail
  refine (toOpS_calls A c xs _ HR.out (by omega)).mono ?_
  rintro e w1 ⟨g1, rfl, R1, _, hb⟩
  replace HB := Lib.hid (bl_call HB.out hb)
  replace HR := Lib.hid (HR.out.call hb)
  replace HA := Lib.hid (HA.out.call hb)
  have HR1 := Lib.hid R1
  clear hb R1
  go_wp2_with fail
  refine (specTreeOf_calls (some ⟨g1, 0, none⟩) _ xs _ HR1.out.rd HX.out (by omega)).mono ?_
  rintro e w2 ⟨Aw, cw, Sw, rfl, SW, hb⟩
  replace HB := Lib.hid (bl_call HB.out hb)
  replace HR := Lib.hid (HR.out.call hb)
  replace HA := Lib.hid (HA.out.call hb)
  replace HR1 := Lib.hid (HR1.out.call hb)
  have HSW := Lib.hid SW
  clear hb SW
  have HSWL := Lib.hid HSW.out.lt
  have HB2 := Lib.hid HB.out.size
  go_wp2_with fail
  refine (toOpS_calls A c xs _ HR.out (by omega)).mono ?_
  rintro e w3 ⟨g2, rfl, R2, hg2, hb⟩
  have HZ0 := Lib.hid hb.size
  replace HB := Lib.hid (bl_call HB.out hb)
  replace HR := Lib.hid (HR.out.call hb)
  replace HA := Lib.hid (HA.out.call hb)
  replace HSW := Lib.hid (HSW.out.call hb)
  have HR2 := Lib.hid R2
  clear hb R2
  have HZ3 := Lib.hid (Nat.le_refl w3.heap.size)
  have HLG : Hid (w.heap.size ≤ g2) := Lib.hid (Nat.le_trans HB2.out hg2)
  have HG2 := Lib.hid (fun (h : g2 ∈ Sw) => Nat.lt_irrefl _ (Nat.lt_of_lt_of_le (HSWL.out g2 h) hg2))
  clear hg2
  have HL2 := Lib.hid (HR2.out.lt _ rfl)
  have HZ23 : Hid (w2.heap.size ≤ w3.heap.size) := HZ0
  have HSGL0 := Lib.hid HB.out.size
  go_wp2_with fail
  refine (treeOf_calls (some ⟨g2, 0, none⟩) _ xs _ HA.out HR2.out.rd (Nat.le_refl _) HX.out (by omega)).mono ?_
  rintro e w4 ⟨Ag, cg, Sg, rfl, SG, hb⟩
  replace HB := Lib.hid (bl_call HB.out hb)
  replace HR := Lib.hid (HR.out.call hb)
  replace HA := Lib.hid (HA.out.call hb)
  replace HSW := Lib.hid (HSW.out.call hb)
  replace HR2 := Lib.hid (HR2.out.call hb)
  have HSG := Lib.hid SG
  clear hb SG
  have HSGL : Hid (∀ x ∈ Sg, w.heap.size ≤ x) := Lib.hid (fun x hx => by obtain ⟨_, _, _, _, _, _, _, h5⟩ := HSG.out; exact Nat.le_trans HSGL0.out (h5 x hx))
  have HG3 : Hid (g2 ∉ Sg) := Lib.hid (fun h => by obtain ⟨_, _, _, _, _, _, _, h5⟩ := HSG.out; exact Nat.lt_irrefl _ (Nat.lt_of_lt_of_le HL2.out (h5 g2 h)))
  have HG4 : Hid (∀ x ∈ Sg, x ∉ Sw) := Lib.hid (fun x hx hy => by obtain ⟨_, _, _, _, _, _, _, h5⟩ := HSG.out; exact Nat.lt_irrefl _ (Nat.lt_of_lt_of_le (Nat.lt_of_lt_of_le (HSWL.out x hy) HZ23.out) (h5 x hx)))
  go_wp2_with fail
  refine (eqTreeS_calls _ Ag Aw cg cw (treeOf xs) _ (Nat.le_refl _) HSG.out.rd HSW.out.rd (by omega)).mono ?_
  rintro e w5 ⟨rfl, hb⟩
  replace HB := Lib.hid (bl_call HB.out hb)
  replace HR := Lib.hid (HR.out.call hb)
  replace HA := Lib.hid (HA.out.call hb)
  replace HSW := Lib.hid (HSW.out.call hb)
  replace HR2 := Lib.hid (HR2.out.call hb)
  replace HSG := Lib.hid (HSG.out.call hb)
  clear hb
  go_wp2_with fail
  refine (toOpS_calls A c xs _ HR.out (by omega)).mono ?_
  rintro e w6 ⟨g3, rfl, R3, _, hb⟩
  replace HB := Lib.hid (bl_call HB.out hb)
  replace HR := Lib.hid (HR.out.call hb)
  replace HA := Lib.hid (HA.out.call hb)
  replace HSW := Lib.hid (HSW.out.call hb)
  replace HR2 := Lib.hid (HR2.out.call hb)
  replace HSG := Lib.hid (HSG.out.call hb)
  have HR3 := Lib.hid R3
  clear hb R3
  go_wp2_with fail
  refine (eqOpS_calls (some ⟨g2, 0, none⟩) (some ⟨g3, 0, none⟩) _ _ xs _ HR2.out.rd HR3.out.rd (by omega)).mono ?_
  rintro e w7 ⟨rfl, hb⟩
  replace HB := Lib.hid (bl_call HB.out hb)
  replace HR := Lib.hid (HR.out.call hb)
  replace HA := Lib.hid (HA.out.call hb)
  replace HSW := Lib.hid (HSW.out.call hb)
  replace HR2 := Lib.hid (HR2.out.call hb)
  replace HSG := Lib.hid (HSG.out.call hb)
  replace HR3 := Lib.hid (HR3.out.call hb)
  clear hb
  go_wp2_with fail
  refine (markOpS_calls (some ⟨g2, 0, none⟩) _ xs (some g2) 1 _ HR2.out (by omega) (by omega) (by omega)).mono ?_
  rintro e w9 ⟨rfl, R9, hg⟩
  have HSW9 := Lib.hid (HSW.out.keep (w1 := w9) fun x hx => hg.block x (HSW.out.lt x hx) (fun e => by cases e; exact HG2.out hx))
  have HSG9 := Lib.hid (HSG.out.keep (w1 := w9) fun x hx => hg.block x (HSG.out.lt x hx) (fun e => by cases e; exact HG3.out hx))
  have HB9 := Lib.hid (Below.grown HB.out hg HB.out.size (fun x e => by cases e; exact HLG.out))
  have HR9 : Hid (Rd w9 A (xs.flatMap LOp.enc)) := Lib.hid (HR0.out.keepB HB9.out)
  have HA9 := Lib.hid (HA0.out.call HB9.out)
  clear hg R9 HSW HSG HB HR HA HR2
  have hkk : ¬ (1 + 2 * (xs.length : Int) < 0) := by omega
  go_wp2_with fail
  refine (eqTreeS_calls _ Ag Aw cg cw (treeOf xs) _ (Nat.le_refl _) HSG9.out.rd HSW9.out.rd (by omega)).mono ?_
  rintro e w10 ⟨rfl, hb⟩
  replace HB9 := Lib.hid (bl_call HB9.out hb)
  replace HR9 := Lib.hid (HR9.out.call hb)
  replace HA9 := Lib.hid (HA9.out.call hb)
  replace HSW9 := Lib.hid (HSW9.out.call hb)
  replace HSG9 := Lib.hid (HSG9.out.call hb)
  clear hb
  go_wp2_with fail
  refine (markTreeS_calls _ _ Ag cg (treeOf xs) Sg 1 _ (Nat.le_refl _) HSG9.out (by omega) (by omega) (by omega)).mono ?_
  rintro e w11 ⟨rfl, SM, hc⟩
  have HSM := Lib.hid SM
  have HSW11 := Lib.hid (HSW9.out.keep (w1 := w11) fun x hx => hc.block x (HSW9.out.lt x hx) (fun h => HG4.out x h hx))
  have HB11 := Lib.hid (HB9.out.trans (hc.below (fun x hx => HSGL.out x hx) HB9.out.size))
  have HR11 : Hid (Rd w11 A (xs.flatMap LOp.enc)) := Lib.hid (HR0.out.keepB HB11.out)
  have HA11 := Lib.hid (HA0.out.call HB11.out)
  clear hc SM HSW9 HSG9 HB9 HR9 HA9
  go_wp2_with fail
  refine (heldTreeS_calls _ Ag cg (treeOf xs) 1 _ (Nat.le_refl _) HSM.out.rd (by omega) (by omega) (by omega)).mono ?_
  rintro e w12 ⟨rfl, rfl⟩
  go_wp2_with fail
  refine (toOpS_calls A c xs _ HR11.out (by omega)).mono ?_
  rintro e w13 ⟨g4, rfl, R4, _, hb⟩
  replace HB11 := Lib.hid (bl_call HB11.out hb)
  replace HR11 := Lib.hid (HR11.out.call hb)
  replace HA11 := Lib.hid (HA11.out.call hb)
  replace HSW11 := Lib.hid (HSW11.out.call hb)
  replace HSM := Lib.hid (HSM.out.call hb)
  have HR4 := Lib.hid R4
  clear hb R4
  go_wp2_with fail
  refine (treeOf_calls (some ⟨g4, 0, none⟩) _ xs _ HA11.out HR4.out.rd (Nat.le_refl _) HX.out (by omega)).mono ?_
  rintro e w14 ⟨Ah, ch, Sh, rfl, SH, hb⟩
  replace HB11 := Lib.hid (bl_call HB11.out hb)
  replace HR11 := Lib.hid (HR11.out.call hb)
  replace HA11 := Lib.hid (HA11.out.call hb)
  replace HSW11 := Lib.hid (HSW11.out.call hb)
  replace HSM := Lib.hid (HSM.out.call hb)
  replace HR4 := Lib.hid (HR4.out.call hb)
  have HSH := Lib.hid SH
  clear hb SH
  go_wp2_with fail
  refine (eqTreeS_calls _ Ah Aw ch cw (treeOf xs) _ (Nat.le_refl _) HSH.out.rd HSW11.out.rd (by omega)).mono ?_
  rintro e w15 ⟨rfl, hb⟩
  replace HB11 := Lib.hid (bl_call HB11.out hb)
  replace HR11 := Lib.hid (HR11.out.call hb)
  replace HA11 := Lib.hid (HA11.out.call hb)
  replace HSW11 := Lib.hid (HSW11.out.call hb)
  replace HSM := Lib.hid (HSM.out.call hb)
  replace HR4 := Lib.hid (HR4.out.call hb)
  replace HSH := Lib.hid (HSH.out.call hb)
  clear hb
  go_wp2_with fail
  refine (heldTreeS_calls _ Ag cg (treeOf xs) 1 _ (Nat.le_refl _) HSM.out.rd (by omega) (by omega) (by omega)).mono ?_
  rintro e w16 ⟨rfl, rfl⟩
  go_wp2_with fail
  go_ret
  exact ⟨rfl, HB11.out⟩
end Go.Proofs.YtfmmfgjelaekhaaDoor

/- The flat form of a forest: contracts of flat, l09Flat, FlatOf. -/
import Derived.Test.YtfmmfgjelaekhaaDoorFk
set_option linter.unusedVariables false
set_option linter.unusedSimpArgs false
namespace Go.Proofs.YtfmmfgjelaekhaaDoor
open Go.RowKit

theorem info_op : (Tryd.prog.info? 71).map (fun i => (i.zero, i.size, i.bytes)) = some (some (.agg #[.int .i64 0, .int .i32 0]), 2, 16) := by kernel_rfl
theorem grown_tr {w w1 w2 : World} {b0 b : Option Nat} (h : w.grownBy w1 b0) (k : w1.grownBy w2 b) (hb : b = b0 ∨ ∃ g, b = some g ∧ w.heap.size ≤ g) : w.grownBy w2 b0 :=
  ⟨k.os.trans h.os, k.tape.trans h.tape, k.output.trans h.output, Nat.le_trans h.size k.size, fun g hg hn => (k.block g (Nat.lt_of_lt_of_le hg h.size) (fun e => by
    rcases hb with hb | ⟨g', hb, hge⟩
    · exact hn (e.trans hb)
    · rw [hb] at e; cases e; omega)).trans (h.block g hg hn)⟩
theorem fresh_tr {w w1 : World} {b0 b b' : Option Nat} (hs : w.heap.size ≤ w1.heap.size) (h : b = b0 ∨ ∃ g, b = some g ∧ w.heap.size ≤ g) (k : b' = b ∨ ∃ g, b' = some g ∧ w1.heap.size ≤ g) : b' = b0 ∨ ∃ g, b' = some g ∧ w.heap.size ≤ g := by
  rcases k with rfl | ⟨g, rfl, hg⟩
  · exact h
  · exact .inr ⟨g, rfl, by omega⟩
theorem nodesF_el {ts : List LTree} {k : Nat} {t : LTree} (hu : ts[k]? = some t) : nodesF (ts.take k) + 1 + nodesF t.kids ≤ nodesF ts := by
  obtain ⟨hk, rfl⟩ := List.getElem?_eq_some_iff.1 hu
  have e : ts = ts.take k ++ ([ts[k]] ++ ts.drop (k + 1)) := by
    rw [List.singleton_append, ← List.drop_eq_getElem_cons hk, List.take_append_drop]
  have : nodesF ts = nodesF (ts.take k) + (nodesF [ts[k]] + nodesF (ts.drop (k + 1))) := by
    conv => lhs; rw [e]
    rw [nodesF_append, nodesF_append]
  rw [this]
  have h1 : nodesF [ts[k]] = ts[k].nodes := by simp [nodesF]
  rw [h1, nodes_eq]
  omega
theorem flat_enc1 (vs : List Value) (q : List LOp) (k n : Int) : (vs ++ q.flatMap LOp.enc) ++ (#[Value.int .i64 k, .int .i32 n] : Array Value).toList = vs ++ (q ++ [LOp.mk k n]).flatMap LOp.enc := by
  simp [LOp.enc]
set_option maxRecDepth 100000 in
set_option maxHeartbeats 4000000 in
theorem flat_calls : ∀ (N : Nat) (A : Option Addr) (c : Nat) (ts : List LTree) (B0 : Option Addr) (n0 d0 : Nat) (vs : List Value) (b0 : Option Nat) (w0 w : World), nodesF ts ≤ N → Below w0.heap.size w0 w → SlR w0 A ts → (∀ g, b0 = some g → w0.heap.size ≤ g) → Row w 71 2 B0 n0 d0 vs b0 → n0 + 2 * nodesF ts ≤ 8388608 →
    Calls Tryd.prog 90 #[.slice A ts.length c, .slice B0 n0 d0] w fun e w' => w.grownBy w' b0 ∧ ((∃ (q : List LOp) (L : Nat) (B : Option Addr) (d : Nat) (b : Option Nat), opsF ts = some q ∧ L = n0 + q.length ∧ e = .returned (.tuple #[.slice B L d, .bool true]) ∧ Row w' 71 2 B L d (vs ++ q.flatMap LOp.enc) b ∧ (b = b0 ∨ ∃ g, b = some g ∧ w.heap.size ≤ g)) ∨
      (BadF ts (60 - (n0 : Int)) ∧ e = .returned (.tuple #[.slice none 0 0, .bool false]))) := by
  intro N
  induction N using Nat.strongRecOn with
  | _ N ih =>
  intro A c ts B0 n0 d0 vs b0 w0 w hN hbw hA hlo hrow hcap
  have HA := Lib.hid hA
  have IH := Lib.hid ih
  have HBW := Lib.hid hbw
  have HLO := Lib.hid hlo
  have HR0 := Lib.hid hrow
  have hl := nodesF_len ts
  clear hA ih hbw hlo hrow
  go_enter Tryd.func90, Tryd.ntmps90
  go_wp2
  go_loopw [1, 13] (fun bv i wr => ∃ (k L : Nat) (q : List LOp) (B : Option Addr) (d : Nat) (b : Option Nat), k ≤ ts.length ∧ bv = .slice B L d ∧ i = .int .i64 k ∧ Hid (L = n0 + q.length) ∧ Hid (opsF (ts.take k) = some q) ∧ Hid (Row wr 71 2 B L d (vs ++ q.flatMap LOp.enc) b) ∧ Hid (w.grownBy wr b0) ∧ Hid (b = b0 ∨ ∃ g, b = some g ∧ w.heap.size ≤ g)) (fun _ i _ => ts.length - (intOf i).toNat)
  case atStart => exact ⟨0, n0, [], B0, d0, b0, Nat.zero_le _, rfl, rfl, Lib.hid rfl, Lib.hid rfl, Lib.hid (by simpa using HR0.out), Lib.hid (grownBy_refl w b0), Lib.hid (.inl rfl)⟩
  case round =>
    obtain ⟨k, L, q, B, d, b, hk, rfl, rfl, HL, HQ, HR, HG, HF⟩ := hrel
    by_cases hlt : k < ts.length
    · have hu : ts[k]? = some ts[k] := List.getElem?_eq_getElem hlt
      have HW : Hid (Below w0.heap.size w0 wr) := Lib.hid (Below.grown HBW.out HG.out HBW.out.size (fun g e => HLO.out g e))
      obtain ⟨ad, A', c', rfl, hc0, hc1, hc2, hcl, hAk⟩ := (HA.out.keepB HW.out).el hu
      have hnd := nodesF_el hu
      have hLb : L ≤ 8388608 := by have := opsF_len HQ.out; have := HL.out; omega
      have HBAD := Lib.hid (fun (lim : Int) => BadF.of (lim := lim) hu HQ.out)
      have HSN := Lib.hid (fun (x : List LOp) => opsF_snoc (b := x) hu HQ.out)
      have HAK : Hid (SlR w0 A' ts[k].kids) := Lib.hid (by
        obtain ⟨ad2, A2, c2, e2, _, _, hd2, _, h⟩ := HA.out.el hu
        cases e2
        have := (below_mono HW.out) _ _ hd2
        rw [hc2] at this
        cases this
        exact h)
      clear hu hAk
      generalize ts[k] = t at hc0 hc1 hc2 hcl hnd HBAD HSN HAK
      obtain ⟨kd, n, ks⟩ := t
      simp only [LTree.kind, LTree.n, LTree.kids] at hc0 hc1 hc2 hcl hnd HAK
      have i1 : (k : Int) < (ts.length : Int) := by omega
      have hbl : (ad.add (k * 3)).block < wr.heap.size := World.block_lt_of_cell? wr _ hc0
      by_cases hlong : 60 < L
      · have d60 : (60 : Int) < (L : Int) := by omega
        go_wp2_with fail
        go_ret2
        exact ⟨grown_tr HG.out (World.grownBy_alloc wr _ _) (.inl rfl), .inr ⟨HBAD.out _ fun x hx => by have := ops_pos hx; have := HL.out; omega, rfl⟩⟩
      have d60 : ¬ ((60 : Int) < (L : Int)) := by omega
      have hkd : (kd = 5 ∨ kd = 7) ∨ (kd = 3 ∨ kd = 4 ∨ kd = 6) ∨ (¬ kd = 3 ∧ ¬ kd = 4 ∧ ¬ kd = 6 ∧ ¬ kd = 5 ∧ ¬ kd = 7) := by omega
      rcases hkd with hkd | hkd | ⟨o3, o4, o6, o5, o7⟩
      · have HE : Hid (BadF ts (60 - (n0 : Int))) := Lib.hid (HBAD.out _ fun x hx => by rw [ops_end hkd] at hx; cases hx)
        rcases hkd with rfl | rfl
        all_goals
          go_wp2_with fail
          go_ret2
          exact ⟨grown_tr HG.out (World.grownBy_alloc wr _ _) (.inl rfl), .inr ⟨HE.out, rfl⟩⟩
      · rcases hkd with rfl | rfl | rfl
        · go_wp2_with (at_builtin; refine wp_append1s _ (m := wr.heap.size + 1) ?_ rfl _ _ 41 rfl 71 (.agg #[.int .i64 0, .int .i32 0]) 2 16 Tryd.underlying41 info_op rfl (by decide) rfl (HR.out.alloc _) rfl rfl ?_ ?_ ?_ ?_; simp; (intro u hu; simp at hu; rcases hu with rfl | rfl <;> rfl); (unfold maxLen; omega); omega; intro B2 d2 w3 b2 hR3 hg3 hb3; have HR3 := Lib.hid hR3; have HG3 := Lib.hid (World.grownBy.trans (World.grownBy_alloc wr (.cells #[.int .i64 3, .int .i32 n, .slice A' ks.length c'] 106) _) hg3); have HB3 : Hid (b2 = b ∨ ∃ g, b2 = some g ∧ wr.heap.size ≤ g) := Lib.hid (hb3.imp id fun ⟨g, e1, e2⟩ => ⟨g, e1, by omega⟩); have k1 : w3.heap[wr.heap.size]? = some (.cells #[.int .i64 3, .int .i32 n, .slice A' ks.length c'] 106 (0, 0)) := (hg3.block wr.heap.size (by simp) (fun e => by have := HR.out.lt _ e.symm; omega)).trans (blk_new wr _); have cc1 := blk_cell k1; have f1 := blk_frozen k1; have z1 := blk_lt k1; clear hR3 hg3 hb3 k1)
          have hm : nodesF ks < N := by omega
          have HW3 : Hid (Below w0.heap.size w0 w3) := Lib.hid (Below.grown HW.out HG3.out HW.out.size (fun g e => by
            rcases HF.out with h | ⟨g', h, hge⟩
            · exact HLO.out g (h.symm.trans e)
            · rw [h] at e; cases e; exact Nat.le_trans HBW.out.size hge))
          have HL3 : Hid (∀ g, b2 = some g → w0.heap.size ≤ g) := Lib.hid (fun g e => by
            rcases fresh_tr HG.out.size HF.out HB3.out with h | ⟨g', h, hge⟩
            · exact HLO.out g (h.symm.trans e)
            · rw [h] at e; cases e; exact Nat.le_trans HBW.out.size hge)
          have HR4 : Hid (Row w3 71 2 B2 (L + 1) d2 (vs ++ (q ++ [LOp.mk 3 n]).flatMap LOp.enc) b2) := Lib.hid (by rw [← flat_enc1]; exact HR3.out)
          have HIH := Lib.hid (IH.out (nodesF ks) hm A' c' ks B2 (L + 1) d2 _ b2 w0 w3 (Nat.le_refl _) HW3.out HAK.out HL3.out HR4.out (by have := HL.out; have := opsF_len HQ.out; omega))
          have HGA := Lib.hid (grown_tr HG.out HG3.out HF.out)
          have HFA := Lib.hid (fresh_tr HG.out.size HF.out HB3.out)
          refine HIH.out.mono ?_
          rintro e w4 ⟨hg4, ⟨q2, L2, B4, d4, b4, hq2, hL2, rfl, hr4, hb4⟩ | ⟨hbad, rfl⟩⟩
          · have HR5 := Lib.hid hr4
            have HGB := Lib.hid (grown_tr HGA.out hg4 HFA.out)
            have HFB := Lib.hid (fresh_tr HGA.out.size HFA.out hb4)
            have HQ2 := Lib.hid (HSN.out _ ((ops_nest (.inl rfl)).trans (by rw [hq2]; rfl)))
            have hL2b : L2 ≤ 8388608 + 8388608 := by have := opsF_len hq2; omega
            have HL2 := Lib.hid hL2
            clear hr4 hg4 hb4 hq2 hL2
            go_wp2_with (at_builtin; refine wp_append1s _ (m := w4.heap.size) rfl rfl _ _ 41 rfl 71 (.agg #[.int .i64 0, .int .i32 0]) 2 16 Tryd.underlying41 info_op rfl (by decide) rfl HR5.out rfl rfl ?_ ?_ ?_ ?_; (intro u hu; simp at hu; rcases hu with rfl | rfl <;> rfl); (unfold maxLen; omega); omega; intro B5 d5 w5 b5 hR6 hg6 hb6; have HR6 := Lib.hid hR6; have HG6 := Lib.hid hg6; have HB6 := Lib.hid hb6; clear hR6 hg6 hb6)
            go_roundw
            case rel => exact ⟨k + 1, L2 + 1, q ++ (LOp.mk 3 n :: (q2 ++ [LOp.mk 5 0])), B5, d5, b5, by omega, rfl, by go_num, Lib.hid (by simp; have := HL.out; have := HL2.out; omega), HQ2, Lib.hid (by have := HR6.out; rw [flat_enc1] at this; simpa using this), Lib.hid (grown_tr HGB.out HG6.out HFB.out), Lib.hid (fresh_tr HGB.out.size HFB.out HB6.out)⟩
            case measure => simp [intOf]; omega
          · go_wp2_with fail
            go_ret2
            exact ⟨grown_tr HGA.out hg4 HFA.out, .inr ⟨HBAD.out _ fun x hx => (by
              rw [ops_nest (.inl rfl)] at hx
              cases hq2 : opsF ks with
              | none => rw [hq2] at hx; cases hx
              | some q2 =>
                rw [hq2] at hx
                simp at hx
                subst hx
                have := hbad q2 hq2
                simp
                have := HL.out
                omega), rfl⟩⟩
        · go_wp2_with (at_builtin; refine wp_append1s _ (m := wr.heap.size + 1) ?_ rfl _ _ 41 rfl 71 (.agg #[.int .i64 0, .int .i32 0]) 2 16 Tryd.underlying41 info_op rfl (by decide) rfl (HR.out.alloc _) rfl rfl ?_ ?_ ?_ ?_; simp; (intro u hu; simp at hu; rcases hu with rfl | rfl <;> rfl); (unfold maxLen; omega); omega; intro B2 d2 w3 b2 hR3 hg3 hb3; have HR3 := Lib.hid hR3; have HG3 := Lib.hid (World.grownBy.trans (World.grownBy_alloc wr (.cells #[.int .i64 4, .int .i32 n, .slice A' ks.length c'] 106) _) hg3); have HB3 : Hid (b2 = b ∨ ∃ g, b2 = some g ∧ wr.heap.size ≤ g) := Lib.hid (hb3.imp id fun ⟨g, e1, e2⟩ => ⟨g, e1, by omega⟩); have k1 : w3.heap[wr.heap.size]? = some (.cells #[.int .i64 4, .int .i32 n, .slice A' ks.length c'] 106 (0, 0)) := (hg3.block wr.heap.size (by simp) (fun e => by have := HR.out.lt _ e.symm; omega)).trans (blk_new wr _); have cc1 := blk_cell k1; have f1 := blk_frozen k1; have z1 := blk_lt k1; clear hR3 hg3 hb3 k1)
          have hm : nodesF ks < N := by omega
          have HW3 : Hid (Below w0.heap.size w0 w3) := Lib.hid (Below.grown HW.out HG3.out HW.out.size (fun g e => by
            rcases HF.out with h | ⟨g', h, hge⟩
            · exact HLO.out g (h.symm.trans e)
            · rw [h] at e; cases e; exact Nat.le_trans HBW.out.size hge))
          have HL3 : Hid (∀ g, b2 = some g → w0.heap.size ≤ g) := Lib.hid (fun g e => by
            rcases fresh_tr HG.out.size HF.out HB3.out with h | ⟨g', h, hge⟩
            · exact HLO.out g (h.symm.trans e)
            · rw [h] at e; cases e; exact Nat.le_trans HBW.out.size hge)
          have HR4 : Hid (Row w3 71 2 B2 (L + 1) d2 (vs ++ (q ++ [LOp.mk 4 n]).flatMap LOp.enc) b2) := Lib.hid (by rw [← flat_enc1]; exact HR3.out)
          have HIH := Lib.hid (IH.out (nodesF ks) hm A' c' ks B2 (L + 1) d2 _ b2 w0 w3 (Nat.le_refl _) HW3.out HAK.out HL3.out HR4.out (by have := HL.out; have := opsF_len HQ.out; omega))
          have HGA := Lib.hid (grown_tr HG.out HG3.out HF.out)
          have HFA := Lib.hid (fresh_tr HG.out.size HF.out HB3.out)
          refine HIH.out.mono ?_
          rintro e w4 ⟨hg4, ⟨q2, L2, B4, d4, b4, hq2, hL2, rfl, hr4, hb4⟩ | ⟨hbad, rfl⟩⟩
          · have HR5 := Lib.hid hr4
            have HGB := Lib.hid (grown_tr HGA.out hg4 HFA.out)
            have HFB := Lib.hid (fresh_tr HGA.out.size HFA.out hb4)
            have HQ2 := Lib.hid (HSN.out _ ((ops_nest (.inr (.inl rfl))).trans (by rw [hq2]; rfl)))
            have hL2b : L2 ≤ 8388608 + 8388608 := by have := opsF_len hq2; omega
            have HL2 := Lib.hid hL2
            clear hr4 hg4 hb4 hq2 hL2
            go_wp2_with (at_builtin; refine wp_append1s _ (m := w4.heap.size) rfl rfl _ _ 41 rfl 71 (.agg #[.int .i64 0, .int .i32 0]) 2 16 Tryd.underlying41 info_op rfl (by decide) rfl HR5.out rfl rfl ?_ ?_ ?_ ?_; (intro u hu; simp at hu; rcases hu with rfl | rfl <;> rfl); (unfold maxLen; omega); omega; intro B5 d5 w5 b5 hR6 hg6 hb6; have HR6 := Lib.hid hR6; have HG6 := Lib.hid hg6; have HB6 := Lib.hid hb6; clear hR6 hg6 hb6)
            go_roundw
            case rel => exact ⟨k + 1, L2 + 1, q ++ (LOp.mk 4 n :: (q2 ++ [LOp.mk 5 0])), B5, d5, b5, by omega, rfl, by go_num, Lib.hid (by simp; have := HL.out; have := HL2.out; omega), HQ2, Lib.hid (by have := HR6.out; rw [flat_enc1] at this; simpa using this), Lib.hid (grown_tr HGB.out HG6.out HFB.out), Lib.hid (fresh_tr HGB.out.size HFB.out HB6.out)⟩
            case measure => simp [intOf]; omega
          · go_wp2_with fail
            go_ret2
            exact ⟨grown_tr HGA.out hg4 HFA.out, .inr ⟨HBAD.out _ fun x hx => (by
              rw [ops_nest (.inr (.inl rfl))] at hx
              cases hq2 : opsF ks with
              | none => rw [hq2] at hx; cases hx
              | some q2 =>
                rw [hq2] at hx
                simp at hx
                subst hx
                have := hbad q2 hq2
                simp
                have := HL.out
                omega), rfl⟩⟩
        · go_wp2_with (at_builtin; refine wp_append1s _ (m := wr.heap.size + 1) ?_ rfl _ _ 41 rfl 71 (.agg #[.int .i64 0, .int .i32 0]) 2 16 Tryd.underlying41 info_op rfl (by decide) rfl (HR.out.alloc _) rfl rfl ?_ ?_ ?_ ?_; simp; (intro u hu; simp at hu; rcases hu with rfl | rfl <;> rfl); (unfold maxLen; omega); omega; intro B2 d2 w3 b2 hR3 hg3 hb3; have HR3 := Lib.hid hR3; have HG3 := Lib.hid (World.grownBy.trans (World.grownBy_alloc wr (.cells #[.int .i64 6, .int .i32 n, .slice A' ks.length c'] 106) _) hg3); have HB3 : Hid (b2 = b ∨ ∃ g, b2 = some g ∧ wr.heap.size ≤ g) := Lib.hid (hb3.imp id fun ⟨g, e1, e2⟩ => ⟨g, e1, by omega⟩); have k1 : w3.heap[wr.heap.size]? = some (.cells #[.int .i64 6, .int .i32 n, .slice A' ks.length c'] 106 (0, 0)) := (hg3.block wr.heap.size (by simp) (fun e => by have := HR.out.lt _ e.symm; omega)).trans (blk_new wr _); have cc1 := blk_cell k1; have f1 := blk_frozen k1; have z1 := blk_lt k1; clear hR3 hg3 hb3 k1)
          have hm : nodesF ks < N := by omega
          have HW3 : Hid (Below w0.heap.size w0 w3) := Lib.hid (Below.grown HW.out HG3.out HW.out.size (fun g e => by
            rcases HF.out with h | ⟨g', h, hge⟩
            · exact HLO.out g (h.symm.trans e)
            · rw [h] at e; cases e; exact Nat.le_trans HBW.out.size hge))
          have HL3 : Hid (∀ g, b2 = some g → w0.heap.size ≤ g) := Lib.hid (fun g e => by
            rcases fresh_tr HG.out.size HF.out HB3.out with h | ⟨g', h, hge⟩
            · exact HLO.out g (h.symm.trans e)
            · rw [h] at e; cases e; exact Nat.le_trans HBW.out.size hge)
          have HR4 : Hid (Row w3 71 2 B2 (L + 1) d2 (vs ++ (q ++ [LOp.mk 6 n]).flatMap LOp.enc) b2) := Lib.hid (by rw [← flat_enc1]; exact HR3.out)
          have HIH := Lib.hid (IH.out (nodesF ks) hm A' c' ks B2 (L + 1) d2 _ b2 w0 w3 (Nat.le_refl _) HW3.out HAK.out HL3.out HR4.out (by have := HL.out; have := opsF_len HQ.out; omega))
          have HGA := Lib.hid (grown_tr HG.out HG3.out HF.out)
          have HFA := Lib.hid (fresh_tr HG.out.size HF.out HB3.out)
          refine HIH.out.mono ?_
          rintro e w4 ⟨hg4, ⟨q2, L2, B4, d4, b4, hq2, hL2, rfl, hr4, hb4⟩ | ⟨hbad, rfl⟩⟩
          · have HR5 := Lib.hid hr4
            have HGB := Lib.hid (grown_tr HGA.out hg4 HFA.out)
            have HFB := Lib.hid (fresh_tr HGA.out.size HFA.out hb4)
            have HQ2 := Lib.hid (HSN.out _ ((ops_nest (.inr (.inr rfl))).trans (by rw [hq2]; rfl)))
            have hL2b : L2 ≤ 8388608 + 8388608 := by have := opsF_len hq2; omega
            have HL2 := Lib.hid hL2
            clear hr4 hg4 hb4 hq2 hL2
            go_wp2_with (at_builtin; refine wp_append1s _ (m := w4.heap.size) rfl rfl _ _ 41 rfl 71 (.agg #[.int .i64 0, .int .i32 0]) 2 16 Tryd.underlying41 info_op rfl (by decide) rfl HR5.out rfl rfl ?_ ?_ ?_ ?_; (intro u hu; simp at hu; rcases hu with rfl | rfl <;> rfl); (unfold maxLen; omega); omega; intro B5 d5 w5 b5 hR6 hg6 hb6; have HR6 := Lib.hid hR6; have HG6 := Lib.hid hg6; have HB6 := Lib.hid hb6; clear hR6 hg6 hb6)
            go_roundw
            case rel => exact ⟨k + 1, L2 + 1, q ++ (LOp.mk 6 n :: (q2 ++ [LOp.mk 7 0])), B5, d5, b5, by omega, rfl, by go_num, Lib.hid (by simp; have := HL.out; have := HL2.out; omega), HQ2, Lib.hid (by have := HR6.out; rw [flat_enc1] at this; simpa using this), Lib.hid (grown_tr HGB.out HG6.out HFB.out), Lib.hid (fresh_tr HGB.out.size HFB.out HB6.out)⟩
            case measure => simp [intOf]; omega
          · go_wp2_with fail
            go_ret2
            exact ⟨grown_tr HGA.out hg4 HFA.out, .inr ⟨HBAD.out _ fun x hx => (by
              rw [ops_nest (.inr (.inr rfl))] at hx
              cases hq2 : opsF ks with
              | none => rw [hq2] at hx; cases hx
              | some q2 =>
                rw [hq2] at hx
                simp at hx
                subst hx
                have := hbad q2 hq2
                simp
                have := HL.out
                omega), rfl⟩⟩
      · have e3 : (kd == (3 : Int)) = false := by simp [o3]
        have m3 : (kd != (3 : Int)) = true := by simp [o3]
        have e4 : (kd == (4 : Int)) = false := by simp [o4]
        have m4 : (kd != (4 : Int)) = true := by simp [o4]
        have e5 : (kd == (5 : Int)) = false := by simp [o5]
        have m5 : (kd != (5 : Int)) = true := by simp [o5]
        have e6 : (kd == (6 : Int)) = false := by simp [o6]
        have m6 : (kd != (6 : Int)) = true := by simp [o6]
        have e7 : (kd == (7 : Int)) = false := by simp [o7]
        have m7 : (kd != (7 : Int)) = true := by simp [o7]
        by_cases hks : ks.length = 0
        · have hks0 : ks = [] := List.eq_nil_of_length_eq_zero hks
          subst hks0
          simp only [List.length_nil] at hc2 hks
          go_wp2_with (at_builtin; refine wp_append1s _ (m := wr.heap.size + 1) ?_ rfl _ _ 41 rfl 71 (.agg #[.int .i64 0, .int .i32 0]) 2 16 Tryd.underlying41 info_op rfl (by decide) rfl (HR.out.alloc _) rfl rfl ?_ ?_ ?_ ?_; simp; (intro u hu; simp at hu; rcases hu with rfl | rfl <;> rfl); (unfold maxLen; omega); omega; intro B2 d2 w3 b2 hR3 hg3 hb3; have HR3 := Lib.hid hR3; have HG3 := Lib.hid (World.grownBy.trans (World.grownBy_alloc wr (.cells #[.int .i64 kd, .int .i32 n, .slice A' 0 c'] 106) _) hg3); have HB3 : Hid (b2 = b ∨ ∃ g, b2 = some g ∧ wr.heap.size ≤ g) := Lib.hid (hb3.imp id fun ⟨g, e1, e2⟩ => ⟨g, e1, by omega⟩); have k1 : w3.heap[wr.heap.size]? = some (.cells #[.int .i64 kd, .int .i32 n, .slice A' 0 c'] 106 (0, 0)) := (hg3.block wr.heap.size (by simp) (fun e => by have := HR.out.lt _ e.symm; omega)).trans (blk_new wr _); have cc1 := blk_cell k1; have f1 := blk_frozen k1; have z1 := blk_lt k1; clear hR3 hg3 hb3 k1)
          go_roundw
          case rel => exact ⟨k + 1, L + 1, q ++ [LOp.mk kd n], B2, d2, b2, by omega, rfl, by go_num, Lib.hid (by simp; have := HL.out; omega), Lib.hid (HSN.out _ (by rw [ops_plain o5 o7 o3 o4 o6]; rfl)), Lib.hid (by rw [← flat_enc1]; exact HR3.out), Lib.hid (grown_tr HG.out HG3.out HF.out), Lib.hid (fresh_tr HG.out.size HF.out HB3.out)⟩
          case measure => simp [intOf]; omega
        · have dk : ((0 : Int) < (ks.length : Int)) := by omega
          go_wp2_with (at_builtin; refine wp_append1s _ (m := wr.heap.size + 1) ?_ rfl _ _ 41 rfl 71 (.agg #[.int .i64 0, .int .i32 0]) 2 16 Tryd.underlying41 info_op rfl (by decide) rfl (HR.out.alloc _) rfl rfl ?_ ?_ ?_ ?_; simp; (intro u hu; simp at hu; rcases hu with rfl | rfl <;> rfl); (unfold maxLen; omega); omega; intro B2 d2 w3 b2 hR3 hg3 hb3; have HR3 := Lib.hid hR3; have HG3 := Lib.hid (World.grownBy.trans (World.grownBy_alloc wr (.cells #[.int .i64 kd, .int .i32 n, .slice A' ks.length c'] 106) _) hg3); have HB3 : Hid (b2 = b ∨ ∃ g, b2 = some g ∧ wr.heap.size ≤ g) := Lib.hid (hb3.imp id fun ⟨g, e1, e2⟩ => ⟨g, e1, by omega⟩); have k1 : w3.heap[wr.heap.size]? = some (.cells #[.int .i64 kd, .int .i32 n, .slice A' ks.length c'] 106 (0, 0)) := (hg3.block wr.heap.size (by simp) (fun e => by have := HR.out.lt _ e.symm; omega)).trans (blk_new wr _); have cc1 := blk_cell k1; have f1 := blk_frozen k1; have z1 := blk_lt k1; clear hR3 hg3 hb3 k1)
          go_ret2
          exact ⟨grown_tr HG.out HG3.out HF.out, .inr ⟨HBAD.out _ fun x hx => (by rw [ops_plain o5 o7 o3 o4 o6, if_neg hks] at hx; cases hx), rfl⟩⟩
    · have : k = ts.length := by omega
      subst this
      rw [List.take_of_length_le (Nat.le_refl _)] at HQ
      go_wp2
      go_ret2
      exact ⟨HG.out, .inl ⟨q, L, B, d, b, HQ.out, HL.out, rfl, HR.out, HF.out⟩⟩
theorem flat_enc0 (q : List LOp) (k n : Int) : q.flatMap LOp.enc ++ (#[Value.int .i64 k, .int .i32 n] : Array Value).toList = (q ++ [LOp.mk k n]).flatMap LOp.enc := by
  simp [LOp.enc]
theorem enc_one {q : List LOp} : ∀ u ∈ q.flatMap LOp.enc, u.oneCell' = true := by
  intro u hu
  obtain ⟨x, _, hx⟩ := List.mem_flatMap.1 hu
  simp [LOp.enc] at hx
  rcases hx with rfl | rfl <;> rfl
set_option maxRecDepth 100000 in
set_option maxHeartbeats 4000000 in
theorem l09Flat_calls : ∀ (N : Nat) (A : Option Addr) (c : Nat) (ts : List LTree) (deep left : Int) (w : World), nodesF ts ≤ N → SlR w A ts → 0 ≤ left → left ≤ deep → deep ≤ 60 → nodesF ts ≤ 1048576 →
    Calls Tryd.prog 88 #[.slice A ts.length c, .int .i64 deep, .int .i64 left] w fun e w' => Below w.heap.size w w' ∧ ((∃ (q : List LOp) (L : Nat) (B : Option Addr) (d : Nat) (b : Option Nat), opsF ts = some q ∧ L = q.length ∧ e = .returned (.tuple #[.slice B L d, .bool true]) ∧ Row w' 71 2 B L d (q.flatMap LOp.enc) b ∧ (∀ g, b = some g → w.heap.size ≤ g)) ∨
      (BadF ts left ∧ e = .returned (.tuple #[.slice none 0 0, .bool false]))) := by
  intro N
  induction N using Nat.strongRecOn with
  | _ N ih =>
  intro A c ts deep left w hN hA hl0 hld hd hcap
  have HA := Lib.hid hA
  have IH := Lib.hid ih
  have hl := nodesF_len ts
  clear hA ih
  have ddeep : ¬ (deep < 0) := by omega
  go_enter Tryd.func88, Tryd.ntmps88
  go_wp2
  go_loopw [8, 9] (fun bv i wr => ∃ (k L : Nat) (q : List LOp) (B : Option Addr) (d : Nat) (b : Option Nat), k ≤ ts.length ∧ bv = .slice B L d ∧ i = .int .i64 k ∧ Hid (L = q.length) ∧ Hid (opsF (ts.take k) = some q) ∧ Hid (Row wr 71 2 B L d (q.flatMap LOp.enc) b) ∧ Hid (Below w.heap.size w wr) ∧ Hid (∀ g, b = some g → w.heap.size ≤ g)) (fun _ i _ => ts.length - (intOf i).toNat)
  case atStart => exact ⟨0, 0, [], some ⟨w.heap.size, 0, none⟩, 0, some w.heap.size, Nat.zero_le _, rfl, rfl, Lib.hid rfl, Lib.hid rfl, Lib.hid (Row.made w #[] 71 2 0 (by decide) rfl), Lib.hid (bl_alloc (Below.refl _ _) _), Lib.hid (fun g e => by cases e; exact Nat.le_refl _)⟩
  case round =>
    obtain ⟨k, L, q, B, d, b, hk, rfl, rfl, HL, HQ, HR, HW, HF⟩ := hrel
    by_cases hlt : k < ts.length
    · have hu : ts[k]? = some ts[k] := List.getElem?_eq_getElem hlt
      obtain ⟨ad, A', c', rfl, hc0, hc1, hc2, hcl, hAk⟩ := (HA.out.keepB HW.out).el hu
      have hnd := nodesF_el hu
      have hLb : L ≤ 8388608 := by have := opsF_len HQ.out; have := HL.out; omega
      have HBAD := Lib.hid (fun (lim : Int) => BadF.of (lim := lim) hu HQ.out)
      have HSN := Lib.hid (fun (x : List LOp) => opsF_snoc (b := x) hu HQ.out)
      have HAK : Hid (SlR w A' ts[k].kids) := Lib.hid (by
        obtain ⟨ad2, A2, c2, e2, _, _, hd2, _, h⟩ := HA.out.el hu
        cases e2
        have := (below_mono HW.out) _ _ hd2
        rw [hc2] at this
        cases this
        exact h)
      clear hu hAk
      generalize ts[k] = t at hc0 hc1 hc2 hcl hnd HBAD HSN HAK
      obtain ⟨kd, n, ks⟩ := t
      simp only [LTree.kind, LTree.n, LTree.kids] at hc0 hc1 hc2 hcl hnd HAK
      have i0 : (0 : Int) ≤ (k : Int) := by omega
      have i1 : (k : Int) < (ts.length : Int) := by omega
      have hbl : (ad.add (k * 3)).block < wr.heap.size := World.block_lt_of_cell? wr _ hc0
      by_cases hlong : left ≤ (L : Int)
      · go_wp2_with fail
        all_goals go_ret2
        all_goals exact ⟨bl_alloc HW.out _, .inr ⟨HBAD.out _ fun x hx => by have := ops_pos hx; have := HL.out; omega, rfl⟩⟩
      have hl1 : left ≤ 60 := by omega
      have hkd : (kd = 5 ∨ kd = 7) ∨ (kd = 3 ∨ kd = 4 ∨ kd = 6) ∨ (¬ kd = 3 ∧ ¬ kd = 4 ∧ ¬ kd = 6 ∧ ¬ kd = 5 ∧ ¬ kd = 7) := by omega
      rcases hkd with hkd | hkd | ⟨o3, o4, o6, o5, o7⟩
      · have HE : Hid (BadF ts left) := Lib.hid (HBAD.out _ fun x hx => by rw [ops_end hkd] at hx; cases hx)
        rcases hkd with rfl | rfl
        all_goals
          go_wp2_with fail
          go_ret2
          exact ⟨bl_alloc HW.out _, .inr ⟨HE.out, rfl⟩⟩
      · rcases hkd with rfl | rfl | rfl
        · go_wp2_with (at_builtin; refine wp_append1s _ (m := wr.heap.size + 1) ?_ rfl _ _ 41 rfl 71 (.agg #[.int .i64 0, .int .i32 0]) 2 16 Tryd.underlying41 info_op rfl (by decide) rfl (HR.out.alloc _) rfl rfl ?_ ?_ ?_ ?_; simp; (intro u hu; simp at hu; rcases hu with rfl | rfl <;> rfl); (unfold maxLen; omega); omega; intro B2 d2 w3 b2 hR3 hg3 hb3; have HR3 := Lib.hid hR3; have HF3 : Hid (∀ g, b2 = some g → w.heap.size ≤ g) := Lib.hid (fun g e => by (have := HW.out.size); rcases hb3 with h | ⟨g', h, hge⟩; (exact HF.out g (h.symm.trans e)); (rw [h] at e; cases e; omega)); have HN3 : Hid (b2 ≠ some wr.heap.size) := Lib.hid (fun e => by rcases hb3 with h | ⟨g', h, hge⟩; (have := HR.out.lt _ (h.symm.trans e); omega); (rw [h] at e; cases e; omega)); have HW3 := Lib.hid (Below.grown (bl_alloc HW.out (.cells #[.int .i64 3, .int .i32 n, .slice A' ks.length c'] 106)) hg3 (by simp; have := HW.out.size; omega) HF.out); have K3 : Hid (w3.heap[wr.heap.size]? = some (.cells #[.int .i64 3, .int .i32 n, .slice A' ks.length c'] 106 (0, 0))) := Lib.hid ((hg3.block wr.heap.size (by simp) (fun e => by have := HR.out.lt _ e.symm; omega)).trans (blk_new wr _)); have cc1 := blk_cell K3.out; have f1 := blk_frozen K3.out; have z1 := blk_lt K3.out; clear hR3 hg3 hb3)
          have hm : nodesF ks < N := by omega
          have HA3 : Hid (SlR w3 A' ks) := Lib.hid (HAK.out.keepB HW3.out)
          have HIH := Lib.hid (IH.out (nodesF ks) hm A' c' ks (deep - 1) (left - ((L : Int) + 1)) w3 (Nat.le_refl _) (HA3.out) (by omega) (by omega) (by omega) (by omega))
          refine HIH.out.mono ?_
          rintro e w4 ⟨hb4w, ⟨q2, L2, B4, d4, b4, hq2, hL2, rfl, hr4, hb4⟩ | ⟨hbad, rfl⟩⟩
          · have HR4 := Lib.hid hr4
            have HR3' := Lib.hid (HR3.out.call hb4w)
            have HW4 := Lib.hid (bl_call HW3.out hb4w)
            have K4 := Lib.hid (blk_call K3.out hb4w)
            have HN4 : Hid (w3.heap.size ≤ w4.heap.size) := Lib.hid hb4w.size
            have HQ2 := Lib.hid (HSN.out _ ((ops_nest (.inl rfl)).trans (by rw [hq2]; rfl)))
            have hL2b : L2 ≤ 8388608 := by have := opsF_len hq2; omega
            have HL2 := Lib.hid hL2
            clear hr4 hb4w hb4 hq2 hL2
            go_wp2_with (first | (at_builtin; refine wp_append _ rfl _ _ 41 rfl 71 (.agg #[.int .i64 0, .int .i32 0]) 2 16 Tryd.underlying41 info_op rfl (by decide) rfl HR3'.out rfl (by rw [flat_length LOp.enc_len, HL2.out]) HR4.out.rd enc_one (by unfold maxLen; omega) (by omega) ?_; intro B5 d5 w5 b5 hR5 hg5 hb5; have HR5 := Lib.hid hR5; have HW5 := Lib.hid (Below.grown HW4.out hg5 HW4.out.size HF3.out); have HF5 : Hid (∀ g, b5 = some g → w.heap.size ≤ g) := Lib.hid (fun g e => by (have := HW4.out.size); rcases hb5 with h | ⟨g', h, hge⟩; (exact HF3.out g (h.symm.trans e)); (rw [h] at e; cases e; omega)); have K5 := Lib.hid ((hg5.block wr.heap.size (blk_lt K4.out) (fun e => HN3.out e.symm)).trans K4.out); have cc2 := blk_cell K5.out; have f2 := blk_frozen K5.out; have z2 := blk_lt K5.out; clear hR5 hg5 hb5) | (at_builtin; refine wp_append1s _ (m := w5.heap.size) rfl rfl _ _ 41 rfl 71 (.agg #[.int .i64 0, .int .i32 0]) 2 16 Tryd.underlying41 info_op rfl (by decide) rfl HR5.out rfl rfl ?_ ?_ ?_ ?_; (intro u hu; simp at hu; rcases hu with rfl | rfl <;> rfl); (unfold maxLen; omega); omega; intro B6 d6 w6 b6 hR6 hg6 hb6; have HR6 := Lib.hid hR6; have HW6 := Lib.hid (Below.grown HW5.out hg6 HW5.out.size HF5.out); have HF6 : Hid (∀ g, b6 = some g → w.heap.size ≤ g) := Lib.hid (fun g e => by (have := HW5.out.size); rcases hb6 with h | ⟨g', h, hge⟩; (exact HF5.out g (h.symm.trans e)); (rw [h] at e; cases e; omega)); clear hR6 hg6 hb6))
            go_roundw
            case rel => exact ⟨k + 1, L + 1 + L2 + 1, q ++ (LOp.mk 3 n :: (q2 ++ [LOp.mk 5 0])), B6, d6, b6, by omega, rfl, by go_num, Lib.hid (by simp; have := HL.out; have := HL2.out; omega), HQ2, Lib.hid (by have := HR6.out; rw [flat_enc0, ← List.flatMap_append, flat_enc0] at this; simpa using this), HW6, HF6⟩
            case measure => simp [intOf]; omega
          · have HW4 := Lib.hid (bl_call HW3.out hb4w)
            go_wp2_with fail
            go_ret2
            exact ⟨HW4.out, .inr ⟨HBAD.out _ fun x hx => (by
              rw [ops_nest (.inl rfl)] at hx
              cases hq2 : opsF ks with
              | none => rw [hq2] at hx; cases hx
              | some q2 =>
                rw [hq2] at hx
                simp at hx
                subst hx
                have := hbad q2 hq2
                simp
                have := HL.out
                omega), rfl⟩⟩
        · go_wp2_with (at_builtin; refine wp_append1s _ (m := wr.heap.size + 1) ?_ rfl _ _ 41 rfl 71 (.agg #[.int .i64 0, .int .i32 0]) 2 16 Tryd.underlying41 info_op rfl (by decide) rfl (HR.out.alloc _) rfl rfl ?_ ?_ ?_ ?_; simp; (intro u hu; simp at hu; rcases hu with rfl | rfl <;> rfl); (unfold maxLen; omega); omega; intro B2 d2 w3 b2 hR3 hg3 hb3; have HR3 := Lib.hid hR3; have HF3 : Hid (∀ g, b2 = some g → w.heap.size ≤ g) := Lib.hid (fun g e => by (have := HW.out.size); rcases hb3 with h | ⟨g', h, hge⟩; (exact HF.out g (h.symm.trans e)); (rw [h] at e; cases e; omega)); have HN3 : Hid (b2 ≠ some wr.heap.size) := Lib.hid (fun e => by rcases hb3 with h | ⟨g', h, hge⟩; (have := HR.out.lt _ (h.symm.trans e); omega); (rw [h] at e; cases e; omega)); have HW3 := Lib.hid (Below.grown (bl_alloc HW.out (.cells #[.int .i64 4, .int .i32 n, .slice A' ks.length c'] 106)) hg3 (by simp; have := HW.out.size; omega) HF.out); have K3 : Hid (w3.heap[wr.heap.size]? = some (.cells #[.int .i64 4, .int .i32 n, .slice A' ks.length c'] 106 (0, 0))) := Lib.hid ((hg3.block wr.heap.size (by simp) (fun e => by have := HR.out.lt _ e.symm; omega)).trans (blk_new wr _)); have cc1 := blk_cell K3.out; have f1 := blk_frozen K3.out; have z1 := blk_lt K3.out; clear hR3 hg3 hb3)
          have hm : nodesF ks < N := by omega
          have HA3 : Hid (SlR w3 A' ks) := Lib.hid (HAK.out.keepB HW3.out)
          have HIH := Lib.hid (IH.out (nodesF ks) hm A' c' ks (deep - 1) (left - ((L : Int) + 1)) w3 (Nat.le_refl _) (HA3.out) (by omega) (by omega) (by omega) (by omega))
          refine HIH.out.mono ?_
          rintro e w4 ⟨hb4w, ⟨q2, L2, B4, d4, b4, hq2, hL2, rfl, hr4, hb4⟩ | ⟨hbad, rfl⟩⟩
          · have HR4 := Lib.hid hr4
            have HR3' := Lib.hid (HR3.out.call hb4w)
            have HW4 := Lib.hid (bl_call HW3.out hb4w)
            have K4 := Lib.hid (blk_call K3.out hb4w)
            have HN4 : Hid (w3.heap.size ≤ w4.heap.size) := Lib.hid hb4w.size
            have HQ2 := Lib.hid (HSN.out _ ((ops_nest (.inr (.inl rfl))).trans (by rw [hq2]; rfl)))
            have hL2b : L2 ≤ 8388608 := by have := opsF_len hq2; omega
            have HL2 := Lib.hid hL2
            clear hr4 hb4w hb4 hq2 hL2
            go_wp2_with (first | (at_builtin; refine wp_append _ rfl _ _ 41 rfl 71 (.agg #[.int .i64 0, .int .i32 0]) 2 16 Tryd.underlying41 info_op rfl (by decide) rfl HR3'.out rfl (by rw [flat_length LOp.enc_len, HL2.out]) HR4.out.rd enc_one (by unfold maxLen; omega) (by omega) ?_; intro B5 d5 w5 b5 hR5 hg5 hb5; have HR5 := Lib.hid hR5; have HW5 := Lib.hid (Below.grown HW4.out hg5 HW4.out.size HF3.out); have HF5 : Hid (∀ g, b5 = some g → w.heap.size ≤ g) := Lib.hid (fun g e => by (have := HW4.out.size); rcases hb5 with h | ⟨g', h, hge⟩; (exact HF3.out g (h.symm.trans e)); (rw [h] at e; cases e; omega)); have K5 := Lib.hid ((hg5.block wr.heap.size (blk_lt K4.out) (fun e => HN3.out e.symm)).trans K4.out); have cc2 := blk_cell K5.out; have f2 := blk_frozen K5.out; have z2 := blk_lt K5.out; clear hR5 hg5 hb5) | (at_builtin; refine wp_append1s _ (m := w5.heap.size) rfl rfl _ _ 41 rfl 71 (.agg #[.int .i64 0, .int .i32 0]) 2 16 Tryd.underlying41 info_op rfl (by decide) rfl HR5.out rfl rfl ?_ ?_ ?_ ?_; (intro u hu; simp at hu; rcases hu with rfl | rfl <;> rfl); (unfold maxLen; omega); omega; intro B6 d6 w6 b6 hR6 hg6 hb6; have HR6 := Lib.hid hR6; have HW6 := Lib.hid (Below.grown HW5.out hg6 HW5.out.size HF5.out); have HF6 : Hid (∀ g, b6 = some g → w.heap.size ≤ g) := Lib.hid (fun g e => by (have := HW5.out.size); rcases hb6 with h | ⟨g', h, hge⟩; (exact HF5.out g (h.symm.trans e)); (rw [h] at e; cases e; omega)); clear hR6 hg6 hb6))
            go_roundw
            case rel => exact ⟨k + 1, L + 1 + L2 + 1, q ++ (LOp.mk 4 n :: (q2 ++ [LOp.mk 5 0])), B6, d6, b6, by omega, rfl, by go_num, Lib.hid (by simp; have := HL.out; have := HL2.out; omega), HQ2, Lib.hid (by have := HR6.out; rw [flat_enc0, ← List.flatMap_append, flat_enc0] at this; simpa using this), HW6, HF6⟩
            case measure => simp [intOf]; omega
          · have HW4 := Lib.hid (bl_call HW3.out hb4w)
            go_wp2_with fail
            go_ret2
            exact ⟨HW4.out, .inr ⟨HBAD.out _ fun x hx => (by
              rw [ops_nest (.inr (.inl rfl))] at hx
              cases hq2 : opsF ks with
              | none => rw [hq2] at hx; cases hx
              | some q2 =>
                rw [hq2] at hx
                simp at hx
                subst hx
                have := hbad q2 hq2
                simp
                have := HL.out
                omega), rfl⟩⟩
        · go_wp2_with (at_builtin; refine wp_append1s _ (m := wr.heap.size + 1) ?_ rfl _ _ 41 rfl 71 (.agg #[.int .i64 0, .int .i32 0]) 2 16 Tryd.underlying41 info_op rfl (by decide) rfl (HR.out.alloc _) rfl rfl ?_ ?_ ?_ ?_; simp; (intro u hu; simp at hu; rcases hu with rfl | rfl <;> rfl); (unfold maxLen; omega); omega; intro B2 d2 w3 b2 hR3 hg3 hb3; have HR3 := Lib.hid hR3; have HF3 : Hid (∀ g, b2 = some g → w.heap.size ≤ g) := Lib.hid (fun g e => by (have := HW.out.size); rcases hb3 with h | ⟨g', h, hge⟩; (exact HF.out g (h.symm.trans e)); (rw [h] at e; cases e; omega)); have HN3 : Hid (b2 ≠ some wr.heap.size) := Lib.hid (fun e => by rcases hb3 with h | ⟨g', h, hge⟩; (have := HR.out.lt _ (h.symm.trans e); omega); (rw [h] at e; cases e; omega)); have HW3 := Lib.hid (Below.grown (bl_alloc HW.out (.cells #[.int .i64 6, .int .i32 n, .slice A' ks.length c'] 106)) hg3 (by simp; have := HW.out.size; omega) HF.out); have K3 : Hid (w3.heap[wr.heap.size]? = some (.cells #[.int .i64 6, .int .i32 n, .slice A' ks.length c'] 106 (0, 0))) := Lib.hid ((hg3.block wr.heap.size (by simp) (fun e => by have := HR.out.lt _ e.symm; omega)).trans (blk_new wr _)); have cc1 := blk_cell K3.out; have f1 := blk_frozen K3.out; have z1 := blk_lt K3.out; clear hR3 hg3 hb3)
          have hm : nodesF ks < N := by omega
          have HA3 : Hid (SlR w3 A' ks) := Lib.hid (HAK.out.keepB HW3.out)
          have HIH := Lib.hid (IH.out (nodesF ks) hm A' c' ks (deep - 1) (left - ((L : Int) + 1)) w3 (Nat.le_refl _) (HA3.out) (by omega) (by omega) (by omega) (by omega))
          refine HIH.out.mono ?_
          rintro e w4 ⟨hb4w, ⟨q2, L2, B4, d4, b4, hq2, hL2, rfl, hr4, hb4⟩ | ⟨hbad, rfl⟩⟩
          · have HR4 := Lib.hid hr4
            have HR3' := Lib.hid (HR3.out.call hb4w)
            have HW4 := Lib.hid (bl_call HW3.out hb4w)
            have K4 := Lib.hid (blk_call K3.out hb4w)
            have HN4 : Hid (w3.heap.size ≤ w4.heap.size) := Lib.hid hb4w.size
            have HQ2 := Lib.hid (HSN.out _ ((ops_nest (.inr (.inr rfl))).trans (by rw [hq2]; rfl)))
            have hL2b : L2 ≤ 8388608 := by have := opsF_len hq2; omega
            have HL2 := Lib.hid hL2
            clear hr4 hb4w hb4 hq2 hL2
            go_wp2_with (first | (at_builtin; refine wp_append _ rfl _ _ 41 rfl 71 (.agg #[.int .i64 0, .int .i32 0]) 2 16 Tryd.underlying41 info_op rfl (by decide) rfl HR3'.out rfl (by rw [flat_length LOp.enc_len, HL2.out]) HR4.out.rd enc_one (by unfold maxLen; omega) (by omega) ?_; intro B5 d5 w5 b5 hR5 hg5 hb5; have HR5 := Lib.hid hR5; have HW5 := Lib.hid (Below.grown HW4.out hg5 HW4.out.size HF3.out); have HF5 : Hid (∀ g, b5 = some g → w.heap.size ≤ g) := Lib.hid (fun g e => by (have := HW4.out.size); rcases hb5 with h | ⟨g', h, hge⟩; (exact HF3.out g (h.symm.trans e)); (rw [h] at e; cases e; omega)); have K5 := Lib.hid ((hg5.block wr.heap.size (blk_lt K4.out) (fun e => HN3.out e.symm)).trans K4.out); have cc2 := blk_cell K5.out; have f2 := blk_frozen K5.out; have z2 := blk_lt K5.out; clear hR5 hg5 hb5) | (at_builtin; refine wp_append1s _ (m := w5.heap.size) rfl rfl _ _ 41 rfl 71 (.agg #[.int .i64 0, .int .i32 0]) 2 16 Tryd.underlying41 info_op rfl (by decide) rfl HR5.out rfl rfl ?_ ?_ ?_ ?_; (intro u hu; simp at hu; rcases hu with rfl | rfl <;> rfl); (unfold maxLen; omega); omega; intro B6 d6 w6 b6 hR6 hg6 hb6; have HR6 := Lib.hid hR6; have HW6 := Lib.hid (Below.grown HW5.out hg6 HW5.out.size HF5.out); have HF6 : Hid (∀ g, b6 = some g → w.heap.size ≤ g) := Lib.hid (fun g e => by (have := HW5.out.size); rcases hb6 with h | ⟨g', h, hge⟩; (exact HF5.out g (h.symm.trans e)); (rw [h] at e; cases e; omega)); clear hR6 hg6 hb6))
            go_roundw
            case rel => exact ⟨k + 1, L + 1 + L2 + 1, q ++ (LOp.mk 6 n :: (q2 ++ [LOp.mk 7 0])), B6, d6, b6, by omega, rfl, by go_num, Lib.hid (by simp; have := HL.out; have := HL2.out; omega), HQ2, Lib.hid (by have := HR6.out; rw [flat_enc0, ← List.flatMap_append, flat_enc0] at this; simpa using this), HW6, HF6⟩
            case measure => simp [intOf]; omega
          · have HW4 := Lib.hid (bl_call HW3.out hb4w)
            go_wp2_with fail
            go_ret2
            exact ⟨HW4.out, .inr ⟨HBAD.out _ fun x hx => (by
              rw [ops_nest (.inr (.inr rfl))] at hx
              cases hq2 : opsF ks with
              | none => rw [hq2] at hx; cases hx
              | some q2 =>
                rw [hq2] at hx
                simp at hx
                subst hx
                have := hbad q2 hq2
                simp
                have := HL.out
                omega), rfl⟩⟩
      · have e3 : (kd == (3 : Int)) = false := by simp [o3]
        have m3 : (kd != (3 : Int)) = true := by simp [o3]
        have e4 : (kd == (4 : Int)) = false := by simp [o4]
        have m4 : (kd != (4 : Int)) = true := by simp [o4]
        have e5 : (kd == (5 : Int)) = false := by simp [o5]
        have m5 : (kd != (5 : Int)) = true := by simp [o5]
        have e6 : (kd == (6 : Int)) = false := by simp [o6]
        have m6 : (kd != (6 : Int)) = true := by simp [o6]
        have e7 : (kd == (7 : Int)) = false := by simp [o7]
        have m7 : (kd != (7 : Int)) = true := by simp [o7]
        by_cases hks : ks.length = 0
        · have hks0 : ks = [] := List.eq_nil_of_length_eq_zero hks
          subst hks0
          simp only [List.length_nil] at hc2 hks
          go_wp2_with (at_builtin; refine wp_append1s _ (m := wr.heap.size + 1) ?_ rfl _ _ 41 rfl 71 (.agg #[.int .i64 0, .int .i32 0]) 2 16 Tryd.underlying41 info_op rfl (by decide) rfl (HR.out.alloc _) rfl rfl ?_ ?_ ?_ ?_; simp; (intro u hu; simp at hu; rcases hu with rfl | rfl <;> rfl); (unfold maxLen; omega); omega; intro B2 d2 w3 b2 hR3 hg3 hb3; have HR3 := Lib.hid hR3; have HF3 : Hid (∀ g, b2 = some g → w.heap.size ≤ g) := Lib.hid (fun g e => by (have := HW.out.size); rcases hb3 with h | ⟨g', h, hge⟩; (exact HF.out g (h.symm.trans e)); (rw [h] at e; cases e; omega)); have HN3 : Hid (b2 ≠ some wr.heap.size) := Lib.hid (fun e => by rcases hb3 with h | ⟨g', h, hge⟩; (have := HR.out.lt _ (h.symm.trans e); omega); (rw [h] at e; cases e; omega)); have HW3 := Lib.hid (Below.grown (bl_alloc HW.out (.cells #[.int .i64 kd, .int .i32 n, .slice A' 0 c'] 106)) hg3 (by simp; have := HW.out.size; omega) HF.out); have K3 : Hid (w3.heap[wr.heap.size]? = some (.cells #[.int .i64 kd, .int .i32 n, .slice A' 0 c'] 106 (0, 0))) := Lib.hid ((hg3.block wr.heap.size (by simp) (fun e => by have := HR.out.lt _ e.symm; omega)).trans (blk_new wr _)); have cc1 := blk_cell K3.out; have f1 := blk_frozen K3.out; have z1 := blk_lt K3.out; clear hR3 hg3 hb3)
          go_roundw
          case rel => exact ⟨k + 1, L + 1, q ++ [LOp.mk kd n], B2, d2, b2, by omega, rfl, by go_num, Lib.hid (by simp; have := HL.out; omega), Lib.hid (HSN.out _ (by rw [ops_plain o5 o7 o3 o4 o6]; rfl)), Lib.hid (by rw [← flat_enc0]; exact HR3.out), HW3, HF3⟩
          case measure => simp [intOf]; omega
        · have dk : ((0 : Int) < (ks.length : Int)) := by omega
          go_wp2_with fail
          go_ret2
          exact ⟨bl_alloc HW.out _, .inr ⟨HBAD.out _ fun x hx => (by rw [ops_plain o5 o7 o3 o4 o6, if_neg hks] at hx; cases hx), rfl⟩⟩
    · have : k = ts.length := by omega
      subst this
      rw [List.take_of_length_le (Nat.le_refl _)] at HQ
      go_wp2
      go_ret2
      exact ⟨HW.out, .inl ⟨q, L, B, d, b, HQ.out, HL.out, rfl, HR.out, HF.out⟩⟩
end Go.Proofs.YtfmmfgjelaekhaaDoor

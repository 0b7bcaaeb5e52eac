/- Contracts of the laws' helpers over trees: eqTreeS, markTreeS, heldTreeS, szTreeS, toTreeS. -/
import Derived.Test.YtfmmfgjelaekhaaDoorTr
import Derived.Test.YtfmmfgjelaekhaaDoorProg
import Derived.Deep.QuietTactic
import Derived.BigQuiet
import Derived.StillTailTactics
import Derived.RegionTactic
import Derived.Outline
set_option linter.unusedVariables false
set_option linter.unusedSimpArgs false
namespace Go.Proofs.YtfmmfgjelaekhaaDoor
open Go.RowKit

set_option maxRecDepth 100000 in
theorem eqTree_of (k n : Int) (m : Nat) (A B : Option Addr) (c d : Nat) (w : World)
    (hk : ∀ W, Below w.heap.size w W → Calls Tryd.prog 33 #[.slice A m c, .slice B m d] W fun e w' => e = .returned (.bool true) ∧ Below W.heap.size W w') :
    Calls Tryd.prog 86 #[.agg #[.int .i64 k, .int .i32 n, .slice A m c], .agg #[.int .i64 k, .int .i32 n, .slice B m d]] w fun e w' => e = .returned (.bool true) ∧ Below w.heap.size w w' := by
  have HK := Lib.hid hk
  clear hk
  go_enter Tryd.func86, Tryd.ntmps86
  go_wp2_with fail
  refine (HK.out _ (bl_alloc (bl_alloc (Below.refl _ _) _) _)).mono ?_
  rintro e w1 ⟨rfl, hb⟩
  have HB := Lib.hid (bl_call (bl_alloc (bl_alloc (Below.refl _ w) _) _) hb)
  clear hb
  go_wp2_with fail
  go_ret
  exact ⟨rfl, HB.out⟩
set_option maxRecDepth 100000 in
set_option maxHeartbeats 1000000 in
theorem eqTreeS_calls : ∀ (N : Nat) (A B : Option Addr) (c d : Nat) (ts : List LTree) (w : World), nodesF ts ≤ N → SlR w A ts → SlR w B ts → nodesF ts ≤ 140737488355328 →
    Calls Tryd.prog 33 #[.slice A ts.length c, .slice B ts.length d] w fun e w' => e = .returned (.bool true) ∧ Below w.heap.size w w' := by
  intro N
  induction N using Nat.strongRecOn with
  | _ N ih =>
  intro A B c d ts w hN hA hB hn
  have HA := Lib.hid hA
  have HB := Lib.hid hB
  have IH := Lib.hid ih
  have hl := nodesF_len ts
  clear hA hB ih
  go_enter Tryd.func33, Tryd.ntmps33
  go_wp2
  go_loopw [5] (fun i wr => ∃ k : Nat, k ≤ ts.length ∧ i = .int .i64 k ∧ Hid (Below w.heap.size w wr)) (fun i _ => ts.length - (intOf i).toNat)
  case atStart => exact ⟨0, Nat.zero_le _, rfl, Lib.hid (Below.refl _ _)⟩
  case round =>
    obtain ⟨k, hk, rfl, HW⟩ := hrel
    by_cases hlt : k < ts.length
    · have hu : ts[k]? = some ts[k] := List.getElem?_eq_getElem hlt
      obtain ⟨ad, A', c', rfl, hc0, hc1, hc2, _, hAk⟩ := (HA.out.keepB HW.out).el hu
      obtain ⟨bd, B', d', rfl, hd0, hd1, hd2, _, hBk⟩ := (HB.out.keepB HW.out).el hu
      have hnd := nodesF_at hu
      rw [nodes_eq] at hnd
      have HAK := Lib.hid hAk
      have HBK := Lib.hid hBk
      clear hu hAk hBk
      generalize ts[k] = t at hc0 hc1 hc2 hd0 hd1 hd2 hnd HAK HBK
      obtain ⟨kd, n, ks⟩ := t
      simp only [LTree.kind, LTree.n, LTree.kids] at hc0 hc1 hc2 hd0 hd1 hd2 hnd HAK HBK
      have i0 : (0 : Int) ≤ (k : Int) := by omega
      have i1 : (k : Int) < (ts.length : Int) := by omega
      have HWd := Lib.hid (bl_drew HW.out)
      have hm : nodesF ks < N := by omega
      have hm2 : nodesF ks ≤ 140737488355328 := by omega
      go_wp2
      go_still_tail 8, (by kernel_rfl)
      go_wp2_with (go_at_call 86; refine (eqTree_of kd n ks.length A' B' c' d' _ (fun W hW => IH.out (nodesF ks) hm A' B' c' d' ks W (Nat.le_refl _) ((HAK.out.mono (mono_drewN wr 1)).keepB hW) ((HBK.out.mono (mono_drewN wr 1)).keepB hW) hm2)).mono ?_; rintro e w2 ⟨rfl, hb⟩)
      go_roundw
      case rel => exact ⟨k + 1, by omega, by go_num, Lib.hid (bl_call HWd.out hb)⟩
      case measure => simp [intOf]; omega
    · have : k = ts.length := by omega
      subst this
      go_wp2
      go_ret
      exact ⟨rfl, HW.out⟩
set_option maxRecDepth 100000 in
set_option maxHeartbeats 1000000 in
theorem heldTreeS_calls : ∀ (N : Nat) (A : Option Addr) (c : Nat) (ts : List LTree) (k0 : Int) (w : World), nodesF ts ≤ N → SlR w A (mkF k0 ts) → 0 ≤ k0 → k0 + 2 * nodesF ts ≤ 1152921504606846976 → nodesF ts ≤ 140737488355328 →
    Calls Tryd.prog 36 #[.slice A ts.length c, .int .i64 k0] w fun e w' => e = .returned (.int .i64 (k0 + 2 * nodesF ts)) ∧ w = w' := by
  intro N
  induction N using Nat.strongRecOn with
  | _ N ih =>
  intro A c ts k0 w hN hA hk0 hk1 hn
  have HA := Lib.hid hA
  have IH := Lib.hid ih
  have hl := nodesF_len ts
  clear hA ih
  go_enter Tryd.func36, Tryd.ntmps36
  go_wp2
  go_loop [1, 5] (fun kv i => ∃ k : Nat, k ≤ ts.length ∧ i = .int .i64 k ∧ kv = .int .i64 (k0 + 2 * (nodesF (ts.take k) : Int))) (fun _ i => ts.length - (intOf i).toNat)
  case atStart => exact ⟨0, Nat.zero_le _, rfl, by simp [nodesF]⟩
  case round =>
    obtain ⟨k, hk, rfl, rfl⟩ := hrel
    by_cases hlt : k < ts.length
    · have hu : ts[k]? = some ts[k] := List.getElem?_eq_getElem hlt
      obtain ⟨ad, A', c', rfl, hc0, hc1, hc2, _, hAk⟩ := HA.out.el (mkF_at k0 hu)
      have hnd := nodesF_at hu
      have hnx := nodesF_take hu
      rw [nodes_eq] at hnd hnx
      have HAK := Lib.hid hAk
      have HNX := Lib.hid hnx
      clear hu hAk hnx
      generalize ts[k] = t at hc0 hc1 hc2 hnd HAK HNX
      obtain ⟨kd, n, ks⟩ := t
      simp only [mkTr, LTree.kind, LTree.n, LTree.kids] at hc0 hc1 hc2 hnd HAK HNX
      rw [mkF_length] at hc2
      generalize nodesF (ts.take k) = q at hc0 hc1 hc2 hnd HAK HNX ⊢
      have i1 : (k : Int) < (ts.length : Int) := by omega
      have b0 : 0 ≤ k0 + 2 * (q : Int) := by omega
      have b1 : k0 + 2 * (q : Int) ≤ 2305843009213693952 := by omega
      have hm : nodesF ks < N := by omega
      have hm2 : nodesF ks ≤ 140737488355328 := by omega
      have HIH := Lib.hid (IH.out (nodesF ks) hm A' c' ks (k0 + 2 * (q : Int) + 2) w (Nat.le_refl _) HAK.out (by omega) (by omega) hm2)
      rw [show k0 + 2 * (q : Int) + 2 = k0 + 2 * (q : Int) + 1 + 1 by omega] at HIH
      have HB2 : Hid ((k0 + 2 * (q : Int) + 1 + 1 + 2 * (nodesF ks : Int)) = k0 + 2 * ((nodesF (ts.take (k + 1)) : Nat) : Int)) := Lib.hid (by rw [HNX.out]; omega)
      have b2 : 0 ≤ k0 + 2 * (q : Int) + 1 + 1 + 2 * (nodesF ks : Int) := by omega
      go_wp2_with (go_at_call 36; refine HIH.out.mono ?_; rintro e w' ⟨rfl, rfl⟩)
      go_round
      case rel => exact ⟨k + 1, by omega, by go_num, by rw [← HB2.out]⟩
      case measure => simp [intOf]; omega
    · have : k = ts.length := by omega
      subst this
      rw [List.take_of_length_le (Nat.le_refl _)]
      go_wp2
      go_ret
      exact ⟨rfl, rfl⟩
theorem set_mid {α : Type} {c1 r : List α} {a b x y : α} {p : Nat} (h : c1.length = p) : ((c1 ++ a :: b :: r).set p x).set (p + 1) y = c1 ++ x :: y :: r := by
  subst h
  rw [List.set_append_right _ _ (Nat.le_refl _), Nat.sub_self, List.set_cons_zero, List.set_append_right _ _ (Nat.le_succ _), show c1.length + 1 - c1.length = 0 + 1 by omega, List.set_cons_succ, List.set_cons_zero]
theorem at_mid {α : Type} {c1 r : List α} {p : Nat} (h : c1.length = p) (j : Nat) : (c1 ++ r)[p + j]? = r[j]? := by
  subst h
  rw [List.getElem?_append_right (by omega), Nat.add_sub_cancel_left]
set_option maxRecDepth 100000 in
set_option maxHeartbeats 2000000 in
theorem markTreeS_calls : ∀ (N : Nat) (lo : Nat) (A : Option Addr) (c : Nat) (ts : List LTree) (S : List Nat) (k0 : Int) (w : World), nodesF ts ≤ N → SlO w 106 lo A c ts S → 0 ≤ k0 → k0 + 2 * nodesF ts ≤ 1152921504606846976 → nodesF ts ≤ 140737488355328 →
    Calls Tryd.prog 35 #[.slice A ts.length c, .int .i64 k0] w fun e w' => e = .returned (.int .i64 (k0 + 2 * nodesF ts)) ∧ SlO w' 106 lo A c (mkF k0 ts) S ∧ Chg w w' S := by
  intro N
  induction N using Nat.strongRecOn with
  | _ N ih =>
  intro lo A c ts S k0 w hN hS hk0 hk1 hn
  have HS := Lib.hid hS
  have IH := Lib.hid ih
  have hl := nodesF_len ts
  clear hS ih
  go_enter Tryd.func35, Tryd.ntmps35
  go_wp2
  go_loopw [1, 5] (fun kv i wr => ∃ k : Nat, k ≤ ts.length ∧ i = .int .i64 k ∧ kv = .int .i64 (k0 + 2 * (nodesF (ts.take k) : Int)) ∧ Hid (SlO wr 106 lo A c (mkF k0 (ts.take k) ++ ts.drop k) S) ∧ Hid (Chg w wr S)) (fun _ i _ => ts.length - (intOf i).toNat)
  case atStart => exact ⟨0, Nat.zero_le _, rfl, by simp [nodesF], Lib.hid (by simpa [mkF] using HS.out), Lib.hid (Chg.refl _ _)⟩
  case round =>
    obtain ⟨k, hk, rfl, rfl, HSl, HC⟩ := hrel
    by_cases hlt : k < ts.length
    · have hu : ts[k]? = some ts[k] := List.getElem?_eq_getElem hlt
      have hnd := nodesF_at hu
      have hnx := nodesF_take hu
      rw [nodes_eq] at hnd hnx
      have htk : ts.take (k + 1) = ts.take k ++ [ts[k]] := by rw [List.take_add_one, hu]; rfl
      have hdk : ts.drop k = ts[k] :: ts.drop (k + 1) := List.drop_eq_getElem_cons hlt
      obtain ⟨vs, b, S', hrow, hfor, hSS, hnp, hlo⟩ := HSl.out
      rw [hdk] at hfor
      have hlen : (mkF k0 (ts.take k) ++ ts.drop k).length = ts.length := by simp [mkF_length]; omega
      rw [hlen] at hrow
      obtain ⟨g, rfl, rfl⟩ := hrow.pos (by omega)
      obtain ⟨c1, ct, c2, S1, St, S2, rfl, rfl, hf1, hft, hf2⟩ := hfor.split
      have hc1 : c1.length = k * 3 := by rw [hf1.len, mkF_length, List.length_take]; congr 1; omega
      have HMK := Lib.hid (mkF_append (ts.take k) [ts[k]] k0)
      generalize ts[k] = t at hnd hnx htk hdk hft HMK
      obtain ⟨kd, n, ks⟩ := t
      obtain ⟨A', c', vs', b', S'', rfl, hrk, hfk, rfl⟩ := hft
      have q0 : wr.cell? ⟨g, k * 3, none⟩ = some (.int .i64 kd) := by rw [hrow.cell (by omega)]; exact at_mid hc1 0
      have q1 : wr.cell? ⟨g, k * 3 + 1, none⟩ = some (.int .i32 n) := by rw [hrow.cell (by omega)]; exact at_mid hc1 1
      have q2 : wr.cell? ⟨g, k * 3 + 2, none⟩ = some (.slice A' ks.length c') := by rw [hrow.cell (by omega)]; exact at_mid hc1 2
      have f0 := hrow.frozen (k * 3)
      have f1 := hrow.frozen (k * 3 + 1)
      have i1 : (k : Int) < (ts.length : Int) := by omega
      simp only [LTree.kids] at hnd hnx
      have HNX := Lib.hid hnx
      generalize hq : nodesF (ts.take k) = q at hnd HNX HMK ⊢
      have b0 : 0 ≤ k0 + 2 * (q : Int) := by omega
      have b1 : k0 + 2 * (q : Int) ≤ 2305843009213693952 := by omega
      have hm : nodesF ks < N := by omega
      have hm2 : nodesF ks ≤ 140737488355328 := by omega
      have HB2 : Hid ((k0 + 2 * (q : Int) + 1 + 1 + 2 * (nodesF ks : Int)) = k0 + 2 * ((nodesF (ts.take (k + 1)) : Nat) : Int)) := Lib.hid (by rw [HNX.out]; omega)
      have b2 : 0 ≤ k0 + 2 * (q : Int) + 1 + 1 + 2 * (nodesF ks : Int) := by omega
      obtain ⟨W1, hW1⟩ : ∃ W1, (wr.setCell ⟨g, k * 3, none⟩ (.int .i64 (k0 + 2 * (q : Int)))).setCell ⟨g, k * 3 + 1, none⟩ (.int .i32 (wrap32 (k0 + 2 * (q : Int) + 1))) = W1 := ⟨_, rfl⟩
      have hset : ∀ x, x ≠ g → W1.heap[x]? = wr.heap[x]? := fun x hx => by rw [← hW1, Below.heap_setCell _ _ _ x hx, Below.heap_setCell _ _ _ x hx]
      have hnS : ∀ x ∈ S1 ++ ((b'.toList ++ S'') ++ S2), x ≠ g := by
        intro x hx e
        subst e
        rw [hSS] at hnp
        simp only [Option.toList_some, List.singleton_append, List.nodup_cons] at hnp
        exact hnp.1 hx
      have hnd2 : (S1 ++ ((b'.toList ++ S'') ++ S2)).Nodup := by
        rw [hSS] at hnp
        exact (List.nodup_append.1 hnp).2.1
      have hndt : (b'.toList ++ S'').Nodup := (List.nodup_append.1 (List.nodup_append.1 hnd2).2.1).1
      have HKS : Hid (SlO W1 106 lo A' c' ks (b'.toList ++ S'')) := Lib.hid ⟨vs', b', S'', hrk.keep fun x hx => hset x (hnS x (by simp [hx])), hfk.keep fun x hx => hset x (hnS x (by simp [hx])), rfl, hndt, fun x hx => hlo x (by rw [hSS]; simp only [List.mem_append]; right; right; left; simpa using hx)⟩
      have HROW1 : Hid (Row W1 106 3 (some ⟨g, 0, none⟩) ts.length c (c1 ++ (.int .i64 (k0 + 2 * (q : Int)) :: .int .i32 (wrap32 (k0 + 2 * (q : Int) + 1)) :: .slice A' ks.length c' :: c2)) (some g)) := Lib.hid (by
        have := (hrow.stored (k * 3) (.int .i64 (k0 + 2 * (q : Int)))).stored (k * 3 + 1) (.int .i32 (wrap32 (k0 + 2 * (q : Int) + 1)))
        rw [hW1] at this
        simp only [List.cons_append, List.nil_append] at this
        rwa [set_mid hc1] at this)
      have HC1 : Hid (Chg w W1 S) := Lib.hid (by
        rw [← hW1]
        exact (HC.out.set (by rw [hSS]; simp) _ _).set (by rw [hSS]; simp) _ _)
      have HF1 : Hid (ForO W1 106 (mkF k0 (ts.take k)) c1 S1) := Lib.hid (hf1.keep fun x hx => hset x (hnS x (by simp [hx])))
      have HF2 : Hid (ForO W1 106 (ts.drop (k + 1)) c2 S2) := Lib.hid (hf2.keep fun x hx => hset x (hnS x (by simp [hx])))
      have HIH := Lib.hid (IH.out (nodesF ks) hm lo A' c' ks (b'.toList ++ S'') (k0 + 2 * (q : Int) + 2) W1 (Nat.le_refl _) HKS.out (by omega) (by omega) hm2)
      rw [show k0 + 2 * (q : Int) + 2 = k0 + 2 * (q : Int) + 1 + 1 by omega] at HIH
      have q2w : W1.cell? ⟨g, k * 3 + 2, none⟩ = some (.slice A' ks.length c') := by rw [HROW1.out.cell (by omega)]; exact at_mid hc1 2
      have HSS := Lib.hid hSS
      have HNS := Lib.hid hnS
      have HND2 := Lib.hid hnd2
      have HTK := Lib.hid htk
      have HLO := Lib.hid hlo
      have HQ := Lib.hid hq
      have HNP := Lib.hid hnp
      clear hu hrow hf1 hf2 hrk hfk hSS hnS hnd2 hndt hset htk hdk hlo hnp hq
      go_wp2_with (go_at_call 35; refine HIH.out.mono ?_; rintro e w2 ⟨rfl, hS2, hC2⟩)
      have HSN : Hid (SlO w2 106 lo (some ⟨g, 0, none⟩) c (mkF k0 (ts.take (k + 1)) ++ ts.drop (k + 1)) S) := Lib.hid (by
        obtain ⟨vs2, b2', S3, hr2, hf2', hS3, hn3, hl3⟩ := hS2
        have hg2 : ∀ x, x < W1.heap.size → x ∉ b'.toList ++ S'' → w2.heap[x]? = W1.heap[x]? := hC2.block
        have hdis : ∀ x ∈ S1 ++ S2, x ∉ b'.toList ++ S'' := by
          intro x hx hx2
          have hd := HND2.out
          rcases List.mem_append.1 hx with h | h
          · exact (List.nodup_append.1 hd).2.2 x h x (by simp only [List.mem_append]; left; simpa using hx2) rfl
          · exact (List.nodup_append.1 (List.nodup_append.1 hd).2.1).2.2 x hx2 x h rfl
        have e1 : mkF k0 (ts.take (k + 1)) ++ ts.drop (k + 1) = mkF k0 (ts.take k) ++ (LTree.mk (k0 + 2 * (q : Int)) (wrap32 (k0 + 2 * (q : Int) + 1)) (mkF (k0 + 2 * (q : Int) + 1 + 1) ks) :: ts.drop (k + 1)) := by
          rw [HTK.out, HMK.out]
          simp [mkF, mkTr, show k0 + 2 * (q : Int) + 1 + 1 = k0 + 2 * (q : Int) + 2 by omega]
        rw [e1]
        refine ⟨_, some g, _, ?_, ForO.join (HF1.out.keep fun x hx => hg2 x (HF1.out.lt x hx) (hdis x (by simp [hx]))) (TreeO.intro hr2 hf2') (HF2.out.keep fun x hx => hg2 x (HF2.out.lt x hx) (hdis x (by simp [hx]))), ?_, HNP.out, HLO.out⟩
        · have hr := HROW1.out.keep (w1 := w2) fun x hx => by
            cases hx
            exact hg2 g (HROW1.out.lt g rfl) (fun h => HNS.out g (by simp only [List.mem_append]; right; left; simpa using h) rfl)
          have hle : (mkF k0 (ts.take k) ++ (LTree.mk (k0 + 2 * (q : Int)) (wrap32 (k0 + 2 * (q : Int) + 1)) (mkF (k0 + 2 * (q : Int) + 1 + 1) ks) :: ts.drop (k + 1))).length = ts.length := by
            rw [List.length_append, List.length_cons, mkF_length, List.length_take, List.length_drop]; omega
          rw [hle, mkF_length]
          exact hr
        · rw [HSS.out, ← hS3])
      have HCN : Hid (Chg w w2 S) := Lib.hid (HC1.out.trans hC2 (fun x hx => by rw [HSS.out]; simp only [List.mem_append]; right; right; left; simpa using hx))
      clear hS2 hC2
      go_wp2_with fail
      go_roundw
      case rel => exact ⟨k + 1, by omega, by go_num, by rw [← HB2.out], HSN, HCN⟩
      case measure => simp [intOf]; omega
    · have : k = ts.length := by omega
      subst this
      rw [List.take_of_length_le (Nat.le_refl _), List.drop_of_length_le (Nat.le_refl _), List.append_nil] at HSl
      rw [List.take_of_length_le (Nat.le_refl _)]
      go_wp2
      go_ret
      exact ⟨rfl, HSl.out, HC.out⟩
end Go.Proofs.YtfmmfgjelaekhaaDoor

/- Trees that come in: their size, their copy. -/
import Derived.Test.YtfmmfgjelaekhaaDoorTm
import Derived.Test.YtfmmfgjelaekhaaDoorDf
set_option linter.unusedVariables false
set_option linter.unusedSimpArgs false
namespace Go.Proofs.YtfmmfgjelaekhaaDoor
open Go.RowKit

mutual
/-- No row of kids is longer than memory. -/
def LTree.small : LTree → Prop
  | .mk _ _ ks => ks.length ≤ 140737488355328 ∧ smallF ks
def smallF : List LTree → Prop
  | [] => True
  | t :: ts => t.small ∧ smallF ts
end
theorem smallF_at : ∀ {ts : List LTree} {k : Nat} {t : LTree}, smallF ts → ts[k]? = some t → t.small
  | [], _, _, _, h => by simp at h
  | t :: ts, 0, t', hs, h => by
    simp at h
    subst h
    rw [smallF] at hs
    exact hs.1
  | t :: ts, k + 1, t', hs, h => by
    rw [smallF] at hs
    exact smallF_at (k := k) hs.2 (by simpa using h)
/-- The nodes below a forest's own. -/
def kidsN (ts : List LTree) : Nat := nodesF ts - ts.length
theorem kidsN_cons (t : LTree) (ts : List LTree) : kidsN (t :: ts) = nodesF t.kids + kidsN ts := by
  obtain ⟨k, n, ks⟩ := t
  have := nodesF_len ts
  simp only [kidsN, nodesF, LTree.nodes, List.length_cons, LTree.kids]
  omega
theorem kidsN_drop {ts : List LTree} {k : Nat} {t : LTree} (h : ts[k]? = some t) : kidsN (ts.drop k) = nodesF t.kids + kidsN (ts.drop (k + 1)) := by
  obtain ⟨hk, rfl⟩ := List.getElem?_eq_some_iff.1 h
  rw [List.drop_eq_getElem_cons hk, kidsN_cons]
set_option maxRecDepth 100000 in
theorem szTree_of (k n : Int) (m s : Nat) (A : Option Addr) (c : Nat) (left : Int) (w : World) (h0 : 0 ≤ left)
    (hk : ∀ W, Below w.heap.size w W → Calls Tryd.prog 37 #[.slice A m c, .int .i64 left] W fun e w' => e = .returned (.int .i64 (szR s left)) ∧ Below W.heap.size W w') :
    Calls Tryd.prog 87 #[.agg #[.int .i64 k, .int .i32 n, .slice A m c], .int .i64 left] w fun e w' => e = .returned (.int .i64 (szR s left)) ∧ Below w.heap.size w w' := by
  have HK := Lib.hid (hk _ (bl_alloc (Below.refl _ _) (.cells #[.int .i64 k, .int .i32 n, .slice A m c] 109)))
  clear hk
  by_cases hz : (s : Int) ≤ left
  · have dz : ¬ (left - s < 0) := by omega
    rw [szR_yes hz] at HK ⊢
    go_enter Tryd.func87, Tryd.ntmps87
    go_wp2_with fail
    refine HK.out.mono ?_
    rintro e w1 ⟨rfl, hb⟩
    have HB := Lib.hid (bl_call (bl_alloc (Below.refl _ w) _) hb)
    clear hb
    go_wp2_with fail
    go_ret
    exact ⟨rfl, HB.out⟩
  · rw [szR_no hz] at HK ⊢
    go_enter Tryd.func87, Tryd.ntmps87
    go_wp2_with fail
    refine HK.out.mono ?_
    rintro e w1 ⟨rfl, hb⟩
    have HB := Lib.hid (bl_call (bl_alloc (Below.refl _ w) _) hb)
    clear hb
    go_wp2_with fail
    go_ret
    exact ⟨rfl, HB.out⟩
set_option maxRecDepth 100000 in
set_option maxHeartbeats 1000000 in
theorem szTreeS_calls : ∀ (N : Nat) (A : Option Addr) (c : Nat) (ts : List LTree) (left : Int) (w : World), nodesF ts ≤ N → SlR w A ts → smallF ts → ts.length ≤ 140737488355328 → 0 ≤ left → left ≤ 1048576 →
    Calls Tryd.prog 37 #[.slice A ts.length c, .int .i64 left] w fun e w' => e = .returned (.int .i64 (szR (nodesF ts) left)) ∧ Below w.heap.size w w' := by
  intro N
  induction N using Nat.strongRecOn with
  | _ N ih =>
  intro A c ts left w hN hA hs hlen h0 hl1
  have HA := Lib.hid hA
  have HS := Lib.hid hs
  have IH := Lib.hid ih
  have hl := nodesF_len ts
  have hkn : kidsN ts = nodesF ts - ts.length := rfl
  clear hA hs ih
  by_cases hle : left < ts.length
  · have d0 : left - ts.length < 0 := by omega
    have HF := Lib.hid (szR_no (t := nodesF ts) (left := left) (by omega))
    go_enter Tryd.func37, Tryd.ntmps37
    go_wp2
    go_ret
    exact ⟨ret_int HF.out.symm, Below.refl _ _⟩
  have d0 : ¬ (left - ts.length < 0) := by omega
  go_enter Tryd.func37, Tryd.ntmps37
  go_wp2
  clear d0
  go_loopw [1, 5] (fun lv i wr => ∃ (k : Nat) (l : Int), k ≤ ts.length ∧ i = .int .i64 k ∧ lv = .int .i64 l ∧ 0 ≤ l ∧ l ≤ 1048576 ∧ l - kidsN (ts.drop k) = left - nodesF ts ∧ Hid (Below w.heap.size w wr)) (fun _ i _ => ts.length - (intOf i).toNat)
  case atStart => exact ⟨0, left - ts.length, Nat.zero_le _, rfl, rfl, by omega, by omega, by rw [List.drop_zero]; omega, Lib.hid (Below.refl _ _)⟩
  case round =>
    obtain ⟨k, l, hk, rfl, rfl, hl0, hl1, hsum, HW⟩ := hrel
    by_cases hlt : k < ts.length
    · have hu : ts[k]? = some ts[k] := List.getElem?_eq_getElem hlt
      obtain ⟨ad, A', c', rfl, hc0, hc1, hc2, _, hAk⟩ := (HA.out.keepB HW.out).el hu
      have hnd := nodesF_at hu
      rw [nodes_eq] at hnd
      have hsm := smallF_at HS.out hu
      have hs2 := kidsN_drop hu
      have HAK := Lib.hid hAk
      clear hu hAk
      generalize ts[k] = t at hc0 hc1 hc2 hnd hsm hs2 HAK
      obtain ⟨kd, n, ks⟩ := t
      simp only [LTree.kind, LTree.n, LTree.kids] at hc0 hc1 hc2 hnd hs2 HAK
      rw [LTree.small] at hsm
      obtain ⟨hsl, hsm⟩ := hsm
      have HSM := Lib.hid hsm
      clear hsm
      have i1 : (k : Int) < (ts.length : Int) := by omega
      have hm : nodesF ks < N := by omega
      by_cases hz : (nodesF ks : Int) ≤ l
      · have dz : ¬ (l - nodesF ks < 0) := by omega
        have hs3 : l - nodesF ks - kidsN (ts.drop (k + 1)) = left - nodesF ts := by omega
        clear hsum hs2
        go_wp2_with (go_at_call 87; (with_reducible refine (szTree_of kd n ks.length (nodesF ks) A' c' l _ hl0 (fun W hW => IH.out (nodesF ks) hm A' c' ks l W (Nat.le_refl _) (HAK.out.keepB hW) HSM.out hsl hl0 hl1)).mono ?_); rintro e w2 ⟨rfl, hb⟩; have HB := Lib.hid (bl_call HW.out hb); clear hb; rw [szR_yes hz])
        go_roundw
        case rel => exact ⟨k + 1, l - nodesF ks, by omega, by go_num, rfl, by omega, by omega, hs3, HB⟩
        case measure => simp [intOf]; omega
      · have HF := Lib.hid (szR_no (t := nodesF ts) (left := left) (by omega))
        clear hsum hs2
        go_wp2_with (go_at_call 87; (with_reducible refine (szTree_of kd n ks.length (nodesF ks) A' c' l _ hl0 (fun W hW => IH.out (nodesF ks) hm A' c' ks l W (Nat.le_refl _) (HAK.out.keepB hW) HSM.out hsl hl0 hl1)).mono ?_); rintro e w2 ⟨rfl, hb⟩; have HB := Lib.hid (bl_call HW.out hb); clear hb; rw [szR_no hz])
        go_ret
        exact ⟨ret_int HF.out.symm, HB.out⟩
    · have : k = ts.length := by omega
      subst this
      rw [List.drop_of_length_le (Nat.le_refl _)] at hsum
      have h00 : kidsN [] = 0 := rfl
      have HF := Lib.hid (szR_yes (t := nodesF ts) (left := left) (by omega))
      have hq : l = left - nodesF ts := by omega
      go_wp2
      go_ret
      exact ⟨ret_int (by rw [HF.out]; exact hq), HW.out⟩
theorem SlO.setFar {w : World} {T : TypeId} {lo : Nat} {A : Option Addr} {c : Nat} {ts : List LTree} {S : List Nat} (h : SlO w T lo A c ts S) {p : Addr} (hp : p.block < lo) (u : Value) : SlO (w.setCell p u) T lo A c ts S :=
  h.keep fun g hg => Below.heap_setCell w p u g (fun e => by
    obtain ⟨_, _, _, _, _, _, _, h5⟩ := h
    have := h5 g hg
    omega)
set_option maxRecDepth 100000 in
set_option maxHeartbeats 400000 in
theorem toTree_of (k n : Int) (ks : List LTree) (A : Option Addr) (c : Nat) (w : World)
    (hk : ∀ W, Below w.heap.size w W → Calls Tryd.prog 39 #[.slice A ks.length c] W fun e w' => ∃ g S, e = .returned (.slice (some ⟨g, 0, none⟩) ks.length ks.length) ∧ SlO w' 106 W.heap.size (some ⟨g, 0, none⟩) ks.length ks S ∧ Below W.heap.size W w') :
    Calls Tryd.prog 89 #[.agg #[.int .i64 k, .int .i32 n, .slice A ks.length c]] w fun e w' => ∃ g S, e = .returned (.agg #[.int .i64 k, .int .i32 n, .slice (some ⟨g, 0, none⟩) ks.length ks.length]) ∧
      SlO w' 106 w.heap.size (some ⟨g, 0, none⟩) ks.length ks S ∧ Below w.heap.size w w' := by
  have HK := Lib.hid hk
  clear hk
  go_enter Tryd.func89, Tryd.ntmps89
  go_wp2_with (go_at_call 39; (with_reducible refine (HK.out _ ?_).mono ?_); (with_reducible repeat (first | exact Below.refl _ _ | apply bl_set2 | apply bl_set1 | apply bl_alloc)); rintro e w0 ⟨g0, S0, rfl, R0, hb0⟩; obtain ⟨q0, f0⟩ := bcell hb0; obtain ⟨za0, zb0, zc0⟩ := below3 (n := w.heap.size) hb0 (by simp; try omega); have s0 := hb0.size; simp at s0; have HR0 := Lib.hid (R0.low (lo' := w.heap.size + 1 + 1 + 1) (by simp; try omega)); have HB0 := Lib.hid (bl_call (w := w) (by with_reducible repeat (first | exact Below.refl _ _ | apply bl_set2 | apply bl_set1 | apply bl_alloc)) hb0); clear R0 hb0)
  refine bodyPost_ret (v := .agg #[.int .i64 k, .int .i32 n, .slice (some ⟨g0, 0, none⟩) ks.length ks.length]) (by simp [results, Tryd.results89, go_sem, q0, zb0]) rfl ⟨g0, S0, rfl, SlO.low (lo := w.heap.size + 1 + 1 + 1) (by with_reducible repeat (first | exact HR0.out | refine SlO.setFar ?_ (by simp; try omega) _)) (by omega), (by with_reducible repeat (first | exact HB0.out | apply bl_set2 | apply bl_set1))⟩
def zTree : List Value := [.int .i64 0, .int .i32 0, .slice none 0 0]
theorem zTrees_drop (m k : Nat) (hk : k < m) : ((List.replicate m ()).drop k).flatMap (fun _ => zTree) = zTree ++ ((List.replicate m ()).drop (k + 1)).flatMap (fun _ => zTree) := by
  rw [List.drop_eq_getElem_cons (by simpa using hk), List.flatMap_cons]
theorem Row.put_cells {e : TypeId} {sz n c g : Nat} {w : World} {vs bs cs : List Value} {p : Nat} (h : Row w e sz (some ⟨g, 0, none⟩) n c (vs ++ (bs ++ cs)) (some g)) (hp : vs.length = p) {x : List Value} (hx : x.length = bs.length) :
    Row (Go.Proofs.YtfmmfgjelaekhaaDoor.wset w g p x) e sz (some ⟨g, 0, none⟩) n c ((vs ++ x) ++ cs) (some g) := by
  have := Row.wset x w _ p h
  rwa [writes_append vs cs x bs p hp hx, ← List.append_assoc] at this
set_option maxRecDepth 100000 in
set_option maxHeartbeats 2000000 in
theorem toTreeS_calls : ∀ (N : Nat) (A : Option Addr) (c : Nat) (ts : List LTree) (w : World), nodesF ts ≤ N → SlR w A ts → nodesF ts ≤ 1048576 →
    Calls Tryd.prog 39 #[.slice A ts.length c] w fun e w' => ∃ g S, e = .returned (.slice (some ⟨g, 0, none⟩) ts.length ts.length) ∧ SlO w' 106 w.heap.size (some ⟨g, 0, none⟩) ts.length ts S ∧ Below w.heap.size w w' := by
  intro N
  induction N using Nat.strongRecOn with
  | _ N ih =>
  intro A c ts w hN hA hn
  have HA := Lib.hid hA
  have IH := Lib.hid ih
  have hl := nodesF_len ts
  clear hA ih
  have hmk := fun W => run_make_rows (P := Tryd.prog) W 45 106 (.agg #[.int .i64 0, .int .i32 0, .slice none 0 0]) 3 40 Tryd.underlying45 (by kernel_rfl) ts.length (by omega) (by omega)
  go_enter Tryd.func39, Tryd.ntmps39
  go_wp2
  clear hmk
  have hrow := Row.made w (madeCells zTree.toArray (ts.length * 3)) 106 3 ts.length (by unfold maxLen; omega) (by simp [madeCells])
  have hz := madeCells_flat (enc := fun _ : Unit => zTree) (sz := 3) (fun _ => rfl) () ts.length
  rw [hz] at hrow
  have HR0 := Lib.hid hrow
  clear hrow hz
  go_loopw [4] (fun i wr => ∃ (k : Nat) (vs : List Value) (S : List Nat), k ≤ ts.length ∧ i = .int .i64 k ∧ Hid (Row wr 106 3 (some ⟨w.heap.size, 0, none⟩) ts.length ts.length (vs ++ ((List.replicate ts.length ()).drop k).flatMap (fun _ => zTree)) (some w.heap.size)) ∧ Hid (ForO wr 106 (ts.take k) vs S) ∧ Hid (S.Nodup ∧ ∀ g ∈ S, w.heap.size < g) ∧ Hid (Below w.heap.size w wr))
    (fun i _ => ts.length - (intOf i).toNat)
  case atStart => exact ⟨0, [], [], Nat.zero_le _, rfl, Lib.hid (by (simp only [List.nil_append, List.drop_zero]; exact HR0.out)), Lib.hid ⟨rfl, rfl⟩, Lib.hid ⟨List.nodup_nil, by simp⟩, Lib.hid ((Below.refl _ _).alloc (Nat.le_refl _) _)⟩
  case round =>
    obtain ⟨k, vs, S, hk, rfl, HR, HF, HS, HB⟩ := hrel
    by_cases hlt : k < ts.length
    · have hu : ts[k]? = some ts[k] := List.getElem?_eq_getElem hlt
      obtain ⟨ad, A', c', rfl, hc0, hc1, hc2, _, hAk⟩ := (HA.out.keepB HB.out).el hu
      have hnd := nodesF_at hu
      rw [nodes_eq] at hnd
      have HAK := Lib.hid hAk
      have HU := Lib.hid (show ts.take (k + 1) = ts.take k ++ [ts[k]] by rw [List.take_add_one, hu]; rfl)
      clear hu hAk
      generalize ts[k] = t at hc0 hc1 hc2 hnd HAK HU
      obtain ⟨kd, n, ks⟩ := t
      simp only [LTree.kind, LTree.n, LTree.kids] at hc0 hc1 hc2 hnd HAK
      have i1 : (k : Int) < (ts.length : Int) := by omega
      have hm : nodesF ks < N := by omega
      have hm2 : nodesF ks ≤ 1048576 := by omega
      have hvl : vs.length = k * 3 := by rw [HF.out.len, List.length_take, Nat.min_eq_left hk]
      have hwz := HB.out.size
      have hlo := HR.out.lt _ rfl
      go_wp2_with (go_at_call 89; (with_reducible refine (toTree_of kd n ks A' c' _ (fun W hW => IH.out (nodesF ks) hm A' c' ks W (Nat.le_refl _) (HAK.out.keepB hW) hm2)).mono ?_); rintro e w2 ⟨g2, S2, rfl, R2, hb⟩; have H2 := Lib.hid (HR.out.call hb); have F2 := Lib.hid (HF.out.call hb); have B2 := Lib.hid (bl_call HB.out hb); have HR2 := Lib.hid R2; have L2 : Hid (∀ g ∈ S, g < wr.heap.size) := Lib.hid (HF.out.lt); clear hb R2; obtain ⟨v0, q0⟩ := H2.out.isCell (j := k * 3) (by omega); have f0 := H2.out.frozen (k * 3); obtain ⟨v1, q1⟩ := H2.out.isCell (j := k * 3 + 1) (by omega); have f1 := H2.out.frozen (k * 3 + 1); obtain ⟨v2, q2⟩ := H2.out.isCell (j := k * 3 + 2) (by omega); have f2 := H2.out.frozen (k * 3 + 2))
      obtain ⟨vs2, b2, S2', hr2, hf2, rfl, hn2, hl2⟩ := HR2.out
      rw [zTrees_drop _ _ hlt] at H2
      have H3 := Lib.hid (H2.out.put_cells hvl (x := [.int .i64 kd, .int .i32 n, .slice (some ⟨g2, 0, none⟩) ks.length ks.length]) rfl)
      have B3 := Lib.hid (bl_wset (g := w.heap.size) (Nat.le_refl _) [.int .i64 kd, .int .i32 n, .slice (some ⟨g2, 0, none⟩) ks.length ks.length] _ (k * 3) B2.out)
      have G3 := Lib.hid (grownBy_wset (w0 := w2) (g := w.heap.size) [.int .i64 kd, .int .i32 n, .slice (some ⟨g2, 0, none⟩) ks.length ks.length] w2 (k * 3) (grownBy_refl w2 _))
      have T3 := Lib.hid (TreeO.intro (k := kd) (n := n) hr2 hf2)
      have F3 := Lib.hid (ForO.snoc T3.out F2.out)
      have HF4 := Lib.hid (F3.out.keep (w1 := wset w2 w.heap.size (k * 3) [.int .i64 kd, .int .i32 n, .slice (some ⟨g2, 0, none⟩) ks.length ks.length]) fun g hg => G3.out.block g (F3.out.lt g hg) (fun e => by
        injection e with e
        rcases List.mem_append.1 hg with hg | hg
        · have := HS.out.2 g hg; omega
        · have := hl2 g hg; omega))
      have HS4 : Hid ((S ++ (b2.toList ++ S2')).Nodup ∧ ∀ g ∈ S ++ (b2.toList ++ S2'), w.heap.size < g) := Lib.hid (by
        refine ⟨List.nodup_append.2 ⟨HS.out.1, hn2, ?_⟩, ?_⟩
        · intro x hx y hy e
          subst e
          have := L2.out x hx
          have := hl2 x hy
          omega
        · intro g hg
          rcases List.mem_append.1 hg with hg | hg
          · exact HS.out.2 g hg
          · have := hl2 g hg; omega)
      go_roundw
      case rel => exact ⟨k + 1, vs ++ [Value.int .i64 kd, Value.int .i32 n, Value.slice (some ⟨g2, 0, none⟩) ks.length ks.length], S ++ (b2.toList ++ S2'), by omega, by go_num, Lib.hid H3.out, Lib.hid (by rw [HU.out]; exact HF4.out), HS4, Lib.hid B3.out⟩
      case measure => simp [intOf]; omega
    · have : k = ts.length := by omega
      subst this
      rw [List.drop_of_length_le (by simp), List.flatMap_nil, List.append_nil] at HR
      rw [List.take_of_length_le (Nat.le_refl _)] at HF
      go_wp2
      go_ret
      exact ⟨w.heap.size, w.heap.size :: S, rfl, ⟨vs, some w.heap.size, S, HR.out, HF.out, rfl, List.nodup_cons.2 ⟨fun h => by have := HS.out.2 _ h; omega, HS.out.1⟩, fun g hg => by
        rcases List.mem_cons.1 hg with rfl | hg
        · exact Nat.le_refl _
        · exact Nat.le_of_lt (HS.out.2 g hg)⟩, HB.out⟩
end Go.Proofs.YtfmmfgjelaekhaaDoor

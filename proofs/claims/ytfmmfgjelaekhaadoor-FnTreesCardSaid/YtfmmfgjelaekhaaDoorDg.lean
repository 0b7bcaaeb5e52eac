/- The forest that is drawn, and the law FnTrees. -/
import Derived.Test.YtfmmfgjelaekhaaDoorDa
set_option linter.unusedVariables false
set_option linter.unusedSimpArgs false
namespace Go.Proofs.YtfmmfgjelaekhaaDoor
open Go.RowKit

theorem SlO.dr {w w1 : World} {T : TypeId} {lo : Nat} {A : Option Addr} {c : Nat} {ts : List LTree} {S : List Nat} {g : Nat} (h : SlO w T lo A c ts S) (hd : Dr g w w1) (hg : g < lo) : SlO w1 T lo A c ts S :=
  h.keep fun x hx => hd.grown.block x (h.lt x hx) (fun e => by
    obtain ⟨_, _, _, _, _, _, _, h5⟩ := h
    have := h5 x hx
    cases e
    omega)
theorem SlO.ge {w : World} {T : TypeId} {lo : Nat} {A : Option Addr} {c : Nat} {ts : List LTree} {S : List Nat} (h : SlO w T lo A c ts S) : ∀ g ∈ S, lo ≤ g := by
  obtain ⟨_, _, _, _, _, _, _, h5⟩ := h
  exact h5
theorem SlO.alloc {w : World} {T : TypeId} {lo : Nat} {A : Option Addr} {c : Nat} {ts : List LTree} {S : List Nat} (h : SlO w T lo A c ts S) (o : Obj) : SlO (w.alloc o) T lo A c ts S := h.call (bl_alloc (Below.refl _ _) _)
/-- []Tree{Tree{..}}: a tree around a forest. -/
theorem SlO.wrap {w : World} {T : TypeId} {lo : Nat} {A : Option Addr} {c : Nat} {ts : List LTree} {S : List Nat} (h : SlO w T lo A c ts S) (k n : Int) (hl : lo ≤ w.heap.size) : SlO (w.alloc (.cells #[.int .i64 k, .int .i32 n, .slice A ts.length c] T)) T lo (some ⟨w.heap.size, 0, none⟩) 1 [.mk k n ts] (w.heap.size :: S) := by
  have hlt := h.lt
  obtain ⟨vs, b, S', hrow, hfor, rfl, hnd, hlo⟩ := h
  refine ⟨[.int .i64 k, .int .i32 n, .slice A ts.length c], some w.heap.size, b.toList ++ S', Row.made w #[.int .i64 k, .int .i32 n, .slice A ts.length c] T 3 1 (by decide) rfl, ?_, rfl, ?_, ?_⟩
  · exact ⟨[.int .i64 k, .int .i32 n, .slice A ts.length c], [], b.toList ++ S', [], by simp, TreeO.intro (hrow.alloc _) (hfor.call (bl_alloc (Below.refl _ _) _)), ⟨rfl, rfl⟩, by simp⟩
  · exact List.nodup_cons.2 ⟨fun hx => by have := hlt _ hx; omega, hnd⟩
  · intro g hg
    rcases List.mem_cons.1 hg with rfl | hg
    · exact hl
    · exact hlo g hg
theorem okF_treeOf {xs : List LOp} (h : ∀ x ∈ xs, x.ok32) : okF (treeOf xs) := by
  unfold treeOf
  split
  · exact (okF_treesF _ _ h).1
  · simp [okF]
theorem ok_mk {k n : Int} {ks : List LTree} (h0 : -2147483648 ≤ n) (h1 : n ≤ 2147483647) (h : okF ks) : okF [.mk k n ks] := by
  rw [okF, LTree.ok, okF]
  exact ⟨⟨⟨h0, h1⟩, h⟩, trivial⟩
theorem nodes_mk (k n : Int) (ks : List LTree) : nodesF [.mk k n ks] = 1 + nodesF ks := by simp [nodesF, LTree.nodes]
theorem flatL_ok {ts : List LTree} (h : okF ts) : ∀ x ∈ flatL ts, x.ok32 := by
  unfold flatL
  split
  · rename_i q hq
    split
    · exact opsF_ok h hq
    · simp
  · simp
set_option maxRecDepth 100000 in
set_option maxHeartbeats 2000000 in
theorem DrawFlatOf_calls (A : Option Addr) (c : Nat) (bs : List Int) (w : World) (hr : Rd w A (bs.map (Value.int .u8))) (hx : ∀ x ∈ bs, 0 ≤ x ∧ x ≤ 255) (hn : bs.length ≤ 1048576) :
    Calls Tryd.prog 59 #[.slice A bs.length c] w fun e w' => ∃ ts B d, e = .returned (.slice B ts.length d) ∧ (∃ S, SlO w' 106 w.heap.size B d ts S) ∧ okF ts ∧ nodesF ts ≤ 9000 ∧ Below w.heap.size w w' := by
  have HX := Lib.hid hx
  have HR := Lib.hid hr
  clear hx hr
  go_enter Tryd.func59, Tryd.ntmps59
  go_wp2_with fail
  refine (l01New_calls A c bs _ HR.out HX.out hn).mono ?_
  rintro e w1 ⟨rfl, hC, hb⟩
  obtain ⟨g, hg⟩ : ∃ g, w.heap.size = g := ⟨_, rfl⟩
  rw [hg] at hC
  have HG := Lib.hid hg
  have HB1 := Lib.hid hb
  have HC := Lib.hid hC
  have hg1 := hC.lt
  try rw [hg]
  clear hb hC hg
  go_wp2_with fail
  refine (l09Any_calls g _ HC.out).mono ?_
  rintro e w2 ⟨xs, L, B, d, b, rfl, hX, hL⟩
  obtain rfl := hX.len
  have HX2 := Lib.hid hX
  have hs2 := hX.dr.size
  clear hX
  go_wp2_with fail
  refine (specTreeOf_calls B d xs _ HX2.out.row.rd HX2.out.ok (by omega)).mono ?_
  rintro e w3 ⟨A3, c3, S3, rfl, hS, hb⟩
  have hno := treeOf_nodes xs
  have HO := Lib.hid (okF_treeOf HX2.out.ok)
  have hs3 := hb.size
  have HS3 := Lib.hid hS
  have HC3 := Lib.hid (HX2.out.cur.call hb)
  have HD3 := Lib.hid (HX2.out.dr.call hb)
  clear hS hb
  generalize treeOf xs = ts at hno HO HS3 ⊢
  go_wp2_with fail
  refine (l01Below_calls g 6 _ (by omega) (by omega) HC3.out).mono ?_
  rintro e w4 ⟨x, rfl, hx0, hx1, hC1, hT1⟩
  have HC4 := Lib.hid hC1
  have HD4 := Lib.hid (HD3.out.turned hT1)
  have HS4 := Lib.hid (HS3.out.dr (hT1.dr HC3.out.lt) (by omega))
  have hs4 := hT1.2.2.2.1
  clear hC1 hT1
  have hx : x = 0 ∨ x = 1 ∨ (¬ x = 0 ∧ ¬ x = 1) := by omega
  rcases hx with rfl | rfl | ⟨o0, o1⟩
  · go_wp2_with fail
    refine (l01Below_calls g 10 _ (by omega) (by omega) HC4.out).mono ?_
    rintro e w5 ⟨x5, rfl, h5a, h5b, hC1, hT1⟩
    have HC5 := Lib.hid hC1
    have HD5 := Lib.hid (HD4.out.turned hT1)
    have HS5 := Lib.hid (HS4.out.dr (hT1.dr HC4.out.lt) (by omega))
    have hs5 := hT1.2.2.2.1
    clear hC1 hT1
    go_wp2_with fail
    have HH := l09Body_calls 2 g 2 w5 HC5.out (by omega) (by omega) (by omega)
    rw [show ((2 : Nat) : Int) = 2 from rfl] at HH
    refine HH.mono ?_
    clear HH
    rintro e w6 ⟨ys, M, B6, d6, b6, rfl, hY, hM⟩
    obtain rfl := hY.len
    have hMb : ys.length ≤ 357 := hM
    have HY := Lib.hid hY
    have HD6 := Lib.hid (HD5.out.trans hY.dr)
    have HS6 := Lib.hid (HS5.out.dr hY.dr (by omega))
    have hs6 := hY.dr.size
    clear hY hM
    go_wp2_with fail
    refine (specTreeOf_calls B6 d6 ys _ HY.out.row.rd HY.out.ok (by omega)).mono ?_
    rintro e w7 ⟨A7, c7, S7, rfl, hS, hb⟩
    have hno7 := treeOf_nodes ys
    have HO7 := Lib.hid (okF_treeOf HY.out.ok)
    have HD7 := Lib.hid (HD6.out.call hb)
    have HS7 := Lib.hid (HS6.out.call hb)
    have HK7 := Lib.hid hS
    have hs7 := hb.size
    clear hS hb
    generalize treeOf ys = ks at hno7 HO7 HK7 ⊢
    obtain ⟨vs, b, S', hrow, hfor, hSS, hnd, hlo⟩ := HS7.out
    have HROW := Lib.hid hrow
    have HFOR := Lib.hid hfor
    have HND := Lib.hid hnd
    have HLO := Lib.hid hlo
    have hlen := nodesF_len ts
    clear hrow hfor hnd hlo
    go_wp2_with (at_builtin; refine wp_append1s _ (m := w7.heap.size) rfl rfl _ _ 45 rfl 106 (.agg #[.int .i64 0, .int .i32 0, .slice none 0 0]) 3 40 Tryd.underlying45 info_tree rfl (by decide) rfl HROW.out rfl rfl ?_ ?_ ?_ ?_; (intro u hu; simp at hu; rcases hu with rfl | rfl | rfl <;> rfl); (unfold maxLen; omega); omega; intro B8 d8 w8 b8 hR3 hg3 hb3; have HR8 := Lib.hid hR3; have HG8 := Lib.hid hg3; have HB8 := Lib.hid hb3; clear hR3 hg3 hb3)
    go_ret
    have hlt7 := HS7.out.lt
    have hge7 := HS7.out.ge
    have hkg := HK7.out.ge
    obtain ⟨vs1, b1, S1', hrow1, hfor1, hS1, hnd1, hlo1⟩ := HK7.out
    subst hSS
    have hbig : ∀ x ∈ b.toList ++ S', x < w6.heap.size := by
      intro x hx
      exact HS6.out.lt x hx
    refine ⟨ts ++ [LTree.mk (x5 - 1) 0 ks], B8, d8, by simp, ⟨_, (SlO.push (w := w7) (lo := w2.heap.size) HFOR.out HND.out HLO.out (TreeO.intro hrow1 hfor1) (by rw [← hS1]; exact hnd1) (fun x hx => ?_) (fun x hx hx2 => ?_) (fun x hx => HROW.out.lt x hx) (by omega) HR8.out HG8.out ?_).low (by have := HG.out; omega)⟩, okF_append HO.out (ok_mk (k := x5 - 1) (n := 0) (by omega) (by omega) HO7.out), by rw [nodesF_append, nodes_mk]; omega, ?_⟩
    · have := hlo1 x (by rw [hS1]; exact hx)
      omega
    · have h1 := hlo1 x (by rw [hS1]; exact hx)
      have h2 := hbig x hx2
      omega
    · rcases HB8.out with h | ⟨x, h1, h2⟩
      · exact .inl h
      · exact .inr ⟨x, h1, by omega⟩
    · have hb7 : Below w.heap.size w w7 := HD7.out.below (w := w) (by rw [HG.out]; exact Nat.le_refl _) HB1.out
      exact Below.grown hb7 HG8.out hb7.size (fun x e => by have := HLO.out x (by simp [e]); have := HG.out; omega)
  · go_wp2_with fail
    go_loopw [4, 5] (fun tv i wr => ∃ (k : Nat) (ts : List LTree) (B : Option Addr) (d : Nat) (S : List Nat), k ≤ 40 ∧ i = .int .i64 k ∧ tv = .slice B ts.length d ∧ nodesF ts ≤ 2000 + k ∧ Hid (SlO wr 106 w2.heap.size B d ts S) ∧ Hid (okF ts) ∧ Hid (Cur wr g) ∧ Hid (Dr g w1 wr) ∧ w2.heap.size ≤ wr.heap.size) (fun _ i _ => 50 - (intOf i).toNat)
    case atStart => exact ⟨0, ts, A3, c3, S3, by omega, rfl, rfl, by omega, HS4, HO, HC4, HD4, by omega⟩
    case round =>
      obtain ⟨k, ts, B, d, S, hk, rfl, rfl, hnod, HS, HO, HC, HD, hsz⟩ := hrel
      go_wp2_with fail
      refine (l01Below_calls g 4 _ (by omega) (by omega) HC.out).mono ?_
      rintro e w5 ⟨x5, rfl, h5a, h5b, hC1, hT1⟩
      have HC5 := Lib.hid hC1
      have HD5 := Lib.hid (HD.out.turned hT1)
      have HS5 := Lib.hid (HS.out.dr (hT1.dr HC.out.lt) (by omega))
      have hs5 := hT1.2.2.2.1
      clear hC1 hT1
      have hlen := nodesF_len ts
      by_cases hlt : (k : Int) < 28 + x5
      · go_wp2_with fail
        go_roundw
        case rel => exact ⟨k + 1, [LTree.mk 6 0 ts], some ⟨w5.heap.size, 0, none⟩, 1, w5.heap.size :: S, by omega, by go_num, rfl, by rw [nodes_mk]; omega, Lib.hid (HS5.out.wrap 6 0 (by omega)), Lib.hid (ok_mk (by omega) (by omega) HO.out), Lib.hid (HC5.out.alloc _), Lib.hid (HD5.out.alloc _), by simp; omega⟩
        case measure => simp [intOf]; omega
      · go_wp2_with fail
        go_ret
        exact ⟨ts, B, d, rfl, ⟨S, HS5.out.low (by have := HG.out; omega)⟩, HO.out, by omega, HD5.out.below (w := w) (by rw [HG.out]; exact Nat.le_refl _) HB1.out⟩
  · go_wp2_with fail
    go_ret
    exact ⟨ts, A3, c3, rfl, ⟨S3, HS4.out.low (by have := HG.out; omega)⟩, HO.out, by omega, HD4.out.below (w := w) (by rw [HG.out]; exact Nat.le_refl _) HB1.out⟩
theorem bigC_calls (A : Option Addr) (n c : Nat) (w : World) (hn : n ≤ 140737488355328) : Calls Tryd.prog 15 #[.slice A n c] w fun e w' => e = .returned (.bool (decide (1048576 < n))) ∧ w = w' := by
  by_cases h : 1048576 < n
  all_goals
    go_enter Tryd.func15, Tryd.ntmps15
    go_wp2
    go_ret
    exact ⟨ret_bool (by simp; omega), rfl⟩
set_option maxRecDepth 100000 in
set_option maxHeartbeats 2000000 in
theorem FnTrees_calls (A : Option Addr) (c : Nat) (xs : List Int) (w : World) (hA : Asc w) (hr : Rd w A (xs.map (Value.int .u8))) (hx : ∀ x ∈ xs, 0 ≤ x ∧ x ≤ 255) (hn : xs.length ≤ 140737488355328) :
    Calls Tryd.prog 13 #[.slice A xs.length c] w fun e w' => e = .returned (.bool true) ∧ Below w.heap.size w w' := by
  by_cases hbig : 1048576 < xs.length
  · have d0 : decide (1048576 < xs.length) = true := decide_eq_true hbig
    clear hr hx
    go_enter Tryd.func13, Tryd.ntmps13
    go_wp2_with (go_at_call 15; refine (bigC_calls _ _ _ _ hn).mono ?_; rintro e w' ⟨rfl, rfl⟩)
    go_ret
    exact ⟨rfl, Below.refl _ _⟩
  have d0 : decide (1048576 < xs.length) = false := decide_eq_false hbig
  have HX := Lib.hid hx
  have HR := Lib.hid hr
  have HA := Lib.hid hA
  clear hx hr hA
  go_enter Tryd.func13, Tryd.ntmps13
  go_wp2_with (go_at_call 15; refine (bigC_calls _ _ _ _ hn).mono ?_; rintro e w' ⟨rfl, rfl⟩)
  refine (DrawTreeOf_calls A c xs _ HR.out HX.out (by omega)).mono ?_
  rintro e w1 ⟨ys, L, B, d, b, rfl, hrow, hok, rfl, hL, hb⟩
  have HY := Lib.hid hrow
  have HOK := Lib.hid hok
  have HB := Lib.hid hb
  replace HR := Lib.hid (HR.out.call hb)
  replace HA := Lib.hid (HA.out.call hb)
  clear hrow hok hb
  go_wp2_with fail
  refine (treeOf_calls B d ys _ HA.out HY.out.rd HY.out.le HOK.out (by omega)).mono ?_
  rintro e w2 ⟨A2, c2, S2, rfl, hS, hb⟩
  have HS := Lib.hid hS
  replace HY := Lib.hid (HY.out.call hb)
  replace HB := Lib.hid (bl_call HB.out hb)
  replace HR := Lib.hid (HR.out.call hb)
  replace HA := Lib.hid (HA.out.call hb)
  have hno := treeOf_nodes ys
  have HTO := Lib.hid (okF_treeOf HOK.out)
  clear hS hb
  go_wp2_with fail
  refine (shapeOk_calls B d ys _ HA.out HY.out.rd HOK.out (by omega)).mono ?_
  rintro e w3 ⟨rfl, hb⟩
  replace HY := Lib.hid (HY.out.call hb)
  replace HB := Lib.hid (bl_call HB.out hb)
  replace HR := Lib.hid (HR.out.call hb)
  replace HA := Lib.hid (HA.out.call hb)
  replace HS := Lib.hid (HS.out.call hb)
  clear hb
  go_wp2_with fail
  refine (specShapeOk_calls B d ys _ HY.out.rd HOK.out (by omega)).mono ?_
  rintro e w4 ⟨rfl, hb⟩
  replace HY := Lib.hid (HY.out.call hb)
  replace HB := Lib.hid (bl_call HB.out hb)
  replace HR := Lib.hid (HR.out.call hb)
  replace HA := Lib.hid (HA.out.call hb)
  replace HS := Lib.hid (HS.out.call hb)
  clear hb
  have HSP : Hid (∀ w, Rd w B (ys.flatMap LOp.enc) → Calls Tryd.prog 27 #[.slice B ys.length d] w fun e w' => e = .returned (.bool (shapeOk ys)) ∧ Below w.heap.size w w') := Lib.hid (fun w h => specShapeOk_calls B d ys w h HOK.out (by omega))
  cases hsh : shapeOk ys
  · have HT0 : Hid (treeOf ys = []) := Lib.hid (by simp [treeOf, hsh])
    rw [hsh] at HSP
    rw [HT0.out]
    go_wp2_with fail
    refine (HSP.out _ HY.out.rd).mono ?_
    rintro e w5 ⟨rfl, hb⟩
    replace HY := Lib.hid (HY.out.call hb)
    replace HB := Lib.hid (bl_call HB.out hb)
    replace HR := Lib.hid (HR.out.call hb)
    replace HA := Lib.hid (HA.out.call hb)
    replace HS := Lib.hid (HS.out.call hb)
    clear hb
    go_wp2_with fail
    refine (HSP.out _ HY.out.rd).mono ?_
    rintro e w7b ⟨rfl, hb⟩
    replace HY := Lib.hid (HY.out.call hb)
    replace HB := Lib.hid (bl_call HB.out hb)
    replace HR := Lib.hid (HR.out.call hb)
    replace HA := Lib.hid (HA.out.call hb)
    replace HS := Lib.hid (HS.out.call hb)
    clear hb
    go_wp2_with fail
    refine (DrawFlatOf_calls A c xs _ HR.out HX.out (by omega)).mono ?_
    rintro e w8 ⟨ts, B8, d8, rfl, ⟨S8, hS8⟩, hok8, hn8, hb⟩
    have H8 := Lib.hid hS8
    have HO8 := Lib.hid hok8
    replace HB := Lib.hid (bl_call HB.out hb)
    replace HA := Lib.hid (HA.out.call hb)
    clear hb hS8 hok8
    go_wp2_with fail
    refine (flatOf_calls B8 d8 ts _ HA.out H8.out.rd HO8.out (by omega)).mono ?_
    rintro e w9 ⟨B9, d9, b9, rfl, hr9, _, hb⟩
    have H9 := Lib.hid hr9
    replace H8 := Lib.hid (H8.out.call hb)
    replace HB := Lib.hid (bl_call HB.out hb)
    replace HA := Lib.hid (HA.out.call hb)
    clear hb hr9
    go_wp2_with fail
    refine (specFlatOf_calls B8 d8 ts _ H8.out.rd HO8.out (by omega)).mono ?_
    rintro e w10 ⟨B10, d10, b10, rfl, hr10, _, hb⟩
    have H10 := Lib.hid hr10
    replace H9 := Lib.hid (H9.out.call hb)
    replace HB := Lib.hid (bl_call HB.out hb)
    replace HA := Lib.hid (HA.out.call hb)
    clear hb hr10
    have hfl := flatL_len ts
    have HFO : Hid (∀ x ∈ flatL ts, x.ok32) := Lib.hid (flatL_ok HO8.out)
    have HFS := Lib.hid (shapeOk_flatL ts)
    go_wp2_with fail
    refine (sameOps_calls B9 B10 d9 d10 (flatL ts) _ H9.out.rd H10.out.rd (by omega)).mono ?_
    rintro e w11 ⟨rfl, hb⟩
    replace H9 := Lib.hid (H9.out.call hb)
    replace HB := Lib.hid (bl_call HB.out hb)
    replace HA := Lib.hid (HA.out.call hb)
    clear hb
    go_wp2_with fail
    refine (shapeOk_calls B9 d9 (flatL ts) _ HA.out H9.out.rd HFO.out (by omega)).mono ?_
    rintro e w12 ⟨rfl, hb⟩
    rw [HFS.out]
    replace HB := Lib.hid (bl_call HB.out hb)
    clear hb
    go_wp2_with fail
    go_ret
    exact ⟨rfl, HB.out⟩
  · have HT0 : Hid (flatL (treeOf ys) = ys) := Lib.hid (by rw [treeOf, if_pos hsh, flatL_some (treesT_back hsh), if_pos hsh])
    rw [hsh] at HSP
    go_wp2_with fail
    refine (HSP.out _ HY.out.rd).mono ?_
    rintro e w5 ⟨rfl, hb⟩
    replace HY := Lib.hid (HY.out.call hb)
    replace HB := Lib.hid (bl_call HB.out hb)
    replace HR := Lib.hid (HR.out.call hb)
    replace HA := Lib.hid (HA.out.call hb)
    replace HS := Lib.hid (HS.out.call hb)
    clear hb
    go_wp2_with fail
    refine (flatOf_calls A2 c2 (treeOf ys) _ HA.out HS.out.rd HTO.out (by omega)).mono ?_
    rintro e w6 ⟨B6, d6, b6, rfl, hr6, _, hb⟩
    rw [HT0.out] at hr6 ⊢
    have H6 := Lib.hid hr6
    replace HY := Lib.hid (HY.out.call hb)
    replace HB := Lib.hid (bl_call HB.out hb)
    replace HR := Lib.hid (HR.out.call hb)
    replace HA := Lib.hid (HA.out.call hb)
    replace HS := Lib.hid (HS.out.call hb)
    clear hr6 hb
    go_wp2_with fail
    refine (sameOps_calls B6 B d6 d ys _ H6.out.rd HY.out.rd (by omega)).mono ?_
    rintro e w7 ⟨rfl, hb⟩
    replace HY := Lib.hid (HY.out.call hb)
    replace HB := Lib.hid (bl_call HB.out hb)
    replace HR := Lib.hid (HR.out.call hb)
    replace HA := Lib.hid (HA.out.call hb)
    replace HS := Lib.hid (HS.out.call hb)
    clear hb
    go_wp2_with fail
    refine (HSP.out _ HY.out.rd).mono ?_
    rintro e w7b ⟨rfl, hb⟩
    replace HY := Lib.hid (HY.out.call hb)
    replace HB := Lib.hid (bl_call HB.out hb)
    replace HR := Lib.hid (HR.out.call hb)
    replace HA := Lib.hid (HA.out.call hb)
    replace HS := Lib.hid (HS.out.call hb)
    clear hb
    go_wp2_with fail
    refine (DrawFlatOf_calls A c xs _ HR.out HX.out (by omega)).mono ?_
    rintro e w8 ⟨ts, B8, d8, rfl, ⟨S8, hS8⟩, hok8, hn8, hb⟩
    have H8 := Lib.hid hS8
    have HO8 := Lib.hid hok8
    replace HB := Lib.hid (bl_call HB.out hb)
    replace HA := Lib.hid (HA.out.call hb)
    clear hb hS8 hok8
    go_wp2_with fail
    refine (flatOf_calls B8 d8 ts _ HA.out H8.out.rd HO8.out (by omega)).mono ?_
    rintro e w9 ⟨B9, d9, b9, rfl, hr9, _, hb⟩
    have H9 := Lib.hid hr9
    replace H8 := Lib.hid (H8.out.call hb)
    replace HB := Lib.hid (bl_call HB.out hb)
    replace HA := Lib.hid (HA.out.call hb)
    clear hb hr9
    go_wp2_with fail
    refine (specFlatOf_calls B8 d8 ts _ H8.out.rd HO8.out (by omega)).mono ?_
    rintro e w10 ⟨B10, d10, b10, rfl, hr10, _, hb⟩
    have H10 := Lib.hid hr10
    replace H9 := Lib.hid (H9.out.call hb)
    replace HB := Lib.hid (bl_call HB.out hb)
    replace HA := Lib.hid (HA.out.call hb)
    clear hb hr10
    have hfl := flatL_len ts
    have HFO : Hid (∀ x ∈ flatL ts, x.ok32) := Lib.hid (flatL_ok HO8.out)
    have HFS := Lib.hid (shapeOk_flatL ts)
    go_wp2_with fail
    refine (sameOps_calls B9 B10 d9 d10 (flatL ts) _ H9.out.rd H10.out.rd (by omega)).mono ?_
    rintro e w11 ⟨rfl, hb⟩
    replace H9 := Lib.hid (H9.out.call hb)
    replace HB := Lib.hid (bl_call HB.out hb)
    replace HA := Lib.hid (HA.out.call hb)
    clear hb
    go_wp2_with fail
    refine (shapeOk_calls B9 d9 (flatL ts) _ HA.out H9.out.rd HFO.out (by omega)).mono ?_
    rintro e w12 ⟨rfl, hb⟩
    rw [HFS.out]
    replace HB := Lib.hid (bl_call HB.out hb)
    clear hb
    go_wp2_with fail
    go_ret
    exact ⟨rfl, HB.out⟩
end Go.Proofs.YtfmmfgjelaekhaaDoor

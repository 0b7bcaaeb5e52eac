/- The trees of a body: contracts of l09Trees, TreeOf. -/
import Derived.Test.YtfmmfgjelaekhaaDoorTg
import Derived.RegionTactic
import Derived.BigRegion
import Derived.Outline
set_option linter.unusedVariables false
set_option linter.unusedSimpArgs false
namespace Go.Proofs.YtfmmfgjelaekhaaDoor
open Go.RowKit

theorem drop_step {body : List LOp} {k : Nat} {x : LOp} (hu : body[k]? = some x) : body.drop k = x :: body.drop (k + 1) := by
  obtain ⟨h, rfl⟩ := List.getElem?_eq_some_iff.1 hu
  exact List.drop_eq_getElem_cons h
set_option maxRecDepth 100000 in
set_option maxHeartbeats 4000000 in
theorem l09Trees_calls : ∀ (N : Nat) (A : Option Addr) (c : Nat) (body : List LOp) (i : Nat) (w : World), (body.drop i).length ≤ N → Rd w A (body.flatMap LOp.enc) → body.length ≤ 1048576 → i + 2 * (body.drop i).length ≤ 9000000 →
    Calls Tryd.prog 84 #[.slice A body.length c, .int .i64 i] w fun e w' => ∃ A1 c1 S, ∃ j : Nat, e = .returned (.tuple #[.slice A1 (treesT (body.drop i)).1.length c1, .int .i64 j]) ∧ SlO w' 106 w.heap.size A1 c1 (treesT (body.drop i)).1 S ∧ body.drop j = (treesT (body.drop i)).2 ∧ j + 2 * (body.drop j).length ≤ i + 2 * (body.drop i).length ∧ Below w.heap.size w w' := by
  intro N
  induction N using Nat.strongRecOn with
  | _ N ih =>
  intro A c body i w hN hr hn hi
  have HR := Lib.hid hr
  have IH := Lib.hid ih
  clear hr ih
  simp only [List.length_drop] at hN hi
  go_enter Tryd.func84, Tryd.ntmps84
  go_wp2
  go_loopw [1, 6] (fun iv v wr => ∃ (k : Nat) (out : List LTree) (B : Option Addr) (d : Nat) (S : List Nat), iv = .int .i64 k ∧ v = .slice B out.length d ∧ i ≤ k ∧ k + 2 * (body.length - k) ≤ i + 2 * (body.length - i) ∧ out.length + (body.length - k) ≤ body.length - i ∧
    Hid (SlO wr 106 w.heap.size B d out S) ∧ Hid (Below w.heap.size w wr) ∧ Hid (out ++ (treesT (body.drop k)).1 = (treesT (body.drop i)).1 ∧ (treesT (body.drop k)).2 = (treesT (body.drop i)).2)) (fun iv _ _ => body.length - (intOf iv).toNat)
  case atStart => exact ⟨i, [], some ⟨w.heap.size, 0, none⟩, 0, [w.heap.size], rfl, rfl, Nat.le_refl _, Nat.le_refl _, by simp, Lib.hid ⟨[], some w.heap.size, [], Row.made w #[] 106 3 0 (by decide) rfl, ⟨rfl, rfl⟩, rfl, by simp, by simp⟩, Lib.hid (bl_alloc (Below.refl _ _) _), Lib.hid ⟨rfl, rfl⟩⟩
  case round =>
    obtain ⟨k, out, B, d, S, rfl, rfl, hik, hpk, hob, HSl, HW, HE⟩ := hrel
    by_cases hlt : k < body.length
    · have hu : body[k]? = some body[k] := List.getElem?_eq_getElem hlt
      obtain ⟨ad, rfl, hc⟩ := (HR.out.keepB HW.out).el LOp.enc_len hu (by omega)
      have hc0 := hc 0 _ rfl
      have hc1 := hc 1 _ rfl
      rw [Nat.add_zero] at hc0
      rw [add_field _ _ _ (by omega)] at hc1
      have hb1 : (ad.add (k * 2)).block < wr.heap.size := World.block_lt_of_cell? wr _ hc0
      have HD := Lib.hid (drop_step hu)
      clear hc hu
      generalize body[k] = x at hc0 hc1 HD
      obtain ⟨kd, n⟩ := x
      simp only at hc0 hc1
      have i1 : (k : Int) < (body.length : Int) := by omega
      have HE1 := Lib.hid (show out ++ (treesT (⟨kd, n⟩ :: body.drop (k + 1))).1 = (treesT (body.drop i)).1 ∧ (treesT (⟨kd, n⟩ :: body.drop (k + 1))).2 = (treesT (body.drop i)).2 by rw [← HD.out]; exact HE.out)
      have hkd : (kd = 5 ∨ kd = 7) ∨ (kd = 3 ∨ kd = 4 ∨ kd = 6) ∨ (¬ kd = 3 ∧ ¬ kd = 4 ∧ ¬ kd = 6 ∧ ¬ kd = 5 ∧ ¬ kd = 7) := by omega
      rcases hkd with hkd | hkd | ⟨o3, o4, o6, o5, o7⟩
      · have HF : Hid ((treesT (body.drop i)).1 = out ∧ (treesT (body.drop i)).2 = body.drop k) := Lib.hid (by have := HE1.out; rw [treesT_end hkd] at this; exact ⟨by simpa using this.1.symm, by rw [HD.out]; exact this.2.symm⟩)
        rcases hkd with rfl | rfl
        all_goals
          go_wp2
          go_ret2
          exact ⟨B, d, S, k, by rw [HF.out.1]; rfl, by rw [HF.out.1]; exact HSl.out, HF.out.2.symm, by simp only [List.length_drop]; omega, HW.out⟩
      · have HE2 : Hid ((out ++ [LTree.mk kd n (treesT (body.drop (k + 1))).1]) ++ (treesT (treesT (body.drop (k + 1))).2.tail).1 = (treesT (body.drop i)).1 ∧ (treesT (treesT (body.drop (k + 1))).2.tail).2 = (treesT (body.drop i)).2) := Lib.hid (by have := HE1.out; rw [treesT_nest hkd] at this; simpa using this)
        rcases hkd with rfl | rfl | rfl
        · obtain ⟨vs, b, S', hrow, hfor, rfl, hnd, hlo⟩ := HSl.out
          have HRow : Hid (Row wr.drew 106 3 B out.length d vs b) := Lib.hid (hrow.keep fun _ _ => rfl)
          have HFor : Hid (ForO wr.drew 106 out vs S') := Lib.hid (hfor.keep fun _ _ => rfl)
          have HLT : Hid (∀ g ∈ b.toList ++ S', g < wr.drew.heap.size) := Lib.hid HSl.out.lt
          have HND := Lib.hid hnd
          have HLO := Lib.hid hlo
          have HWd : Hid (Below w.heap.size w wr.drew) := Lib.hid (bl_drew HW.out)
          clear hrow hfor hnd hlo
          go_wp2_with fail
          go_region
          rw [show (wr.alloc (.cells #[.int .i64 3, .int .i32 n, .slice none 0 0] 106)).drew = wr.drew.alloc (.cells #[.int .i64 3, .int .i32 n, .slice none 0 0] 106) from rfl]
          rw [show wr.heap.size = wr.drew.heap.size from rfl]
          generalize wr.drew = wd at HRow HFor HLT HWd ⊢
          go_wp2_with fail
          have hih := IH.out (body.drop (k + 1)).length (by simp only [List.length_drop]; omega) (some ad) c body (k + 1) (wd.alloc (.cells #[.int .i64 3, .int .i32 n, .slice none 0 0] 106)) (Nat.le_refl _) ((HR.out.keepB HWd.out).call (bl_alloc (Below.refl _ _) _)) hn (by simp only [List.length_drop]; omega)
          rw [show ((k + 1 : Nat) : Int) = (k : Int) + 1 by omega] at hih
          refine hih.mono ?_
          rintro e w2 ⟨A1, c1, S1, j, rfl, hS1, hdj, hpj, hb⟩
          simp only [List.length_drop] at hpj
          have HS1 := Lib.hid hS1
          have HDJ := Lib.hid hdj
          have HBw2 := Lib.hid hb
          have HB2 := Lib.hid (bl_call (bl_alloc HWd.out (.cells #[.int .i64 3, .int .i32 n, .slice none 0 0] 106)) hb)
          have HK := Lib.hid ((Bx.one wd #[.int .i64 3, .int .i32 n, .slice none 0 0] 106).call hb)
          have HROW2 : Hid (Row (w2.setCell ⟨wd.heap.size, 2, none⟩ (.slice A1 (treesT (body.drop (k + 1))).1.length c1)) 106 3 B out.length d vs b) := Lib.hid (((HRow.out.alloc _).call hb).far (p := ⟨wd.heap.size, 2, none⟩) (fun e => by have := HRow.out.lt _ e; simp only at this; omega) _)
          obtain ⟨k1, -⟩ := HK.out
          have cc1 := blk_cell k1
          have f1 := blk_frozen k1
          have z1 := blk_lt k1
          clear hS1 hdj hb k1
          go_wp2_with (at_builtin; refine wp_append1s _ (m := w2.heap.size) ?_ rfl _ _ 45 rfl 106 (.agg #[.int .i64 0, .int .i32 0, .slice none 0 0]) 3 40 Tryd.underlying45 info_tree rfl (by decide) rfl HROW2.out rfl rfl ?_ ?_ ?_ ?_; exact World.size_setCell _ _ _; (intro u hu; simp at hu; rcases hu with rfl | rfl | rfl <;> rfl); (unfold maxLen; omega); omega; intro B2 d2 w3 b2 hR3 hg3 hb3; have HR3 := Lib.hid hR3; have HG3 := Lib.hid hg3; have HB3 := Lib.hid hb3; clear hR3 hg3 hb3)
          have hls : wd.heap.size + 1 ≤ w2.heap.size := by omega
          have hwr := HWd.out.size
          have HPU : Hid (SlO w3 106 w.heap.size B2 d2 (out ++ [LTree.mk 3 n (treesT (body.drop (k + 1))).1]) (b2.toList ++ (S' ++ S1))) := Lib.hid (by
            obtain ⟨vs1, b1, S1', hrow1, hfor1, rfl, hnd1, hlo1⟩ := HS1.out
            have hloS : ∀ g ∈ b1.toList ++ S1', wd.heap.size + 1 ≤ g := by intro g hg; have := hlo1 g hg; simpa using this
            have hset : ∀ g, g ≠ wd.heap.size → (w2.setCell ⟨wd.heap.size, 2, none⟩ (.slice A1 (treesT (body.drop (k + 1))).1.length c1)).heap[g]? = w2.heap[g]? := fun g hg => Below.heap_setCell w2 ⟨wd.heap.size, 2, none⟩ (.slice A1 (treesT (body.drop (k + 1))).1.length c1) g hg
            have hbl : ∀ g ∈ b.toList ++ S', g < wd.heap.size := HLT.out
            have hold : ∀ g, g < wd.heap.size → w2.heap[g]? = wd.heap[g]? := fun g hg => (HBw2.out.block g (by simp; omega)).trans (by rw [Below.heap_alloc _ _ g hg])
            refine SlO.push (w := w2.setCell ⟨wd.heap.size, 2, none⟩ (.slice A1 (treesT (body.drop (k + 1))).1.length c1)) (HFor.out.keep (w1 := w2.setCell ⟨wd.heap.size, 2, none⟩ (.slice A1 (treesT (body.drop (k + 1))).1.length c1)) fun g hg => ?_) HND.out HLO.out (c2 := [.int .i64 3, .int .i32 n, .slice A1 (treesT (body.drop (k + 1))).1.length c1]) (TreeO.intro (hrow1.keep fun g hg => hset g ?_) (hfor1.keep fun g hg => hset g ?_)) hnd1 ?_ ?_ ?_ ?_ HR3.out HG3.out ?_
            · have := hbl g (by simp [hg])
              rw [hset g (by omega), hold g this]
            · have := hloS g (by simp [hg])
              omega
            · have := hloS g (by simp [hg])
              omega
            · intro g hg; have := hloS g hg; omega
            · intro g hg hg2; have h1 := hloS g hg; have h2 := hbl g hg2; omega
            · intro g hg; have := hbl g (by simp [hg]); simp; omega
            · simp; omega
            · rcases HB3.out with h | ⟨g, h1, h2⟩
              · exact .inl h
              · exact .inr ⟨g, h1, by simpa using h2⟩)
          have HB4 : Hid (Below w.heap.size w w3) := Lib.hid (Below.grown (HB2.out.setCell (p := ⟨wd.heap.size, 2, none⟩) (by simp only; omega) _) HG3.out (by simp; omega) (fun g e => HLO.out g (by simp [e])))
          have HE3 : Hid ((out ++ [LTree.mk 3 n (treesT (body.drop (k + 1))).1]) ++ (treesT (body.drop (j + 1))).1 = (treesT (body.drop i)).1 ∧ (treesT (body.drop (j + 1))).2 = (treesT (body.drop i)).2) := Lib.hid (by
            have e : body.drop (j + 1) = (treesT (body.drop (k + 1))).2.tail := by rw [← HDJ.out, List.tail_drop]
            rw [e]; exact HE2.out)
          go_roundw
          case rel => exact ⟨j + 1, out ++ [LTree.mk 3 n (treesT (body.drop (k + 1))).1], B2, d2, _, by go_num, by simp, by omega, by omega, by simp only [List.length_append, List.length_cons, List.length_nil]; omega, HPU, HB4, HE3⟩
          case measure => simp [intOf]; omega
        · obtain ⟨vs, b, S', hrow, hfor, rfl, hnd, hlo⟩ := HSl.out
          have HRow : Hid (Row wr.drew 106 3 B out.length d vs b) := Lib.hid (hrow.keep fun _ _ => rfl)
          have HFor : Hid (ForO wr.drew 106 out vs S') := Lib.hid (hfor.keep fun _ _ => rfl)
          have HLT : Hid (∀ g ∈ b.toList ++ S', g < wr.drew.heap.size) := Lib.hid HSl.out.lt
          have HND := Lib.hid hnd
          have HLO := Lib.hid hlo
          have HWd : Hid (Below w.heap.size w wr.drew) := Lib.hid (bl_drew HW.out)
          clear hrow hfor hnd hlo
          go_wp2_with fail
          go_region
          rw [show (wr.alloc (.cells #[.int .i64 4, .int .i32 n, .slice none 0 0] 106)).drew = wr.drew.alloc (.cells #[.int .i64 4, .int .i32 n, .slice none 0 0] 106) from rfl]
          rw [show wr.heap.size = wr.drew.heap.size from rfl]
          generalize wr.drew = wd at HRow HFor HLT HWd ⊢
          go_wp2_with fail
          have hih := IH.out (body.drop (k + 1)).length (by simp only [List.length_drop]; omega) (some ad) c body (k + 1) (wd.alloc (.cells #[.int .i64 4, .int .i32 n, .slice none 0 0] 106)) (Nat.le_refl _) ((HR.out.keepB HWd.out).call (bl_alloc (Below.refl _ _) _)) hn (by simp only [List.length_drop]; omega)
          rw [show ((k + 1 : Nat) : Int) = (k : Int) + 1 by omega] at hih
          refine hih.mono ?_
          rintro e w2 ⟨A1, c1, S1, j, rfl, hS1, hdj, hpj, hb⟩
          simp only [List.length_drop] at hpj
          have HS1 := Lib.hid hS1
          have HDJ := Lib.hid hdj
          have HBw2 := Lib.hid hb
          have HB2 := Lib.hid (bl_call (bl_alloc HWd.out (.cells #[.int .i64 4, .int .i32 n, .slice none 0 0] 106)) hb)
          have HK := Lib.hid ((Bx.one wd #[.int .i64 4, .int .i32 n, .slice none 0 0] 106).call hb)
          have HROW2 : Hid (Row (w2.setCell ⟨wd.heap.size, 2, none⟩ (.slice A1 (treesT (body.drop (k + 1))).1.length c1)) 106 3 B out.length d vs b) := Lib.hid (((HRow.out.alloc _).call hb).far (p := ⟨wd.heap.size, 2, none⟩) (fun e => by have := HRow.out.lt _ e; simp only at this; omega) _)
          obtain ⟨k1, -⟩ := HK.out
          have cc1 := blk_cell k1
          have f1 := blk_frozen k1
          have z1 := blk_lt k1
          clear hS1 hdj hb k1
          go_wp2_with (at_builtin; refine wp_append1s _ (m := w2.heap.size) ?_ rfl _ _ 45 rfl 106 (.agg #[.int .i64 0, .int .i32 0, .slice none 0 0]) 3 40 Tryd.underlying45 info_tree rfl (by decide) rfl HROW2.out rfl rfl ?_ ?_ ?_ ?_; exact World.size_setCell _ _ _; (intro u hu; simp at hu; rcases hu with rfl | rfl | rfl <;> rfl); (unfold maxLen; omega); omega; intro B2 d2 w3 b2 hR3 hg3 hb3; have HR3 := Lib.hid hR3; have HG3 := Lib.hid hg3; have HB3 := Lib.hid hb3; clear hR3 hg3 hb3)
          have hls : wd.heap.size + 1 ≤ w2.heap.size := by omega
          have hwr := HWd.out.size
          have HPU : Hid (SlO w3 106 w.heap.size B2 d2 (out ++ [LTree.mk 4 n (treesT (body.drop (k + 1))).1]) (b2.toList ++ (S' ++ S1))) := Lib.hid (by
            obtain ⟨vs1, b1, S1', hrow1, hfor1, rfl, hnd1, hlo1⟩ := HS1.out
            have hloS : ∀ g ∈ b1.toList ++ S1', wd.heap.size + 1 ≤ g := by intro g hg; have := hlo1 g hg; simpa using this
            have hset : ∀ g, g ≠ wd.heap.size → (w2.setCell ⟨wd.heap.size, 2, none⟩ (.slice A1 (treesT (body.drop (k + 1))).1.length c1)).heap[g]? = w2.heap[g]? := fun g hg => Below.heap_setCell w2 ⟨wd.heap.size, 2, none⟩ (.slice A1 (treesT (body.drop (k + 1))).1.length c1) g hg
            have hbl : ∀ g ∈ b.toList ++ S', g < wd.heap.size := HLT.out
            have hold : ∀ g, g < wd.heap.size → w2.heap[g]? = wd.heap[g]? := fun g hg => (HBw2.out.block g (by simp; omega)).trans (by rw [Below.heap_alloc _ _ g hg])
            refine SlO.push (w := w2.setCell ⟨wd.heap.size, 2, none⟩ (.slice A1 (treesT (body.drop (k + 1))).1.length c1)) (HFor.out.keep (w1 := w2.setCell ⟨wd.heap.size, 2, none⟩ (.slice A1 (treesT (body.drop (k + 1))).1.length c1)) fun g hg => ?_) HND.out HLO.out (c2 := [.int .i64 4, .int .i32 n, .slice A1 (treesT (body.drop (k + 1))).1.length c1]) (TreeO.intro (hrow1.keep fun g hg => hset g ?_) (hfor1.keep fun g hg => hset g ?_)) hnd1 ?_ ?_ ?_ ?_ HR3.out HG3.out ?_
            · have := hbl g (by simp [hg])
              rw [hset g (by omega), hold g this]
            · have := hloS g (by simp [hg])
              omega
            · have := hloS g (by simp [hg])
              omega
            · intro g hg; have := hloS g hg; omega
            · intro g hg hg2; have h1 := hloS g hg; have h2 := hbl g hg2; omega
            · intro g hg; have := hbl g (by simp [hg]); simp; omega
            · simp; omega
            · rcases HB3.out with h | ⟨g, h1, h2⟩
              · exact .inl h
              · exact .inr ⟨g, h1, by simpa using h2⟩)
          have HB4 : Hid (Below w.heap.size w w3) := Lib.hid (Below.grown (HB2.out.setCell (p := ⟨wd.heap.size, 2, none⟩) (by simp only; omega) _) HG3.out (by simp; omega) (fun g e => HLO.out g (by simp [e])))
          have HE3 : Hid ((out ++ [LTree.mk 4 n (treesT (body.drop (k + 1))).1]) ++ (treesT (body.drop (j + 1))).1 = (treesT (body.drop i)).1 ∧ (treesT (body.drop (j + 1))).2 = (treesT (body.drop i)).2) := Lib.hid (by
            have e : body.drop (j + 1) = (treesT (body.drop (k + 1))).2.tail := by rw [← HDJ.out, List.tail_drop]
            rw [e]; exact HE2.out)
          go_roundw
          case rel => exact ⟨j + 1, out ++ [LTree.mk 4 n (treesT (body.drop (k + 1))).1], B2, d2, _, by go_num, by simp, by omega, by omega, by simp only [List.length_append, List.length_cons, List.length_nil]; omega, HPU, HB4, HE3⟩
          case measure => simp [intOf]; omega
        · obtain ⟨vs, b, S', hrow, hfor, rfl, hnd, hlo⟩ := HSl.out
          have HRow : Hid (Row wr.drew 106 3 B out.length d vs b) := Lib.hid (hrow.keep fun _ _ => rfl)
          have HFor : Hid (ForO wr.drew 106 out vs S') := Lib.hid (hfor.keep fun _ _ => rfl)
          have HLT : Hid (∀ g ∈ b.toList ++ S', g < wr.drew.heap.size) := Lib.hid HSl.out.lt
          have HND := Lib.hid hnd
          have HLO := Lib.hid hlo
          have HWd : Hid (Below w.heap.size w wr.drew) := Lib.hid (bl_drew HW.out)
          clear hrow hfor hnd hlo
          go_wp2_with fail
          go_region
          rw [show (wr.alloc (.cells #[.int .i64 6, .int .i32 n, .slice none 0 0] 106)).drew = wr.drew.alloc (.cells #[.int .i64 6, .int .i32 n, .slice none 0 0] 106) from rfl]
          rw [show wr.heap.size = wr.drew.heap.size from rfl]
          generalize wr.drew = wd at HRow HFor HLT HWd ⊢
          go_wp2_with fail
          have hih := IH.out (body.drop (k + 1)).length (by simp only [List.length_drop]; omega) (some ad) c body (k + 1) (wd.alloc (.cells #[.int .i64 6, .int .i32 n, .slice none 0 0] 106)) (Nat.le_refl _) ((HR.out.keepB HWd.out).call (bl_alloc (Below.refl _ _) _)) hn (by simp only [List.length_drop]; omega)
          rw [show ((k + 1 : Nat) : Int) = (k : Int) + 1 by omega] at hih
          refine hih.mono ?_
          rintro e w2 ⟨A1, c1, S1, j, rfl, hS1, hdj, hpj, hb⟩
          simp only [List.length_drop] at hpj
          have HS1 := Lib.hid hS1
          have HDJ := Lib.hid hdj
          have HBw2 := Lib.hid hb
          have HB2 := Lib.hid (bl_call (bl_alloc HWd.out (.cells #[.int .i64 6, .int .i32 n, .slice none 0 0] 106)) hb)
          have HK := Lib.hid ((Bx.one wd #[.int .i64 6, .int .i32 n, .slice none 0 0] 106).call hb)
          have HROW2 : Hid (Row (w2.setCell ⟨wd.heap.size, 2, none⟩ (.slice A1 (treesT (body.drop (k + 1))).1.length c1)) 106 3 B out.length d vs b) := Lib.hid (((HRow.out.alloc _).call hb).far (p := ⟨wd.heap.size, 2, none⟩) (fun e => by have := HRow.out.lt _ e; simp only at this; omega) _)
          obtain ⟨k1, -⟩ := HK.out
          have cc1 := blk_cell k1
          have f1 := blk_frozen k1
          have z1 := blk_lt k1
          clear hS1 hdj hb k1
          go_wp2_with (at_builtin; refine wp_append1s _ (m := w2.heap.size) ?_ rfl _ _ 45 rfl 106 (.agg #[.int .i64 0, .int .i32 0, .slice none 0 0]) 3 40 Tryd.underlying45 info_tree rfl (by decide) rfl HROW2.out rfl rfl ?_ ?_ ?_ ?_; exact World.size_setCell _ _ _; (intro u hu; simp at hu; rcases hu with rfl | rfl | rfl <;> rfl); (unfold maxLen; omega); omega; intro B2 d2 w3 b2 hR3 hg3 hb3; have HR3 := Lib.hid hR3; have HG3 := Lib.hid hg3; have HB3 := Lib.hid hb3; clear hR3 hg3 hb3)
          have hls : wd.heap.size + 1 ≤ w2.heap.size := by omega
          have hwr := HWd.out.size
          have HPU : Hid (SlO w3 106 w.heap.size B2 d2 (out ++ [LTree.mk 6 n (treesT (body.drop (k + 1))).1]) (b2.toList ++ (S' ++ S1))) := Lib.hid (by
            obtain ⟨vs1, b1, S1', hrow1, hfor1, rfl, hnd1, hlo1⟩ := HS1.out
            have hloS : ∀ g ∈ b1.toList ++ S1', wd.heap.size + 1 ≤ g := by intro g hg; have := hlo1 g hg; simpa using this
            have hset : ∀ g, g ≠ wd.heap.size → (w2.setCell ⟨wd.heap.size, 2, none⟩ (.slice A1 (treesT (body.drop (k + 1))).1.length c1)).heap[g]? = w2.heap[g]? := fun g hg => Below.heap_setCell w2 ⟨wd.heap.size, 2, none⟩ (.slice A1 (treesT (body.drop (k + 1))).1.length c1) g hg
            have hbl : ∀ g ∈ b.toList ++ S', g < wd.heap.size := HLT.out
            have hold : ∀ g, g < wd.heap.size → w2.heap[g]? = wd.heap[g]? := fun g hg => (HBw2.out.block g (by simp; omega)).trans (by rw [Below.heap_alloc _ _ g hg])
            refine SlO.push (w := w2.setCell ⟨wd.heap.size, 2, none⟩ (.slice A1 (treesT (body.drop (k + 1))).1.length c1)) (HFor.out.keep (w1 := w2.setCell ⟨wd.heap.size, 2, none⟩ (.slice A1 (treesT (body.drop (k + 1))).1.length c1)) fun g hg => ?_) HND.out HLO.out (c2 := [.int .i64 6, .int .i32 n, .slice A1 (treesT (body.drop (k + 1))).1.length c1]) (TreeO.intro (hrow1.keep fun g hg => hset g ?_) (hfor1.keep fun g hg => hset g ?_)) hnd1 ?_ ?_ ?_ ?_ HR3.out HG3.out ?_
            · have := hbl g (by simp [hg])
              rw [hset g (by omega), hold g this]
            · have := hloS g (by simp [hg])
              omega
            · have := hloS g (by simp [hg])
              omega
            · intro g hg; have := hloS g hg; omega
            · intro g hg hg2; have h1 := hloS g hg; have h2 := hbl g hg2; omega
            · intro g hg; have := hbl g (by simp [hg]); simp; omega
            · simp; omega
            · rcases HB3.out with h | ⟨g, h1, h2⟩
              · exact .inl h
              · exact .inr ⟨g, h1, by simpa using h2⟩)
          have HB4 : Hid (Below w.heap.size w w3) := Lib.hid (Below.grown (HB2.out.setCell (p := ⟨wd.heap.size, 2, none⟩) (by simp only; omega) _) HG3.out (by simp; omega) (fun g e => HLO.out g (by simp [e])))
          have HE3 : Hid ((out ++ [LTree.mk 6 n (treesT (body.drop (k + 1))).1]) ++ (treesT (body.drop (j + 1))).1 = (treesT (body.drop i)).1 ∧ (treesT (body.drop (j + 1))).2 = (treesT (body.drop i)).2) := Lib.hid (by
            have e : body.drop (j + 1) = (treesT (body.drop (k + 1))).2.tail := by rw [← HDJ.out, List.tail_drop]
            rw [e]; exact HE2.out)
          go_roundw
          case rel => exact ⟨j + 1, out ++ [LTree.mk 6 n (treesT (body.drop (k + 1))).1], B2, d2, _, by go_num, by simp, by omega, by omega, by simp only [List.length_append, List.length_cons, List.length_nil]; omega, HPU, HB4, HE3⟩
          case measure => simp [intOf]; omega
      · have HE2 : Hid ((out ++ [LTree.mk kd n []]) ++ (treesT (body.drop (k + 1))).1 = (treesT (body.drop i)).1 ∧ (treesT (body.drop (k + 1))).2 = (treesT (body.drop i)).2) := Lib.hid (by have := HE1.out; rw [treesT_leaf (by simp only; omega) (by simp only; omega)] at this; simpa using this)
        have e3 : (kd == 3) = false := by simpa using o3
        have e4 : (kd == 4) = false := by simpa using o4
        have e6 : (kd == 6) = false := by simpa using o6
        have e5 : (kd == 5) = false := by simpa using o5
        have e7 : (kd == 7) = false := by simpa using o7
        have ne5 : (kd != 5) = true := by simpa using o5
        have ne7 : (kd != 7) = true := by simpa using o7
        clear o3 o4 o6 o5 o7
        obtain ⟨vs, b, S', hrow, hfor, rfl, hnd, hlo⟩ := HSl.out
        have HRow : Hid (Row wr.drew 106 3 B out.length d vs b) := Lib.hid (hrow.keep fun _ _ => rfl)
        have HFor : Hid (ForO wr.drew 106 out vs S') := Lib.hid (hfor.keep fun _ _ => rfl)
        have HLT : Hid (∀ g ∈ b.toList ++ S', g < wr.drew.heap.size) := Lib.hid HSl.out.lt
        have HND := Lib.hid hnd
        have HLO := Lib.hid hlo
        have HWd : Hid (Below w.heap.size w wr.drew) := Lib.hid (bl_drew HW.out)
        clear hrow hfor hnd hlo
        go_wp2_with fail
        go_region
        rw [show (wr.alloc (.cells #[.int .i64 kd, .int .i32 n, .slice none 0 0] 106)).drew = wr.drew.alloc (.cells #[.int .i64 kd, .int .i32 n, .slice none 0 0] 106) from rfl]
        rw [show wr.heap.size = wr.drew.heap.size from rfl]
        generalize wr.drew = wd at HRow HFor HLT HWd ⊢
        have HROW2 : Hid (Row (wd.alloc (.cells #[.int .i64 kd, .int .i32 n, .slice none 0 0] 106)) 106 3 B out.length d vs b) := Lib.hid (HRow.out.alloc _)
        go_wp2_with (at_builtin; refine wp_append1s _ (m := wd.heap.size + 1) ?_ rfl _ _ 45 rfl 106 (.agg #[.int .i64 0, .int .i32 0, .slice none 0 0]) 3 40 Tryd.underlying45 info_tree rfl (by decide) rfl HROW2.out rfl rfl ?_ ?_ ?_ ?_; exact World.size_alloc _ _; (intro u hu; simp at hu; rcases hu with rfl | rfl | rfl <;> rfl); (unfold maxLen; omega); omega; intro B2 d2 w3 b2 hR3 hg3 hb3; have HR3 := Lib.hid hR3; have HG3 := Lib.hid hg3; have HB3 := Lib.hid hb3; clear hR3 hg3 hb3)
        have hwr := HWd.out.size
        have HPU : Hid (SlO w3 106 w.heap.size B2 d2 (out ++ [LTree.mk kd n []]) (b2.toList ++ (S' ++ []))) := Lib.hid (by
          refine SlO.push (w := wd.alloc (.cells #[.int .i64 kd, .int .i32 n, .slice none 0 0] 106)) (HFor.out.call (bl_alloc (Below.refl _ _) _)) HND.out HLO.out (c2 := [.int .i64 kd, .int .i32 n, .slice none 0 0]) (TreeO.intro (ks := []) (b := none) (S' := []) (Row.nil _ _ _ none) ⟨rfl, rfl⟩) List.nodup_nil (by simp) (by simp) ?_ ?_ HR3.out HG3.out ?_
          · intro g hg; have := HLT.out g (by simp [hg]); simp; omega
          · simp; omega
          · rcases HB3.out with h | ⟨g, h1, h2⟩
            · exact .inl h
            · exact .inr ⟨g, h1, by simpa using h2⟩)
        have HB4 : Hid (Below w.heap.size w w3) := Lib.hid (Below.grown (bl_alloc HWd.out _) HG3.out (by simp; omega) (fun g e => HLO.out g (by simp [e])))
        go_roundw
        case rel => exact ⟨k + 1, out ++ [LTree.mk kd n []], B2, d2, _, by go_num, by simp, by omega, by omega, by simp only [List.length_append, List.length_cons, List.length_nil]; omega, HPU, HB4, HE2⟩
        case measure => simp [intOf]; omega
    · have hdr : body.drop k = [] := List.drop_of_length_le (by omega)
      have HF : Hid ((treesT (body.drop i)).1 = out ∧ (treesT (body.drop i)).2 = body.drop k) := Lib.hid (by have := HE.out; rw [hdr, treesT_nil] at this; exact ⟨by simpa using this.1.symm, by rw [hdr]; exact this.2.symm⟩)
      clear hdr
      go_wp2
      go_ret2
      exact ⟨B, d, S, k, by rw [HF.out.1]; rfl, by rw [HF.out.1]; exact HSl.out, HF.out.2.symm, by simp only [List.length_drop]; omega, HW.out⟩
def treeOf (xs : List LOp) : List LTree := if shapeOk xs = true then (treesT xs).1 else []
set_option maxRecDepth 100000 in
theorem treeOf_calls (A : Option Addr) (c : Nat) (xs : List LOp) (w : World) (hA : Asc w) (hr : Rd w A (xs.flatMap LOp.enc)) (hc : xs.length ≤ c) (hx : ∀ x ∈ xs, x.ok32) (hn : xs.length ≤ 1048576) :
    Calls Tryd.prog 32 #[.slice A xs.length c] w fun e w' => ∃ A1 c1 S, e = .returned (.slice A1 (treeOf xs).length c1) ∧ SlO w' 106 w.heap.size A1 c1 (treeOf xs) S ∧ Below w.heap.size w w' := by
  cases hs : shapeOk xs
  · have HT : Hid (treeOf xs = []) := Lib.hid (by simp [treeOf, hs])
    have HC := Lib.hid (shapeOk_calls A c xs w hA hr hx (by omega))
    rw [hs] at HC
    clear hA hr hx
    go_enter Tryd.func32, Tryd.ntmps32
    go_wp2_with fail
    refine HC.out.mono ?_
    rintro e w1 ⟨rfl, hb⟩
    have HB := Lib.hid hb
    clear hb
    go_wp2_with fail
    go_ret
    exact ⟨none, 0, [], by rw [HT.out]; rfl, by rw [HT.out]; exact SlO.nil _ _ _ _, HB.out⟩
  · have HT : Hid (treeOf xs = (treesT xs).1) := Lib.hid (by simp [treeOf, hs])
    have HC := Lib.hid (shapeOk_calls A c xs w hA hr hx (by omega))
    rw [hs] at HC
    have HR := Lib.hid hr
    clear hA hr hx
    go_enter Tryd.func32, Tryd.ntmps32
    go_wp2_with fail
    refine HC.out.mono ?_
    rintro e w1 ⟨rfl, hb⟩
    have HB := Lib.hid hb
    clear hb
    go_wp2_with fail
    refine (grow_calls xs.length A c xs w w1 (Nat.le_refl _) HB.out HR.out hc hn).mono ?_
    rintro e w2 ⟨A1, c1, S, A2, c2, rfl, hS, hR2, hle, hb⟩
    have HS := Lib.hid hS
    have HB2 := Lib.hid (bl_call HB.out hb)
    have HZ := Lib.hid HB.out.size
    clear hS hR2 hle hb
    go_wp2_with fail
    go_ret
    exact ⟨A1, c1, S, by rw [HT.out]; rfl, by rw [HT.out]; exact HS.out.low HZ.out, HB2.out⟩
set_option maxRecDepth 100000 in
theorem specTreeOf_calls (A : Option Addr) (c : Nat) (xs : List LOp) (w : World) (hr : Rd w A (xs.flatMap LOp.enc)) (hx : ∀ x ∈ xs, x.ok32) (hn : xs.length ≤ 1048576) :
    Calls Tryd.prog 31 #[.slice A xs.length c] w fun e w' => ∃ A1 c1 S, e = .returned (.slice A1 (treeOf xs).length c1) ∧ SlO w' 106 w.heap.size A1 c1 (treeOf xs) S ∧ Below w.heap.size w w' := by
  cases hs : shapeOk xs
  · have HT : Hid (treeOf xs = []) := Lib.hid (by simp [treeOf, hs])
    have HC := Lib.hid (specShapeOk_calls A c xs w hr hx (by omega))
    rw [hs] at HC
    clear hr hx
    go_enter Tryd.func31, Tryd.ntmps31
    go_wp2_with fail
    refine HC.out.mono ?_
    rintro e w1 ⟨rfl, hb⟩
    have HB := Lib.hid hb
    clear hb
    go_wp2_with fail
    go_ret
    exact ⟨none, 0, [], by rw [HT.out]; rfl, by rw [HT.out]; exact SlO.nil _ _ _ _, HB.out⟩
  · have HT : Hid (treeOf xs = (treesT xs).1) := Lib.hid (by simp [treeOf, hs])
    have HC := Lib.hid (specShapeOk_calls A c xs w hr hx (by omega))
    rw [hs] at HC
    have HR := Lib.hid hr
    clear hr hx
    go_enter Tryd.func31, Tryd.ntmps31
    go_wp2_with fail
    refine HC.out.mono ?_
    rintro e w1 ⟨rfl, hb⟩
    have HB := Lib.hid hb
    clear hb
    go_wp2_with fail
    refine (l09Trees_calls xs.length A c xs 0 w1 (by simp) (HR.out.call HB.out) hn (by simp; omega)).mono ?_
    rintro e w2 ⟨A1, c1, S, j, rfl, hS, hdj, hpj, hb⟩
    have HS := Lib.hid hS
    have HB2 := Lib.hid (bl_call HB.out hb)
    have HZ := Lib.hid HB.out.size
    clear hS hdj hpj hb
    go_wp2_with fail
    go_ret
    exact ⟨A1, c1, S, by rw [HT.out]; rfl, by rw [HT.out]; exact HS.out.low HZ.out, HB2.out⟩
end Go.Proofs.YtfmmfgjelaekhaaDoor

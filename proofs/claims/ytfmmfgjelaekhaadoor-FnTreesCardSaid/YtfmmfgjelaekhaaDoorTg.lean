/- The trees of a body: contracts of grow, l09Trees, TreeOf. -/
import Derived.Test.YtfmmfgjelaekhaaDoorTr
import Derived.Test.YtfmmfgjelaekhaaDoorSh
import Derived.Test.YtfmmfgjelaekhaaDoorV
import Derived.StillTailTactics
set_option linter.unusedVariables false
set_option linter.unusedSimpArgs false
namespace Go.Proofs.YtfmmfgjelaekhaaDoor
open Go.RowKit

def slLen (v : Value) : Nat := match v with
  | .slice _ n _ => n
  | _ => 0
theorem slLen_slice (A : Option Addr) (n c : Nat) : slLen (.slice A n c) = n := rfl
theorem info_tree : (Tryd.prog.info? 106).map (fun i => (i.zero, i.size, i.bytes)) = some (some (.agg #[.int .i64 0, .int .i32 0, .slice none 0 0]), 3, 40) := by kernel_rfl
theorem size_alloc2 (w : World) (a b : Obj) : ((w.alloc a).alloc b).heap.size = w.heap.size + 1 + 1 := by simp
/-- body[1:] -/
theorem rd_tail {w : World} {ad : Addr} {x : LOp} {r : List LOp} (h : Rd w (some ad) ((x :: r).flatMap LOp.enc)) : Rd w (some (ad.add 2)) (r.flatMap LOp.enc) := by
  have := h.drop 2
  simpa [LOp.enc] using this
set_option maxRecDepth 100000 in
set_option maxHeartbeats 4000000 in
theorem grow_calls : ∀ (N : Nat) (A : Option Addr) (c : Nat) (body : List LOp) (w0 w : World), body.length ≤ N → Below w0.heap.size w0 w → Rd w0 A (body.flatMap LOp.enc) → body.length ≤ c → body.length ≤ 1048576 →
    Calls Tryd.prog 85 #[.slice A body.length c] w fun e w' => ∃ A1 c1 S A2 c2, e = .returned (.tuple #[.slice A1 (treesT body).1.length c1, .slice A2 (treesT body).2.tail.length c2]) ∧ SlO w' 106 w.heap.size A1 c1 (treesT body).1 S ∧ Rd w0 A2 ((treesT body).2.tail.flatMap LOp.enc) ∧ (treesT body).2.tail.length ≤ c2 ∧ Below w.heap.size w w' := by
  intro N
  induction N using Nat.strongRecOn with
  | _ N ih =>
  intro A c body w0 w hN hb0 hr hc hn
  have HR := Lib.hid hr
  have HB0 := Lib.hid hb0
  have IH := Lib.hid ih
  clear hr ih hb0
  go_enter Tryd.func85, Tryd.ntmps85
  go_wp2
  go_loopw [0, 4] (fun bv v wr => ∃ (r : List LOp) (Ab : Option Addr) (cb : Nat) (out : List LTree) (B : Option Addr) (d : Nat) (S : List Nat), bv = .slice Ab r.length cb ∧ v = .slice B out.length d ∧ r.length ≤ body.length ∧ r.length ≤ cb ∧ out.length + r.length ≤ body.length ∧
    Hid (Rd w0 Ab (r.flatMap LOp.enc)) ∧ Hid (SlO wr 106 w.heap.size B d out S) ∧ Hid (Below w.heap.size w wr) ∧ Hid (out ++ (treesT r).1 = (treesT body).1 ∧ (treesT r).2 = (treesT body).2)) (fun bv _ _ => slLen bv)
  case atStart => exact ⟨body, A, c, [], some ⟨w.heap.size, 0, none⟩, 0, [w.heap.size], rfl, rfl, Nat.le_refl _, hc, by simp, HR, Lib.hid ⟨[], some w.heap.size, [], Row.made w #[] 106 3 0 (by decide) rfl, ⟨rfl, rfl⟩, rfl, by simp, by simp⟩, Lib.hid (bl_alloc (Below.refl _ _) _), Lib.hid ⟨rfl, rfl⟩⟩
  case round =>
    obtain ⟨r, Ab, cb, out, B, d, S, rfl, rfl, hrb, hrc, hob, HRd, HSl, HW, HE⟩ := hrel
    have HWW := Lib.hid (Below.tr' HB0.out HW.out HB0.out.size)
    cases r with
    | nil =>
      have HF : Hid ((treesT body).1 = out ∧ (treesT body).2 = []) := Lib.hid (by have := HE.out; rw [treesT_nil] at this; exact ⟨by simpa using this.1.symm, this.2.symm⟩)
      go_wp2
      go_ret2
      exact ⟨B, d, S, none, 0, by rw [HF.out.1, HF.out.2]; rfl, by rw [HF.out.1]; exact HSl.out, by rw [HF.out.2]; exact Rd.nil _ _, by rw [HF.out.2]; exact Nat.le_refl _, HW.out⟩
    | cons x r1 =>
      obtain ⟨kd, n⟩ := x
      obtain ⟨ad, rfl, hk0⟩ : ∃ ad, Ab = some ad ∧ wr.cell? ad = some (.int .i64 kd) := by
        obtain ⟨ad, e, h⟩ := (HRd.out.keepB HWW.out) 0 (.int .i64 kd) rfl
        exact ⟨ad, e, by rw [show ad.add 0 = ad from by unfold Addr.add; split <;> simp_all] at h; exact h⟩
      have hk1 : wr.cell? ⟨ad.block, ad.off + 1, none⟩ = some (.int .i32 n) := by
        have h := (HRd.out.keepB HWW.out).some_ 1 (.int .i32 n) rfl
        have e := add_field ad 0 1 (by omega)
        rw [show ad.add 0 = ad from by unfold Addr.add; split <;> simp_all, Nat.zero_add] at e
        rwa [e] at h
      have HRt := Lib.hid (rd_tail HRd.out)
      obtain ⟨vs, b, S', hrow, hfor, rfl, hnd, hlo⟩ := HSl.out
      have HRow := Lib.hid hrow
      have HFor := Lib.hid hfor
      have HND := Lib.hid hnd
      have HLO := Lib.hid hlo
      clear hrow hfor hnd hlo
      simp only [List.length_cons] at hrb hrc hob ⊢
      have hkd : (kd = 5 ∨ kd = 7) ∨ (kd = 3 ∨ kd = 4 ∨ kd = 6) ∨ (¬ kd = 3 ∧ ¬ kd = 4 ∧ ¬ kd = 6 ∧ ¬ kd = 5 ∧ ¬ kd = 7) := by omega
      have HRt2 : Hid (Rd w0 (some ⟨ad.block, ad.off + 2, none⟩) (r1.flatMap LOp.enc)) := Lib.hid (by
        have e := add_field ad 0 2 (by omega)
        rw [show ad.add 0 = ad from by unfold Addr.add; split <;> simp_all, Nat.zero_add] at e
        rw [← e]; exact HRt.out)
      clear HRt
      rename Hid (Rd w0 (some ⟨ad.block, ad.off + 2, none⟩) (r1.flatMap LOp.enc)) => HRt
      by_cases hcb : cb = 1
      · have hr1 : r1 = [] := List.eq_nil_of_length_eq_zero (by omega)
        subst hcb hr1
        have HRt : Hid (Rd w0 (some ad) (([] : List LOp).flatMap LOp.enc)) := Lib.hid (Rd.nil _ _)
        simp only [List.length_nil] at hrb hrc hob ⊢
        have h00 : ([] : List LOp).length = 0 := rfl
        have h000 := Lib.hid h00
        clear h00
        rcases hkd with hkd | hkd | ⟨o3, o4, o6, o5, o7⟩
        · have HF : Hid ((treesT body).1 = out ∧ (treesT body).2.tail = ([] : List LOp)) := Lib.hid (by have := HE.out; rw [treesT_end hkd] at this; exact ⟨by simpa using this.1.symm, by rw [← this.2]; rfl⟩)
          rcases hkd with rfl | rfl
          all_goals
            go_wp2
            go_ret2
            exact ⟨B, d, _, (some ad), 0, by rw [HF.out.1, HF.out.2]; rfl, by rw [HF.out.1]; exact HSl.out.call (bl_alloc (bl_alloc (Below.refl _ _) _) _), by rw [HF.out.2]; exact HRt.out, by rw [HF.out.2]; (have h0 := h000.out; omega), bl_alloc (bl_alloc HW.out _) _⟩
        · have HE2 : Hid ((out ++ [LTree.mk kd n (treesT ([] : List LOp)).1]) ++ (treesT (treesT ([] : List LOp)).2.tail).1 = (treesT body).1 ∧ (treesT (treesT ([] : List LOp)).2.tail).2 = (treesT body).2) := Lib.hid (by have := HE.out; rw [treesT_nest hkd] at this; simpa using this)
          have hle := treesT_le ([] : List LOp)
          rcases hkd with rfl | rfl | rfl
          · go_wp2_with fail
            refine (IH.out ([] : List LOp).length (by (have h0 := h000.out; omega)) (some ad) 0 ([] : List LOp) w0 _ (Nat.le_refl _) (Below.tr' HWW.out (bl_alloc (bl_alloc (Below.refl _ wr) _) _) HWW.out.size) HRt.out (by (have h0 := h000.out; omega)) (by (have h0 := h000.out; omega))).mono ?_
            rintro e w2 ⟨A1, c1, S1, A2, c2, rfl, hS1, hR2, hle2, hb⟩
            have HS1 := Lib.hid hS1
            have HR2 := Lib.hid hR2
            have HBw2 := Lib.hid hb
            have HB2 := Lib.hid (bl_call (bl_alloc (bl_alloc HW.out (.cells #[.int .i64 3, .int .i32 n] 71)) (.cells #[.int .i64 3, .int .i32 n, .slice none 0 0] 106)) hb)
            have HK := Lib.hid ((Bx.two wr #[.int .i64 3, .int .i32 n] #[.int .i64 3, .int .i32 n, .slice none 0 0] 71 106).call hb)
            have HROW2 : Hid (Row (w2.setCell ⟨wr.heap.size + 1, 2, none⟩ (.slice A1 (treesT ([] : List LOp)).1.length c1)) 106 3 B out.length d vs b) := Lib.hid ((((HRow.out.alloc _).alloc _).call hb).far (p := ⟨wr.heap.size + 1, 2, none⟩) (fun e => by have := HRow.out.lt _ e; simp only at this; (have h0 := h000.out; omega)) _)
            obtain ⟨k0, k1, -⟩ := HK.out
            have c0 := blk_cell k0
            have cc1 := blk_cell k1
            have f1 := blk_frozen k1
            have z1 := blk_lt k1
            clear hS1 hR2 hb k0 k1
            go_wp2_with (at_builtin; refine wp_append1s _ (m := w2.heap.size) ?_ rfl _ _ 45 rfl 106 (.agg #[.int .i64 0, .int .i32 0, .slice none 0 0]) 3 40 Tryd.underlying45 info_tree rfl (by decide) rfl HROW2.out rfl rfl ?_ ?_ ?_ ?_; exact World.size_setCell _ _ _; (intro u hu; simp at hu; rcases hu with rfl | rfl | rfl <;> rfl); (unfold maxLen; (have h0 := h000.out; omega)); (have h0 := h000.out; omega); intro B2 d2 w3 b2 hR3 hg3 hb3; have HR3 := Lib.hid hR3; have HG3 := Lib.hid hg3; have HB3 := Lib.hid hb3; clear hR3 hg3 hb3)
            go_outline
            have hls : wr.heap.size + 1 + 1 ≤ w2.heap.size := by (have h0 := h000.out; omega)
            have hwr := HW.out.size
            have HPU : Hid (SlO w3 106 w.heap.size B2 d2 (out ++ [LTree.mk 3 n (treesT ([] : List LOp)).1]) (b2.toList ++ (S' ++ S1))) := Lib.hid (by
              obtain ⟨vs1, b1, S1', hrow1, hfor1, rfl, hnd1, hlo1⟩ := HS1.out
              have hloS : ∀ g ∈ b1.toList ++ S1', wr.heap.size + 1 + 1 ≤ g := by intro g hg; have := hlo1 g hg; simpa using this
              have hset : ∀ g, g ≠ wr.heap.size + 1 → (w2.setCell ⟨wr.heap.size + 1, 2, none⟩ (.slice A1 (treesT ([] : List LOp)).1.length c1)).heap[g]? = w2.heap[g]? := fun g hg => Below.heap_setCell w2 ⟨wr.heap.size + 1, 2, none⟩ (.slice A1 (treesT ([] : List LOp)).1.length c1) g hg
              have hbl : ∀ g ∈ b.toList ++ S', g < wr.heap.size := fun g hg => HSl.out.lt g hg
              have hold : ∀ g, g < wr.heap.size → w2.heap[g]? = wr.heap[g]? := fun g hg => (HBw2.out.block g (by simp; (have h0 := h000.out; omega))).trans (by rw [Below.heap_alloc _ _ g (by simp; (have h0 := h000.out; omega)), Below.heap_alloc _ _ g hg])
              refine SlO.push (w := w2.setCell ⟨wr.heap.size + 1, 2, none⟩ (.slice A1 (treesT ([] : List LOp)).1.length c1)) (HFor.out.keep (w1 := w2.setCell ⟨wr.heap.size + 1, 2, none⟩ (.slice A1 (treesT ([] : List LOp)).1.length c1)) fun g hg => ?_) HND.out HLO.out (c2 := [.int .i64 3, .int .i32 n, .slice A1 (treesT ([] : List LOp)).1.length c1]) (TreeO.intro (hrow1.keep fun g hg => hset g ?_) (hfor1.keep fun g hg => hset g ?_)) hnd1 ?_ ?_ ?_ ?_ HR3.out HG3.out ?_
              · have := hbl g (by simp [hg])
                rw [hset g (by (have h0 := h000.out; omega)), hold g this]
              · have := hloS g (by simp [hg])
                (have h0 := h000.out; omega)
              · have := hloS g (by simp [hg])
                (have h0 := h000.out; omega)
              · intro g hg; have := hloS g hg; (have h0 := h000.out; omega)
              · intro g hg hg2; have h1 := hloS g hg; have h2 := hbl g hg2; (have h0 := h000.out; omega)
              · intro g hg; have := hbl g (by simp [hg]); simp; (have h0 := h000.out; omega)
              · simp; (have h0 := h000.out; omega)
              · rcases HB3.out with h | ⟨g, h1, h2⟩
                · exact .inl h
                · exact .inr ⟨g, h1, by simpa using h2⟩)
            have HB4 : Hid (Below w.heap.size w w3) := Lib.hid (Below.grown (HB2.out.setCell (p := ⟨wr.heap.size + 1, 2, none⟩) (by simp only; (have h0 := h000.out; omega)) _) HG3.out (by simp; (have h0 := h000.out; omega)) (fun g e => HLO.out g (by simp [e])))
            go_roundw
            case rel => exact ⟨(treesT ([] : List LOp)).2.tail, A2, c2, out ++ [LTree.mk 3 n (treesT ([] : List LOp)).1], B2, d2, _, by rw [List.length_tail], by simp, by simp only [List.length_tail]; (have h0 := h000.out; omega), hle2, by simp only [List.length_tail, List.length_append, List.length_cons, List.length_nil]; (have h0 := h000.out; omega), HR2, HPU, HB4, HE2⟩
            case measure => simp only [slLen_slice, List.length_tail]; (have h0 := h000.out; omega)
          · go_wp2_with fail
            refine (IH.out ([] : List LOp).length (by (have h0 := h000.out; omega)) (some ad) 0 ([] : List LOp) w0 _ (Nat.le_refl _) (Below.tr' HWW.out (bl_alloc (bl_alloc (Below.refl _ wr) _) _) HWW.out.size) HRt.out (by (have h0 := h000.out; omega)) (by (have h0 := h000.out; omega))).mono ?_
            rintro e w2 ⟨A1, c1, S1, A2, c2, rfl, hS1, hR2, hle2, hb⟩
            have HS1 := Lib.hid hS1
            have HR2 := Lib.hid hR2
            have HBw2 := Lib.hid hb
            have HB2 := Lib.hid (bl_call (bl_alloc (bl_alloc HW.out (.cells #[.int .i64 4, .int .i32 n] 71)) (.cells #[.int .i64 4, .int .i32 n, .slice none 0 0] 106)) hb)
            have HK := Lib.hid ((Bx.two wr #[.int .i64 4, .int .i32 n] #[.int .i64 4, .int .i32 n, .slice none 0 0] 71 106).call hb)
            have HROW2 : Hid (Row (w2.setCell ⟨wr.heap.size + 1, 2, none⟩ (.slice A1 (treesT ([] : List LOp)).1.length c1)) 106 3 B out.length d vs b) := Lib.hid ((((HRow.out.alloc _).alloc _).call hb).far (p := ⟨wr.heap.size + 1, 2, none⟩) (fun e => by have := HRow.out.lt _ e; simp only at this; (have h0 := h000.out; omega)) _)
            obtain ⟨k0, k1, -⟩ := HK.out
            have c0 := blk_cell k0
            have cc1 := blk_cell k1
            have f1 := blk_frozen k1
            have z1 := blk_lt k1
            clear hS1 hR2 hb k0 k1
            go_wp2_with (at_builtin; refine wp_append1s _ (m := w2.heap.size) ?_ rfl _ _ 45 rfl 106 (.agg #[.int .i64 0, .int .i32 0, .slice none 0 0]) 3 40 Tryd.underlying45 info_tree rfl (by decide) rfl HROW2.out rfl rfl ?_ ?_ ?_ ?_; exact World.size_setCell _ _ _; (intro u hu; simp at hu; rcases hu with rfl | rfl | rfl <;> rfl); (unfold maxLen; (have h0 := h000.out; omega)); (have h0 := h000.out; omega); intro B2 d2 w3 b2 hR3 hg3 hb3; have HR3 := Lib.hid hR3; have HG3 := Lib.hid hg3; have HB3 := Lib.hid hb3; clear hR3 hg3 hb3)
            have hls : wr.heap.size + 1 + 1 ≤ w2.heap.size := by (have h0 := h000.out; omega)
            have hwr := HW.out.size
            have HPU : Hid (SlO w3 106 w.heap.size B2 d2 (out ++ [LTree.mk 4 n (treesT ([] : List LOp)).1]) (b2.toList ++ (S' ++ S1))) := Lib.hid (by
              obtain ⟨vs1, b1, S1', hrow1, hfor1, rfl, hnd1, hlo1⟩ := HS1.out
              have hloS : ∀ g ∈ b1.toList ++ S1', wr.heap.size + 1 + 1 ≤ g := by intro g hg; have := hlo1 g hg; simpa using this
              have hset : ∀ g, g ≠ wr.heap.size + 1 → (w2.setCell ⟨wr.heap.size + 1, 2, none⟩ (.slice A1 (treesT ([] : List LOp)).1.length c1)).heap[g]? = w2.heap[g]? := fun g hg => Below.heap_setCell w2 ⟨wr.heap.size + 1, 2, none⟩ (.slice A1 (treesT ([] : List LOp)).1.length c1) g hg
              have hbl : ∀ g ∈ b.toList ++ S', g < wr.heap.size := fun g hg => HSl.out.lt g hg
              have hold : ∀ g, g < wr.heap.size → w2.heap[g]? = wr.heap[g]? := fun g hg => (HBw2.out.block g (by simp; (have h0 := h000.out; omega))).trans (by rw [Below.heap_alloc _ _ g (by simp; (have h0 := h000.out; omega)), Below.heap_alloc _ _ g hg])
              refine SlO.push (w := w2.setCell ⟨wr.heap.size + 1, 2, none⟩ (.slice A1 (treesT ([] : List LOp)).1.length c1)) (HFor.out.keep (w1 := w2.setCell ⟨wr.heap.size + 1, 2, none⟩ (.slice A1 (treesT ([] : List LOp)).1.length c1)) fun g hg => ?_) HND.out HLO.out (c2 := [.int .i64 4, .int .i32 n, .slice A1 (treesT ([] : List LOp)).1.length c1]) (TreeO.intro (hrow1.keep fun g hg => hset g ?_) (hfor1.keep fun g hg => hset g ?_)) hnd1 ?_ ?_ ?_ ?_ HR3.out HG3.out ?_
              · have := hbl g (by simp [hg])
                rw [hset g (by (have h0 := h000.out; omega)), hold g this]
              · have := hloS g (by simp [hg])
                (have h0 := h000.out; omega)
              · have := hloS g (by simp [hg])
                (have h0 := h000.out; omega)
              · intro g hg; have := hloS g hg; (have h0 := h000.out; omega)
              · intro g hg hg2; have h1 := hloS g hg; have h2 := hbl g hg2; (have h0 := h000.out; omega)
              · intro g hg; have := hbl g (by simp [hg]); simp; (have h0 := h000.out; omega)
              · simp; (have h0 := h000.out; omega)
              · rcases HB3.out with h | ⟨g, h1, h2⟩
                · exact .inl h
                · exact .inr ⟨g, h1, by simpa using h2⟩)
            have HB4 : Hid (Below w.heap.size w w3) := Lib.hid (Below.grown (HB2.out.setCell (p := ⟨wr.heap.size + 1, 2, none⟩) (by simp only; (have h0 := h000.out; omega)) _) HG3.out (by simp; (have h0 := h000.out; omega)) (fun g e => HLO.out g (by simp [e])))
            go_roundw
            case rel => exact ⟨(treesT ([] : List LOp)).2.tail, A2, c2, out ++ [LTree.mk 4 n (treesT ([] : List LOp)).1], B2, d2, _, by rw [List.length_tail], by simp, by simp only [List.length_tail]; (have h0 := h000.out; omega), hle2, by simp only [List.length_tail, List.length_append, List.length_cons, List.length_nil]; (have h0 := h000.out; omega), HR2, HPU, HB4, HE2⟩
            case measure => simp only [slLen_slice, List.length_tail]; (have h0 := h000.out; omega)
          · go_wp2_with fail
            refine (IH.out ([] : List LOp).length (by (have h0 := h000.out; omega)) (some ad) 0 ([] : List LOp) w0 _ (Nat.le_refl _) (Below.tr' HWW.out (bl_alloc (bl_alloc (Below.refl _ wr) _) _) HWW.out.size) HRt.out (by (have h0 := h000.out; omega)) (by (have h0 := h000.out; omega))).mono ?_
            rintro e w2 ⟨A1, c1, S1, A2, c2, rfl, hS1, hR2, hle2, hb⟩
            have HS1 := Lib.hid hS1
            have HR2 := Lib.hid hR2
            have HBw2 := Lib.hid hb
            have HB2 := Lib.hid (bl_call (bl_alloc (bl_alloc HW.out (.cells #[.int .i64 6, .int .i32 n] 71)) (.cells #[.int .i64 6, .int .i32 n, .slice none 0 0] 106)) hb)
            have HK := Lib.hid ((Bx.two wr #[.int .i64 6, .int .i32 n] #[.int .i64 6, .int .i32 n, .slice none 0 0] 71 106).call hb)
            have HROW2 : Hid (Row (w2.setCell ⟨wr.heap.size + 1, 2, none⟩ (.slice A1 (treesT ([] : List LOp)).1.length c1)) 106 3 B out.length d vs b) := Lib.hid ((((HRow.out.alloc _).alloc _).call hb).far (p := ⟨wr.heap.size + 1, 2, none⟩) (fun e => by have := HRow.out.lt _ e; simp only at this; (have h0 := h000.out; omega)) _)
            obtain ⟨k0, k1, -⟩ := HK.out
            have c0 := blk_cell k0
            have cc1 := blk_cell k1
            have f1 := blk_frozen k1
            have z1 := blk_lt k1
            clear hS1 hR2 hb k0 k1
            go_wp2_with (at_builtin; refine wp_append1s _ (m := w2.heap.size) ?_ rfl _ _ 45 rfl 106 (.agg #[.int .i64 0, .int .i32 0, .slice none 0 0]) 3 40 Tryd.underlying45 info_tree rfl (by decide) rfl HROW2.out rfl rfl ?_ ?_ ?_ ?_; exact World.size_setCell _ _ _; (intro u hu; simp at hu; rcases hu with rfl | rfl | rfl <;> rfl); (unfold maxLen; (have h0 := h000.out; omega)); (have h0 := h000.out; omega); intro B2 d2 w3 b2 hR3 hg3 hb3; have HR3 := Lib.hid hR3; have HG3 := Lib.hid hg3; have HB3 := Lib.hid hb3; clear hR3 hg3 hb3)
            have hls : wr.heap.size + 1 + 1 ≤ w2.heap.size := by (have h0 := h000.out; omega)
            have hwr := HW.out.size
            have HPU : Hid (SlO w3 106 w.heap.size B2 d2 (out ++ [LTree.mk 6 n (treesT ([] : List LOp)).1]) (b2.toList ++ (S' ++ S1))) := Lib.hid (by
              obtain ⟨vs1, b1, S1', hrow1, hfor1, rfl, hnd1, hlo1⟩ := HS1.out
              have hloS : ∀ g ∈ b1.toList ++ S1', wr.heap.size + 1 + 1 ≤ g := by intro g hg; have := hlo1 g hg; simpa using this
              have hset : ∀ g, g ≠ wr.heap.size + 1 → (w2.setCell ⟨wr.heap.size + 1, 2, none⟩ (.slice A1 (treesT ([] : List LOp)).1.length c1)).heap[g]? = w2.heap[g]? := fun g hg => Below.heap_setCell w2 ⟨wr.heap.size + 1, 2, none⟩ (.slice A1 (treesT ([] : List LOp)).1.length c1) g hg
              have hbl : ∀ g ∈ b.toList ++ S', g < wr.heap.size := fun g hg => HSl.out.lt g hg
              have hold : ∀ g, g < wr.heap.size → w2.heap[g]? = wr.heap[g]? := fun g hg => (HBw2.out.block g (by simp; (have h0 := h000.out; omega))).trans (by rw [Below.heap_alloc _ _ g (by simp; (have h0 := h000.out; omega)), Below.heap_alloc _ _ g hg])
              refine SlO.push (w := w2.setCell ⟨wr.heap.size + 1, 2, none⟩ (.slice A1 (treesT ([] : List LOp)).1.length c1)) (HFor.out.keep (w1 := w2.setCell ⟨wr.heap.size + 1, 2, none⟩ (.slice A1 (treesT ([] : List LOp)).1.length c1)) fun g hg => ?_) HND.out HLO.out (c2 := [.int .i64 6, .int .i32 n, .slice A1 (treesT ([] : List LOp)).1.length c1]) (TreeO.intro (hrow1.keep fun g hg => hset g ?_) (hfor1.keep fun g hg => hset g ?_)) hnd1 ?_ ?_ ?_ ?_ HR3.out HG3.out ?_
              · have := hbl g (by simp [hg])
                rw [hset g (by (have h0 := h000.out; omega)), hold g this]
              · have := hloS g (by simp [hg])
                (have h0 := h000.out; omega)
              · have := hloS g (by simp [hg])
                (have h0 := h000.out; omega)
              · intro g hg; have := hloS g hg; (have h0 := h000.out; omega)
              · intro g hg hg2; have h1 := hloS g hg; have h2 := hbl g hg2; (have h0 := h000.out; omega)
              · intro g hg; have := hbl g (by simp [hg]); simp; (have h0 := h000.out; omega)
              · simp; (have h0 := h000.out; omega)
              · rcases HB3.out with h | ⟨g, h1, h2⟩
                · exact .inl h
                · exact .inr ⟨g, h1, by simpa using h2⟩)
            have HB4 : Hid (Below w.heap.size w w3) := Lib.hid (Below.grown (HB2.out.setCell (p := ⟨wr.heap.size + 1, 2, none⟩) (by simp only; (have h0 := h000.out; omega)) _) HG3.out (by simp; (have h0 := h000.out; omega)) (fun g e => HLO.out g (by simp [e])))
            go_roundw
            case rel => exact ⟨(treesT ([] : List LOp)).2.tail, A2, c2, out ++ [LTree.mk 6 n (treesT ([] : List LOp)).1], B2, d2, _, by rw [List.length_tail], by simp, by simp only [List.length_tail]; (have h0 := h000.out; omega), hle2, by simp only [List.length_tail, List.length_append, List.length_cons, List.length_nil]; (have h0 := h000.out; omega), HR2, HPU, HB4, HE2⟩
            case measure => simp only [slLen_slice, List.length_tail]; (have h0 := h000.out; omega)
        · have HE2 : Hid ((out ++ [LTree.mk kd n []]) ++ (treesT ([] : List LOp)).1 = (treesT body).1 ∧ (treesT ([] : List LOp)).2 = (treesT body).2) := Lib.hid (by have := HE.out; rw [treesT_leaf (by simp only; (have h0 := h000.out; omega)) (by simp only; (have h0 := h000.out; omega))] at this; simpa using this)
          have e3 : (kd == 3) = false := by simpa using o3
          have e4 : (kd == 4) = false := by simpa using o4
          have e6 : (kd == 6) = false := by simpa using o6
          have e5 : (kd == 5) = false := by simpa using o5
          have e7 : (kd == 7) = false := by simpa using o7
          clear o3 o4 o6 o5 o7
          have HROW2 : Hid (Row ((wr.alloc (.cells #[.int .i64 kd, .int .i32 n] 71)).alloc (.cells #[.int .i64 kd, .int .i32 n, .slice none 0 0] 106)) 106 3 B out.length d vs b) := Lib.hid ((HRow.out.alloc _).alloc _)
          go_wp2_with (at_builtin; refine wp_append1s _ (m := wr.heap.size + 1 + 1) ?_ rfl _ _ 45 rfl 106 (.agg #[.int .i64 0, .int .i32 0, .slice none 0 0]) 3 40 Tryd.underlying45 info_tree rfl (by decide) rfl HROW2.out rfl rfl ?_ ?_ ?_ ?_; exact size_alloc2 _ _ _; (intro u hu; simp at hu; rcases hu with rfl | rfl | rfl <;> rfl); (unfold maxLen; (have h0 := h000.out; omega)); (have h0 := h000.out; omega); intro B2 d2 w3 b2 hR3 hg3 hb3; have HR3 := Lib.hid hR3; have HG3 := Lib.hid hg3; have HB3 := Lib.hid hb3; clear hR3 hg3 hb3)
          have hwr := HW.out.size
          have HPU : Hid (SlO w3 106 w.heap.size B2 d2 (out ++ [LTree.mk kd n []]) (b2.toList ++ (S' ++ []))) := Lib.hid (by
            refine SlO.push (w := (wr.alloc (.cells #[.int .i64 kd, .int .i32 n] 71)).alloc (.cells #[.int .i64 kd, .int .i32 n, .slice none 0 0] 106)) (HFor.out.call (bl_alloc (bl_alloc (Below.refl _ _) _) _)) HND.out HLO.out (c2 := [.int .i64 kd, .int .i32 n, .slice none 0 0]) (TreeO.intro (ks := []) (b := none) (S' := []) (Row.nil _ _ _ none) ⟨rfl, rfl⟩) List.nodup_nil (by simp) (by simp) ?_ ?_ HR3.out HG3.out ?_
            · intro g hg; have := HSl.out.lt g (by simp [hg]); simp; (have h0 := h000.out; omega)
            · simp; (have h0 := h000.out; omega)
            · rcases HB3.out with h | ⟨g, h1, h2⟩
              · exact .inl h
              · exact .inr ⟨g, h1, by simpa using h2⟩)
          have HB4 : Hid (Below w.heap.size w w3) := Lib.hid (Below.grown (bl_alloc (bl_alloc HW.out _) _) HG3.out (by simp; (have h0 := h000.out; omega)) (fun g e => HLO.out g (by simp [e])))
          go_roundw
          case rel => exact ⟨([] : List LOp), (some ad), 0, out ++ [LTree.mk kd n []], B2, d2, _, rfl, by simp, by (have h0 := h000.out; omega), by (have h0 := h000.out; omega), by simp only [List.length_append, List.length_cons, List.length_nil]; (have h0 := h000.out; omega), HRt, HPU, HB4, HE2⟩
          case measure => simp only [slLen_slice]; (have h0 := h000.out; omega)
      · skip
        rcases hkd with hkd | hkd | ⟨o3, o4, o6, o5, o7⟩
        · have HF : Hid ((treesT body).1 = out ∧ (treesT body).2.tail = r1) := Lib.hid (by have := HE.out; rw [treesT_end hkd] at this; exact ⟨by simpa using this.1.symm, by rw [← this.2]; rfl⟩)
          rcases hkd with rfl | rfl
          all_goals
            go_wp2
            go_ret2
            exact ⟨B, d, _, (some ⟨ad.block, ad.off + 2, none⟩), (cb - 1), by rw [HF.out.1, HF.out.2]; rfl, by rw [HF.out.1]; exact HSl.out.call (bl_alloc (bl_alloc (Below.refl _ _) _) _), by rw [HF.out.2]; exact HRt.out, by rw [HF.out.2]; omega, bl_alloc (bl_alloc HW.out _) _⟩
        · have HE2 : Hid ((out ++ [LTree.mk kd n (treesT r1).1]) ++ (treesT (treesT r1).2.tail).1 = (treesT body).1 ∧ (treesT (treesT r1).2.tail).2 = (treesT body).2) := Lib.hid (by have := HE.out; rw [treesT_nest hkd] at this; simpa using this)
          have hle := treesT_le r1
          rcases hkd with rfl | rfl | rfl
          · go_wp2_with fail
            refine (IH.out r1.length (by omega) (some ⟨ad.block, ad.off + 2, none⟩) (cb - 1) r1 w0 _ (Nat.le_refl _) (Below.tr' HWW.out (bl_alloc (bl_alloc (Below.refl _ wr) _) _) HWW.out.size) HRt.out (by omega) (by omega)).mono ?_
            rintro e w2 ⟨A1, c1, S1, A2, c2, rfl, hS1, hR2, hle2, hb⟩
            have HS1 := Lib.hid hS1
            have HR2 := Lib.hid hR2
            have HBw2 := Lib.hid hb
            have HB2 := Lib.hid (bl_call (bl_alloc (bl_alloc HW.out (.cells #[.int .i64 3, .int .i32 n] 71)) (.cells #[.int .i64 3, .int .i32 n, .slice none 0 0] 106)) hb)
            have HK := Lib.hid ((Bx.two wr #[.int .i64 3, .int .i32 n] #[.int .i64 3, .int .i32 n, .slice none 0 0] 71 106).call hb)
            have HROW2 : Hid (Row (w2.setCell ⟨wr.heap.size + 1, 2, none⟩ (.slice A1 (treesT r1).1.length c1)) 106 3 B out.length d vs b) := Lib.hid ((((HRow.out.alloc _).alloc _).call hb).far (p := ⟨wr.heap.size + 1, 2, none⟩) (fun e => by have := HRow.out.lt _ e; simp only at this; omega) _)
            obtain ⟨k0, k1, -⟩ := HK.out
            have c0 := blk_cell k0
            have cc1 := blk_cell k1
            have f1 := blk_frozen k1
            have z1 := blk_lt k1
            clear hS1 hR2 hb k0 k1
            go_wp2_with (at_builtin; refine wp_append1s _ (m := w2.heap.size) ?_ rfl _ _ 45 rfl 106 (.agg #[.int .i64 0, .int .i32 0, .slice none 0 0]) 3 40 Tryd.underlying45 info_tree rfl (by decide) rfl HROW2.out rfl rfl ?_ ?_ ?_ ?_; exact World.size_setCell _ _ _; (intro u hu; simp at hu; rcases hu with rfl | rfl | rfl <;> rfl); (unfold maxLen; omega); omega; intro B2 d2 w3 b2 hR3 hg3 hb3; have HR3 := Lib.hid hR3; have HG3 := Lib.hid hg3; have HB3 := Lib.hid hb3; clear hR3 hg3 hb3)
            go_outline
            have hls : wr.heap.size + 1 + 1 ≤ w2.heap.size := by omega
            have hwr := HW.out.size
            have HPU : Hid (SlO w3 106 w.heap.size B2 d2 (out ++ [LTree.mk 3 n (treesT r1).1]) (b2.toList ++ (S' ++ S1))) := Lib.hid (by
              obtain ⟨vs1, b1, S1', hrow1, hfor1, rfl, hnd1, hlo1⟩ := HS1.out
              have hloS : ∀ g ∈ b1.toList ++ S1', wr.heap.size + 1 + 1 ≤ g := by intro g hg; have := hlo1 g hg; simpa using this
              have hset : ∀ g, g ≠ wr.heap.size + 1 → (w2.setCell ⟨wr.heap.size + 1, 2, none⟩ (.slice A1 (treesT r1).1.length c1)).heap[g]? = w2.heap[g]? := fun g hg => Below.heap_setCell w2 ⟨wr.heap.size + 1, 2, none⟩ (.slice A1 (treesT r1).1.length c1) g hg
              have hbl : ∀ g ∈ b.toList ++ S', g < wr.heap.size := fun g hg => HSl.out.lt g hg
              have hold : ∀ g, g < wr.heap.size → w2.heap[g]? = wr.heap[g]? := fun g hg => (HBw2.out.block g (by simp; omega)).trans (by rw [Below.heap_alloc _ _ g (by simp; omega), Below.heap_alloc _ _ g hg])
              refine SlO.push (w := w2.setCell ⟨wr.heap.size + 1, 2, none⟩ (.slice A1 (treesT r1).1.length c1)) (HFor.out.keep (w1 := w2.setCell ⟨wr.heap.size + 1, 2, none⟩ (.slice A1 (treesT r1).1.length c1)) fun g hg => ?_) HND.out HLO.out (c2 := [.int .i64 3, .int .i32 n, .slice A1 (treesT r1).1.length c1]) (TreeO.intro (hrow1.keep fun g hg => hset g ?_) (hfor1.keep fun g hg => hset g ?_)) hnd1 ?_ ?_ ?_ ?_ HR3.out HG3.out ?_
              · have := hbl g (by simp [hg])
                rw [hset g (by omega), hold g this]
              · have := hloS g (by simp [hg])
                omega
              · have := hloS g (by simp [hg])
                omega
              · intro g hg; have := hloS g hg; omega
              · intro g hg hg2; have h1 := hloS g hg; have h2 := hbl g hg2; omega
              · intro g hg; have := hbl g (by simp [hg]); simp; omega
              · simp; omega
              · rcases HB3.out with h | ⟨g, h1, h2⟩
                · exact .inl h
                · exact .inr ⟨g, h1, by simpa using h2⟩)
            have HB4 : Hid (Below w.heap.size w w3) := Lib.hid (Below.grown (HB2.out.setCell (p := ⟨wr.heap.size + 1, 2, none⟩) (by simp only; omega) _) HG3.out (by simp; omega) (fun g e => HLO.out g (by simp [e])))
            go_roundw
            case rel => exact ⟨(treesT r1).2.tail, A2, c2, out ++ [LTree.mk 3 n (treesT r1).1], B2, d2, _, by rw [List.length_tail], by simp, by simp only [List.length_tail]; omega, hle2, by simp only [List.length_tail, List.length_append, List.length_cons, List.length_nil]; omega, HR2, HPU, HB4, HE2⟩
            case measure => simp only [slLen_slice, List.length_tail]; omega
          · go_wp2_with fail
            refine (IH.out r1.length (by omega) (some ⟨ad.block, ad.off + 2, none⟩) (cb - 1) r1 w0 _ (Nat.le_refl _) (Below.tr' HWW.out (bl_alloc (bl_alloc (Below.refl _ wr) _) _) HWW.out.size) HRt.out (by omega) (by omega)).mono ?_
            rintro e w2 ⟨A1, c1, S1, A2, c2, rfl, hS1, hR2, hle2, hb⟩
            have HS1 := Lib.hid hS1
            have HR2 := Lib.hid hR2
            have HBw2 := Lib.hid hb
            have HB2 := Lib.hid (bl_call (bl_alloc (bl_alloc HW.out (.cells #[.int .i64 4, .int .i32 n] 71)) (.cells #[.int .i64 4, .int .i32 n, .slice none 0 0] 106)) hb)
            have HK := Lib.hid ((Bx.two wr #[.int .i64 4, .int .i32 n] #[.int .i64 4, .int .i32 n, .slice none 0 0] 71 106).call hb)
            have HROW2 : Hid (Row (w2.setCell ⟨wr.heap.size + 1, 2, none⟩ (.slice A1 (treesT r1).1.length c1)) 106 3 B out.length d vs b) := Lib.hid ((((HRow.out.alloc _).alloc _).call hb).far (p := ⟨wr.heap.size + 1, 2, none⟩) (fun e => by have := HRow.out.lt _ e; simp only at this; omega) _)
            obtain ⟨k0, k1, -⟩ := HK.out
            have c0 := blk_cell k0
            have cc1 := blk_cell k1
            have f1 := blk_frozen k1
            have z1 := blk_lt k1
            clear hS1 hR2 hb k0 k1
            go_wp2_with (at_builtin; refine wp_append1s _ (m := w2.heap.size) ?_ rfl _ _ 45 rfl 106 (.agg #[.int .i64 0, .int .i32 0, .slice none 0 0]) 3 40 Tryd.underlying45 info_tree rfl (by decide) rfl HROW2.out rfl rfl ?_ ?_ ?_ ?_; exact World.size_setCell _ _ _; (intro u hu; simp at hu; rcases hu with rfl | rfl | rfl <;> rfl); (unfold maxLen; omega); omega; intro B2 d2 w3 b2 hR3 hg3 hb3; have HR3 := Lib.hid hR3; have HG3 := Lib.hid hg3; have HB3 := Lib.hid hb3; clear hR3 hg3 hb3)
            have hls : wr.heap.size + 1 + 1 ≤ w2.heap.size := by omega
            have hwr := HW.out.size
            have HPU : Hid (SlO w3 106 w.heap.size B2 d2 (out ++ [LTree.mk 4 n (treesT r1).1]) (b2.toList ++ (S' ++ S1))) := Lib.hid (by
              obtain ⟨vs1, b1, S1', hrow1, hfor1, rfl, hnd1, hlo1⟩ := HS1.out
              have hloS : ∀ g ∈ b1.toList ++ S1', wr.heap.size + 1 + 1 ≤ g := by intro g hg; have := hlo1 g hg; simpa using this
              have hset : ∀ g, g ≠ wr.heap.size + 1 → (w2.setCell ⟨wr.heap.size + 1, 2, none⟩ (.slice A1 (treesT r1).1.length c1)).heap[g]? = w2.heap[g]? := fun g hg => Below.heap_setCell w2 ⟨wr.heap.size + 1, 2, none⟩ (.slice A1 (treesT r1).1.length c1) g hg
              have hbl : ∀ g ∈ b.toList ++ S', g < wr.heap.size := fun g hg => HSl.out.lt g hg
              have hold : ∀ g, g < wr.heap.size → w2.heap[g]? = wr.heap[g]? := fun g hg => (HBw2.out.block g (by simp; omega)).trans (by rw [Below.heap_alloc _ _ g (by simp; omega), Below.heap_alloc _ _ g hg])
              refine SlO.push (w := w2.setCell ⟨wr.heap.size + 1, 2, none⟩ (.slice A1 (treesT r1).1.length c1)) (HFor.out.keep (w1 := w2.setCell ⟨wr.heap.size + 1, 2, none⟩ (.slice A1 (treesT r1).1.length c1)) fun g hg => ?_) HND.out HLO.out (c2 := [.int .i64 4, .int .i32 n, .slice A1 (treesT r1).1.length c1]) (TreeO.intro (hrow1.keep fun g hg => hset g ?_) (hfor1.keep fun g hg => hset g ?_)) hnd1 ?_ ?_ ?_ ?_ HR3.out HG3.out ?_
              · have := hbl g (by simp [hg])
                rw [hset g (by omega), hold g this]
              · have := hloS g (by simp [hg])
                omega
              · have := hloS g (by simp [hg])
                omega
              · intro g hg; have := hloS g hg; omega
              · intro g hg hg2; have h1 := hloS g hg; have h2 := hbl g hg2; omega
              · intro g hg; have := hbl g (by simp [hg]); simp; omega
              · simp; omega
              · rcases HB3.out with h | ⟨g, h1, h2⟩
                · exact .inl h
                · exact .inr ⟨g, h1, by simpa using h2⟩)
            have HB4 : Hid (Below w.heap.size w w3) := Lib.hid (Below.grown (HB2.out.setCell (p := ⟨wr.heap.size + 1, 2, none⟩) (by simp only; omega) _) HG3.out (by simp; omega) (fun g e => HLO.out g (by simp [e])))
            go_roundw
            case rel => exact ⟨(treesT r1).2.tail, A2, c2, out ++ [LTree.mk 4 n (treesT r1).1], B2, d2, _, by rw [List.length_tail], by simp, by simp only [List.length_tail]; omega, hle2, by simp only [List.length_tail, List.length_append, List.length_cons, List.length_nil]; omega, HR2, HPU, HB4, HE2⟩
            case measure => simp only [slLen_slice, List.length_tail]; omega
          · go_wp2_with fail
            refine (IH.out r1.length (by omega) (some ⟨ad.block, ad.off + 2, none⟩) (cb - 1) r1 w0 _ (Nat.le_refl _) (Below.tr' HWW.out (bl_alloc (bl_alloc (Below.refl _ wr) _) _) HWW.out.size) HRt.out (by omega) (by omega)).mono ?_
            rintro e w2 ⟨A1, c1, S1, A2, c2, rfl, hS1, hR2, hle2, hb⟩
            have HS1 := Lib.hid hS1
            have HR2 := Lib.hid hR2
            have HBw2 := Lib.hid hb
            have HB2 := Lib.hid (bl_call (bl_alloc (bl_alloc HW.out (.cells #[.int .i64 6, .int .i32 n] 71)) (.cells #[.int .i64 6, .int .i32 n, .slice none 0 0] 106)) hb)
            have HK := Lib.hid ((Bx.two wr #[.int .i64 6, .int .i32 n] #[.int .i64 6, .int .i32 n, .slice none 0 0] 71 106).call hb)
            have HROW2 : Hid (Row (w2.setCell ⟨wr.heap.size + 1, 2, none⟩ (.slice A1 (treesT r1).1.length c1)) 106 3 B out.length d vs b) := Lib.hid ((((HRow.out.alloc _).alloc _).call hb).far (p := ⟨wr.heap.size + 1, 2, none⟩) (fun e => by have := HRow.out.lt _ e; simp only at this; omega) _)
            obtain ⟨k0, k1, -⟩ := HK.out
            have c0 := blk_cell k0
            have cc1 := blk_cell k1
            have f1 := blk_frozen k1
            have z1 := blk_lt k1
            clear hS1 hR2 hb k0 k1
            go_wp2_with (at_builtin; refine wp_append1s _ (m := w2.heap.size) ?_ rfl _ _ 45 rfl 106 (.agg #[.int .i64 0, .int .i32 0, .slice none 0 0]) 3 40 Tryd.underlying45 info_tree rfl (by decide) rfl HROW2.out rfl rfl ?_ ?_ ?_ ?_; exact World.size_setCell _ _ _; (intro u hu; simp at hu; rcases hu with rfl | rfl | rfl <;> rfl); (unfold maxLen; omega); omega; intro B2 d2 w3 b2 hR3 hg3 hb3; have HR3 := Lib.hid hR3; have HG3 := Lib.hid hg3; have HB3 := Lib.hid hb3; clear hR3 hg3 hb3)
            have hls : wr.heap.size + 1 + 1 ≤ w2.heap.size := by omega
            have hwr := HW.out.size
            have HPU : Hid (SlO w3 106 w.heap.size B2 d2 (out ++ [LTree.mk 6 n (treesT r1).1]) (b2.toList ++ (S' ++ S1))) := Lib.hid (by
              obtain ⟨vs1, b1, S1', hrow1, hfor1, rfl, hnd1, hlo1⟩ := HS1.out
              have hloS : ∀ g ∈ b1.toList ++ S1', wr.heap.size + 1 + 1 ≤ g := by intro g hg; have := hlo1 g hg; simpa using this
              have hset : ∀ g, g ≠ wr.heap.size + 1 → (w2.setCell ⟨wr.heap.size + 1, 2, none⟩ (.slice A1 (treesT r1).1.length c1)).heap[g]? = w2.heap[g]? := fun g hg => Below.heap_setCell w2 ⟨wr.heap.size + 1, 2, none⟩ (.slice A1 (treesT r1).1.length c1) g hg
              have hbl : ∀ g ∈ b.toList ++ S', g < wr.heap.size := fun g hg => HSl.out.lt g hg
              have hold : ∀ g, g < wr.heap.size → w2.heap[g]? = wr.heap[g]? := fun g hg => (HBw2.out.block g (by simp; omega)).trans (by rw [Below.heap_alloc _ _ g (by simp; omega), Below.heap_alloc _ _ g hg])
              refine SlO.push (w := w2.setCell ⟨wr.heap.size + 1, 2, none⟩ (.slice A1 (treesT r1).1.length c1)) (HFor.out.keep (w1 := w2.setCell ⟨wr.heap.size + 1, 2, none⟩ (.slice A1 (treesT r1).1.length c1)) fun g hg => ?_) HND.out HLO.out (c2 := [.int .i64 6, .int .i32 n, .slice A1 (treesT r1).1.length c1]) (TreeO.intro (hrow1.keep fun g hg => hset g ?_) (hfor1.keep fun g hg => hset g ?_)) hnd1 ?_ ?_ ?_ ?_ HR3.out HG3.out ?_
              · have := hbl g (by simp [hg])
                rw [hset g (by omega), hold g this]
              · have := hloS g (by simp [hg])
                omega
              · have := hloS g (by simp [hg])
                omega
              · intro g hg; have := hloS g hg; omega
              · intro g hg hg2; have h1 := hloS g hg; have h2 := hbl g hg2; omega
              · intro g hg; have := hbl g (by simp [hg]); simp; omega
              · simp; omega
              · rcases HB3.out with h | ⟨g, h1, h2⟩
                · exact .inl h
                · exact .inr ⟨g, h1, by simpa using h2⟩)
            have HB4 : Hid (Below w.heap.size w w3) := Lib.hid (Below.grown (HB2.out.setCell (p := ⟨wr.heap.size + 1, 2, none⟩) (by simp only; omega) _) HG3.out (by simp; omega) (fun g e => HLO.out g (by simp [e])))
            go_roundw
            case rel => exact ⟨(treesT r1).2.tail, A2, c2, out ++ [LTree.mk 6 n (treesT r1).1], B2, d2, _, by rw [List.length_tail], by simp, by simp only [List.length_tail]; omega, hle2, by simp only [List.length_tail, List.length_append, List.length_cons, List.length_nil]; omega, HR2, HPU, HB4, HE2⟩
            case measure => simp only [slLen_slice, List.length_tail]; omega
        · have HE2 : Hid ((out ++ [LTree.mk kd n []]) ++ (treesT r1).1 = (treesT body).1 ∧ (treesT r1).2 = (treesT body).2) := Lib.hid (by have := HE.out; rw [treesT_leaf (by simp only; omega) (by simp only; omega)] at this; simpa using this)
          have e3 : (kd == 3) = false := by simpa using o3
          have e4 : (kd == 4) = false := by simpa using o4
          have e6 : (kd == 6) = false := by simpa using o6
          have e5 : (kd == 5) = false := by simpa using o5
          have e7 : (kd == 7) = false := by simpa using o7
          clear o3 o4 o6 o5 o7
          have HROW2 : Hid (Row ((wr.alloc (.cells #[.int .i64 kd, .int .i32 n] 71)).alloc (.cells #[.int .i64 kd, .int .i32 n, .slice none 0 0] 106)) 106 3 B out.length d vs b) := Lib.hid ((HRow.out.alloc _).alloc _)
          go_wp2_with (at_builtin; refine wp_append1s _ (m := wr.heap.size + 1 + 1) ?_ rfl _ _ 45 rfl 106 (.agg #[.int .i64 0, .int .i32 0, .slice none 0 0]) 3 40 Tryd.underlying45 info_tree rfl (by decide) rfl HROW2.out rfl rfl ?_ ?_ ?_ ?_; exact size_alloc2 _ _ _; (intro u hu; simp at hu; rcases hu with rfl | rfl | rfl <;> rfl); (unfold maxLen; omega); omega; intro B2 d2 w3 b2 hR3 hg3 hb3; have HR3 := Lib.hid hR3; have HG3 := Lib.hid hg3; have HB3 := Lib.hid hb3; clear hR3 hg3 hb3)
          have hwr := HW.out.size
          have HPU : Hid (SlO w3 106 w.heap.size B2 d2 (out ++ [LTree.mk kd n []]) (b2.toList ++ (S' ++ []))) := Lib.hid (by
            refine SlO.push (w := (wr.alloc (.cells #[.int .i64 kd, .int .i32 n] 71)).alloc (.cells #[.int .i64 kd, .int .i32 n, .slice none 0 0] 106)) (HFor.out.call (bl_alloc (bl_alloc (Below.refl _ _) _) _)) HND.out HLO.out (c2 := [.int .i64 kd, .int .i32 n, .slice none 0 0]) (TreeO.intro (ks := []) (b := none) (S' := []) (Row.nil _ _ _ none) ⟨rfl, rfl⟩) List.nodup_nil (by simp) (by simp) ?_ ?_ HR3.out HG3.out ?_
            · intro g hg; have := HSl.out.lt g (by simp [hg]); simp; omega
            · simp; omega
            · rcases HB3.out with h | ⟨g, h1, h2⟩
              · exact .inl h
              · exact .inr ⟨g, h1, by simpa using h2⟩)
          have HB4 : Hid (Below w.heap.size w w3) := Lib.hid (Below.grown (bl_alloc (bl_alloc HW.out _) _) HG3.out (by simp; omega) (fun g e => HLO.out g (by simp [e])))
          go_roundw
          case rel => exact ⟨r1, (some ⟨ad.block, ad.off + 2, none⟩), (cb - 1), out ++ [LTree.mk kd n []], B2, d2, _, rfl, by simp, by omega, by omega, by simp only [List.length_append, List.length_cons, List.length_nil]; omega, HRt, HPU, HB4, HE2⟩
          case measure => simp only [slLen_slice]; omega
end Go.Proofs.YtfmmfgjelaekhaaDoor

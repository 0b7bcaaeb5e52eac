/- NewSt: the program's contract. -/
import Derived.Test.YtkfjkfmceeigpaaNw
import Derived.Deep.RegionWith
import Derived.Outline
import Derived.Deep.Cut
import Derived.Deep.CutRange
set_option linter.unusedVariables false
set_option linter.unusedSimpArgs false
namespace Go.Proofs.Ytkfjkfmceeigpaa
open Go.RowKit

theorem blk_newS {w : World} {o : Obj} {m : Nat} (hm : w.heap.size = m) : (w.alloc o).heap[m]? = some o := hm ▸ blk_new w o
theorem blk_drewY {w : World} {g : Nat} {o : Obj} (h : w.heap[g]? = some o) : w.drew.heap[g]? = some o := h
theorem rowDrewY {w : World} {e : TypeId} {sz : Nat} {A : Option Addr} {n c : Nat} {cs : List Value} {b : Option Nat} (h : Row w e sz A n c cs b) : Row w.drew e sz A n c cs b := h.keep fun _ _ => rfl
theorem mem_rowS {w : World} {m : Nat} (hm : w.heap.size = m) : Row (w.alloc (.cells (madeCells #[Value.int .i32 0] 32) 21)) 21 1 (some ⟨m, 0, none⟩) 32 32 ((List.replicate 32 (0 : Int)).map (Value.int .i32)) (some m) := hm ▸ mem_row w
theorem below4 {n : Nat} {W w1 : World} (hb : Below W.heap.size W w1) (h : n + 1 + 1 + 1 < W.heap.size) : n < w1.heap.size ∧ n + 1 < w1.heap.size ∧ n + 1 + 1 < w1.heap.size ∧ n + 1 + 1 + 1 < w1.heap.size := by
  have := hb.size
  omega
theorem set10Y {w : World} {m : Nat} {t : TypeId} (h : w.heap[m]? = some (.cells #[.slice none 0 0, .slice none 0 0, .int .i32 0, .slice none 0 0, .slice none 0 0, .slice none 0 0, .slice none 0 0, .slice none 0 0, .int .i64 0, .int .i64 0] t (0, 0))) (a0 a1 a2 a3 a4 a5 a6 a7 a8 a9 : Value) : ((((((((((w.setCell ⟨m, 0, none⟩ a0).setCell ⟨m, 1, none⟩ a1).setCell ⟨m, 2, none⟩ a2).setCell ⟨m, 3, none⟩ a3).setCell ⟨m, 4, none⟩ a4).setCell ⟨m, 5, none⟩ a5).setCell ⟨m, 6, none⟩ a6).setCell ⟨m, 7, none⟩ a7).setCell ⟨m, 8, none⟩ a8).setCell ⟨m, 9, none⟩ a9).heap[m]? = some (.cells #[a0, a1, a2, a3, a4, a5, a6, a7, a8, a9] t (0, 0)) := by
  have := blk_set (blk_set (blk_set (blk_set (blk_set (blk_set (blk_set (blk_set (blk_set (blk_set h 0 a0) 1 a1) 2 a2) 3 a3) 4 a4) 5 a5) 6 a6) 7 a7) 8 a8) 9 a9
  simpa using this
theorem set10F {w : World} {g m : Nat} {o : Obj} (h : w.heap[g]? = some o) (hn : g ≠ m) (a0 a1 a2 a3 a4 a5 a6 a7 a8 a9 : Value) : ((((((((((w.setCell ⟨m, 0, none⟩ a0).setCell ⟨m, 1, none⟩ a1).setCell ⟨m, 2, none⟩ a2).setCell ⟨m, 3, none⟩ a3).setCell ⟨m, 4, none⟩ a4).setCell ⟨m, 5, none⟩ a5).setCell ⟨m, 6, none⟩ a6).setCell ⟨m, 7, none⟩ a7).setCell ⟨m, 8, none⟩ a8).setCell ⟨m, 9, none⟩ a9).heap[g]? = some o :=
  blk_far (blk_far (blk_far (blk_far (blk_far (blk_far (blk_far (blk_far (blk_far (blk_far h hn _) hn _) hn _) hn _) hn _) hn _) hn _) hn _) hn _) hn _
theorem set10R {w : World} {e : TypeId} {sz : Nat} {A : Option Addr} {n c : Nat} {cs : List Value} {b : Option Nat} {m : Nat} (h : Row w e sz A n c cs b) (hn : b ≠ some m) (a0 a1 a2 a3 a4 a5 a6 a7 a8 a9 : Value) : Row ((((((((((w.setCell ⟨m, 0, none⟩ a0).setCell ⟨m, 1, none⟩ a1).setCell ⟨m, 2, none⟩ a2).setCell ⟨m, 3, none⟩ a3).setCell ⟨m, 4, none⟩ a4).setCell ⟨m, 5, none⟩ a5).setCell ⟨m, 6, none⟩ a6).setCell ⟨m, 7, none⟩ a7).setCell ⟨m, 8, none⟩ a8).setCell ⟨m, 9, none⟩ a9) e sz A n c cs b :=
  (((((((((h.far hn _).far hn _).far hn _).far hn _).far hn _).far hn _).far hn _).far hn _).far hn _).far hn _
theorem set10B {B m : Nat} {w W : World} (h : Below B w W) (hn : B ≤ m) (a0 a1 a2 a3 a4 a5 a6 a7 a8 a9 : Value) : Below B w ((((((((((W.setCell ⟨m, 0, none⟩ a0).setCell ⟨m, 1, none⟩ a1).setCell ⟨m, 2, none⟩ a2).setCell ⟨m, 3, none⟩ a3).setCell ⟨m, 4, none⟩ a4).setCell ⟨m, 5, none⟩ a5).setCell ⟨m, 6, none⟩ a6).setCell ⟨m, 7, none⟩ a7).setCell ⟨m, 8, none⟩ a8).setCell ⟨m, 9, none⟩ a9) :=
  (((((((((h.setCell (p := ⟨m, 0, none⟩) hn a0).setCell (p := ⟨m, 1, none⟩) hn a1).setCell (p := ⟨m, 2, none⟩) hn a2).setCell (p := ⟨m, 3, none⟩) hn a3).setCell (p := ⟨m, 4, none⟩) hn a4).setCell (p := ⟨m, 5, none⟩) hn a5).setCell (p := ⟨m, 6, none⟩) hn a6).setCell (p := ⟨m, 7, none⟩) hn a7).setCell (p := ⟨m, 8, none⟩) hn a8).setCell (p := ⟨m, 9, none⟩) hn a9
set_option maxRecDepth 100000 in
set_option maxHeartbeats 16000000 in
theorem NewSt_calls (A : Option Addr) (c : Nat) (cells : List Int) (B : Option Addr) (d : Nat) (inp : List Int) (fuel : Int) (w : World) (hr : Rd w A (cells.map (Value.int .u32))) (hi : Rd w B (inp.map (Value.int .u8))) (hn : cells.length ≤ 1048576) (hm : inp.length ≤ 1048576) :
    Calls Try.prog 12 #[.agg #[.slice A cells.length c], .slice B inp.length d, .int .i64 fuel] w fun e w' => ∃ v', e = .returned v' ∧ StO w' w.heap.size (newSt cells inp fuel) v' ∧ Below w.heap.size w w' := by
  have HR := Lib.hid hr
  have HI := Lib.hid hi
  clear hr hi
  have hmk : ∀ W : World, (Instr.makeSlice 27 (.int .i64 32) (.int .i64 32)).run Try.prog W = .ok (.slice (some ⟨W.heap.size, 0, none⟩) 32 32) (W.alloc (.cells (madeCells #[Value.int .i32 0] 32) 21)) := fun W => run_make_rows (P := Try.prog) W 27 21 (.int .i32 0) 1 4 Try.underlying27 (by kernel_rfl) 32 (by omega) (by omega)
  go_enter Try.func12, Try.ntmps12
  go_upto_region 1 with fail
  go_cut [7, 8] from 9 to 15 (fun tv mv wx => ∃ (Y X : Nat) (E4 : Option Addr) (e4 : Nat) (b4 : Option Nat) (E7 : Option Addr) (e7 : Nat) (b7 : Option Nat), tv = .pointer (some ⟨Y, 0, none⟩) ∧ mv = .slice (some ⟨X, 0, none⟩) 32 32 ∧ Hid (wx.heap[Y]? = some (.cells #[.slice none 0 0, .slice none 0 0, .int .i32 0, .slice (some ⟨X, 0, none⟩) 32 32, .slice E4 cells.length e4, .slice none 0 0, .slice none 0 0, .slice E7 inp.length e7, .int .i64 0, .int .i64 fuel] 31 (0, 0))) ∧ Hid (wx.heap[w.heap.size + 1]? = some (.cells #[.slice none 0 0, .slice none 0 0, .int .i32 0, .slice none 0 0, .slice none 0 0, .slice none 0 0, .slice none 0 0, .slice none 0 0, .int .i64 0, .int .i64 0] 31 (0, 0))) ∧
    Hid (Row wx 21 1 (some ⟨X, 0, none⟩) 32 32 ((List.replicate 32 (0 : Int)).map (Value.int .i32)) (some X)) ∧ Hid (Row wx 75 1 E4 cells.length e4 (cells.map (Value.int .u32)) b4) ∧ Hid (Row wx 5 1 E7 inp.length e7 (inp.map (Value.int .u8)) b7) ∧
    Hid (w.heap.size + 1 < Y ∧ (w.heap.size + 1 < X ∧ X ≠ Y) ∧ (∀ g, b4 = some g → w.heap.size + 1 < g ∧ g ≠ Y) ∧ (∀ g, b7 = some g → w.heap.size + 1 < g ∧ g ≠ Y)) ∧ Hid (Below w.heap.size w wx))
  case first =>
    go_region_with (first
      | (go_at_call 40; (with_reducible refine (cloneUint32_calls A c cells _ ?_ hn).mono ?_); exact HR.out.keepB (by with_reducible repeat (first | exact Below.refl _ _ | apply bl_alloc | apply bl_drew | apply bl_drewN)); rintro e wa ⟨E4, e4, b4, rfl, R4, lo4, hb4⟩; have R4h := Lib.hid R4; have L4h := Lib.hid lo4; have HBa : Hid (Below w.heap.size w wa) := Lib.hid (bl_call (by with_reducible repeat (first | exact Below.refl _ _ | apply bl_alloc | apply bl_drew | apply bl_drewN)) hb4); have HXa := Lib.hid hb4; have sa := hb4.size; (try simp at sa); obtain ⟨qa, fa⟩ := bcell hb4; (try (have ya := below4 (n := w.heap.size) hb4 (by first | omega | (simp; done) | (simp; omega)); obtain ⟨ya0, ya1, ya2, ya3⟩ := ya)); (try (have va := below3 (n := w.heap.size) hb4 (by first | omega | (simp; done) | (simp; omega)); obtain ⟨va0, va1, va2⟩ := va)); (try (have xa := below2 (n := w.heap.size) hb4 (by first | omega | (simp; done) | (simp; omega)); obtain ⟨xa0, xa1⟩ := xa)); clear R4 lo4 hb4)
      | (go_at_call 41; (with_reducible refine (cloneByte_calls B d inp _ ?_ hm).mono ?_); exact HI.out.keepB (by with_reducible repeat (first | exact HBa.out | apply bl_alloc | apply bl_drew | apply bl_drewN)); rintro e wb ⟨E7, e7, b7, rfl, R7, lo7, hb7⟩; have R7h := Lib.hid R7; have L7h := Lib.hid lo7; have HBb : Hid (Below w.heap.size w wb) := Lib.hid (bl_call (by with_reducible repeat (first | exact HBa.out | apply bl_alloc | apply bl_drew | apply bl_drewN)) hb7); have HXb := Lib.hid hb7; have sb := hb7.size; (try simp at sb); obtain ⟨qb, fb⟩ := bcell hb7; (try (have yb := below4 (n := w.heap.size) hb7 (by first | omega | (simp; done) | (simp; omega)); obtain ⟨yb0, yb1, yb2, yb3⟩ := yb)); (try (have vb := below3 (n := w.heap.size) hb7 (by first | omega | (simp; done) | (simp; omega)); obtain ⟨vb0, vb1, vb2⟩ := vb)); (try (have xb := below2 (n := w.heap.size) hb7 (by first | omega | (simp; done) | (simp; omega)); obtain ⟨xb0, xb1⟩ := xb)); (try (have zlt : wa.heap.size < wb.heap.size := (by have h := hb7.size; first | omega | (simp at h; omega)))); (try (have zlt2 : wa.heap.size + 1 < wb.heap.size := (by have h := hb7.size; first | omega | (simp at h; omega)))); clear R7 lo7 hb7))
    all_goals
      go_wp2_with fail
      go_meet
      refine ⟨_, _, E4, e4, b4, E7, e7, b7, rfl, rfl, Lib.hid ?_, Lib.hid ?_, Lib.hid ?_, Lib.hid ?_, Lib.hid ?_, Lib.hid ?_, Lib.hid ?_⟩
      · with_reducible repeat (first | refine set10Y ?_ _ _ _ _ _ _ _ _ _ _ | exact blk_newS (by first | omega | (simp; done) | (simp; omega)) | refine blk_alloc ?_ _ | refine blk_drewY ?_ | refine blk_call ?_ HXb.out | refine blk_call ?_ HXa.out)
      · with_reducible repeat (first | refine set10F ?_ (by omega) _ _ _ _ _ _ _ _ _ _ | exact blk_newS (by first | omega | (simp; done) | (simp; omega)) | refine blk_alloc ?_ _ | refine blk_drewY ?_ | refine blk_call ?_ HXb.out | refine blk_call ?_ HXa.out)
      · with_reducible repeat (first | refine set10R ?_ (fun e => by injection e with e; omega) _ _ _ _ _ _ _ _ _ _ | exact mem_rowS (by first | omega | (simp; done) | (simp; omega)) | refine Row.alloc ?_ _ | refine rowDrewY ?_ | refine Row.call ?_ HXb.out | refine Row.call ?_ HXa.out)
      · with_reducible repeat (first | refine set10R ?_ (fun e => by have h1 := L4h.out _ e; have h2 := R4h.out.lt _ e; (try simp at h1); (try simp only at h2); omega) _ _ _ _ _ _ _ _ _ _ | refine Row.alloc ?_ _ | refine rowDrewY ?_ | exact R4h.out | refine Row.call ?_ HXb.out)
      · with_reducible repeat (first | refine set10R ?_ (fun e => by have h1 := L7h.out _ e; have h2 := R7h.out.lt _ e; (try simp at h1); (try simp only at h2); omega) _ _ _ _ _ _ _ _ _ _ | refine Row.alloc ?_ _ | refine rowDrewY ?_ | exact R7h.out)
      · exact ⟨by omega, ⟨by omega, by omega⟩, fun g e => by have h1 := L4h.out _ e; have h2 := R4h.out.lt _ e; (try simp at h1); omega, fun g e => by have h1 := L7h.out _ e; have h2 := R7h.out.lt _ e; (try simp at h1); omega⟩
      · with_reducible repeat (first | refine set10B ?_ (by omega) _ _ _ _ _ _ _ _ _ _ | apply bl_alloc | apply bl_drew | exact HBb.out)
  case rest =>
    obtain ⟨Y, X, E4, e4, b4, E7, e7, b7, rfl, rfl, KY, KR, HM, H4, H7, HN, HB⟩ := hcut
    have cy := blk_cell KY.out
    have fy := blk_frozen KY.out
    have zy := blk_lt KY.out
    have HST : Hid (StK wc (newS cells inp fuel) (.agg #[.slice none 0 0, .slice none 0 0, .int .i32 0, .slice (some ⟨X, 0, none⟩) 32 32, .slice E4 cells.length e4, .slice none 0 0, .slice none 0 0, .slice E7 inp.length e7, .int .i64 0, .int .i64 fuel])) := Lib.hid ⟨none, 0, none, 0, some ⟨X, 0, none⟩, 32, E4, e4, none, 0, none, 0, E7, e7, rfl, Rd.nil _ _, Rd.nil _ _, HM.out.rd, H4.out.rd, Rd.nil _ _, Rd.nil _ _, H7.out.rd, Nat.le_refl _, Nat.le_refl _, Nat.le_refl _, H4.out.le, Nat.le_refl _, Nat.le_refl _, H7.out.le⟩
    have hsm : (newS cells inp fuel).small 140737488355328 := by
      unfold LSt.small newS
      simp
      omega
    cases hok : stOk (newS cells inp fuel)
    · have HP : Hid (newSt cells inp fuel = zeroSt) := Lib.hid (by simp [newSt, hok])
      go_wp2_with fail
      refine (implStOk_calls (newS cells inp fuel) _ wc HST.out hsm).mono ?_
      rintro e w1 ⟨rfl, hb⟩
      rw [hok]
      have HB1 := Lib.hid (bl_call HB.out hb)
      have k1 := blk_call KR.out hb
      have cr := blk_cell k1
      have fr := blk_frozen k1
      have zr := blk_lt k1
      clear hb k1 cy fy zy
      go_wp2_with fail
      refine bodyPost_ret (v := .agg #[.slice none 0 0, .slice none 0 0, .int .i32 0, .slice none 0 0, .slice none 0 0, .slice none 0 0, .slice none 0 0, .slice none 0 0, .int .i64 0, .int .i64 0]) (by simp [results, Try.results12, go_sem, cr, zr]) rfl ⟨_, rfl, ?_, ?_⟩
      · rw [HP.out]; exact stO_zero _ _
      · with_reducible repeat (first | exact HB1.out | apply bl_set1)
    · have HP : Hid (newSt cells inp fuel = newS cells inp fuel) := Lib.hid (by simp [newSt, hok])
      go_wp2_with fail
      refine (implStOk_calls (newS cells inp fuel) _ wc HST.out hsm).mono ?_
      rintro e w1 ⟨rfl, hb⟩
      rw [hok]
      have HB1 := Lib.hid (bl_call HB.out hb)
      have k1 := blk_call KR.out hb
      have cr := blk_cell k1
      have fr := blk_frozen k1
      have zr := blk_lt k1
      have k2 := blk_call KY.out hb
      have cy1 := blk_cell k2
      have zy1 := blk_lt k2
      have HM1 := Lib.hid (HM.out.call hb)
      have H41 := Lib.hid (H4.out.call hb)
      have H71 := Lib.hid (H7.out.call hb)
      obtain ⟨hY, ⟨hX, _⟩, h4, h7⟩ := HN.out
      clear hb k1 k2 cy fy zy
      have n3 : some X ≠ some (w.heap.size + 1) := fun e => by injection e with e; omega
      have n4 : b4 ≠ some (w.heap.size + 1) := fun e => by have := h4 _ e; omega
      have n7 : b7 ≠ some (w.heap.size + 1) := fun e => by have := h7 _ e; omega
      go_wp2_with fail
      refine bodyPost_ret (v := .agg #[.slice none 0 0, .slice none 0 0, .int .i32 0, .slice (some ⟨X, 0, none⟩) 32 32, .slice E4 cells.length e4, .slice none 0 0, .slice none 0 0, .slice E7 inp.length e7, .int .i64 0, .int .i64 fuel]) (by simp [results, Try.results12, go_sem, cr, zr]) rfl ⟨_, rfl, ?_, ?_⟩
      · rw [HP.out]
        refine ⟨none, 0, none, 0, some ⟨X, 0, none⟩, 32, E4, e4, none, 0, none, 0, E7, e7, none, none, some X, b4, none, none, b7, rfl, Row.nil _ _ _ _, Row.nil _ _ _ _, ?_, ?_, Row.nil _ _ _ _, Row.nil _ _ _ _, ?_, ?_, .inl rfl, .inl rfl⟩
        · show Row _ 21 1 (some ⟨X, 0, none⟩) 32 32 ((List.replicate 32 (0 : Int)).map (Value.int .i32)) (some X)
          with_reducible repeat (first | exact HM1.out | refine Row.far ?_ n3 _)
        · show Row _ 75 1 E4 cells.length e4 (cells.map (Value.int .u32)) b4
          with_reducible repeat (first | exact H41.out | refine Row.far ?_ n4 _)
        · show Row _ 5 1 E7 inp.length e7 (inp.map (Value.int .u8)) b7
          with_reducible repeat (first | exact H71.out | refine Row.far ?_ n7 _)
        · intro b hb x hx
          subst hx
          simp at hb
          rcases hb with e | e | e
          · omega
          · have := h4 _ e.symm; omega
          · have := h7 _ e.symm; omega
      · with_reducible repeat (first | exact HB1.out | apply bl_set1)
end Go.Proofs.Ytkfjkfmceeigpaa

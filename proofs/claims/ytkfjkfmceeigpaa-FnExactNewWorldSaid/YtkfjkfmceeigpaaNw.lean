/- NewSt: contracts of the program's and the reference's. -/
import Derived.Test.YtkfjkfmceeigpaaPn
import Derived.Test.YtkfjkfmceeigpaaSr
set_option linter.unusedVariables false
set_option linter.unusedSimpArgs false
namespace Go.Proofs.Ytkfjkfmceeigpaa
open Go.RowKit

def newS (cells inp : List Int) (fuel : Int) : LSt := ⟨[], [], 0, List.replicate 32 0, cells, [], [], inp, 0, fuel⟩
def newSt (cells inp : List Int) (fuel : Int) : LSt := if stOk (newS cells inp fuel) = true then newS cells inp fuel else zeroSt
theorem newOk (cells inp : List Int) (fuel : Int) : stOk (newS cells inp fuel) = decide (inp.length ≤ 100 ∧ (cells.length % 64 = 0 ∧ cells.length ≤ 768) ∧ (0 ≤ fuel ∧ fuel ≤ 4000)) := by
  unfold stOk
  apply decide_eq_decide.2
  rw [stOkP_iff]
  simp only [newS, List.length_nil, List.length_replicate, List.not_mem_nil, List.nodup_nil]
  constructor
  · rintro ⟨_, _, _, h1, h2, _, _, _, _, _, h3, _, h4⟩
    exact ⟨h3, ⟨h1, h2⟩, h4⟩
  · rintro ⟨h3, ⟨h1, h2⟩, h4⟩
    exact ⟨by omega, by omega, by simp, h1, h2, by omega, by simp, by simp, by simp, by omega, h3, by omega, h4⟩
theorem Bx.push {w : World} : ∀ {l : List (Array Value × TypeId)} {n : Nat} (h : Bx w n l) (cs : Array Value) (t : TypeId) (hs : w.heap.size = n + l.length), Bx (w.alloc (.cells cs t)) n (l ++ [(cs, t)])
  | [], n, _, cs, t, hs => ⟨by have := blk_new w (.cells cs t); rw [hs] at this; simpa using this, trivial⟩
  | (c, t') :: r, n, ⟨h, hr⟩, cs, t, hs => ⟨blk_alloc h _, Bx.push hr cs t (by simp at hs ⊢; omega)⟩
theorem mem_row (w : World) : Row (w.alloc (.cells (madeCells #[Value.int .i32 0] 32) 21)) 21 1 (some ⟨w.heap.size, 0, none⟩) 32 32 ((List.replicate 32 (0 : Int)).map (Value.int .i32)) (some w.heap.size) := by
  have h := madeCells_flat (enc := fun x : Int => [Value.int .i32 x]) (sz := 1) (fun _ => rfl) (0 : Int) 32
  rw [List.map_eq_flatMap, ← h]
  exact Row.made w (madeCells #[Value.int .i32 0] 32) 21 1 32 (by decide) (by simp [madeCells])
set_option maxRecDepth 100000 in
set_option maxHeartbeats 2000000 in
theorem specNewSt_calls (A : Option Addr) (c : Nat) (cells : List Int) (B : Option Addr) (d : Nat) (inp : List Int) (fuel : Int) (w : World) (hr : Rd w A (cells.map (Value.int .u32))) (hi : Rd w B (inp.map (Value.int .u8))) (hn : cells.length ≤ 1048576) (hm : inp.length ≤ 1048576) :
    Calls Try.prog 9 #[.agg #[.slice A cells.length c], .slice B inp.length d, .int .i64 fuel] w fun e w' => ∃ v', e = .returned v' ∧ StO w' w.heap.size (newSt cells inp fuel) v' ∧ Below w.heap.size w w' := by
  have HR := Lib.hid hr
  have HI := Lib.hid hi
  clear hr hi
  have hmk : ∀ W : World, (Instr.makeSlice 27 (.int .i64 32) (.int .i64 32)).run Try.prog W = .ok (.slice (some ⟨W.heap.size, 0, none⟩) 32 32) (W.alloc (.cells (madeCells #[Value.int .i32 0] 32) 21)) := fun W => run_make_rows (P := Try.prog) W 27 21 (.int .i32 0) 1 4 Try.underlying27 (by kernel_rfl) 32 (by omega) (by omega)
  by_cases h100 : 100 < inp.length
  · have dl : (100 : Int) < (inp.length : Int) := by omega
    have HP : Hid (newSt cells inp fuel = zeroSt) := Lib.hid (by rw [newSt, newOk, decide_eq_false (by omega)]; rfl)
    go_enter Try.func9, Try.ntmps9
    go_wp2_with fail
    refine bodyPost_ret (v := .agg #[.slice none 0 0, .slice none 0 0, .int .i32 0, .slice none 0 0, .slice none 0 0, .slice none 0 0, .slice none 0 0, .slice none 0 0, .int .i64 0, .int .i64 0]) (by simp [results, Try.results9, go_sem]) rfl ⟨_, rfl, ?_, ?_⟩
    · rw [HP.out]; exact stO_zero _ _
    · with_reducible repeat (first | exact Below.refl _ _ | apply bl_alloc | apply bl_set1)
  have dl : ¬ ((100 : Int) < (inp.length : Int)) := by omega
  by_cases hst : ¬ (cells.length % 64 = 0 ∧ cells.length ≤ 768)
  · have HP : Hid (newSt cells inp fuel = zeroSt) := Lib.hid (by rw [newSt, newOk, decide_eq_false (by omega)]; rfl)
    have HD : Hid (decide (cells.length % 64 = 0 ∧ cells.length ≤ 768) = false) := Lib.hid (decide_eq_false hst)
    go_enter Try.func9, Try.ntmps9
    go_wp2_with fail
    refine (specStoreOk_calls A cells.length c _ (by omega)).mono ?_
    rintro e w1 ⟨rfl, hb⟩
    rw [HD.out]
    have HB := Lib.hid (bl_call (bl_alloc (bl_alloc (bl_alloc (bl_alloc (Below.refl _ w) _) _) _) _) hb)
    have HK := Lib.hid (Bx.call (Bx.push (l := [_, _, _]) (Bx.push (l := [_, _]) (Bx.two w #[.slice A cells.length c] #[.slice none 0 0, .slice none 0 0, .int .i32 0, .slice none 0 0, .slice none 0 0, .slice none 0 0, .slice none 0 0, .slice none 0 0, .int .i64 0, .int .i64 0] 33 31) (madeCells #[Value.int .i32 0] 32) 21 (by simp)) #[.slice none 0 0, .slice none 0 0, .int .i32 0, .slice (some ⟨w.heap.size + 1 + 1, 0, none⟩) 32 32, .slice none 0 0, .slice none 0 0, .slice none 0 0, .slice none 0 0, .int .i64 0, .int .i64 fuel] 31 (by simp)) hb)
    clear hb
    obtain ⟨k0, k1, k2, k3, -⟩ := HK.out
    have ca := blk_cell k0
    have za := blk_lt k0
    have cb := blk_cell k1
    have fb := blk_frozen k1
    have zb := blk_lt k1
    have cd := blk_cell k3
    have fd := blk_frozen k3
    have zd := blk_lt k3
    clear k0 k1 k2 k3
    go_wp2_with fail
    refine bodyPost_ret (v := .agg #[.slice none 0 0, .slice none 0 0, .int .i32 0, .slice none 0 0, .slice none 0 0, .slice none 0 0, .slice none 0 0, .slice none 0 0, .int .i64 0, .int .i64 0]) (by simp [results, Try.results9, go_sem, cb, zb]) rfl ⟨_, rfl, ?_, ?_⟩
    · rw [HP.out]; exact stO_zero _ _
    · with_reducible repeat (first | exact HB.out | apply bl_set1)
  have hst' : cells.length % 64 = 0 ∧ cells.length ≤ 768 := Decidable.not_not.1 hst
  have HD : Hid (decide (cells.length % 64 = 0 ∧ cells.length ≤ 768) = true) := Lib.hid (decide_eq_true hst')
  by_cases hfu : ¬ (0 ≤ fuel ∧ fuel ≤ 4000)
  · have HP : Hid (newSt cells inp fuel = zeroSt) := Lib.hid (by rw [newSt, newOk, decide_eq_false (by omega)]; rfl)
    have HF : Hid (decide (0 ≤ fuel ∧ fuel ≤ 4000) = false) := Lib.hid (decide_eq_false hfu)
    clear hst hst' hfu
    go_enter Try.func9, Try.ntmps9
    go_wp2_with fail
    refine (specStoreOk_calls A cells.length c _ (by omega)).mono ?_
    rintro e w1 ⟨rfl, hb⟩
    rw [HD.out]
    have HB := Lib.hid (bl_call (bl_alloc (bl_alloc (bl_alloc (bl_alloc (Below.refl _ w) _) _) _) _) hb)
    have HK := Lib.hid (Bx.call (Bx.push (l := [_, _, _]) (Bx.push (l := [_, _]) (Bx.two w #[.slice A cells.length c] #[.slice none 0 0, .slice none 0 0, .int .i32 0, .slice none 0 0, .slice none 0 0, .slice none 0 0, .slice none 0 0, .slice none 0 0, .int .i64 0, .int .i64 0] 33 31) (madeCells #[Value.int .i32 0] 32) 21 (by simp)) #[.slice none 0 0, .slice none 0 0, .int .i32 0, .slice (some ⟨w.heap.size + 1 + 1, 0, none⟩) 32 32, .slice none 0 0, .slice none 0 0, .slice none 0 0, .slice none 0 0, .int .i64 0, .int .i64 fuel] 31 (by simp)) hb)
    clear hb
    obtain ⟨k0, k1, k2, k3, -⟩ := HK.out
    have ca := blk_cell k0
    have za := blk_lt k0
    have cb := blk_cell k1
    have fb := blk_frozen k1
    have zb := blk_lt k1
    have cd := blk_cell k3
    have fd := blk_frozen k3
    have zd := blk_lt k3
    clear k0 k1 k2 k3
    go_wp2_with fail
    refine (specIn_calls _ _ _ _).mono ?_
    rintro e w2 ⟨rfl, rfl⟩
    rw [HF.out]
    go_wp2_with fail
    refine bodyPost_ret (v := .agg #[.slice none 0 0, .slice none 0 0, .int .i32 0, .slice none 0 0, .slice none 0 0, .slice none 0 0, .slice none 0 0, .slice none 0 0, .int .i64 0, .int .i64 0]) (by simp [results, Try.results9, go_sem, cb, zb]) rfl ⟨_, rfl, ?_, ?_⟩
    · rw [HP.out]; exact stO_zero _ _
    · with_reducible repeat (first | exact HB.out | apply bl_set1)
  have HP : Hid (newSt cells inp fuel = newS cells inp fuel) := Lib.hid (by rw [newSt, newOk, decide_eq_true (by omega)]; rfl)
  have HF : Hid (decide (0 ≤ fuel ∧ fuel ≤ 4000) = true) := Lib.hid (decide_eq_true (by omega))
  clear hst hst' hfu
  · skip
    go_enter Try.func9, Try.ntmps9
    go_wp2_with fail
    refine (specStoreOk_calls A cells.length c _ (by omega)).mono ?_
    rintro e w1 ⟨rfl, hb⟩
    rw [HD.out]
    have HB := Lib.hid (bl_call (bl_alloc (bl_alloc (bl_alloc (bl_alloc (Below.refl _ w) _) _) _) _) hb)
    have HK := Lib.hid (Bx.call (Bx.push (l := [_, _, _]) (Bx.push (l := [_, _]) (Bx.two w #[.slice A cells.length c] #[.slice none 0 0, .slice none 0 0, .int .i32 0, .slice none 0 0, .slice none 0 0, .slice none 0 0, .slice none 0 0, .slice none 0 0, .int .i64 0, .int .i64 0] 33 31) (madeCells #[Value.int .i32 0] 32) 21 (by simp)) #[.slice none 0 0, .slice none 0 0, .int .i32 0, .slice (some ⟨w.heap.size + 1 + 1, 0, none⟩) 32 32, .slice none 0 0, .slice none 0 0, .slice none 0 0, .slice none 0 0, .int .i64 0, .int .i64 fuel] 31 (by simp)) hb)
    have hs1 := hb.size
    simp at hs1
    have HM : Hid (Row w1 21 1 (some ⟨w.heap.size + 1 + 1, 0, none⟩) 32 32 ((List.replicate 32 (0 : Int)).map (Value.int .i32)) (some (w.heap.size + 1 + 1))) := Lib.hid (by
      have h := mem_row ((w.alloc (.cells #[.slice A cells.length c] 33)).alloc (.cells #[.slice none 0 0, .slice none 0 0, .int .i32 0, .slice none 0 0, .slice none 0 0, .slice none 0 0, .slice none 0 0, .slice none 0 0, .int .i64 0, .int .i64 0] 31))
      rw [show ((w.alloc (.cells #[.slice A cells.length c] 33)).alloc (.cells #[.slice none 0 0, .slice none 0 0, .int .i32 0, .slice none 0 0, .slice none 0 0, .slice none 0 0, .slice none 0 0, .slice none 0 0, .int .i64 0, .int .i64 0] 31)).heap.size = w.heap.size + 1 + 1 by simp] at h
      exact (h.alloc (.cells #[.slice none 0 0, .slice none 0 0, .int .i32 0, .slice (some ⟨w.heap.size + 1 + 1, 0, none⟩) 32 32, .slice none 0 0, .slice none 0 0, .slice none 0 0, .slice none 0 0, .int .i64 0, .int .i64 fuel] 31)).call hb)
    clear hb
    obtain ⟨k0, k1, k2, k3, -⟩ := HK.out
    have ca := blk_cell k0
    have za := blk_lt k0
    have cb := blk_cell k1
    have fb := blk_frozen k1
    have zb := blk_lt k1
    have cd := blk_cell k3
    have fd := blk_frozen k3
    have zd := blk_lt k3
    clear k0 k1 k2 k3
    go_wp2_with fail
    refine (specIn_calls _ _ _ _).mono ?_
    rintro e w2 ⟨rfl, rfl⟩
    rw [HF.out]
    go_wp2_with (first
      | (at_builtin; refine wp_append (w1.alloc (.cells #[] 75)) rfl _ _ 22 rfl 75 (.int .u32 0) 1 4 Try.underlying22 info_Uint32 rfl (by decide) rfl (Row.madeS rfl 75 1) rfl (by simp) ((HR.out.keepB HB.out).call (bl_alloc (Below.refl _ _) _)) one_map (by unfold maxLen; omega) (by omega) ?_; intro E4 e4 w3 b4 hR hg hb; obtain ⟨lo4, hb4⟩ := copiedS rfl hg hb; have R4 := Lib.hid (show Row w3 75 1 E4 cells.length e4 (cells.map (Value.int .u32)) b4 by simpa using hR); (try simp only [Nat.zero_add]); have LO4 := Lib.hid lo4; have HB3 := Lib.hid (bl_call HB.out hb4); have HK3 := Lib.hid (HK.out.call hb4); have HM3 := Lib.hid (HM.out.call hb4); have hs3 := hb4.size; obtain ⟨k0, k1, k2, k3, -⟩ := HK3.out; have cd3 := blk_cell k3; have fd3 := blk_frozen k3; have zd3 := blk_lt k3; clear hR hg hb lo4 hb4 k0 k1 k2 k3)
      | (at_builtin; refine wp_append ((w3.setCell ⟨w.heap.size + 1 + 1 + 1, 4, none⟩ (.slice E4 cells.length e4)).alloc (.cells #[] 5)) rfl _ _ 25 rfl 5 (.int .u8 0) 1 1 Try.underlying25 info_Byte rfl (by decide) rfl (Row.madeS (by simp) 5 1) rfl (by simp) ((HI.out.keepB (bl_set3 HB3.out _)).call (bl_alloc (Below.refl _ _) _)) one_map (by unfold maxLen; omega) (by omega) ?_; intro E7 e7 w4 b7 hR hg hb; obtain ⟨lo7, hb7⟩ := copiedS (by simp) hg hb; have R7 := Lib.hid (show Row w4 5 1 E7 inp.length e7 (inp.map (Value.int .u8)) b7 by simpa using hR); (try simp only [Nat.zero_add]); have LO7 := Lib.hid lo7; have HB4 := Lib.hid (bl_call (bl_set3 HB3.out (.slice E4 cells.length e4) (j := 4)) hb7); have HX7 := Lib.hid hb7; obtain ⟨k0, k1, k2, k3, -⟩ := HK3.out; have j3 : w4.heap[w.heap.size + 1 + 1 + 1]? = some (.cells #[.slice none 0 0, .slice none 0 0, .int .i32 0, .slice (some ⟨w.heap.size + 1 + 1, 0, none⟩) 32 32, .slice E4 cells.length e4, .slice none 0 0, .slice none 0 0, .slice none 0 0, .int .i64 0, .int .i64 fuel] 31 (0, 0)) := blk_call (blk_set k3 4 (.slice E4 cells.length e4)) hb7; have j1 := blk_call (blk_far k1 (p := ⟨w.heap.size + 1 + 1 + 1, 4, none⟩) (by simp only; omega) (.slice E4 cells.length e4)) hb7; have cd4 := blk_cell j3; have fd4 := blk_frozen j3; have zd4 := blk_lt j3; have cb4 := blk_cell j1; have fb4 := blk_frozen j1; have zb4 := blk_lt j1; have hs4 := hb7.size; simp at hs4 lo7; clear hR hg hb hb7 k0 k1 k2 k3 j1 j3))
    have n4 : b4 ≠ some (w.heap.size + 1) := fun e => by have := LO4.out _ e; omega
    have m4 : b4 ≠ some (w.heap.size + 1 + 1 + 1) := fun e => by have := LO4.out _ e; omega
    have n7 : b7 ≠ some (w.heap.size + 1) := fun e => by have := lo7 _ e; omega
    have m7 : b7 ≠ some (w.heap.size + 1 + 1 + 1) := fun e => by have := lo7 _ e; omega
    have n3 : some (w.heap.size + 1 + 1) ≠ some (w.heap.size + 1) := fun e => by injection e with e; omega
    have m3 : some (w.heap.size + 1 + 1) ≠ some (w.heap.size + 1 + 1 + 1) := fun e => by injection e with e; omega
    refine bodyPost_ret (v := .agg #[.slice none 0 0, .slice none 0 0, .int .i32 0, .slice (some ⟨w.heap.size + 1 + 1, 0, none⟩) 32 32, .slice E4 cells.length e4, .slice none 0 0, .slice none 0 0, .slice E7 inp.length e7, .int .i64 0, .int .i64 fuel]) (by simp [results, Try.results9, go_sem, cb4, zb4]) rfl ⟨_, rfl, ?_, ?_⟩
    · rw [HP.out]
      refine ⟨none, 0, none, 0, some ⟨w.heap.size + 1 + 1, 0, none⟩, 32, E4, e4, none, 0, none, 0, E7, e7, none, none, some (w.heap.size + 1 + 1), b4, none, none, b7, rfl, Row.nil _ _ _ _, Row.nil _ _ _ _, ?_, ?_, Row.nil _ _ _ _, Row.nil _ _ _ _, ?_, ?_, .inl rfl, .inl rfl⟩
      · show Row _ 21 1 (some ⟨w.heap.size + 1 + 1, 0, none⟩) 32 32 ((List.replicate 32 (0 : Int)).map (Value.int .i32)) (some (w.heap.size + 1 + 1))
        with_reducible repeat (first | exact HM3.out | refine Row.far ?_ n3 _ | refine Row.far ?_ m3 _ | refine Row.call ?_ HX7.out)
      · show Row _ 75 1 E4 cells.length e4 (cells.map (Value.int .u32)) b4
        with_reducible repeat (first | exact R4.out | refine Row.far ?_ n4 _ | refine Row.far ?_ m4 _ | refine Row.call ?_ HX7.out)
      · show Row _ 5 1 E7 inp.length e7 (inp.map (Value.int .u8)) b7
        with_reducible repeat (first | exact R7.out | refine Row.far ?_ n7 _ | refine Row.far ?_ m7 _)
      · intro b hb x hx
        subst hx
        simp at hb
        rcases hb with e | e | e
        · omega
        · have := LO4.out _ e.symm; omega
        · have := lo7 _ e.symm; omega
    · with_reducible repeat (first | exact HB4.out | apply bl_set3 | apply bl_set1)
end Go.Proofs.Ytkfjkfmceeigpaa

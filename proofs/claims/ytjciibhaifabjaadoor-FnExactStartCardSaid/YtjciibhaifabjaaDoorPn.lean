/- PushN: contracts of the program's and the reference's. -/
import Derived.Test.YtjciibhaifabjaaDoorPq
set_option linter.unusedVariables false
set_option linter.unusedSimpArgs false
namespace Go.Proofs.YtjciibhaifabjaaDoor
open Go.RowKit

theorem StG.fault {w : World} {g lo : Nat} {s : LSt} (h : StG w g lo s) (f : Int) : StG (w.setCell ⟨g, 8, none⟩ (.int .i64 f)) g lo { s with fault := f } := by
  obtain ⟨A0, c0, A1, c1, A3, c3, A4, c4, A5, c5, A6, c6, A7, c7, b0, b1, b3, b4, b5, b6, b7, hg, r0, r1, r3, r4, r5, r6, r7, hl, d1, d2⟩ := h
  exact ⟨A0, c0, A1, c1, A3, c3, A4, c4, A5, c5, A6, c6, A7, c7, b0, b1, b3, b4, b5, b6, b7, blk_set hg 8 _, r0.far (p := ⟨g, 8, none⟩) (fun e => (hl _ (by simp) _ e).2 rfl) _, r1.far (p := ⟨g, 8, none⟩) (fun e => (hl _ (by simp) _ e).2 rfl) _, r3.far (p := ⟨g, 8, none⟩) (fun e => (hl _ (by simp) _ e).2 rfl) _, r4.far (p := ⟨g, 8, none⟩) (fun e => (hl _ (by simp) _ e).2 rfl) _, r5.far (p := ⟨g, 8, none⟩) (fun e => (hl _ (by simp) _ e).2 rfl) _, r6.far (p := ⟨g, 8, none⟩) (fun e => (hl _ (by simp) _ e).2 rfl) _, r7.far (p := ⟨g, 8, none⟩) (fun e => (hl _ (by simp) _ e).2 rfl) _, hl, d1, d2⟩
theorem StI.low {w : World} {lo lo' hi : Nat} {s : LSt} {v : Value} (h : StI w lo hi s v) (hl : lo' ≤ lo) : StI w lo' hi s v := by
  obtain ⟨A0, c0, A1, c1, A3, c3, A4, c4, A5, c5, A6, c6, A7, c7, b0, b1, b3, b4, b5, b6, b7, rfl, r0, r1, r3, r4, r5, r6, r7, hb, d1, d2⟩ := h
  exact ⟨A0, c0, A1, c1, A3, c3, A4, c4, A5, c5, A6, c6, A7, c7, b0, b1, b3, b4, b5, b6, b7, rfl, r0, r1, r3, r4, r5, r6, r7, fun b hb' g hg => ⟨Nat.le_trans hl (hb b hb' g hg).1, (hb b hb' g hg).2⟩, d1, d2⟩
theorem pushSt_small {s : LSt} {n : Int} {m : Nat} (h : s.small m) (hm : 17 ≤ m) (hd : s.data.length ≤ 16) : (pushSt s n).small m := by
  unfold pushSt
  split
  · exact h
  · unfold LSt.small at *
    simp
    omega
def putSt (s : LSt) (t : Nat) (xs : List Int) : LSt := if 16 < s.data.length - t + xs.length then { s with fault := 2 } else { s with data := s.data.take (s.data.length - t) ++ xs }
set_option maxRecDepth 100000 in
set_option maxHeartbeats 1000000 in
theorem l08Fault_calls (s : LSt) (v : Value) (f : Int) (w : World) (hv : StK w s v) (hs : s.small 1048576) :
    Calls Tryd.prog 80 #[v, .int .i64 f] w fun e w' => ∃ v', e = .returned v' ∧ StO w' w.heap.size { s with fault := f } v' ∧ Below w.heap.size w w' := by
  obtain ⟨A0, c0, A1, c1, A3, c3, A4, c4, A5, c5, A6, c6, A7, c7, rfl⟩ := hv.form
  have HV := Lib.hid hv
  clear hv
  go_enter Tryd.func80, Tryd.ntmps80
  go_wp2_with fail
  refine (l08Copy_calls s _ _ (HV.out.keepB (bl_alloc (bl_alloc (Below.refl _ _) _) _)) hs).mono ?_
  rintro e w1 ⟨v1, rfl, hO, hb⟩
  obtain ⟨E0, e0, E1, e1, E3, e3, E4, e4, E5, e5, E6, e6, E7, e7, rfl⟩ := hO.k.form
  have HB1 := Lib.hid (bl_call (bl_alloc (bl_alloc (Below.refl _ w) _) _) hb)
  have hz1 := hb.size
  simp at hz1
  have HK1 := Lib.hid ((Bx.two w #[.slice A0 s.data.length c0, .slice A1 s.ret.length c1, .int .i32 s.a, .slice A3 s.mem.length c3, .slice A4 s.cells.length c4, .slice A5 s.vars.length c5, .slice A6 s.out.length c6, .slice A7 s.inp.length c7, .int .i64 s.fault, .int .i64 s.fuel] #[.slice none 0 0, .slice none 0 0, .int .i32 0, .slice none 0 0, .slice none 0 0, .slice none 0 0, .slice none 0 0, .slice none 0 0, .int .i64 0, .int .i64 0] 34 34).call hb)
  have HO := Lib.hid (show StO w1 (w.heap.size + 1 + 1) { s with fault := f } (.agg #[.slice E0 s.data.length e0, .slice E1 s.ret.length e1, .int .i32 s.a, .slice E3 s.mem.length e3, .slice E4 s.cells.length e4, .slice E5 s.vars.length e5, .slice E6 s.out.length e6, .slice E7 s.inp.length e7, .int .i64 f, .int .i64 s.fuel]) from by
    obtain ⟨A0, c0, A1, c1, A3, c3, A4, c4, A5, c5, A6, c6, A7, c7, b0, b1, b3, b4, b5, b6, b7, he, r0, r1, r3, r4, r5, r6, r7, hl, d1, d2⟩ := hO
    injection he with he
    injection he with he
    simp only [List.cons.injEq, Value.slice.injEq, and_true, true_and] at he
    obtain ⟨⟨rfl, rfl⟩, ⟨rfl, rfl⟩, ⟨rfl, rfl⟩, ⟨rfl, rfl⟩, ⟨rfl, rfl⟩, ⟨rfl, rfl⟩, rfl, rfl⟩ := he
    exact ⟨_, _, _, _, _, _, _, _, _, _, _, _, _, _, b0, b1, b3, b4, b5, b6, b7, rfl, r0, r1, r3, r4, r5, r6, r7, fun b hb x hx => by have := hl b hb x hx; simpa using this, d1, d2⟩)
  clear hO hb
  obtain ⟨k0, k1, -⟩ := HK1.out
  have ca1 := blk_cell k0
  have fa1 := blk_frozen k0
  have za1 := blk_lt k0
  have cb1 := blk_cell k1
  have fb1 := blk_frozen k1
  have zb1 := blk_lt k1
  clear k0 k1
  go_wp2_with fail
  refine bodyPost_ret (v := .agg #[.slice E0 s.data.length e0, .slice E1 s.ret.length e1, .int .i32 s.a, .slice E3 s.mem.length e3, .slice E4 s.cells.length e4, .slice E5 s.vars.length e5, .slice E6 s.out.length e6, .slice E7 s.inp.length e7, .int .i64 f, .int .i64 s.fuel]) (by simp [results, Tryd.results80, go_sem, cb1, zb1]) rfl ⟨_, rfl, ?_, ?_⟩
  · refine StO.low (lo := w.heap.size + 1 + 1) ?_ (by omega)
    with_reducible repeat (first | exact HO.out | refine StO.far ?_ (by simp only; omega) _ | refine StO.alloc ?_ _)
  · with_reducible repeat (first | exact HB1.out | apply bl_set1 | apply bl_alloc | refine Below.setCell ?_ (by simp only; omega) _)
end Go.Proofs.YtjciibhaifabjaaDoor

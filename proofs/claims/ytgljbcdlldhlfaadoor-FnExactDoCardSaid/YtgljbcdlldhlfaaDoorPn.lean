/- PushN: contracts of the program's and the reference's. -/
import Derived.Test.YtgljbcdlldhlfaaDoorPq
set_option linter.unusedVariables false
set_option linter.unusedSimpArgs false
namespace Go.Proofs.YtgljbcdlldhlfaaDoor
open Go.RowKit

theorem StG.fault {w : World} {g lo : Nat} {s : LSt} (h : StG w g lo s) (f : Int) : StG (w.setCell ⟨g, 8, none⟩ (.int .i64 f)) g lo { s with fault := f } := by
  obtain ⟨A0, c0, A1, c1, A3, c3, A4, c4, A5, c5, A6, c6, A7, c7, b0, b1, b3, b4, b5, b6, b7, hg, r0, r1, r3, r4, r5, r6, r7, hl, d1, d2⟩ := h
  exact ⟨A0, c0, A1, c1, A3, c3, A4, c4, A5, c5, A6, c6, A7, c7, b0, b1, b3, b4, b5, b6, b7, blk_set hg 8 _, r0.far (p := ⟨g, 8, none⟩) (fun e => (hl _ (by simp) _ e).2 rfl) _, r1.far (p := ⟨g, 8, none⟩) (fun e => (hl _ (by simp) _ e).2 rfl) _, r3.far (p := ⟨g, 8, none⟩) (fun e => (hl _ (by simp) _ e).2 rfl) _, r4.far (p := ⟨g, 8, none⟩) (fun e => (hl _ (by simp) _ e).2 rfl) _, r5.far (p := ⟨g, 8, none⟩) (fun e => (hl _ (by simp) _ e).2 rfl) _, r6.far (p := ⟨g, 8, none⟩) (fun e => (hl _ (by simp) _ e).2 rfl) _, r7.far (p := ⟨g, 8, none⟩) (fun e => (hl _ (by simp) _ e).2 rfl) _, hl, d1, d2⟩
theorem StI.low {w : World} {lo lo' hi : Nat} {s : LSt} {v : Value} (h : StI w lo hi s v) (hl : lo' ≤ lo) : StI w lo' hi s v := by
  obtain ⟨A0, c0, A1, c1, A3, c3, A4, c4, A5, c5, A6, c6, A7, c7, b0, b1, b3, b4, b5, b6, b7, rfl, r0, r1, r3, r4, r5, r6, r7, hb, d1, d2⟩ := h
  exact ⟨A0, c0, A1, c1, A3, c3, A4, c4, A5, c5, A6, c6, A7, c7, b0, b1, b3, b4, b5, b6, b7, rfl, r0, r1, r3, r4, r5, r6, r7, fun b hb' g hg => ⟨Nat.le_trans hl (hb b hb' g hg).1, (hb b hb' g hg).2⟩, d1, d2⟩
theorem pushSt_small {s : LSt} {n : Int} {m : Nat} (h : s.small m) (hm : 17 ≤ m) (hd : s.data.length ≤ 16) : (pushSt s n).small m := by
  unfold pushSt
  split
  · exact h
  · unfold LSt.small at *
    simp
    omega
def putSt (s : LSt) (t : Nat) (xs : List Int) : LSt := if 16 < s.data.length - t + xs.length then { s with fault := 2 } else { s with data := s.data.take (s.data.length - t) ++ xs }
set_option maxRecDepth 100000 in
set_option maxHeartbeats 2000000 in
theorem PushN_calls (s : LSt) (v : Value) (n : Int) (w : World) (hv : StK w s v) (hs : s.small 140737488355328) :
    Calls Tryd.prog 17 #[v, .int .i32 n] w fun e w' => ∃ v', e = .returned v' ∧ StO w' w.heap.size (pushN s n) v' ∧ Below w.heap.size w w' := by
  obtain ⟨A0, c0, A1, c1, A3, c3, A4, c4, A5, c5, A6, c6, A7, c7, rfl⟩ := hv.form
  have HV := Lib.hid hv
  clear hv
  by_cases hgo : (stOk s && decide (s.fault = 0)) = true
  · have h := (Bool.and_eq_true _ _ ▸ hgo).1
    have hf : s.fault = 0 := of_decide_eq_true (Bool.and_eq_true _ _ ▸ hgo).2
    have HP : Hid (pushN s n = pushSt s n) := Lib.hid (by simp [pushN, h, hf])
    have HS1 := Lib.hid (small_le h)
    have HGO := Lib.hid hgo
    clear hgo h hf
    go_enter Tryd.func17, Tryd.ntmps17
    go_wp2_with fail
    refine (goes_calls s _ _ (HV.out.keepB (bl_alloc (bl_alloc (Below.refl _ _) _) _)) hs).mono ?_
    rintro e w1 ⟨rfl, hb⟩
    rw [HGO.out]
    have HB1 := Lib.hid (bl_call (bl_alloc (bl_alloc (Below.refl _ w) _) _) hb)
    have hz1 := HB1.out.size
    have HK1 := Lib.hid ((Bx.two w #[.slice A0 s.data.length c0, .slice A1 s.ret.length c1, .int .i32 s.a, .slice A3 s.mem.length c3, .slice A4 s.cells.length c4, .slice A5 s.vars.length c5, .slice A6 s.out.length c6, .slice A7 s.inp.length c7, .int .i64 s.fault, .int .i64 s.fuel] #[.slice none 0 0, .slice none 0 0, .int .i32 0, .slice none 0 0, .slice none 0 0, .slice none 0 0, .slice none 0 0, .slice none 0 0, .int .i64 0, .int .i64 0] 32 32).call hb)
    clear hb
    obtain ⟨k0, k1, -⟩ := HK1.out
    have ca1 := blk_cell k0
    have fa1 := blk_frozen k0
    have za1 := blk_lt k0
    have cb1 := blk_cell k1
    have fb1 := blk_frozen k1
    have zb1 := blk_lt k1
    clear k0 k1
    go_wp2_with fail
    refine (ownSt_calls s _ w1 (HV.out.keepB HB1.out) HS1.out).mono ?_
    rintro e w2 ⟨v2, rfl, hO, hb⟩
    obtain ⟨E0, e0, E1, e1, E3, e3, E4, e4, E5, e5, E6, e6, E7, e7, rfl⟩ := hO.k.form
    have HG2 := Lib.hid (StG.of hO)
    have HB2 := Lib.hid (bl_call HB1.out hb)
    have HK2 := Lib.hid (HK1.out.call hb)
    have hz2 := hb.size
    have hq1 := zb1
    clear hO hb ca1 fa1 za1 cb1 fb1 zb1
    obtain ⟨k0, k1, -⟩ := HK2.out
    have ca2 := blk_cell k0
    have fa2 := blk_frozen k0
    have za2 := blk_lt k0
    have cb2 := blk_cell k1
    have fb2 := blk_frozen k1
    have zb2 := blk_lt k1
    clear k0 k1
    go_wp2_with fail
    refine (pushes_calls s n w2.heap.size w1.heap.size _ HG2.out (by simp; omega) HS1.out.1).mono ?_
    rintro e w3 ⟨rfl, hG, hF⟩
    obtain ⟨arr3, hg3, hO3⟩ := hG.o
    obtain ⟨F0, f0, F1, f1, F3, f3, F4, f4, F5, f5, F6, f6, F7, f7, he⟩ := hO3.k.form
    injection he with he
    subst he
    have HO := Lib.hid hO3
    have HB3 := Lib.hid (FrG.below (w := w) hF (bl_alloc HB2.out _) (by omega) (by omega) (by simp; omega))
    have cg := blk_cell hg3
    have k1 := (hF.block (w.heap.size + 1) (by simp; omega) (by omega) (by omega)).trans (blk_alloc HK2.out.2.1 _)
    have cr := blk_cell k1
    have fr := blk_frozen k1
    have zr := blk_lt k1
    have hzz := hF.size
    simp at hzz
    clear hG hF hO3 hg3 k1 ca2 fa2 za2 cb2 fb2 zb2
    go_wp2_with fail
    refine bodyPost_ret (v := .agg #[.slice F0 (pushSt s n).data.length f0, .slice F1 (pushSt s n).ret.length f1, .int .i32 (pushSt s n).a, .slice F3 (pushSt s n).mem.length f3, .slice F4 (pushSt s n).cells.length f4, .slice F5 (pushSt s n).vars.length f5, .slice F6 (pushSt s n).out.length f6, .slice F7 (pushSt s n).inp.length f7, .int .i64 (pushSt s n).fault, .int .i64 (pushSt s n).fuel]) (by simp [results, Tryd.results17, go_sem, cr, zr]) rfl ⟨_, rfl, ?_, ?_⟩
    · rw [HP.out]
      refine StO.low (lo := w1.heap.size) ?_ hz1
      with_reducible repeat (first | exact HO.out | refine StO.far ?_ (by simp only; omega) _)
    · with_reducible repeat (first | exact HB3.out | apply bl_set1)
  · have hgf : (stOk s && decide (s.fault = 0)) = false := by simpa using hgo
    have HP : Hid (pushN s n = if stOk s = true then s else zeroSt) := Lib.hid (by
      unfold pushN
      by_cases h : stOk s = true
      · have hf : ¬ s.fault = 0 := fun e => hgo (by simp [h, e])
        simp [h, hf]
      · simp [h])
    have HGO := Lib.hid hgf
    clear hgo hgf
    go_enter Tryd.func17, Tryd.ntmps17
    go_wp2_with fail
    refine (goes_calls s _ _ (HV.out.keepB (bl_alloc (bl_alloc (Below.refl _ _) _) _)) hs).mono ?_
    rintro e w1 ⟨rfl, hb⟩
    rw [HGO.out]
    have HB1 := Lib.hid (bl_call (bl_alloc (bl_alloc (Below.refl _ w) _) _) hb)
    have hz1 := HB1.out.size
    have HK1 := Lib.hid ((Bx.two w #[.slice A0 s.data.length c0, .slice A1 s.ret.length c1, .int .i32 s.a, .slice A3 s.mem.length c3, .slice A4 s.cells.length c4, .slice A5 s.vars.length c5, .slice A6 s.out.length c6, .slice A7 s.inp.length c7, .int .i64 s.fault, .int .i64 s.fuel] #[.slice none 0 0, .slice none 0 0, .int .i32 0, .slice none 0 0, .slice none 0 0, .slice none 0 0, .slice none 0 0, .slice none 0 0, .int .i64 0, .int .i64 0] 32 32).call hb)
    clear hb
    obtain ⟨k0, k1, -⟩ := HK1.out
    have ca1 := blk_cell k0
    have fa1 := blk_frozen k0
    have za1 := blk_lt k0
    have cb1 := blk_cell k1
    have fb1 := blk_frozen k1
    have zb1 := blk_lt k1
    clear k0 k1
    go_wp2_with fail
    refine (unmoved_calls s _ w1 (HV.out.keepB HB1.out) hs).mono ?_
    rintro e w2 ⟨v2, rfl, hO, hb⟩
    rw [← HP.out] at hO
    obtain ⟨E0, e0, E1, e1, E3, e3, E4, e4, E5, e5, E6, e6, E7, e7, rfl⟩ := hO.k.form
    have HO := Lib.hid hO
    have HB2 := Lib.hid (bl_call HB1.out hb)
    have HK2 := Lib.hid (HK1.out.call hb)
    have hz2 := hb.size
    have hq1 := zb1
    clear hO hb ca1 fa1 za1 cb1 fb1 zb1
    obtain ⟨k0, k1, -⟩ := HK2.out
    have ca2 := blk_cell k0
    have fa2 := blk_frozen k0
    have za2 := blk_lt k0
    have cb2 := blk_cell k1
    have fb2 := blk_frozen k1
    have zb2 := blk_lt k1
    clear k0 k1
    go_wp2_with fail
    refine bodyPost_ret (v := .agg #[.slice E0 (pushN s n).data.length e0, .slice E1 (pushN s n).ret.length e1, .int .i32 (pushN s n).a, .slice E3 (pushN s n).mem.length e3, .slice E4 (pushN s n).cells.length e4, .slice E5 (pushN s n).vars.length e5, .slice E6 (pushN s n).out.length e6, .slice E7 (pushN s n).inp.length e7, .int .i64 (pushN s n).fault, .int .i64 (pushN s n).fuel]) (by simp [results, Tryd.results17, go_sem, cb2, zb2]) rfl ⟨_, rfl, ?_, ?_⟩
    · refine StO.low (lo := w1.heap.size) ?_ hz1
      with_reducible repeat (first | exact HO.out | refine StO.far ?_ (by simp only; omega) _)
    · with_reducible repeat (first | exact HB2.out | apply bl_set1)
set_option maxRecDepth 100000 in
set_option maxHeartbeats 1000000 in
theorem l08Fault_calls (s : LSt) (v : Value) (f : Int) (w : World) (hv : StK w s v) (hs : s.small 1048576) :
    Calls Tryd.prog 29 #[v, .int .i64 f] w fun e w' => ∃ v', e = .returned v' ∧ StO w' w.heap.size { s with fault := f } v' ∧ Below w.heap.size w w' := by
  obtain ⟨A0, c0, A1, c1, A3, c3, A4, c4, A5, c5, A6, c6, A7, c7, rfl⟩ := hv.form
  have HV := Lib.hid hv
  clear hv
  go_enter Tryd.func29, Tryd.ntmps29
  go_wp2_with fail
  refine (l08Copy_calls s _ _ (HV.out.keepB (bl_alloc (bl_alloc (Below.refl _ _) _) _)) hs).mono ?_
  rintro e w1 ⟨v1, rfl, hO, hb⟩
  obtain ⟨E0, e0, E1, e1, E3, e3, E4, e4, E5, e5, E6, e6, E7, e7, rfl⟩ := hO.k.form
  have HB1 := Lib.hid (bl_call (bl_alloc (bl_alloc (Below.refl _ w) _) _) hb)
  have hz1 := hb.size
  simp at hz1
  have HK1 := Lib.hid ((Bx.two w #[.slice A0 s.data.length c0, .slice A1 s.ret.length c1, .int .i32 s.a, .slice A3 s.mem.length c3, .slice A4 s.cells.length c4, .slice A5 s.vars.length c5, .slice A6 s.out.length c6, .slice A7 s.inp.length c7, .int .i64 s.fault, .int .i64 s.fuel] #[.slice none 0 0, .slice none 0 0, .int .i32 0, .slice none 0 0, .slice none 0 0, .slice none 0 0, .slice none 0 0, .slice none 0 0, .int .i64 0, .int .i64 0] 32 32).call hb)
  have HO := Lib.hid (show StO w1 (w.heap.size + 1 + 1) { s with fault := f } (.agg #[.slice E0 s.data.length e0, .slice E1 s.ret.length e1, .int .i32 s.a, .slice E3 s.mem.length e3, .slice E4 s.cells.length e4, .slice E5 s.vars.length e5, .slice E6 s.out.length e6, .slice E7 s.inp.length e7, .int .i64 f, .int .i64 s.fuel]) from by
    obtain ⟨A0, c0, A1, c1, A3, c3, A4, c4, A5, c5, A6, c6, A7, c7, b0, b1, b3, b4, b5, b6, b7, he, r0, r1, r3, r4, r5, r6, r7, hl, d1, d2⟩ := hO
    injection he with he
    injection he with he
    simp only [List.cons.injEq, Value.slice.injEq, and_true, true_and] at he
    obtain ⟨⟨rfl, rfl⟩, ⟨rfl, rfl⟩, ⟨rfl, rfl⟩, ⟨rfl, rfl⟩, ⟨rfl, rfl⟩, ⟨rfl, rfl⟩, rfl, rfl⟩ := he
    exact ⟨_, _, _, _, _, _, _, _, _, _, _, _, _, _, b0, b1, b3, b4, b5, b6, b7, rfl, r0, r1, r3, r4, r5, r6, r7, fun b hb x hx => by have := hl b hb x hx; simpa using this, d1, d2⟩)
  clear hO hb
  obtain ⟨k0, k1, -⟩ := HK1.out
  have ca1 := blk_cell k0
  have fa1 := blk_frozen k0
  have za1 := blk_lt k0
  have cb1 := blk_cell k1
  have fb1 := blk_frozen k1
  have zb1 := blk_lt k1
  clear k0 k1
  go_wp2_with fail
  refine bodyPost_ret (v := .agg #[.slice E0 s.data.length e0, .slice E1 s.ret.length e1, .int .i32 s.a, .slice E3 s.mem.length e3, .slice E4 s.cells.length e4, .slice E5 s.vars.length e5, .slice E6 s.out.length e6, .slice E7 s.inp.length e7, .int .i64 f, .int .i64 s.fuel]) (by simp [results, Tryd.results29, go_sem, cb1, zb1]) rfl ⟨_, rfl, ?_, ?_⟩
  · refine StO.low (lo := w.heap.size + 1 + 1) ?_ (by omega)
    with_reducible repeat (first | exact HO.out | refine StO.far ?_ (by simp only; omega) _ | refine StO.alloc ?_ _)
  · with_reducible repeat (first | exact HB1.out | apply bl_set1 | apply bl_alloc | refine Below.setCell ?_ (by simp only; omega) _)
set_option maxRecDepth 100000 in
set_option maxHeartbeats 2000000 in
theorem l08Put_calls (s : LSt) (v : Value) (t : Nat) (A : Option Addr) (c : Nat) (xs : List Int) (w : World) (hv : StK w s v) (hs : s.small 1048576) (ht : t ≤ s.data.length) (hr : Rd w A (xs.map (Value.int .i32))) (hn : xs.length ≤ 1048576) :
    Calls Tryd.prog 32 #[v, .int .i64 t, .slice A xs.length c] w fun e w' => ∃ v', e = .returned v' ∧ StO w' w.heap.size (putSt s t xs) v' ∧ Below w.heap.size w w' := by
  obtain ⟨A0, c0, A1, c1, A3, c3, A4, c4, A5, c5, A6, c6, A7, c7, rfl⟩ := hv.form
  have HV := Lib.hid hv
  clear hv
  have HR := Lib.hid hr
  have HS := Lib.hid hs
  obtain ⟨hsd, -⟩ := hs
  clear hr
  have i0 : (0 : Int) ≤ (s.data.length : Int) - t := by omega
  by_cases h16 : 16 < s.data.length - t + xs.length
  · have d16 : (16 : Int) < (s.data.length : Int) - t + xs.length := by omega
    have HP : Hid (putSt s t xs = { s with fault := 2 }) := Lib.hid (by simp [putSt, h16])
    go_enter Tryd.func32, Tryd.ntmps32
    go_wp2_with fail
    refine (l08Fault_calls s _ 2 _ (HV.out.keepB (bl_alloc (bl_alloc (Below.refl _ _) _) _)) HS.out).mono ?_
    rintro e w1 ⟨v1, rfl, hO, hb⟩
    rw [← HP.out] at hO
    obtain ⟨E0, e0, E1, e1, E3, e3, E4, e4, E5, e5, E6, e6, E7, e7, rfl⟩ := hO.k.form
    have HO := Lib.hid hO
    have HB1 := Lib.hid (bl_call (bl_alloc (bl_alloc (Below.refl _ w) _) _) hb)
    have hz1 := hb.size
    simp at hz1
    have HK1 := Lib.hid ((Bx.two w #[.slice A0 s.data.length c0, .slice A1 s.ret.length c1, .int .i32 s.a, .slice A3 s.mem.length c3, .slice A4 s.cells.length c4, .slice A5 s.vars.length c5, .slice A6 s.out.length c6, .slice A7 s.inp.length c7, .int .i64 s.fault, .int .i64 s.fuel] #[.slice none 0 0, .slice none 0 0, .int .i32 0, .slice none 0 0, .slice none 0 0, .slice none 0 0, .slice none 0 0, .slice none 0 0, .int .i64 0, .int .i64 0] 32 32).call hb)
    clear hO hb
    obtain ⟨k0, k1, -⟩ := HK1.out
    have ca1 := blk_cell k0
    have fa1 := blk_frozen k0
    have za1 := blk_lt k0
    have cb1 := blk_cell k1
    have fb1 := blk_frozen k1
    have zb1 := blk_lt k1
    clear k0 k1
    go_wp2_with fail
    refine bodyPost_ret (v := .agg #[.slice E0 (putSt s t xs).data.length e0, .slice E1 (putSt s t xs).ret.length e1, .int .i32 (putSt s t xs).a, .slice E3 (putSt s t xs).mem.length e3, .slice E4 (putSt s t xs).cells.length e4, .slice E5 (putSt s t xs).vars.length e5, .slice E6 (putSt s t xs).out.length e6, .slice E7 (putSt s t xs).inp.length e7, .int .i64 (putSt s t xs).fault, .int .i64 (putSt s t xs).fuel]) (by simp [results, Tryd.results32, go_sem, cb1, zb1]) rfl ⟨_, rfl, ?_, ?_⟩
    · refine StO.low (lo := w.heap.size + 1 + 1) ?_ (by omega)
      with_reducible repeat (first | (simpa using HO.out) | refine StO.far ?_ (by simp only; omega) _)
    · with_reducible repeat (first | exact HB1.out | apply bl_set1)
  · have d16 : ¬ ((16 : Int) < (s.data.length : Int) - t + xs.length) := by omega
    have HP : Hid (putSt s t xs = { s with data := s.data.take (s.data.length - t) ++ xs }) := Lib.hid (by simp [putSt, h16])
    obtain ⟨m, hm⟩ : ∃ m, s.data.length - t = m := ⟨_, rfl⟩
    have hmi : (s.data.length : Int) - t = (m : Int) := by omega
    have hml : m ≤ s.data.length := by omega
    rw [hm] at HP
    rw [hmi] at i0 d16
    go_enter Tryd.func32, Tryd.ntmps32
    go_wp2_with fail
    try rw [hmi]
    refine (l08Copy_calls s _ _ (HV.out.keepB (bl_alloc (bl_alloc (Below.refl _ _) _) _)) HS.out).mono ?_
    rintro e w1 ⟨v1, rfl, hO, hb⟩
    have HB1 := Lib.hid (bl_call (bl_alloc (bl_alloc (Below.refl _ w) _) _) hb)
    have hz1 := hb.size
    simp at hz1
    have HK1 := Lib.hid ((Bx.two w #[.slice A0 s.data.length c0, .slice A1 s.ret.length c1, .int .i32 s.a, .slice A3 s.mem.length c3, .slice A4 s.cells.length c4, .slice A5 s.vars.length c5, .slice A6 s.out.length c6, .slice A7 s.inp.length c7, .int .i64 s.fault, .int .i64 s.fuel] #[.slice none 0 0, .slice none 0 0, .int .i32 0, .slice none 0 0, .slice none 0 0, .slice none 0 0, .slice none 0 0, .slice none 0 0, .int .i64 0, .int .i64 0] 32 32).call hb)
    obtain ⟨E0, e0, E1, e1, E3, e3, E4, e4, E5, e5, E6, e6, E7, e7, b0, b1, b3, b4, b5, b6, b7, he, r0, r1, r3, r4, r5, r6, r7, hL, d1, d2⟩ := hO
    subst he
    have HR1 : Hid (Rd w1 A (xs.map (Value.int .i32))) := Lib.hid (HR.out.keepB HB1.out)
    have hcap := r0.le
    have L0 : Hid (∀ x, b0 = some x → w.heap.size + 1 + 1 ≤ x) := Lib.hid (fun x e => by have := hL _ (by simp) x e; simpa using this)
    have H0 := Lib.hid r0
    have L1 : Hid (∀ x, b1 = some x → w.heap.size + 1 + 1 ≤ x) := Lib.hid (fun x e => by have := hL _ (by simp) x e; simpa using this)
    have H1 := Lib.hid r1
    have L3 : Hid (∀ x, b3 = some x → w.heap.size + 1 + 1 ≤ x) := Lib.hid (fun x e => by have := hL _ (by simp) x e; simpa using this)
    have H3 := Lib.hid r3
    have L4 : Hid (∀ x, b4 = some x → w.heap.size + 1 + 1 ≤ x) := Lib.hid (fun x e => by have := hL _ (by simp) x e; simpa using this)
    have H4 := Lib.hid r4
    have L5 : Hid (∀ x, b5 = some x → w.heap.size + 1 + 1 ≤ x) := Lib.hid (fun x e => by have := hL _ (by simp) x e; simpa using this)
    have H5 := Lib.hid r5
    have L6 : Hid (∀ x, b6 = some x → w.heap.size + 1 + 1 ≤ x) := Lib.hid (fun x e => by have := hL _ (by simp) x e; simpa using this)
    have H6 := Lib.hid r6
    have L7 : Hid (∀ x, b7 = some x → w.heap.size + 1 + 1 ≤ x) := Lib.hid (fun x e => by have := hL _ (by simp) x e; simpa using this)
    have H7 := Lib.hid r7
    have N1 : Hid (b1 = none ∨ b1 ≠ b0) := Lib.hid (Row.ne_type r1 r0 (by decide))
    have N3 : Hid (b3 = none ∨ b3 ≠ b0) := Lib.hid (ne_symm d1)
    have N4 : Hid (b4 = none ∨ b4 ≠ b0) := Lib.hid (Row.ne_type r4 r0 (by decide))
    have N5 : Hid (b5 = none ∨ b5 ≠ b0) := Lib.hid (Row.ne_type r5 r0 (by decide))
    have N6 : Hid (b6 = none ∨ b6 ≠ b0) := Lib.hid (Row.ne_type r6 r0 (by decide))
    have N7 : Hid (b7 = none ∨ b7 ≠ b0) := Lib.hid (Row.ne_type r7 r0 (by decide))
    have HSH := Lib.hid (r0.shorter hml)
    have D1 := Lib.hid d1
    have D2 := Lib.hid d2
    clear r0 r1 r3 r4 r5 r6 r7 hL d1 d2 hb
    obtain ⟨k0, k1, -⟩ := HK1.out
    have ca1 := blk_cell k0
    have fa1 := blk_frozen k0
    have za1 := blk_lt k0
    have cb1 := blk_cell k1
    have fb1 := blk_frozen k1
    have zb1 := blk_lt k1
    clear k0 k1
    go_wp2_with (at_builtin; refine wp_append (w1.alloc (.cells #[.slice E0 s.data.length e0, .slice E1 s.ret.length e1, .int .i32 s.a, .slice E3 s.mem.length e3, .slice E4 s.cells.length e4, .slice E5 s.vars.length e5, .slice E6 s.out.length e6, .slice E7 s.inp.length e7, .int .i64 s.fault, .int .i64 s.fuel] 32)) rfl _ _ 22 rfl 21 (.int .i32 0) 1 4 Tryd.underlying22 info_Int32 rfl (by decide) rfl (HSH.out.alloc _) rfl (by simp) (HR1.out.call (bl_alloc (Below.refl _ _) _)) one_map (by unfold maxLen; omega) (by omega) ?_; intro B d w2 b hR hg hb; have HRB := Lib.hid hR; have HG2 := Lib.hid hg; have HB2 := Lib.hid hb; have K2 := Lib.hid ((hg.block w1.heap.size (by simp) (fun e => by have := H0.out.lt _ e.symm; omega)).trans (blk_new w1 _)); have J2 := Lib.hid ((hg.block (w.heap.size + 1) (by simp; omega) (fun e => by have := L0.out _ e.symm; omega)).trans (blk_alloc HK1.out.2.1 _)); have cg := blk_cell K2.out; have fg := blk_frozen K2.out; have zg := blk_lt K2.out; have cr := blk_cell J2.out; have fr := blk_frozen J2.out; have zr := blk_lt J2.out; have zs := hg.size; clear hR hg hb ca1 fa1 za1 cb1 fb1)
    have hlen : (s.data.take m ++ xs).length = m + xs.length := by simp; omega
    have LB : ∀ x, b = some x → w.heap.size + 1 + 1 ≤ x ∧ x ≠ w1.heap.size := fun x e => by
      rcases HB2.out with h | ⟨y, h, hy⟩
      · have h1 := L0.out x (h.symm.trans e)
        have h2 := H0.out.lt x (h.symm.trans e)
        omega
      · rw [h] at e; cases e
        simp at hy
        omega
    simp at zs
    refine bodyPost_ret (v := .agg #[.slice B (m + xs.length) d, .slice E1 s.ret.length e1, .int .i32 s.a, .slice E3 s.mem.length e3, .slice E4 s.cells.length e4, .slice E5 s.vars.length e5, .slice E6 s.out.length e6, .slice E7 s.inp.length e7, .int .i64 s.fault, .int .i64 s.fuel]) (by simp [results, Tryd.results32, go_sem, cr, zr]) rfl ⟨_, rfl, ?_, ?_⟩
    · rw [HP.out]
      refine StO.low (lo := w.heap.size + 1 + 1) ?_ (by omega)
      have HO : StO (w2.setCell ⟨w1.heap.size, 0, none⟩ (.slice B (m + xs.length) d)) (w.heap.size + 1 + 1) { s with data := s.data.take m ++ xs } (.agg #[.slice B (m + xs.length) d, .slice E1 s.ret.length e1, .int .i32 s.a, .slice E3 s.mem.length e3, .slice E4 s.cells.length e4, .slice E5 s.vars.length e5, .slice E6 s.out.length e6, .slice E7 s.inp.length e7, .int .i64 s.fault, .int .i64 s.fuel]) := by
        refine ⟨B, d, E1, e1, E3, e3, E4, e4, E5, e5, E6, e6, E7, e7, b, b1, b3, b4, b5, b6, b7, by rw [hlen], ?_, ((H1.out.alloc _).grown HG2.out N1.out).far (p := ⟨w1.heap.size, 0, none⟩) (fun e => Nat.lt_irrefl _ (H1.out.lt _ e)) _, ((H3.out.alloc _).grown HG2.out N3.out).far (p := ⟨w1.heap.size, 0, none⟩) (fun e => Nat.lt_irrefl _ (H3.out.lt _ e)) _, ((H4.out.alloc _).grown HG2.out N4.out).far (p := ⟨w1.heap.size, 0, none⟩) (fun e => Nat.lt_irrefl _ (H4.out.lt _ e)) _, ((H5.out.alloc _).grown HG2.out N5.out).far (p := ⟨w1.heap.size, 0, none⟩) (fun e => Nat.lt_irrefl _ (H5.out.lt _ e)) _, ((H6.out.alloc _).grown HG2.out N6.out).far (p := ⟨w1.heap.size, 0, none⟩) (fun e => Nat.lt_irrefl _ (H6.out.lt _ e)) _, ((H7.out.alloc _).grown HG2.out N7.out).far (p := ⟨w1.heap.size, 0, none⟩) (fun e => Nat.lt_irrefl _ (H7.out.lt _ e)) _, ?_, ?_, D2.out⟩
        · have := HRB.out.far (p := ⟨w1.heap.size, 0, none⟩) (fun e => (LB _ e).2 rfl) (.slice B (m + xs.length) d)
          rw [hlen]
          simpa [List.map_take] using this
        · intro b' hb x hx
          simp at hb
          rcases hb with rfl | rfl | rfl | rfl | rfl | rfl | rfl
          · exact (LB x hx).1
          · exact L1.out x hx
          · exact L3.out x hx
          · exact L4.out x hx
          · exact L5.out x hx
          · exact L6.out x hx
          · exact L7.out x hx
        · rcases HB2.out with h | ⟨y, h, hy⟩
          · rw [h]; exact D1.out
          · rw [h]
            exact .inr (fun e => by have := H3.out.lt _ e.symm; simp at hy; omega)
      with_reducible repeat (first | exact HO | refine StO.far ?_ (by simp only; omega) _)
    · have HBB := Below.grown (bl_alloc HB1.out (.cells #[.slice E0 s.data.length e0, .slice E1 s.ret.length e1, .int .i32 s.a, .slice E3 s.mem.length e3, .slice E4 s.cells.length e4, .slice E5 s.vars.length e5, .slice E6 s.out.length e6, .slice E7 s.inp.length e7, .int .i64 s.fault, .int .i64 s.fuel] 32)) HG2.out (by simp; omega) (fun x e => by have := L0.out x e; omega)
      with_reducible repeat (first | exact HBB | apply bl_set1 | refine Below.setCell ?_ (by simp only; omega) _)
end Go.Proofs.YtgljbcdlldhlfaaDoor

/- Numbers put on a state: contracts of goes, unmoved, pushes, PushN, l08Fault, l08Put. -/
import Derived.Test.YtgljbcdlldhlfaaDoorOw
import Derived.Test.YtgljbcdlldhlfaaDoorOj
set_option linter.unusedVariables false
set_option linter.unusedSimpArgs false
namespace Go.Proofs.YtgljbcdlldhlfaaDoor
open Go.RowKit

def zeroSt : LSt := ⟨[], [], 0, [], [], [], [], [], 0, 0⟩
def pushSt (s : LSt) (n : Int) : LSt := if s.data.length = 16 then { s with fault := 2 } else { s with data := s.data ++ [n] }
def pushN (s : LSt) (n : Int) : LSt := if stOk s = true then (if s.fault = 0 then pushSt s n else s) else zeroSt
theorem stO_zero (w : World) (lo : Nat) : StO w lo zeroSt (.agg #[.slice none 0 0, .slice none 0 0, .int .i32 0, .slice none 0 0, .slice none 0 0, .slice none 0 0, .slice none 0 0, .slice none 0 0, .int .i64 0, .int .i64 0]) :=
  ⟨none, 0, none, 0, none, 0, none, 0, none, 0, none, 0, none, 0, none, none, none, none, none, none, none, rfl, Row.nil _ _ _ _, Row.nil _ _ _ _, Row.nil _ _ _ _, Row.nil _ _ _ _, Row.nil _ _ _ _, Row.nil _ _ _ _, Row.nil _ _ _ _, by simp, .inl rfl, .inl rfl⟩
theorem StO.far {w : World} {lo : Nat} {s : LSt} {v : Value} (h : StO w lo s v) {p : Addr} (hp : p.block < lo) (u : Value) : StO (w.setCell p u) lo s v := h.keep fun g h1 _ => Below.heap_setCell w p u g (by omega)
theorem StO.low {w : World} {lo lo' : Nat} {s : LSt} {v : Value} (h : StO w lo s v) (hl : lo' ≤ lo) : StO w lo' s v := by
  obtain ⟨A0, c0, A1, c1, A3, c3, A4, c4, A5, c5, A6, c6, A7, c7, b0, b1, b3, b4, b5, b6, b7, rfl, r0, r1, r3, r4, r5, r6, r7, hb, d1, d2⟩ := h
  exact ⟨A0, c0, A1, c1, A3, c3, A4, c4, A5, c5, A6, c6, A7, c7, b0, b1, b3, b4, b5, b6, b7, rfl, r0, r1, r3, r4, r5, r6, r7, fun b hb' g hg => Nat.le_trans hl (hb b hb' g hg), d1, d2⟩
theorem StO.alloc {w : World} {lo : Nat} {s : LSt} {v : Value} (h : StO w lo s v) (o : Obj) : StO (w.alloc o) lo s v := h.call (bl_alloc (Below.refl _ _) o)
theorem small_le {s : LSt} (h : stOk s = true) : s.small 1048576 := by
  have h := of_decide_eq_true h
  obtain ⟨a, b, c, d, e, f, g, h1, i, j, k, l, m⟩ := h
  unfold LSt.small
  omega
set_option maxRecDepth 100000 in
set_option maxHeartbeats 1000000 in
theorem goes_calls (s : LSt) (v : Value) (w : World) (hv : StK w s v) (hs : s.small 140737488355328) :
    Calls Tryd.prog 39 #[v] w fun e w' => e = .returned (.bool (stOk s && decide (s.fault = 0))) ∧ Below w.heap.size w w' := by
  obtain ⟨A0, c0, A1, c1, A3, c3, A4, c4, A5, c5, A6, c6, A7, c7, rfl⟩ := hv.form
  have HV := Lib.hid hv
  have HS := Lib.hid hs
  clear hv hs
  cases h : stOk s
  · go_enter Tryd.func39, Tryd.ntmps39
    go_wp2_with fail
    refine (implStOk_calls s _ _ (HV.out.keepB (bl_alloc (Below.refl _ _) _)) HS.out).mono ?_
    rintro e w1 ⟨rfl, hb⟩
    rw [h]
    have HB := Lib.hid (bl_call (bl_alloc (Below.refl _ w) _) hb)
    clear hb
    go_wp2_with fail
    go_ret
    exact ⟨ret_bool (by simp), HB.out⟩
  · skip
    go_enter Tryd.func39, Tryd.ntmps39
    go_wp2_with fail
    refine (implStOk_calls s _ _ (HV.out.keepB (bl_alloc (Below.refl _ _) _)) HS.out).mono ?_
    rintro e w1 ⟨rfl, hb⟩
    rw [h]
    have HB := Lib.hid (bl_call (bl_alloc (Below.refl _ w) _) hb)
    have K := blk_call (blk_new w (.cells #[.slice A0 s.data.length c0, .slice A1 s.ret.length c1, .int .i32 s.a, .slice A3 s.mem.length c3, .slice A4 s.cells.length c4, .slice A5 s.vars.length c5, .slice A6 s.out.length c6, .slice A7 s.inp.length c7, .int .i64 s.fault, .int .i64 s.fuel] 32)) hb
    have c0x := blk_cell K
    clear hb K
    go_wp2_with fail
    go_ret
    exact ⟨ret_bool (by simp [Bool.beq_eq_decide_eq]), HB.out⟩
set_option maxRecDepth 100000 in
set_option maxHeartbeats 1000000 in
theorem unmoved_calls (s : LSt) (v : Value) (w : World) (hv : StK w s v) (hs : s.small 140737488355328) :
    Calls Tryd.prog 40 #[v] w fun e w' => ∃ v', e = .returned v' ∧ StO w' w.heap.size (if stOk s = true then s else zeroSt) v' ∧ Below w.heap.size w w' := by
  obtain ⟨A0, c0, A1, c1, A3, c3, A4, c4, A5, c5, A6, c6, A7, c7, rfl⟩ := hv.form
  have HV := Lib.hid hv
  have HS := Lib.hid hs
  clear hv hs
  cases h : stOk s
  · go_enter Tryd.func40, Tryd.ntmps40
    go_wp2_with fail
    refine (implStOk_calls s _ _ (HV.out.keepB (bl_alloc (bl_alloc (Below.refl _ _) _) _)) HS.out).mono ?_
    rintro e w1 ⟨rfl, hb⟩
    rw [h]
    have HB := Lib.hid (bl_call (bl_alloc (bl_alloc (Below.refl _ w) _) _) hb)
    have HK := (Bx.two w #[.slice A0 s.data.length c0, .slice A1 s.ret.length c1, .int .i32 s.a, .slice A3 s.mem.length c3, .slice A4 s.cells.length c4, .slice A5 s.vars.length c5, .slice A6 s.out.length c6, .slice A7 s.inp.length c7, .int .i64 s.fault, .int .i64 s.fuel] #[.slice none 0 0, .slice none 0 0, .int .i32 0, .slice none 0 0, .slice none 0 0, .slice none 0 0, .slice none 0 0, .slice none 0 0, .int .i64 0, .int .i64 0] 32 32).call hb
    obtain ⟨k0, k1, -⟩ := HK
    have c1x := blk_cell k1
    have f1x := blk_frozen k1
    have z1x := blk_lt k1
    clear hb k0 k1
    go_wp2_with fail
    refine bodyPost_ret (v := .agg #[.slice none 0 0, .slice none 0 0, .int .i32 0, .slice none 0 0, .slice none 0 0, .slice none 0 0, .slice none 0 0, .slice none 0 0, .int .i64 0, .int .i64 0]) (by simp [results, Tryd.results40, go_sem, c1x, z1x]) rfl ⟨_, rfl, by simpa using stO_zero _ _, ?_⟩
    with_reducible repeat (first | exact HB.out | apply bl_set1)
  · have HS1 := Lib.hid (small_le h)
    go_enter Tryd.func40, Tryd.ntmps40
    go_wp2_with fail
    refine (implStOk_calls s _ _ (HV.out.keepB (bl_alloc (bl_alloc (Below.refl _ _) _) _)) HS.out).mono ?_
    rintro e w1 ⟨rfl, hb⟩
    rw [h]
    have HB := Lib.hid (bl_call (bl_alloc (bl_alloc (Below.refl _ w) _) _) hb)
    have hz := HB.out.size
    have HK := Lib.hid ((Bx.two w #[.slice A0 s.data.length c0, .slice A1 s.ret.length c1, .int .i32 s.a, .slice A3 s.mem.length c3, .slice A4 s.cells.length c4, .slice A5 s.vars.length c5, .slice A6 s.out.length c6, .slice A7 s.inp.length c7, .int .i64 s.fault, .int .i64 s.fuel] #[.slice none 0 0, .slice none 0 0, .int .i32 0, .slice none 0 0, .slice none 0 0, .slice none 0 0, .slice none 0 0, .slice none 0 0, .int .i64 0, .int .i64 0] 32 32).call hb)
    obtain ⟨k0, k1, -⟩ := HK.out
    have c0x := blk_cell k0
    have z1 := blk_lt k1
    clear hb k0 k1
    go_wp2_with fail
    refine (ownSt_calls s _ w1 (HV.out.keepB HB.out) HS1.out).mono ?_
    rintro e w2 ⟨v2, rfl, hO, hb⟩
    obtain ⟨E0, e0, E1, e1, E3, e3, E4, e4, E5, e5, E6, e6, E7, e7, rfl⟩ := hO.k.form
    have HO := Lib.hid hO
    have HB2 := Lib.hid (bl_call HB.out hb)
    obtain ⟨k0, k1, -⟩ := HK.out.call hb
    have c1x := blk_cell k1
    have f1x := blk_frozen k1
    have z1x := blk_lt k1
    clear hO hb k0 k1
    go_wp2_with fail
    refine bodyPost_ret (v := .agg #[.slice E0 s.data.length e0, .slice E1 s.ret.length e1, .int .i32 s.a, .slice E3 s.mem.length e3, .slice E4 s.cells.length e4, .slice E5 s.vars.length e5, .slice E6 s.out.length e6, .slice E7 s.inp.length e7, .int .i64 s.fault, .int .i64 s.fuel]) (by simp [results, Tryd.results40, go_sem, c1x, z1x]) rfl ⟨_, rfl, ?_, ?_⟩
    · refine StO.low (lo := w1.heap.size) ?_ hz
      with_reducible repeat (first | exact HO.out | refine StO.far ?_ (by simp only; omega) _)
    · with_reducible repeat (first | exact HB2.out | apply bl_set1)
end Go.Proofs.YtgljbcdlldhlfaaDoor

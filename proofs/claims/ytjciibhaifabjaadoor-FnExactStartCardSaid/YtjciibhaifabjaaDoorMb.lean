/- Start: contracts of the program's and the reference's; of the laws' helpers over machines. -/
import Derived.Test.YtjciibhaifabjaaDoorMa
set_option linter.unusedVariables false
set_option linter.unusedSimpArgs false
namespace Go.Proofs.YtjciibhaifabjaaDoor
open Go.RowKit

theorem goOk_1 {xs : List LIns} {a : Int} {s : LSt} (h : codeOk xs = false) : goOk xs a s = false := by simp [goOk, h]
theorem goOk_2 {xs : List LIns} {a : Int} {s : LSt} (h : inB a 0 ((xs.length : Int) - 1) = false) : goOk xs a s = false := by simp [goOk, h]
theorem goOk_3 {xs : List LIns} {a : Int} {s : LSt} (h : (stOk s && decide (s.fault = 0)) = false) : goOk xs a s = false := by simp only [goOk, h, Bool.and_false]
theorem goOk_4 {xs : List LIns} {a : Int} {s : LSt} (h1 : codeOk xs = true) (h2 : inB a 0 ((xs.length : Int) - 1) = true) (h3 : (stOk s && decide (s.fault = 0)) = true) : goOk xs a s = true := by simp only [goOk, h1, h2, h3, Bool.and_true]
theorem goOk_small {xs : List LIns} {a : Int} {s : LSt} (h : goOk xs a s = true) : s.small 1048576 := by
  simp only [goOk, Bool.and_eq_true] at h
  exact small_le h.2.2.1
theorem start_no {xs : List LIns} {a : Int} {s : LSt} (h : goOk xs a s = false) : startS xs a s = zeroSt ∧ startA xs a s = 0 := by simp [startS, startA, h]
theorem Fr.trans2 {lo hi : Nat} {a b c : World} (h : Fr lo hi a b) (k : Fr lo hi b c) : Fr lo hi a c :=
  ⟨k.os.trans h.os, k.tape.trans h.tape, k.output.trans h.output, Nat.le_trans h.size k.size, fun g hg hn => (k.block g (Nat.lt_of_lt_of_le hg h.size) hn).trans (h.block g hg hn)⟩
theorem start_yes {xs : List LIns} {a : Int} {s : LSt} (h : goOk xs a s = true) : startS xs a s = backSt s (-1) ∧ startA xs a s = a := by simp [startS, startA, h]
set_option maxRecDepth 100000 in
set_option maxHeartbeats 2000000 in
theorem starts_calls (A : Option Addr) (c : Nat) (xs : List LIns) (a : Int) (s : LSt) (v : Value) (w : World) (hA : Asc w) (hr : Rd w A (xs.flatMap LIns.enc)) (hn : xs.length ≤ 140737488355328) (hv : StK w s v) (hs : s.small 140737488355328) :
    Calls Tryd.prog 45 #[.slice A xs.length c, .int .i64 a, v] w fun e w' => e = .returned (.bool (goOk xs a s)) ∧ Below w.heap.size w w' := by
  obtain ⟨A0, a0, A1, a1, A3, a3, A4, a4, A5, a5, A6, a6, A7, a7, rfl⟩ := hv.form
  have HV := Lib.hid hv
  have HR := Lib.hid hr
  have HA := Lib.hid hA
  have KA := Lib.hid (blk_new w (.cells #[.slice A0 s.data.length a0, .slice A1 s.ret.length a1, .int .i32 s.a, .slice A3 s.mem.length a3, .slice A4 s.cells.length a4, .slice A5 s.vars.length a5, .slice A6 s.out.length a6, .slice A7 s.inp.length a7, .int .i64 s.fault, .int .i64 s.fuel] 34))
  have HB := Lib.hid (bl_alloc (Below.refl _ w) (.cells #[.slice A0 s.data.length a0, .slice A1 s.ret.length a1, .int .i32 s.a, .slice A3 s.mem.length a3, .slice A4 s.cells.length a4, .slice A5 s.vars.length a5, .slice A6 s.out.length a6, .slice A7 s.inp.length a7, .int .i64 s.fault, .int .i64 s.fuel] 34))
  clear hv hr hA
  cases h1 : codeOk xs
  · have HF := Lib.hid (goOk_1 (a := a) (s := s) h1)
    go_enter Tryd.func45, Tryd.ntmps45
    go_wp2_with (go_at_call 83; (with_reducible refine (codeOk_calls A c xs _ ?_ ?_ hn).mono ?_); exact HA.out.call HB.out; exact HR.out.keepB HB.out; rintro e w2 ⟨rfl, hb⟩; rw [h1]; have HB2 := Lib.hid (bl_call HB.out hb); have K2 := Lib.hid (blk_call KA.out hb); clear hb; have cK2 := blk_cell K2.out; have fK2 := blk_frozen K2.out; have zK2 := blk_lt K2.out)
    go_ret
    exact ⟨ret_bool HF.out.symm, HB2.out⟩
  cases h2 : inB a 0 ((xs.length : Int) - 1)
  · have HF := Lib.hid (goOk_2 (s := s) h2)
    go_enter Tryd.func45, Tryd.ntmps45
    go_wp2_with (first | (go_at_call 83; (with_reducible refine (codeOk_calls A c xs _ ?_ ?_ hn).mono ?_); exact HA.out.call HB.out; exact HR.out.keepB HB.out; rintro e w2 ⟨rfl, hb⟩; rw [h1]; have HB2 := Lib.hid (bl_call HB.out hb); have K2 := Lib.hid (blk_call KA.out hb); clear hb; have cK2 := blk_cell K2.out; have fK2 := blk_frozen K2.out; have zK2 := blk_lt K2.out) | (go_at_call 70; (with_reducible refine (withinB_calls _ _ _ _).mono ?_); rintro e w3 ⟨rfl, rfl⟩; rw [h2]))
    go_ret
    exact ⟨ret_bool HF.out.symm, HB2.out⟩
  cases h3 : (stOk s && decide (s.fault = 0))
  · have HF := Lib.hid (goOk_3 (xs := xs) (a := a) h3)
    go_enter Tryd.func45, Tryd.ntmps45
    go_wp2_with (first | (go_at_call 83; (with_reducible refine (codeOk_calls A c xs _ ?_ ?_ hn).mono ?_); exact HA.out.call HB.out; exact HR.out.keepB HB.out; rintro e w2 ⟨rfl, hb⟩; rw [h1]; have HB2 := Lib.hid (bl_call HB.out hb); have K2 := Lib.hid (blk_call KA.out hb); clear hb; have cK2 := blk_cell K2.out; have fK2 := blk_frozen K2.out; have zK2 := blk_lt K2.out) | (go_at_call 70; (with_reducible refine (withinB_calls _ _ _ _).mono ?_); rintro e w3 ⟨rfl, rfl⟩; rw [h2]) | (go_at_call 84; (with_reducible refine (goes_calls s _ _ ?_ hs).mono ?_); exact HV.out.keepB HB2.out; rintro e w4 ⟨rfl, hb⟩; rw [h3]; have HB3 := Lib.hid (bl_call HB2.out hb); clear hb))
    go_ret
    exact ⟨ret_bool HF.out.symm, HB3.out⟩
  · have HF := Lib.hid (goOk_4 h1 h2 h3)
    go_enter Tryd.func45, Tryd.ntmps45
    go_wp2_with (first | (go_at_call 83; (with_reducible refine (codeOk_calls A c xs _ ?_ ?_ hn).mono ?_); exact HA.out.call HB.out; exact HR.out.keepB HB.out; rintro e w2 ⟨rfl, hb⟩; rw [h1]; have HB2 := Lib.hid (bl_call HB.out hb); have K2 := Lib.hid (blk_call KA.out hb); clear hb; have cK2 := blk_cell K2.out; have fK2 := blk_frozen K2.out; have zK2 := blk_lt K2.out) | (go_at_call 70; (with_reducible refine (withinB_calls _ _ _ _).mono ?_); rintro e w3 ⟨rfl, rfl⟩; rw [h2]) | (go_at_call 84; (with_reducible refine (goes_calls s _ _ ?_ hs).mono ?_); exact HV.out.keepB HB2.out; rintro e w4 ⟨rfl, hb⟩; rw [h3]; have HB3 := Lib.hid (bl_call HB2.out hb); clear hb))
    go_ret
    exact ⟨ret_bool HF.out.symm, HB3.out⟩
set_option maxRecDepth 100000 in
set_option maxHeartbeats 2000000 in
theorem Start_calls (A : Option Addr) (c : Nat) (xs : List LIns) (a : Int) (s : LSt) (v : Value) (w : World) (hA : Asc w) (hr : Rd w A (xs.flatMap LIns.enc)) (hn : xs.length ≤ 140737488355328) (hv : StK w s v) (hs : s.small 140737488355328) :
    Calls Tryd.prog 11 #[.slice A xs.length c, .int .i64 a, v] w fun e w' => ∃ v', e = .returned v' ∧ MO w' w.heap.size (startS xs a s) (startA xs a s) false v' ∧ Below w.heap.size w w' := by
  obtain ⟨A0, a0, A1, a1, A3, a3, A4, a4, A5, a5, A6, a6, A7, a7, rfl⟩ := hv.form
  have HV := Lib.hid hv
  have HR := Lib.hid hr
  have HA := Lib.hid hA
  have HB := Lib.hid (bl_alloc (bl_alloc (Below.refl _ w) (.cells #[.slice A0 s.data.length a0, .slice A1 s.ret.length a1, .int .i32 s.a, .slice A3 s.mem.length a3, .slice A4 s.cells.length a4, .slice A5 s.vars.length a5, .slice A6 s.out.length a6, .slice A7 s.inp.length a7, .int .i64 s.fault, .int .i64 s.fuel] 34)) (.cells #[.slice none 0 0, .slice none 0 0, .int .i32 0, .slice none 0 0, .slice none 0 0, .slice none 0 0, .slice none 0 0, .slice none 0 0, .int .i64 0, .int .i64 0, .int .i64 0, .bool false] 36))
  obtain ⟨k0, k1, -⟩ := Bx.two w #[.slice A0 s.data.length a0, .slice A1 s.ret.length a1, .int .i32 s.a, .slice A3 s.mem.length a3, .slice A4 s.cells.length a4, .slice A5 s.vars.length a5, .slice A6 s.out.length a6, .slice A7 s.inp.length a7, .int .i64 s.fault, .int .i64 s.fuel] #[.slice none 0 0, .slice none 0 0, .int .i32 0, .slice none 0 0, .slice none 0 0, .slice none 0 0, .slice none 0 0, .slice none 0 0, .int .i64 0, .int .i64 0, .int .i64 0, .bool false] 34 36
  have K0 := Lib.hid k0
  have K1 := Lib.hid k1
  clear hv hr hA k0 k1
  cases hg : goOk xs a s
  · have HG := Lib.hid hg
    go_enter Tryd.func11, Tryd.ntmps11
    go_wp2_with fail
    refine (starts_calls A c xs a s _ _ (HA.out.call HB.out) (HR.out.keepB HB.out) hn (HV.out.keepB HB.out) hs).mono ?_
    rintro e w1 ⟨rfl, hb⟩
    rw [HG.out]
    replace K1 := Lib.hid (blk_call K1.out hb)
    replace HB := Lib.hid (bl_call HB.out hb)
    clear hb
    have cK1 := blk_cell K1.out
    have fK1 := blk_frozen K1.out
    have zK1 := blk_lt K1.out
    go_wp2_with fail
    refine bodyPost_ret (v := .agg #[.slice none 0 0, .slice none 0 0, .int .i32 0, .slice none 0 0, .slice none 0 0, .slice none 0 0, .slice none 0 0, .slice none 0 0, .int .i64 0, .int .i64 0, .int .i64 0, .bool false]) (by simp [results, Tryd.results11, go_sem, cK1, zK1]) rfl ⟨_, rfl, ?_, ?_⟩
    · rw [(start_no HG.out).1, (start_no HG.out).2]
      exact MO.zero _ _
    · with_reducible repeat (first | apply bl_set1 | exact HB.out)
  · have HG := Lib.hid hg
    have HS := Lib.hid (goOk_small hg)
    go_enter Tryd.func11, Tryd.ntmps11
    go_wp2_with fail
    refine (starts_calls A c xs a s _ _ (HA.out.call HB.out) (HR.out.keepB HB.out) hn (HV.out.keepB HB.out) hs).mono ?_
    rintro e w1 ⟨rfl, hb⟩
    rw [HG.out]
    have hz1 := hb.size
    simp at hz1
    replace K0 := Lib.hid (blk_call K0.out hb)
    replace K1 := Lib.hid (blk_call K1.out hb)
    replace HB := Lib.hid (bl_call HB.out hb)
    clear hb
    have cK0 := blk_cell K0.out
    have fK0 := blk_frozen K0.out
    have zK0 := blk_lt K0.out
    have cK1 := blk_cell K1.out
    have fK1 := blk_frozen K1.out
    have zK1 := blk_lt K1.out
    go_wp2_with fail
    refine (start_calls s _ a _ (HV.out.keepB HB.out) HS.out).mono ?_
    rintro e w2 ⟨v2, rfl, hM, hb⟩
    have HB3 := Lib.hid (bl_call HB.out hb)
    have K3 := Lib.hid (blk_call K1.out hb)
    obtain ⟨F0, f0, F1, f1, F3, f3, F4, f4, F5, f5, F6, f6, F7, f7, rfl, hO⟩ := hM
    have HO := Lib.hid (hO.low (lo' := w.heap.size + 1 + 1) hz1)
    clear hO hb
    clear cK0 fK0 zK0 cK1 fK1 zK1
    have cK3 := blk_cell K3.out
    have fK3 := blk_frozen K3.out
    have zK3 := blk_lt K3.out
    go_wp2_with fail
    refine bodyPost_ret (v := .agg #[.slice F0 (backSt s (-1)).data.length f0, .slice F1 (backSt s (-1)).ret.length f1, .int .i32 (backSt s (-1)).a, .slice F3 (backSt s (-1)).mem.length f3, .slice F4 (backSt s (-1)).cells.length f4, .slice F5 (backSt s (-1)).vars.length f5, .slice F6 (backSt s (-1)).out.length f6, .slice F7 (backSt s (-1)).inp.length f7, .int .i64 (backSt s (-1)).fault, .int .i64 (backSt s (-1)).fuel, .int .i64 a, .bool false]) (by simp [results, Tryd.results11, go_sem, cK3, zK3]) rfl ⟨_, rfl, ?_, ?_⟩
    · rw [(start_yes HG.out).1, (start_yes HG.out).2]
      refine ⟨F0, f0, F1, f1, F3, f3, F4, f4, F5, f5, F6, f6, F7, f7, rfl, StO.low (lo := w.heap.size + 1 + 1) ?_ (by omega)⟩
      have l1 : w.heap.size + 1 < w.heap.size + 1 + 1 := by omega
      have HO' := HO.out
      with_reducible repeat (first | refine StO.far ?_ l1 _ | exact HO')
    · with_reducible repeat (first | apply bl_set1 | exact HB3.out)
set_option maxRecDepth 100000 in
set_option maxHeartbeats 2000000 in
theorem l12Put_calls (s : LSt) (v : Value) (k n : Int) (w : World) (hv : StK w s v) (hs : s.small 1048576) :
    Calls Tryd.prog 38 #[v, .agg #[.int .i64 k, .int .i32 n]] w fun e w' => ∃ v', e = .returned v' ∧ StO w' w.heap.size (putSlot s k n) v' ∧ Below w.heap.size w w' := by
  obtain ⟨A0, a0, A1, a1, A3, a3, A4, a4, A5, a5, A6, a6, A7, a7, rfl⟩ := hv.form
  have HV := Lib.hid hv
  have HB := Lib.hid (bl_alloc (bl_alloc (bl_alloc (Below.refl _ w) (.cells #[.slice A0 s.data.length a0, .slice A1 s.ret.length a1, .int .i32 s.a, .slice A3 s.mem.length a3, .slice A4 s.cells.length a4, .slice A5 s.vars.length a5, .slice A6 s.out.length a6, .slice A7 s.inp.length a7, .int .i64 s.fault, .int .i64 s.fuel] 34)) (.cells #[.int .i64 k, .int .i32 n] 76)) (.cells #[.slice none 0 0, .slice none 0 0, .int .i32 0, .slice none 0 0, .slice none 0 0, .slice none 0 0, .slice none 0 0, .slice none 0 0, .int .i64 0, .int .i64 0] 34))
  obtain ⟨k0, k1, k2, -⟩ := Bx.three w #[.slice A0 s.data.length a0, .slice A1 s.ret.length a1, .int .i32 s.a, .slice A3 s.mem.length a3, .slice A4 s.cells.length a4, .slice A5 s.vars.length a5, .slice A6 s.out.length a6, .slice A7 s.inp.length a7, .int .i64 s.fault, .int .i64 s.fuel] #[.int .i64 k, .int .i32 n] #[.slice none 0 0, .slice none 0 0, .int .i32 0, .slice none 0 0, .slice none 0 0, .slice none 0 0, .slice none 0 0, .slice none 0 0, .int .i64 0, .int .i64 0] 34 76 34
  have K0 := Lib.hid k0
  have K1 := Lib.hid k1
  have K2 := Lib.hid k2
  clear hv k0 k1 k2
  by_cases h24 : s.ret.length = 24
  · have e24 : ((s.ret.length : Int) == 24) = true := by simp; omega
    have HP : Hid (putSlot s k n = { s with fault := 3 }) := Lib.hid (by simp [putSlot, h24])
    clear h24
    go_enter Tryd.func38, Tryd.ntmps38
    go_wp2_with fail
    refine (l08Fault_calls s _ 3 _ (HV.out.keepB HB.out) hs).mono ?_
    rintro e w1 ⟨v1, rfl, hO, hb⟩
    replace K2 := Lib.hid (blk_call K2.out hb)
    replace HB := Lib.hid (bl_call HB.out hb)
    obtain ⟨E0, e0, E1, e1, E3, e3, E4, e4, E5, e5, E6, e6, E7, e7, rfl⟩ := hO.k.form
    have HO := Lib.hid (hO.low (lo' := w.heap.size + 1 + 1 + 1) (by simp))
    clear hO hb
    have cK2 := blk_cell K2.out
    have fK2 := blk_frozen K2.out
    have zK2 := blk_lt K2.out
    go_wp2_with fail
    refine bodyPost_ret (v := .agg #[.slice E0 ({ s with fault := 3 } : LSt).data.length e0, .slice E1 ({ s with fault := 3 } : LSt).ret.length e1, .int .i32 ({ s with fault := 3 } : LSt).a, .slice E3 ({ s with fault := 3 } : LSt).mem.length e3, .slice E4 ({ s with fault := 3 } : LSt).cells.length e4, .slice E5 ({ s with fault := 3 } : LSt).vars.length e5, .slice E6 ({ s with fault := 3 } : LSt).out.length e6, .slice E7 ({ s with fault := 3 } : LSt).inp.length e7, .int .i64 ({ s with fault := 3 } : LSt).fault, .int .i64 ({ s with fault := 3 } : LSt).fuel]) (by simp [results, Tryd.results38, go_sem, cK2, zK2]) rfl ⟨_, rfl, ?_, ?_⟩
    · rw [HP.out]
      refine StO.low (lo := w.heap.size + 1 + 1 + 1) ?_ (by omega)
      have l2 : w.heap.size + 1 + 1 < w.heap.size + 1 + 1 + 1 := by omega
      have HO' := HO.out
      with_reducible repeat (first | refine StO.far ?_ l2 _ | exact HO')
    · with_reducible repeat (first | apply bl_set2 | exact HB.out)
  · have hrl : s.ret.length ≤ 1048576 := hs.2.1
    have e24 : ((s.ret.length : Int) == 24) = false := by simp; omega
    have HP : Hid (putSlot s k n = { s with ret := s.ret ++ [⟨k, n⟩] }) := Lib.hid (by simp [putSlot, h24])
    clear h24
    go_enter Tryd.func38, Tryd.ntmps38
    go_wp2_with fail
    refine (l08Copy_calls s _ _ (HV.out.keepB HB.out) hs).mono ?_
    rintro e w1 ⟨v1, rfl, hO, hb⟩
    replace K1 := Lib.hid (blk_call K1.out hb)
    replace K2 := Lib.hid (blk_call K2.out hb)
    replace HB := Lib.hid (bl_call HB.out hb)
    obtain ⟨E0, e0, E1, e1, E3, e3, E4, e4, E5, e5, E6, e6, E7, e7, rfl⟩ := hO.k.form
    have hz := hb.size
    simp at hz
    have hG := StH.of (hO.low (lo' := w.heap.size + 1 + 1 + 1) (by simp))
    obtain ⟨G0, g0, G1, g1, G3, g3, G4, g4, G5, g5, G6, g6, G7, g7, b1, hg, r1, hL, hA⟩ := hG.app (by simp; omega)
    have hq := hg.symm.trans (blk_new w1 _)
    simp at hq
    obtain ⟨⟨rfl, rfl⟩, ⟨rfl, rfl⟩, ⟨rfl, rfl⟩, ⟨rfl, rfl⟩, ⟨rfl, rfl⟩, ⟨rfl, rfl⟩, ⟨rfl, rfl⟩⟩ := hq
    have HG := Lib.hid hg
    have H1 := Lib.hid r1
    have L1 := Lib.hid hL
    have HA := Lib.hid hA
    have HBW := Lib.hid (bl_alloc HB.out (.cells #[.slice G0 s.data.length g0, .slice G1 s.ret.length g1, .int .i32 s.a, .slice G3 s.mem.length g3, .slice G4 s.cells.length g4, .slice G5 s.vars.length g5, .slice G6 s.out.length g6, .slice G7 s.inp.length g7, .int .i64 s.fault, .int .i64 s.fuel] 34))
    clear hO hb hG hg r1 hL hA
    have cK1 := blk_cell K1.out
    have fK1 := blk_frozen K1.out
    have zK1 := blk_lt K1.out
    have cK2 := blk_cell K2.out
    have fK2 := blk_frozen K2.out
    have zK2 := blk_lt K2.out
    go_wp2_with (at_builtin; refine wp_append1s _ (m := w1.heap.size + 1) (by first | rfl | simp) rfl _ _ 32 rfl 76 (.agg #[.int .i64 0, .int .i32 0]) 2 16 Tryd.underlying32 info_Slot rfl (by decide) rfl H1.out rfl rfl ?_ ?_ ?_ ?_; (intro u hu; simp at hu; rcases hu with rfl | rfl <;> rfl); (unfold maxLen; omega); omega; intro B d w5 b hR hg5 hb5; have HR := Lib.hid hR; have HG5 := Lib.hid hg5; have HB5 := Lib.hid hb5; have K5 := Lib.hid ((hg5.block w1.heap.size (by simp) (fun e => (L1.out _ e.symm).2 rfl)).trans HG.out); have J2 := Lib.hid ((hg5.block (w.heap.size + 1 + 1) (by simp; omega) (fun e => by have := (L1.out _ e.symm).1; omega)).trans (blk_alloc K2.out _)); have cK5 := blk_cell K5.out; have fK5 := blk_frozen K5.out; have zK5 := blk_lt K5.out; have cJ2 := blk_cell J2.out; have fJ2 := blk_frozen J2.out; have zJ2 := blk_lt J2.out; clear hR hg5 hb5)
    have hh := HA.out k n B d w5 b (by simpa using HR.out) HG5.out (by rcases HB5.out with h | ⟨y, h, hy⟩; exact .inl h; exact .inr ⟨y, h, by simpa using hy⟩)
    have HB6 := Lib.hid (FrG.below (w := w) hh.2.1 HBW.out (by omega) (by omega) (by simp; omega))
    have HO := Lib.hid hh.2.2
    clear hh
    refine bodyPost_ret (v := .agg #[.slice G0 s.data.length g0, .slice B (s.ret.length + 1) d, .int .i32 s.a, .slice G3 s.mem.length g3, .slice G4 s.cells.length g4, .slice G5 s.vars.length g5, .slice G6 s.out.length g6, .slice G7 s.inp.length g7, .int .i64 s.fault, .int .i64 s.fuel]) (by simp [results, Tryd.results38, go_sem, cJ2, zJ2]) rfl ⟨_, rfl, ?_, ?_⟩
    · rw [HP.out]
      refine StO.low (lo := w.heap.size + 1 + 1 + 1) ?_ (by omega)
      have l2 : w.heap.size + 1 + 1 < w.heap.size + 1 + 1 + 1 := by omega
      have HO' := HO.out
      with_reducible repeat (first | refine StO.far ?_ l2 _ | exact HO')
    · with_reducible repeat (first | apply bl_set2 | exact HB6.out)
set_option maxRecDepth 100000 in
set_option maxHeartbeats 2000000 in
theorem specStart_calls (A : Option Addr) (c : Nat) (xs : List LIns) (a : Int) (s : LSt) (v : Value) (w : World) (hr : Rd w A (xs.flatMap LIns.enc)) (hn : xs.length ≤ 140737488355328) (hv : StK w s v) (hs : s.small 140737488355328) :
    Calls Tryd.prog 8 #[.slice A xs.length c, .int .i64 a, v] w fun e w' => ∃ v', e = .returned v' ∧ MO w' w.heap.size (startS xs a s) (startA xs a s) false v' ∧ Below w.heap.size w w' := by
  obtain ⟨A0, a0, A1, a1, A3, a3, A4, a4, A5, a5, A6, a6, A7, a7, rfl⟩ := hv.form
  have HV := Lib.hid hv
  have HR := Lib.hid hr
  have HB := Lib.hid (bl_alloc (bl_alloc (Below.refl _ w) (.cells #[.slice A0 s.data.length a0, .slice A1 s.ret.length a1, .int .i32 s.a, .slice A3 s.mem.length a3, .slice A4 s.cells.length a4, .slice A5 s.vars.length a5, .slice A6 s.out.length a6, .slice A7 s.inp.length a7, .int .i64 s.fault, .int .i64 s.fuel] 34)) (.cells #[.slice none 0 0, .slice none 0 0, .int .i32 0, .slice none 0 0, .slice none 0 0, .slice none 0 0, .slice none 0 0, .slice none 0 0, .int .i64 0, .int .i64 0, .int .i64 0, .bool false] 36))
  obtain ⟨k0, k1, -⟩ := Bx.two w #[.slice A0 s.data.length a0, .slice A1 s.ret.length a1, .int .i32 s.a, .slice A3 s.mem.length a3, .slice A4 s.cells.length a4, .slice A5 s.vars.length a5, .slice A6 s.out.length a6, .slice A7 s.inp.length a7, .int .i64 s.fault, .int .i64 s.fuel] #[.slice none 0 0, .slice none 0 0, .int .i32 0, .slice none 0 0, .slice none 0 0, .slice none 0 0, .slice none 0 0, .slice none 0 0, .int .i64 0, .int .i64 0, .int .i64 0, .bool false] 34 36
  have K0 := Lib.hid k0
  have K1 := Lib.hid k1
  clear hv hr k0 k1
  cases h1 : codeOk xs
  · have HG := Lib.hid (goOk_1 (a := a) (s := s) h1)
    go_enter Tryd.func8, Tryd.ntmps8
    go_wp2_with (go_at_call 35; (with_reducible refine (specCodeOk_calls A c xs _ ?_ hn).mono ?_); exact HR.out.keepB HB.out; rintro e w2 ⟨rfl, hb⟩; rw [h1]; have HB2 := Lib.hid (bl_call HB.out hb); have J0 := Lib.hid (blk_call K0.out hb); have J1 := Lib.hid (blk_call K1.out hb); clear hb; have cJ0 := blk_cell J0.out; have fJ0 := blk_frozen J0.out; have zJ0 := blk_lt J0.out; have cJ1 := blk_cell J1.out; have fJ1 := blk_frozen J1.out; have zJ1 := blk_lt J1.out)
    refine bodyPost_ret (v := .agg #[.slice none 0 0, .slice none 0 0, .int .i32 0, .slice none 0 0, .slice none 0 0, .slice none 0 0, .slice none 0 0, .slice none 0 0, .int .i64 0, .int .i64 0, .int .i64 0, .bool false]) (by simp [results, Tryd.results8, go_sem, cJ1, zJ1]) rfl ⟨_, rfl, ?_, ?_⟩
    · rw [(start_no HG.out).1, (start_no HG.out).2]
      exact MO.zero _ _
    · with_reducible repeat (first | apply bl_set1 | exact HB2.out)
  cases h2 : inB a 0 ((xs.length : Int) - 1)
  · have HG := Lib.hid (goOk_2 (s := s) h2)
    go_enter Tryd.func8, Tryd.ntmps8
    go_wp2_with (first | (go_at_call 35; (with_reducible refine (specCodeOk_calls A c xs _ ?_ hn).mono ?_); exact HR.out.keepB HB.out; rintro e w2 ⟨rfl, hb⟩; rw [h1]; have HB2 := Lib.hid (bl_call HB.out hb); have J0 := Lib.hid (blk_call K0.out hb); have J1 := Lib.hid (blk_call K1.out hb); clear hb; have cJ0 := blk_cell J0.out; have fJ0 := blk_frozen J0.out; have zJ0 := blk_lt J0.out; have cJ1 := blk_cell J1.out; have fJ1 := blk_frozen J1.out; have zJ1 := blk_lt J1.out) | (go_at_call 36; (with_reducible refine (specInB_calls _ _ _ _).mono ?_); rintro e w3 ⟨rfl, rfl⟩; rw [h2]))
    refine bodyPost_ret (v := .agg #[.slice none 0 0, .slice none 0 0, .int .i32 0, .slice none 0 0, .slice none 0 0, .slice none 0 0, .slice none 0 0, .slice none 0 0, .int .i64 0, .int .i64 0, .int .i64 0, .bool false]) (by simp [results, Tryd.results8, go_sem, cJ1, zJ1]) rfl ⟨_, rfl, ?_, ?_⟩
    · rw [(start_no HG.out).1, (start_no HG.out).2]
      exact MO.zero _ _
    · with_reducible repeat (first | apply bl_set1 | exact HB2.out)
  cases h3 : stOk s
  · have HG := Lib.hid (goOk_3 (xs := xs) (a := a) (s := s) (by rw [h3]; rfl))
    go_enter Tryd.func8, Tryd.ntmps8
    go_wp2_with (first | (go_at_call 35; (with_reducible refine (specCodeOk_calls A c xs _ ?_ hn).mono ?_); exact HR.out.keepB HB.out; rintro e w2 ⟨rfl, hb⟩; rw [h1]; have HB2 := Lib.hid (bl_call HB.out hb); have J0 := Lib.hid (blk_call K0.out hb); have J1 := Lib.hid (blk_call K1.out hb); clear hb; have cJ0 := blk_cell J0.out; have fJ0 := blk_frozen J0.out; have zJ0 := blk_lt J0.out; have cJ1 := blk_cell J1.out; have fJ1 := blk_frozen J1.out; have zJ1 := blk_lt J1.out) | (go_at_call 36; (with_reducible refine (specInB_calls _ _ _ _).mono ?_); rintro e w3 ⟨rfl, rfl⟩; rw [h2]) | (go_at_call 37; (with_reducible refine (specStOk_calls s _ _ ?_ hs).mono ?_); exact HV.out.keepB HB2.out; rintro e w4 ⟨rfl, hb⟩; rw [h3]; have HB3 := Lib.hid (bl_call HB2.out hb); have I0 := Lib.hid (blk_call J0.out hb); have I1 := Lib.hid (blk_call J1.out hb); clear hb; have cI0 := blk_cell I0.out; have fI0 := blk_frozen I0.out; have zI0 := blk_lt I0.out; have cI1 := blk_cell I1.out; have fI1 := blk_frozen I1.out; have zI1 := blk_lt I1.out))
    refine bodyPost_ret (v := .agg #[.slice none 0 0, .slice none 0 0, .int .i32 0, .slice none 0 0, .slice none 0 0, .slice none 0 0, .slice none 0 0, .slice none 0 0, .int .i64 0, .int .i64 0, .int .i64 0, .bool false]) (by simp [results, Tryd.results8, go_sem, cI1, zI1]) rfl ⟨_, rfl, ?_, ?_⟩
    · rw [(start_no HG.out).1, (start_no HG.out).2]
      exact MO.zero _ _
    · with_reducible repeat (first | apply bl_set1 | exact HB3.out)
  by_cases hf : s.fault = 0
  case neg =>
    have HG := Lib.hid (goOk_3 (xs := xs) (a := a) (s := s) (by rw [decide_eq_false hf, Bool.and_false]))
    have df : (s.fault == 0) = false := by simpa using hf
    go_enter Tryd.func8, Tryd.ntmps8
    go_wp2_with (first | (go_at_call 35; (with_reducible refine (specCodeOk_calls A c xs _ ?_ hn).mono ?_); exact HR.out.keepB HB.out; rintro e w2 ⟨rfl, hb⟩; rw [h1]; have HB2 := Lib.hid (bl_call HB.out hb); have J0 := Lib.hid (blk_call K0.out hb); have J1 := Lib.hid (blk_call K1.out hb); clear hb; have cJ0 := blk_cell J0.out; have fJ0 := blk_frozen J0.out; have zJ0 := blk_lt J0.out; have cJ1 := blk_cell J1.out; have fJ1 := blk_frozen J1.out; have zJ1 := blk_lt J1.out) | (go_at_call 36; (with_reducible refine (specInB_calls _ _ _ _).mono ?_); rintro e w3 ⟨rfl, rfl⟩; rw [h2]) | (go_at_call 37; (with_reducible refine (specStOk_calls s _ _ ?_ hs).mono ?_); exact HV.out.keepB HB2.out; rintro e w4 ⟨rfl, hb⟩; rw [h3]; have HB3 := Lib.hid (bl_call HB2.out hb); have I0 := Lib.hid (blk_call J0.out hb); have I1 := Lib.hid (blk_call J1.out hb); clear hb; have cI0 := blk_cell I0.out; have fI0 := blk_frozen I0.out; have zI0 := blk_lt I0.out; have cI1 := blk_cell I1.out; have fI1 := blk_frozen I1.out; have zI1 := blk_lt I1.out))
    refine bodyPost_ret (v := .agg #[.slice none 0 0, .slice none 0 0, .int .i32 0, .slice none 0 0, .slice none 0 0, .slice none 0 0, .slice none 0 0, .slice none 0 0, .int .i64 0, .int .i64 0, .int .i64 0, .bool false]) (by simp [results, Tryd.results8, go_sem, cI1, zI1]) rfl ⟨_, rfl, ?_, ?_⟩
    · rw [(start_no HG.out).1, (start_no HG.out).2]
      exact MO.zero _ _
    · with_reducible repeat (first | apply bl_set1 | exact HB3.out)
  case pos =>
    have hgo := goOk_4 (a := a) h1 h2 (show (stOk s && decide (s.fault = 0)) = true by rw [h3, decide_eq_true hf]; rfl)
    have HG := Lib.hid hgo
    have HS := Lib.hid (goOk_small hgo)
    have df : (s.fault == 0) = true := by simpa using hf
    clear hgo hf
    go_enter Tryd.func8, Tryd.ntmps8
    go_wp2_with (first | (go_at_call 35; (with_reducible refine (specCodeOk_calls A c xs _ ?_ hn).mono ?_); exact HR.out.keepB HB.out; rintro e w2 ⟨rfl, hb⟩; rw [h1]; have HB2 := Lib.hid (bl_call HB.out hb); have J0 := Lib.hid (blk_call K0.out hb); have J1 := Lib.hid (blk_call K1.out hb); clear hb; have cJ0 := blk_cell J0.out; have fJ0 := blk_frozen J0.out; have zJ0 := blk_lt J0.out; have cJ1 := blk_cell J1.out; have fJ1 := blk_frozen J1.out; have zJ1 := blk_lt J1.out) | (go_at_call 36; (with_reducible refine (specInB_calls _ _ _ _).mono ?_); rintro e w3 ⟨rfl, rfl⟩; rw [h2]) | (go_at_call 37; (with_reducible refine (specStOk_calls s _ _ ?_ hs).mono ?_); exact HV.out.keepB HB2.out; rintro e w4 ⟨rfl, hb⟩; rw [h3]; have HB3 := Lib.hid (bl_call HB2.out hb); have I0 := Lib.hid (blk_call J0.out hb); have I1 := Lib.hid (blk_call J1.out hb); clear hb; have cI0 := blk_cell I0.out; have fI0 := blk_frozen I0.out; have zI0 := blk_lt I0.out; have cI1 := blk_cell I1.out; have fI1 := blk_frozen I1.out; have zI1 := blk_lt I1.out) | (go_at_call 38; (with_reducible refine (l12Put_calls s _ 2 (-1) _ ?_ HS.out).mono ?_); exact HV.out.keepB HB3.out; rintro e w5 ⟨v5, rfl, hO, hb⟩; have HB4 := Lib.hid (bl_call HB3.out hb); have L1 := Lib.hid (blk_call I1.out hb); obtain ⟨F0, f0, F1, f1, F3, f3, F4, f4, F5, f5, F6, f6, F7, f7, rfl⟩ := hO.k.form; have HO := Lib.hid hO; have hz5 := HB3.out.size; clear hO hb; have cL1 := blk_cell L1.out; have fL1 := blk_frozen L1.out; have zL1 := blk_lt L1.out))
    refine bodyPost_ret (v := .agg #[.slice F0 (putSlot s 2 (-1)).data.length f0, .slice F1 (putSlot s 2 (-1)).ret.length f1, .int .i32 (putSlot s 2 (-1)).a, .slice F3 (putSlot s 2 (-1)).mem.length f3, .slice F4 (putSlot s 2 (-1)).cells.length f4, .slice F5 (putSlot s 2 (-1)).vars.length f5, .slice F6 (putSlot s 2 (-1)).out.length f6, .slice F7 (putSlot s 2 (-1)).inp.length f7, .int .i64 (putSlot s 2 (-1)).fault, .int .i64 (putSlot s 2 (-1)).fuel, .int .i64 a, .bool false]) (by simp [results, Tryd.results8, go_sem, cL1, zL1]) rfl ⟨_, rfl, ?_, ?_⟩
    · rw [(start_yes HG.out).1, (start_yes HG.out).2]
      have hO2 : StO w5 (w.heap.size + 1 + 1) (backSt s (-1)) (.agg #[.slice F0 (backSt s (-1)).data.length f0, .slice F1 (backSt s (-1)).ret.length f1, .int .i32 (backSt s (-1)).a, .slice F3 (backSt s (-1)).mem.length f3, .slice F4 (backSt s (-1)).cells.length f4, .slice F5 (backSt s (-1)).vars.length f5, .slice F6 (backSt s (-1)).out.length f6, .slice F7 (backSt s (-1)).inp.length f7, .int .i64 (backSt s (-1)).fault, .int .i64 (backSt s (-1)).fuel]) := HO.out.low (by have h1 := zJ1; have h2 := zI1; have h3 := HB3.out.size; omega)
      refine ⟨F0, f0, F1, f1, F3, f3, F4, f4, F5, f5, F6, f6, F7, f7, rfl, StO.low (lo := w.heap.size + 1 + 1) ?_ (by omega)⟩
      have l1 : w.heap.size + 1 < w.heap.size + 1 + 1 := by omega
      with_reducible repeat (first | refine StO.far ?_ l1 _ | exact hO2)
    · with_reducible repeat (first | apply bl_set1 | exact HB4.out)
set_option maxRecDepth 100000 in
set_option maxHeartbeats 1000000 in
theorem eqMach_calls (s : LSt) (a : Int) (dn : Bool) (v v' : Value) (w : World) (hv : MK w s a dn v) (hv' : MK w s a dn v') (hs : s.small 140737488355328) :
    Calls Tryd.prog 12 #[v, v'] w fun e w' => e = .returned (.bool true) ∧ Below w.heap.size w w' := by
  obtain ⟨D0, d0, D1, d1, D3, d3, D4, d4, D5, d5, D6, d6, D7, d7, rfl, k⟩ := hv
  obtain ⟨E0, e0, E1, e1, E3, e3, E4, e4, E5, e5, E6, e6, E7, e7, rfl, k'⟩ := hv'
  have HV := Lib.hid k
  have HV' := Lib.hid k'
  have HB := Lib.hid (bl_alloc (bl_alloc (Below.refl _ w) (.cells #[.slice D0 s.data.length d0, .slice D1 s.ret.length d1, .int .i32 s.a, .slice D3 s.mem.length d3, .slice D4 s.cells.length d4, .slice D5 s.vars.length d5, .slice D6 s.out.length d6, .slice D7 s.inp.length d7, .int .i64 s.fault, .int .i64 s.fuel, .int .i64 a, .bool dn] 36)) (.cells #[.slice E0 s.data.length e0, .slice E1 s.ret.length e1, .int .i32 s.a, .slice E3 s.mem.length e3, .slice E4 s.cells.length e4, .slice E5 s.vars.length e5, .slice E6 s.out.length e6, .slice E7 s.inp.length e7, .int .i64 s.fault, .int .i64 s.fuel, .int .i64 a, .bool dn] 36))
  obtain ⟨k0, k1, -⟩ := Bx.two w #[.slice D0 s.data.length d0, .slice D1 s.ret.length d1, .int .i32 s.a, .slice D3 s.mem.length d3, .slice D4 s.cells.length d4, .slice D5 s.vars.length d5, .slice D6 s.out.length d6, .slice D7 s.inp.length d7, .int .i64 s.fault, .int .i64 s.fuel, .int .i64 a, .bool dn] #[.slice E0 s.data.length e0, .slice E1 s.ret.length e1, .int .i32 s.a, .slice E3 s.mem.length e3, .slice E4 s.cells.length e4, .slice E5 s.vars.length e5, .slice E6 s.out.length e6, .slice E7 s.inp.length e7, .int .i64 s.fault, .int .i64 s.fuel, .int .i64 a, .bool dn] 36 36
  have K0 := Lib.hid k0
  have K1 := Lib.hid k1
  clear k k' k0 k1
  go_enter Tryd.func12, Tryd.ntmps12
  go_wp2_with fail
  refine (eqSt_calls s _ _ _ (HV.out.keepB HB.out) (HV'.out.keepB HB.out) hs).mono ?_
  rintro e w1 ⟨rfl, hb⟩
  replace K0 := Lib.hid (blk_call K0.out hb)
  replace K1 := Lib.hid (blk_call K1.out hb)
  replace HB := Lib.hid (bl_call HB.out hb)
  clear hb
  have cK0 := blk_cell K0.out
  have fK0 := blk_frozen K0.out
  have zK0 := blk_lt K0.out
  have cK1 := blk_cell K1.out
  have fK1 := blk_frozen K1.out
  have zK1 := blk_lt K1.out
  go_wp2_with fail
  go_ret
  exact ⟨rfl, HB.out⟩
set_option maxRecDepth 100000 in
set_option maxHeartbeats 1000000 in
theorem markMach_calls (k0 : Int) (s : LSt) (a : Int) (dn : Bool) (v : Value) (lo hi : Nat) (w : World) (hv : MI w lo hi s a dn v) (hs : s.small 140737488355328) (hlo : lo ≤ w.heap.size) (hi0 : hi ≤ w.heap.size) (hk0 : 0 ≤ k0) (hk1 : k0 ≤ 576460752303423488) :
    Calls Tryd.prog 17 #[v, .int .i64 k0] w fun e w' => e = .returned (.int .i64 (mkStN k0 s)) ∧ MI w' lo hi (mkSt k0 s) a dn v ∧ Fr lo hi w w' := by
  obtain ⟨D0, d0, D1, d1, D3, d3, D4, d4, D5, d5, D6, d6, D7, d7, rfl, k⟩ := hv
  have HK := Lib.hid (k.call (bl_alloc (Below.refl _ w) (.cells #[.slice D0 s.data.length d0, .slice D1 s.ret.length d1, .int .i32 s.a, .slice D3 s.mem.length d3, .slice D4 s.cells.length d4, .slice D5 s.vars.length d5, .slice D6 s.out.length d6, .slice D7 s.inp.length d7, .int .i64 s.fault, .int .i64 s.fuel, .int .i64 a, .bool dn] 36)))
  have HF := Lib.hid (Fr.alloc (Fr.refl lo hi w) hi0 (.cells #[.slice D0 s.data.length d0, .slice D1 s.ret.length d1, .int .i32 s.a, .slice D3 s.mem.length d3, .slice D4 s.cells.length d4, .slice D5 s.vars.length d5, .slice D6 s.out.length d6, .slice D7 s.inp.length d7, .int .i64 s.fault, .int .i64 s.fuel, .int .i64 a, .bool dn] 36))
  clear k
  go_enter Tryd.func17, Tryd.ntmps17
  go_wp2_with (go_at_call 16; refine (markSt_calls k0 s _ lo hi _ HK.out hs (by simp; omega) (by simp; omega) hk0 hk1).mono ?_; rintro e w1 ⟨rfl, M, hf⟩; have HM := Lib.hid M; have HG := Lib.hid (HF.out.trans2 hf); clear M hf)
  go_ret
  have e0 : (mkSt k0 s).data.length = s.data.length := mkInt32_length _ _
  have e1 : (mkSt k0 s).ret.length = s.ret.length := mkSlot_length _ _
  have e3 : (mkSt k0 s).mem.length = s.mem.length := mkInt32_length _ _
  have e4 : (mkSt k0 s).cells.length = s.cells.length := mkUint32_length _ _
  have e5 : (mkSt k0 s).vars.length = s.vars.length := mkInt_length _ _
  have e6 : (mkSt k0 s).out.length = s.out.length := mkByte_length _ _
  have e7 : (mkSt k0 s).inp.length = s.inp.length := mkByte_length _ _
  refine ⟨rfl, ⟨D0, d0, D1, d1, D3, d3, D4, d4, D5, d5, D6, d6, D7, d7, ?_, ?_⟩, HG.out⟩
  · rw [e0, e1, e3, e4, e5, e6, e7]
    rfl
  · rw [e0, e1, e3, e4, e5, e6, e7]
    exact HM.out
set_option maxRecDepth 100000 in
set_option maxHeartbeats 1000000 in
theorem heldMach_calls (k0 : Int) (s : LSt) (a : Int) (dn : Bool) (v : Value) (w : World) (hv : MK w (mkSt k0 s) a dn v) (hs : s.small 140737488355328) (hk0 : 0 ≤ k0) (hk1 : k0 ≤ 576460752303423488) :
    Calls Tryd.prog 18 #[v, .int .i64 k0] w fun e w' => e = .returned (.int .i64 (mkStN k0 s)) ∧ Below w.heap.size w w' := by
  obtain ⟨D0, d0, D1, d1, D3, d3, D4, d4, D5, d5, D6, d6, D7, d7, rfl, k⟩ := hv
  have HK := Lib.hid k
  have hnn : ¬ (mkStN k0 s < 0) := by unfold mkStN; omega
  have HB := Lib.hid (bl_alloc (Below.refl _ w) (.cells #[.slice D0 (mkSt k0 s).data.length d0, .slice D1 (mkSt k0 s).ret.length d1, .int .i32 (mkSt k0 s).a, .slice D3 (mkSt k0 s).mem.length d3, .slice D4 (mkSt k0 s).cells.length d4, .slice D5 (mkSt k0 s).vars.length d5, .slice D6 (mkSt k0 s).out.length d6, .slice D7 (mkSt k0 s).inp.length d7, .int .i64 (mkSt k0 s).fault, .int .i64 (mkSt k0 s).fuel, .int .i64 a, .bool dn] 36))
  clear k
  go_enter Tryd.func18, Tryd.ntmps18
  go_wp2_with (go_at_call 58; refine (heldSt_calls k0 s _ _ (HK.out.keepB HB.out) hs hk0 hk1).mono ?_; rintro e w1 ⟨rfl, hb⟩; replace HB := Lib.hid (bl_call HB.out hb); clear hb)
  go_ret
  exact ⟨rfl, HB.out⟩
end Go.Proofs.YtjciibhaifabjaaDoor

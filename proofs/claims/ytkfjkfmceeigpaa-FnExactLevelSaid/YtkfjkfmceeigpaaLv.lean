/- Level: contracts of the program's and the reference's. -/
import Derived.Test.YtkfjkfmceeigpaaPn
set_option linter.unusedVariables false
set_option linter.unusedSimpArgs false
namespace Go.Proofs.Ytkfjkfmceeigpaa
open Go.RowKit

/-- What Level makes of a slot. -/
def lev (x : LSlot) : LSlot := if x.kind = 2 then ⟨x.kind, 0⟩ else x
theorem set_self {α : Type} {ys : List α} {k : Nat} {x : α} (h : ys[k]? = some x) : ys.set k x = ys := by
  apply List.ext_getElem?
  intro j
  rw [List.getElem?_set]
  split
  · rename_i e
    subst e
    split
    · exact h.symm
    · rename_i hj
      rw [List.getElem?_eq_none (by omega)] at h
      cases h
  · rfl
theorem flat_set1 {ys : List LSlot} {k : Nat} {kd n m : Int} (h : ys[k]? = some ⟨kd, n⟩) : (ys.flatMap LSlot.enc).set (k * 2 + 1) (.int .i32 m) = (ys.set k ⟨kd, m⟩).flatMap LSlot.enc := by
  have hk : k < ys.length := (List.getElem?_eq_some_iff.1 h).1
  have h1 := flat_writes LSlot.enc_len ys k [Value.int .i64 kd, Value.int .i32 m] ⟨kd, m⟩ hk rfl
  simp only [writes] at h1
  rw [← h1]
  congr 1
  have h2 : (ys.flatMap LSlot.enc)[k * 2]? = some (.int .i64 kd) := flat_get LSlot.enc_len ys k ⟨kd, n⟩ h 0 (by omega)
  exact (set_self h2).symm
def levelS (s : LSt) : LSt := if stOk s = true then { s with ret := s.ret.map lev } else zeroSt
set_option maxRecDepth 100000 in
set_option maxHeartbeats 2000000 in
theorem Level_calls (s : LSt) (v : Value) (w : World) (hv : StK w s v) (hs : s.small 140737488355328) :
    Calls Try.prog 29 #[v] w fun e w' => ∃ v', e = .returned v' ∧ StO w' w.heap.size (levelS s) v' ∧ Below w.heap.size w w' := by
  obtain ⟨A0, c0, A1, c1, A3, c3, A4, c4, A5, c5, A6, c6, A7, c7, rfl⟩ := hv.form
  have HV := Lib.hid hv
  clear hv
  cases h : stOk s
  · have HP : Hid (levelS s = zeroSt) := Lib.hid (by simp [levelS, h])
    go_enter Try.func29, Try.ntmps29
    go_wp2_with fail
    refine (implStOk_calls s _ _ (HV.out.keepB (bl_alloc (bl_alloc (Below.refl _ _) _) _)) hs).mono ?_
    rintro e w1 ⟨rfl, hb⟩
    rw [h]
    have HB1 := Lib.hid (bl_call (bl_alloc (bl_alloc (Below.refl _ w) _) _) hb)
    have HK1 := Lib.hid ((Bx.two w #[.slice A0 s.data.length c0, .slice A1 s.ret.length c1, .int .i32 s.a, .slice A3 s.mem.length c3, .slice A4 s.cells.length c4, .slice A5 s.vars.length c5, .slice A6 s.out.length c6, .slice A7 s.inp.length c7, .int .i64 s.fault, .int .i64 s.fuel] #[.slice none 0 0, .slice none 0 0, .int .i32 0, .slice none 0 0, .slice none 0 0, .slice none 0 0, .slice none 0 0, .slice none 0 0, .int .i64 0, .int .i64 0] 31 31).call hb)
    clear hb
    obtain ⟨k0, k1, -⟩ := HK1.out
    have ca1 := blk_cell k0
    have fa1 := blk_frozen k0
    have za1 := blk_lt k0
    have cb1 := blk_cell k1
    have fb1 := blk_frozen k1
    have zb1 := blk_lt k1
    clear k0 k1
    go_wp2_with fail
    refine bodyPost_ret (v := .agg #[.slice none 0 0, .slice none 0 0, .int .i32 0, .slice none 0 0, .slice none 0 0, .slice none 0 0, .slice none 0 0, .slice none 0 0, .int .i64 0, .int .i64 0]) (by simp [results, Try.results29, go_sem, cb1, zb1]) rfl ⟨_, rfl, ?_, ?_⟩
    · rw [HP.out]; exact stO_zero _ _
    · with_reducible repeat (first | exact HB1.out | apply bl_set1)
  · have HS1 := Lib.hid (small_le h)
    have HP : Hid (levelS s = { s with ret := s.ret.map lev }) := Lib.hid (by simp [levelS, h])
    go_enter Try.func29, Try.ntmps29
    go_wp2_with fail
    refine (implStOk_calls s _ _ (HV.out.keepB (bl_alloc (bl_alloc (Below.refl _ _) _) _)) hs).mono ?_
    rintro e w1 ⟨rfl, hb⟩
    rw [h]
    have HB1 := Lib.hid (bl_call (bl_alloc (bl_alloc (Below.refl _ w) _) _) hb)
    have hz1 := HB1.out.size
    have HK1 := Lib.hid ((Bx.two w #[.slice A0 s.data.length c0, .slice A1 s.ret.length c1, .int .i32 s.a, .slice A3 s.mem.length c3, .slice A4 s.cells.length c4, .slice A5 s.vars.length c5, .slice A6 s.out.length c6, .slice A7 s.inp.length c7, .int .i64 s.fault, .int .i64 s.fuel] #[.slice none 0 0, .slice none 0 0, .int .i32 0, .slice none 0 0, .slice none 0 0, .slice none 0 0, .slice none 0 0, .slice none 0 0, .int .i64 0, .int .i64 0] 31 31).call hb)
    clear hb
    obtain ⟨k0, k1, -⟩ := HK1.out
    have ca1 := blk_cell k0
    have fa1 := blk_frozen k0
    have za1 := blk_lt k0
    have cb1 := blk_cell k1
    have fb1 := blk_frozen k1
    have zb1 := blk_lt k1
    clear k0 k1
    go_wp2_with fail
    refine (ownSt_calls s _ w1 (HV.out.keepB HB1.out) HS1.out).mono ?_
    rintro e w2 ⟨v2, rfl, hO, hb⟩
    have HB2 := Lib.hid (bl_call HB1.out hb)
    have HK2 := Lib.hid (HK1.out.call hb)
    have hz2 := hb.size
    have hq1 := zb1
    obtain ⟨E0, e0, E1, e1, E3, e3, E4, e4, E5, e5, E6, e6, E7, e7, b0, b1, b3, b4, b5, b6, b7, he, r0, r1, r3, r4, r5, r6, r7, hL, d1, d2⟩ := hO
    subst he
    have L0 : Hid (∀ x, b0 = some x → w1.heap.size ≤ x) := Lib.hid (fun x e => hL _ (by simp) x e)
    have H0 := Lib.hid r0
    have L1 : Hid (∀ x, b1 = some x → w1.heap.size ≤ x) := Lib.hid (fun x e => hL _ (by simp) x e)
    have H1 := Lib.hid r1
    have L3 : Hid (∀ x, b3 = some x → w1.heap.size ≤ x) := Lib.hid (fun x e => hL _ (by simp) x e)
    have H3 := Lib.hid r3
    have L4 : Hid (∀ x, b4 = some x → w1.heap.size ≤ x) := Lib.hid (fun x e => hL _ (by simp) x e)
    have H4 := Lib.hid r4
    have L5 : Hid (∀ x, b5 = some x → w1.heap.size ≤ x) := Lib.hid (fun x e => hL _ (by simp) x e)
    have H5 := Lib.hid r5
    have L6 : Hid (∀ x, b6 = some x → w1.heap.size ≤ x) := Lib.hid (fun x e => hL _ (by simp) x e)
    have H6 := Lib.hid r6
    have L7 : Hid (∀ x, b7 = some x → w1.heap.size ≤ x) := Lib.hid (fun x e => hL _ (by simp) x e)
    have H7 := Lib.hid r7
    have N0 : Hid (b0 = none ∨ b0 ≠ b1) := Lib.hid (Row.ne_type r0 r1 (by decide))
    have N3 : Hid (b3 = none ∨ b3 ≠ b1) := Lib.hid (Row.ne_type r3 r1 (by decide))
    have N4 : Hid (b4 = none ∨ b4 ≠ b1) := Lib.hid (Row.ne_type r4 r1 (by decide))
    have N5 : Hid (b5 = none ∨ b5 ≠ b1) := Lib.hid (Row.ne_type r5 r1 (by decide))
    have N6 : Hid (b6 = none ∨ b6 ≠ b1) := Lib.hid (Row.ne_type r6 r1 (by decide))
    have N7 : Hid (b7 = none ∨ b7 ≠ b1) := Lib.hid (Row.ne_type r7 r1 (by decide))
    have D1 := Lib.hid d1
    have D2 := Lib.hid d2
    have hrl := HS1.out.2.1
    clear r0 r1 r3 r4 r5 r6 r7 hL d1 d2 hb ca1 fa1 za1 cb1 fb1 zb1
    obtain ⟨k0, k1, -⟩ := HK2.out
    have ca2 := blk_cell k0
    have fa2 := blk_frozen k0
    have za2 := blk_lt k0
    have cb2 := blk_cell k1
    have fb2 := blk_frozen k1
    have zb2 := blk_lt k1
    clear k0 k1
    have KB : Hid ((w2.alloc (.cells #[.slice E0 s.data.length e0, .slice E1 s.ret.length e1, .int .i32 s.a, .slice E3 s.mem.length e3, .slice E4 s.cells.length e4, .slice E5 s.vars.length e5, .slice E6 s.out.length e6, .slice E7 s.inp.length e7, .int .i64 s.fault, .int .i64 s.fuel] 31)).heap[w2.heap.size]? = some (.cells #[.slice E0 s.data.length e0, .slice E1 s.ret.length e1, .int .i32 s.a, .slice E3 s.mem.length e3, .slice E4 s.cells.length e4, .slice E5 s.vars.length e5, .slice E6 s.out.length e6, .slice E7 s.inp.length e7, .int .i64 s.fault, .int .i64 s.fuel] 31 (0, 0))) := Lib.hid (blk_new _ _)
    have KR : Hid ((w2.alloc (.cells #[.slice E0 s.data.length e0, .slice E1 s.ret.length e1, .int .i32 s.a, .slice E3 s.mem.length e3, .slice E4 s.cells.length e4, .slice E5 s.vars.length e5, .slice E6 s.out.length e6, .slice E7 s.inp.length e7, .int .i64 s.fault, .int .i64 s.fuel] 31)).heap[w.heap.size + 1]? = some (.cells #[.slice none 0 0, .slice none 0 0, .int .i32 0, .slice none 0 0, .slice none 0 0, .slice none 0 0, .slice none 0 0, .slice none 0 0, .int .i64 0, .int .i64 0] 31 (0, 0))) := Lib.hid (blk_alloc HK2.out.2.1 _)
    go_wp2_with fail
    go_loopw [15] (fun i wr => ∃ (k : Nat), k ≤ s.ret.length ∧ i = .int .i64 k ∧ Hid (Row wr 92 2 E1 s.ret.length e1 (((s.ret.map lev).take k ++ s.ret.drop k).flatMap LSlot.enc) b1) ∧ Hid ((w2.alloc (.cells #[.slice E0 s.data.length e0, .slice E1 s.ret.length e1, .int .i32 s.a, .slice E3 s.mem.length e3, .slice E4 s.cells.length e4, .slice E5 s.vars.length e5, .slice E6 s.out.length e6, .slice E7 s.inp.length e7, .int .i64 s.fault, .int .i64 s.fuel] 31)).grownBy wr b1)) (fun i _ => s.ret.length - (intOf i).toNat)
    case atStart => exact ⟨0, Nat.zero_le _, rfl, Lib.hid (by simpa using H1.out.alloc _), Lib.hid (grownBy_refl _ _)⟩
    case round =>
      obtain ⟨k, hk, rfl, HR, HG⟩ := hrel
      have HKB : wr.heap[w2.heap.size]? = some (.cells #[.slice E0 s.data.length e0, .slice E1 s.ret.length e1, .int .i32 s.a, .slice E3 s.mem.length e3, .slice E4 s.cells.length e4, .slice E5 s.vars.length e5, .slice E6 s.out.length e6, .slice E7 s.inp.length e7, .int .i64 s.fault, .int .i64 s.fuel] 31 (0, 0)) := (HG.out.block w2.heap.size (by simp) (fun e => by have := H1.out.lt _ e.symm; omega)).trans KB.out
      have cx := blk_cell HKB
      have fx := blk_frozen HKB
      have zx := blk_lt HKB
      by_cases hlt : k < s.ret.length
      · have hu : ((s.ret.map lev).take k ++ s.ret.drop k)[k]? = some s.ret[k] := by
          rw [List.getElem?_append_right (by simp; omega)]
          simp [List.length_take, Nat.min_eq_left hk, List.getElem?_eq_getElem hlt]
        obtain ⟨g, hb1, rfl⟩ := HR.out.pos (by omega)
        subst hb1
        have hrd := HR.out.rd.el LSlot.enc_len hu (by omega)
        obtain ⟨ad, ea, hc⟩ := hrd
        cases ea
        have hc0 := hc 0 _ rfl
        have hc1 := hc 1 _ rfl
        rw [add_plain] at hc0 hc1
        rw [Nat.add_zero] at hc0
        have HNX : Hid (((s.ret.map lev).take k ++ s.ret.drop k).set k (lev s.ret[k]) = (s.ret.map lev).take (k + 1) ++ s.ret.drop (k + 1)) := Lib.hid (set_take_drop (s.ret.map lev) s.ret k hlt (by simp) _ (by simp [List.getElem?_eq_getElem hlt]))
        have HU := Lib.hid hu
        have i0 : (0 : Int) ≤ (k : Int) := by omega
        have i1 : (k : Int) < (s.ret.length : Int) := by omega
        have fr1 := HR.out.frozen (k * 2 + 1)
        have hgx : g ≠ w2.heap.size := fun e => by have := H1.out.lt g rfl; omega
        have hgl : g < wr.heap.size := HR.out.lt g rfl
        clear hc hu
        generalize s.ret[k] = x at hc0 hc1 HNX HU
        obtain ⟨kd, n⟩ := x
        simp only at hc0 hc1
        by_cases hkd : kd = 2
        · subst hkd
          have HRS : Hid (Row (wr.setCell ⟨g, k * 2 + 1, none⟩ (.int .i32 0)) 92 2 (some ⟨g, 0, none⟩) s.ret.length e1 (((s.ret.map lev).take (k + 1) ++ s.ret.drop (k + 1)).flatMap LSlot.enc) (some g)) := Lib.hid (by
            have h := HR.out.stored (k * 2 + 1) (.int .i32 0)
            rw [flat_set1 HU.out, show (⟨2, 0⟩ : LSlot) = lev ⟨2, n⟩ from rfl, HNX.out] at h
            exact h)
          have HGS := Lib.hid (World.grownBy.trans HG.out (grownBy_setCell wr ⟨g, k * 2 + 1, none⟩ (.int .i32 0)))
          go_wp2_with fail
          go_roundw
          case rel => exact ⟨k + 1, by omega, by go_num, Lib.hid (by with_reducible repeat (first | exact HRS.out | refine Row.alloc ?_ _)), Lib.hid (by with_reducible repeat (first | exact HGS.out | refine World.grownBy.trans ?_ (World.grownBy_alloc _ _ _)))⟩
          case measure => simp [intOf]; omega
        · have ek : (kd == (2 : Int)) = false := by simp [hkd]
          have HRS : Hid (Row wr 92 2 (some ⟨g, 0, none⟩) s.ret.length e1 (((s.ret.map lev).take (k + 1) ++ s.ret.drop (k + 1)).flatMap LSlot.enc) (some g)) := Lib.hid (by
            rw [← HNX.out, show lev ⟨kd, n⟩ = ⟨kd, n⟩ by simp [lev, hkd], set_self HU.out]
            exact HR.out)
          go_wp2_with fail
          go_roundw
          case rel => exact ⟨k + 1, by omega, by go_num, Lib.hid (by with_reducible repeat (first | exact HRS.out | refine Row.alloc ?_ _)), Lib.hid (by with_reducible repeat (first | exact HG.out | refine World.grownBy.trans ?_ (World.grownBy_alloc _ _ _)))⟩
          case measure => simp [intOf]; omega
      · have : k = s.ret.length := by omega
        subst this
        have HKR : wr.heap[w.heap.size + 1]? = some (.cells #[.slice none 0 0, .slice none 0 0, .int .i32 0, .slice none 0 0, .slice none 0 0, .slice none 0 0, .slice none 0 0, .slice none 0 0, .int .i64 0, .int .i64 0] 31 (0, 0)) := (HG.out.block (w.heap.size + 1) (by simp; omega) (fun e => by have := L1.out _ e.symm; omega)).trans KR.out
        have cr := blk_cell HKR
        have fr := blk_frozen HKR
        have zr := blk_lt HKR
        have hlev : (s.ret.map lev).length = s.ret.length := by simp
        go_wp2_with fail
        refine bodyPost_ret (v := .agg #[.slice E0 s.data.length e0, .slice E1 s.ret.length e1, .int .i32 s.a, .slice E3 s.mem.length e3, .slice E4 s.cells.length e4, .slice E5 s.vars.length e5, .slice E6 s.out.length e6, .slice E7 s.inp.length e7, .int .i64 s.fault, .int .i64 s.fuel]) (by simp [results, Try.results29, go_sem, cr, zr]) rfl ⟨_, rfl, ?_, ?_⟩
        · rw [HP.out]
          refine StO.low (lo := w1.heap.size) ?_ hz1
          have HO : StO wr w1.heap.size { s with ret := s.ret.map lev } (.agg #[.slice E0 s.data.length e0, .slice E1 s.ret.length e1, .int .i32 s.a, .slice E3 s.mem.length e3, .slice E4 s.cells.length e4, .slice E5 s.vars.length e5, .slice E6 s.out.length e6, .slice E7 s.inp.length e7, .int .i64 s.fault, .int .i64 s.fuel]) := by
            refine ⟨E0, e0, E1, e1, E3, e3, E4, e4, E5, e5, E6, e6, E7, e7, b0, b1, b3, b4, b5, b6, b7, by rw [hlev], (H0.out.alloc _).grown HG.out N0.out, ?_, (H3.out.alloc _).grown HG.out N3.out, (H4.out.alloc _).grown HG.out N4.out, (H5.out.alloc _).grown HG.out N5.out, (H6.out.alloc _).grown HG.out N6.out, (H7.out.alloc _).grown HG.out N7.out, ?_, D1.out, D2.out⟩
            · rw [hlev]
              have h := HR.out
              rw [List.take_of_length_le (by simp), List.drop_of_length_le (Nat.le_refl _), List.append_nil] at h
              exact h
            · intro b' hb x hx
              simp at hb
              rcases hb with rfl | rfl | rfl | rfl | rfl | rfl | rfl
              · exact L0.out x hx
              · exact L1.out x hx
              · exact L3.out x hx
              · exact L4.out x hx
              · exact L5.out x hx
              · exact L6.out x hx
              · exact L7.out x hx
          with_reducible repeat (first | exact HO | refine StO.far ?_ (by simp only; omega) _)
        · have HBB := Below.grown (bl_alloc HB2.out (.cells #[.slice E0 s.data.length e0, .slice E1 s.ret.length e1, .int .i32 s.a, .slice E3 s.mem.length e3, .slice E4 s.cells.length e4, .slice E5 s.vars.length e5, .slice E6 s.out.length e6, .slice E7 s.inp.length e7, .int .i64 s.fault, .int .i64 s.fuel] 31)) HG.out (by simp; omega) (fun x e => by have := L1.out x e; omega)
          with_reducible repeat (first | exact HBB | apply bl_set1)
set_option maxRecDepth 100000 in
set_option maxHeartbeats 2000000 in
theorem specLevel_calls (s : LSt) (v : Value) (w : World) (hv : StK w s v) (hs : s.small 140737488355328) :
    Calls Try.prog 27 #[v] w fun e w' => ∃ v', e = .returned v' ∧ StO w' w.heap.size (levelS s) v' ∧ Below w.heap.size w w' := by
  obtain ⟨A0, c0, A1, c1, A3, c3, A4, c4, A5, c5, A6, c6, A7, c7, rfl⟩ := hv.form
  have HV := Lib.hid hv
  clear hv
  cases h : stOk s
  · have HP : Hid (levelS s = zeroSt) := Lib.hid (by simp [levelS, h])
    go_enter Try.func27, Try.ntmps27
    go_wp2_with fail
    refine (specStOk_calls s _ _ (HV.out.keepB (bl_alloc (bl_alloc (Below.refl _ _) _) _)) hs).mono ?_
    rintro e w1 ⟨rfl, hb⟩
    rw [h]
    have HB1 := Lib.hid (bl_call (bl_alloc (bl_alloc (Below.refl _ w) _) _) hb)
    have HK1 := Lib.hid ((Bx.two w #[.slice A0 s.data.length c0, .slice A1 s.ret.length c1, .int .i32 s.a, .slice A3 s.mem.length c3, .slice A4 s.cells.length c4, .slice A5 s.vars.length c5, .slice A6 s.out.length c6, .slice A7 s.inp.length c7, .int .i64 s.fault, .int .i64 s.fuel] #[.slice none 0 0, .slice none 0 0, .int .i32 0, .slice none 0 0, .slice none 0 0, .slice none 0 0, .slice none 0 0, .slice none 0 0, .int .i64 0, .int .i64 0] 31 31).call hb)
    clear hb
    obtain ⟨k0, k1, -⟩ := HK1.out
    have ca1 := blk_cell k0
    have fa1 := blk_frozen k0
    have za1 := blk_lt k0
    have cb1 := blk_cell k1
    have fb1 := blk_frozen k1
    have zb1 := blk_lt k1
    clear k0 k1
    go_wp2_with fail
    refine bodyPost_ret (v := .agg #[.slice none 0 0, .slice none 0 0, .int .i32 0, .slice none 0 0, .slice none 0 0, .slice none 0 0, .slice none 0 0, .slice none 0 0, .int .i64 0, .int .i64 0]) (by simp [results, Try.results27, go_sem, cb1, zb1]) rfl ⟨_, rfl, ?_, ?_⟩
    · rw [HP.out]; exact stO_zero _ _
    · with_reducible repeat (first | exact HB1.out | apply bl_set1)
  · have HS1 := Lib.hid (small_le h)
    have HP : Hid (levelS s = { s with ret := s.ret.map lev }) := Lib.hid (by simp [levelS, h])
    go_enter Try.func27, Try.ntmps27
    go_wp2_with fail
    refine (specStOk_calls s _ _ (HV.out.keepB (bl_alloc (bl_alloc (Below.refl _ _) _) _)) hs).mono ?_
    rintro e w1 ⟨rfl, hb⟩
    rw [h]
    have HB1 := Lib.hid (bl_call (bl_alloc (bl_alloc (Below.refl _ w) _) _) hb)
    have hz1 := HB1.out.size
    have HK1 := Lib.hid ((Bx.two w #[.slice A0 s.data.length c0, .slice A1 s.ret.length c1, .int .i32 s.a, .slice A3 s.mem.length c3, .slice A4 s.cells.length c4, .slice A5 s.vars.length c5, .slice A6 s.out.length c6, .slice A7 s.inp.length c7, .int .i64 s.fault, .int .i64 s.fuel] #[.slice none 0 0, .slice none 0 0, .int .i32 0, .slice none 0 0, .slice none 0 0, .slice none 0 0, .slice none 0 0, .slice none 0 0, .int .i64 0, .int .i64 0] 31 31).call hb)
    clear hb
    obtain ⟨k0, k1, -⟩ := HK1.out
    have ca1 := blk_cell k0
    have fa1 := blk_frozen k0
    have za1 := blk_lt k0
    have cb1 := blk_cell k1
    have fb1 := blk_frozen k1
    have zb1 := blk_lt k1
    clear k0 k1
    go_wp2_with fail
    refine (l08Copy_calls s _ w1 (HV.out.keepB HB1.out) HS1.out).mono ?_
    rintro e w2 ⟨v2, rfl, hO, hb⟩
    have HB2 := Lib.hid (bl_call HB1.out hb)
    have HK2 := Lib.hid (HK1.out.call hb)
    have hz2 := hb.size
    have hq1 := zb1
    obtain ⟨E0, e0, E1, e1, E3, e3, E4, e4, E5, e5, E6, e6, E7, e7, b0, b1, b3, b4, b5, b6, b7, he, r0, r1, r3, r4, r5, r6, r7, hL, d1, d2⟩ := hO
    subst he
    have L0 : Hid (∀ x, b0 = some x → w1.heap.size ≤ x) := Lib.hid (fun x e => hL _ (by simp) x e)
    have H0 := Lib.hid r0
    have L1 : Hid (∀ x, b1 = some x → w1.heap.size ≤ x) := Lib.hid (fun x e => hL _ (by simp) x e)
    have H1 := Lib.hid r1
    have L3 : Hid (∀ x, b3 = some x → w1.heap.size ≤ x) := Lib.hid (fun x e => hL _ (by simp) x e)
    have H3 := Lib.hid r3
    have L4 : Hid (∀ x, b4 = some x → w1.heap.size ≤ x) := Lib.hid (fun x e => hL _ (by simp) x e)
    have H4 := Lib.hid r4
    have L5 : Hid (∀ x, b5 = some x → w1.heap.size ≤ x) := Lib.hid (fun x e => hL _ (by simp) x e)
    have H5 := Lib.hid r5
    have L6 : Hid (∀ x, b6 = some x → w1.heap.size ≤ x) := Lib.hid (fun x e => hL _ (by simp) x e)
    have H6 := Lib.hid r6
    have L7 : Hid (∀ x, b7 = some x → w1.heap.size ≤ x) := Lib.hid (fun x e => hL _ (by simp) x e)
    have H7 := Lib.hid r7
    have N0 : Hid (b0 = none ∨ b0 ≠ b1) := Lib.hid (Row.ne_type r0 r1 (by decide))
    have N3 : Hid (b3 = none ∨ b3 ≠ b1) := Lib.hid (Row.ne_type r3 r1 (by decide))
    have N4 : Hid (b4 = none ∨ b4 ≠ b1) := Lib.hid (Row.ne_type r4 r1 (by decide))
    have N5 : Hid (b5 = none ∨ b5 ≠ b1) := Lib.hid (Row.ne_type r5 r1 (by decide))
    have N6 : Hid (b6 = none ∨ b6 ≠ b1) := Lib.hid (Row.ne_type r6 r1 (by decide))
    have N7 : Hid (b7 = none ∨ b7 ≠ b1) := Lib.hid (Row.ne_type r7 r1 (by decide))
    have D1 := Lib.hid d1
    have D2 := Lib.hid d2
    have hrl := HS1.out.2.1
    clear r0 r1 r3 r4 r5 r6 r7 hL d1 d2 hb ca1 fa1 za1 cb1 fb1 zb1
    obtain ⟨k0, k1, -⟩ := HK2.out
    have ca2 := blk_cell k0
    have fa2 := blk_frozen k0
    have za2 := blk_lt k0
    have cb2 := blk_cell k1
    have fb2 := blk_frozen k1
    have zb2 := blk_lt k1
    clear k0 k1
    have KB : Hid ((w2.alloc (.cells #[.slice E0 s.data.length e0, .slice E1 s.ret.length e1, .int .i32 s.a, .slice E3 s.mem.length e3, .slice E4 s.cells.length e4, .slice E5 s.vars.length e5, .slice E6 s.out.length e6, .slice E7 s.inp.length e7, .int .i64 s.fault, .int .i64 s.fuel] 31)).heap[w2.heap.size]? = some (.cells #[.slice E0 s.data.length e0, .slice E1 s.ret.length e1, .int .i32 s.a, .slice E3 s.mem.length e3, .slice E4 s.cells.length e4, .slice E5 s.vars.length e5, .slice E6 s.out.length e6, .slice E7 s.inp.length e7, .int .i64 s.fault, .int .i64 s.fuel] 31 (0, 0))) := Lib.hid (blk_new _ _)
    have KR : Hid ((w2.alloc (.cells #[.slice E0 s.data.length e0, .slice E1 s.ret.length e1, .int .i32 s.a, .slice E3 s.mem.length e3, .slice E4 s.cells.length e4, .slice E5 s.vars.length e5, .slice E6 s.out.length e6, .slice E7 s.inp.length e7, .int .i64 s.fault, .int .i64 s.fuel] 31)).heap[w.heap.size + 1]? = some (.cells #[.slice none 0 0, .slice none 0 0, .int .i32 0, .slice none 0 0, .slice none 0 0, .slice none 0 0, .slice none 0 0, .slice none 0 0, .int .i64 0, .int .i64 0] 31 (0, 0))) := Lib.hid (blk_alloc HK2.out.2.1 _)
    go_wp2_with fail
    go_loopw [4] (fun i wr => ∃ (k : Nat), k ≤ s.ret.length ∧ i = .int .i64 k ∧ Hid (Row wr 92 2 E1 s.ret.length e1 (((s.ret.map lev).take k ++ s.ret.drop k).flatMap LSlot.enc) b1) ∧ Hid ((w2.alloc (.cells #[.slice E0 s.data.length e0, .slice E1 s.ret.length e1, .int .i32 s.a, .slice E3 s.mem.length e3, .slice E4 s.cells.length e4, .slice E5 s.vars.length e5, .slice E6 s.out.length e6, .slice E7 s.inp.length e7, .int .i64 s.fault, .int .i64 s.fuel] 31)).grownBy wr b1)) (fun i _ => s.ret.length - (intOf i).toNat)
    case atStart => exact ⟨0, Nat.zero_le _, rfl, Lib.hid (by simpa using H1.out.alloc _), Lib.hid (grownBy_refl _ _)⟩
    case round =>
      obtain ⟨k, hk, rfl, HR, HG⟩ := hrel
      have HKB : wr.heap[w2.heap.size]? = some (.cells #[.slice E0 s.data.length e0, .slice E1 s.ret.length e1, .int .i32 s.a, .slice E3 s.mem.length e3, .slice E4 s.cells.length e4, .slice E5 s.vars.length e5, .slice E6 s.out.length e6, .slice E7 s.inp.length e7, .int .i64 s.fault, .int .i64 s.fuel] 31 (0, 0)) := (HG.out.block w2.heap.size (by simp) (fun e => by have := H1.out.lt _ e.symm; omega)).trans KB.out
      have cx := blk_cell HKB
      have fx := blk_frozen HKB
      have zx := blk_lt HKB
      by_cases hlt : k < s.ret.length
      · have hu : ((s.ret.map lev).take k ++ s.ret.drop k)[k]? = some s.ret[k] := by
          rw [List.getElem?_append_right (by simp; omega)]
          simp [List.length_take, Nat.min_eq_left hk, List.getElem?_eq_getElem hlt]
        obtain ⟨g, hb1, rfl⟩ := HR.out.pos (by omega)
        subst hb1
        have hrd := HR.out.rd.el LSlot.enc_len hu (by omega)
        obtain ⟨ad, ea, hc⟩ := hrd
        cases ea
        have hc0 := hc 0 _ rfl
        have hc1 := hc 1 _ rfl
        rw [add_plain] at hc0 hc1
        rw [Nat.add_zero] at hc0
        have HNX : Hid (((s.ret.map lev).take k ++ s.ret.drop k).set k (lev s.ret[k]) = (s.ret.map lev).take (k + 1) ++ s.ret.drop (k + 1)) := Lib.hid (set_take_drop (s.ret.map lev) s.ret k hlt (by simp) _ (by simp [List.getElem?_eq_getElem hlt]))
        have HU := Lib.hid hu
        have i0 : (0 : Int) ≤ (k : Int) := by omega
        have i1 : (k : Int) < (s.ret.length : Int) := by omega
        have fr1 := HR.out.frozen (k * 2 + 1)
        have hgx : g ≠ w2.heap.size := fun e => by have := H1.out.lt g rfl; omega
        have hgl : g < wr.heap.size := HR.out.lt g rfl
        clear hc hu
        generalize s.ret[k] = x at hc0 hc1 HNX HU
        obtain ⟨kd, n⟩ := x
        simp only at hc0 hc1
        by_cases hkd : kd = 2
        · subst hkd
          have HRS : Hid (Row (wr.setCell ⟨g, k * 2 + 1, none⟩ (.int .i32 0)) 92 2 (some ⟨g, 0, none⟩) s.ret.length e1 (((s.ret.map lev).take (k + 1) ++ s.ret.drop (k + 1)).flatMap LSlot.enc) (some g)) := Lib.hid (by
            have h := HR.out.stored (k * 2 + 1) (.int .i32 0)
            rw [flat_set1 HU.out, show (⟨2, 0⟩ : LSlot) = lev ⟨2, n⟩ from rfl, HNX.out] at h
            exact h)
          have HGS := Lib.hid (World.grownBy.trans HG.out (grownBy_setCell wr ⟨g, k * 2 + 1, none⟩ (.int .i32 0)))
          go_wp2_with fail
          go_roundw
          case rel => exact ⟨k + 1, by omega, by go_num, Lib.hid (by with_reducible repeat (first | exact HRS.out | refine Row.alloc ?_ _)), Lib.hid (by with_reducible repeat (first | exact HGS.out | refine World.grownBy.trans ?_ (World.grownBy_alloc _ _ _)))⟩
          case measure => simp [intOf]; omega
        · have ek : (kd == (2 : Int)) = false := by simp [hkd]
          have HRS : Hid (Row wr 92 2 (some ⟨g, 0, none⟩) s.ret.length e1 (((s.ret.map lev).take (k + 1) ++ s.ret.drop (k + 1)).flatMap LSlot.enc) (some g)) := Lib.hid (by
            rw [← HNX.out, show lev ⟨kd, n⟩ = ⟨kd, n⟩ by simp [lev, hkd], set_self HU.out]
            exact HR.out)
          go_wp2_with fail
          go_roundw
          case rel => exact ⟨k + 1, by omega, by go_num, Lib.hid (by with_reducible repeat (first | exact HRS.out | refine Row.alloc ?_ _)), Lib.hid (by with_reducible repeat (first | exact HG.out | refine World.grownBy.trans ?_ (World.grownBy_alloc _ _ _)))⟩
          case measure => simp [intOf]; omega
      · have : k = s.ret.length := by omega
        subst this
        have HKR : wr.heap[w.heap.size + 1]? = some (.cells #[.slice none 0 0, .slice none 0 0, .int .i32 0, .slice none 0 0, .slice none 0 0, .slice none 0 0, .slice none 0 0, .slice none 0 0, .int .i64 0, .int .i64 0] 31 (0, 0)) := (HG.out.block (w.heap.size + 1) (by simp; omega) (fun e => by have := L1.out _ e.symm; omega)).trans KR.out
        have cr := blk_cell HKR
        have fr := blk_frozen HKR
        have zr := blk_lt HKR
        have hlev : (s.ret.map lev).length = s.ret.length := by simp
        go_wp2_with fail
        refine bodyPost_ret (v := .agg #[.slice E0 s.data.length e0, .slice E1 s.ret.length e1, .int .i32 s.a, .slice E3 s.mem.length e3, .slice E4 s.cells.length e4, .slice E5 s.vars.length e5, .slice E6 s.out.length e6, .slice E7 s.inp.length e7, .int .i64 s.fault, .int .i64 s.fuel]) (by simp [results, Try.results27, go_sem, cr, zr]) rfl ⟨_, rfl, ?_, ?_⟩
        · rw [HP.out]
          refine StO.low (lo := w1.heap.size) ?_ hz1
          have HO : StO wr w1.heap.size { s with ret := s.ret.map lev } (.agg #[.slice E0 s.data.length e0, .slice E1 s.ret.length e1, .int .i32 s.a, .slice E3 s.mem.length e3, .slice E4 s.cells.length e4, .slice E5 s.vars.length e5, .slice E6 s.out.length e6, .slice E7 s.inp.length e7, .int .i64 s.fault, .int .i64 s.fuel]) := by
            refine ⟨E0, e0, E1, e1, E3, e3, E4, e4, E5, e5, E6, e6, E7, e7, b0, b1, b3, b4, b5, b6, b7, by rw [hlev], (H0.out.alloc _).grown HG.out N0.out, ?_, (H3.out.alloc _).grown HG.out N3.out, (H4.out.alloc _).grown HG.out N4.out, (H5.out.alloc _).grown HG.out N5.out, (H6.out.alloc _).grown HG.out N6.out, (H7.out.alloc _).grown HG.out N7.out, ?_, D1.out, D2.out⟩
            · rw [hlev]
              have h := HR.out
              rw [List.take_of_length_le (by simp), List.drop_of_length_le (Nat.le_refl _), List.append_nil] at h
              exact h
            · intro b' hb x hx
              simp at hb
              rcases hb with rfl | rfl | rfl | rfl | rfl | rfl | rfl
              · exact L0.out x hx
              · exact L1.out x hx
              · exact L3.out x hx
              · exact L4.out x hx
              · exact L5.out x hx
              · exact L6.out x hx
              · exact L7.out x hx
          with_reducible repeat (first | exact HO | refine StO.far ?_ (by simp only; omega) _)
        · have HBB := Below.grown (bl_alloc HB2.out (.cells #[.slice E0 s.data.length e0, .slice E1 s.ret.length e1, .int .i32 s.a, .slice E3 s.mem.length e3, .slice E4 s.cells.length e4, .slice E5 s.vars.length e5, .slice E6 s.out.length e6, .slice E7 s.inp.length e7, .int .i64 s.fault, .int .i64 s.fuel] 31)) HG.out (by simp; omega) (fun x e => by have := L1.out x e; omega)
          with_reducible repeat (first | exact HBB | apply bl_set1)
end Go.Proofs.Ytkfjkfmceeigpaa

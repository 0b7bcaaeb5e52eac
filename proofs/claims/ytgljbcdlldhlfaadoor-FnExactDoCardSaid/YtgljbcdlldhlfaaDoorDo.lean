/- does and Do, the program's. -/
import Derived.Test.YtgljbcdlldhlfaaDoorDr
import Derived.Test.YtgljbcdlldhlfaaDoorDz
set_option linter.unusedVariables false
set_option linter.unusedSimpArgs false
namespace Go.Proofs.YtgljbcdlldhlfaaDoor
open Go.RowKit

theorem does_calls (s : LSt) (v : Value) (k : Int) (w : World) (hv : StK w s v) (h : stOk s = true) (hwf : s.wf) (hA : Asc w) (hP : Pow w) :
    Calls Tryd.prog 42 #[v, .int .i64 k] w fun e w' => ∃ v', e = .returned v' ∧ StV w' w.heap.size w'.heap.size (doesL s k) v' ∧ Below w.heap.size w w' := by
  have hs := small_le h
  have hp : StOkP s := of_decide_eq_true h
  by_cases hk : 0 ≤ k ∧ k ≤ 23
  · obtain ⟨n, rfl⟩ := Int.eq_ofNat_of_zero_le hk.1
    have hn : n ≤ 23 := by omega
    have hW : ∀ W, Asc W → Calls Tryd.prog 84 #[.int .i64 (n : Int)] W fun e w' => e = .returned (.int .i64 (needN n : Nat)) ∧ Below W.heap.size W w' := fun W hw => by rw [need_nat hn]; exact wants_calls n W hw
    have hN := fun W hw => primName_calls (n : Int) W hw
    have hL : doesL s n = doesK s n := by rw [doesL, if_pos hk]; rfl
    rw [hL]
    by_cases hlt : s.data.length < needN n
    · rw [doesK, if_pos hlt]
      exact does_few n _ (needN n) s v w hv hs hA hN hW (primName_full hn) hlt
    · have hR : doesK s n = resK s (needN n) (eff n s (topX s) (topY s)) := by rw [doesK, if_neg hlt]; rfl
      rw [hR]
      have hE : ∀ W g lo, StX W g lo s → lo ≤ W.heap.size → Pow W → Calls Tryd.prog 85 #[.pointer (some ⟨g, 0, none⟩), .string (primName n), .int .i32 (topX s), .int .i32 (topY s)] W fun e w' => EffE W g lo (eff n s (topX s) (topY s)) e w' :=
        fun W g lo hG hlo hPw => effect_calls s g lo n hn _ _ W hG hlo hs hp.mem hp.out hPw (topX_wf hwf) (topY_wf hwf)
      rcases (by omega : s.data.length = 0 ∨ s.data.length = 1 ∨ 2 ≤ s.data.length) with h0 | h0 | h0
      · exact does_run0 n _ (needN n) s v w hv hs hA hN hW (primName_full hn) (by omega) hp.data hP _ _ rfl rfl _ (eff_short _ _ _ _) (eff_data _ _ _ _) hE h0
      · exact does_run1 n _ (needN n) s v w hv hs hA hN hW (primName_full hn) (by omega) hp.data hP _ _ rfl rfl _ (eff_short _ _ _ _) (eff_data _ _ _ _) hE h0
      · exact does_run2 n _ (needN n) s v w hv hs hA hN hW (primName_full hn) (by omega) hp.data hP _ _ rfl rfl _ (eff_short _ _ _ _) (eff_data _ _ _ _) hE h0
  · rw [doesL, if_neg hk]
    exact does_none k _ 0 s v w hv hs hA (fun W hw => primName_calls k W hw) (fun W hw => by have := wants_calls k W hw; rw [primEff_out hk] at this; exact this) (by rw [primName_out hk]; decide +kernel)
set_option maxRecDepth 100000 in
set_option maxHeartbeats 2000000 in
theorem Do_calls (s : LSt) (v : Value) (k : Int) (w : World) (hv : StK w s v) (hs : s.small 140737488355328) (hwf : s.wf) (hA : Asc w) (hPw : Pow w) :
    Calls Tryd.prog 9 #[v, .int .i64 k] w fun e w' => ∃ v', e = .returned v' ∧ StO w' w.heap.size (doL s k) v' ∧ Below w.heap.size w w' := by
  obtain ⟨A0, c0, A1, c1, A3, c3, A4, c4, A5, c5, A6, c6, A7, c7, rfl⟩ := hv.form
  have HV := Lib.hid hv
  clear hv
  have HAS := Lib.hid hA
  have HPW := Lib.hid hPw
  clear hA hPw
  by_cases hgo : (stOk s && decide (s.fault = 0)) = true
  · have h := (Bool.and_eq_true _ _ ▸ hgo).1
    have hf : s.fault = 0 := of_decide_eq_true (Bool.and_eq_true _ _ ▸ hgo).2
    have HP : Hid (doL s k = doesL s k) := Lib.hid (by simp [doL, h, hf])
    have HOK := Lib.hid h
    have HSM := Lib.hid (doesL_small h k)
    have HGO := Lib.hid hgo
    clear hgo h hf
    go_enter Tryd.func9, Tryd.ntmps9
    go_wp2_with fail
    refine (goes_calls s _ _ (HV.out.keepB (bl_alloc (bl_alloc (Below.refl _ _) _) _)) hs).mono ?_
    rintro e w1 ⟨rfl, hb⟩
    rw [HGO.out]
    have HB1 := Lib.hid (bl_call (bl_alloc (bl_alloc (Below.refl _ w) _) _) hb)
    have hz1 := HB1.out.size
    have HK1 := Lib.hid ((Bx.two w #[.slice A0 s.data.length c0, .slice A1 s.ret.length c1, .int .i32 s.a, .slice A3 s.mem.length c3, .slice A4 s.cells.length c4, .slice A5 s.vars.length c5, .slice A6 s.out.length c6, .slice A7 s.inp.length c7, .int .i64 s.fault, .int .i64 s.fuel] #[.slice none 0 0, .slice none 0 0, .int .i32 0, .slice none 0 0, .slice none 0 0, .slice none 0 0, .slice none 0 0, .slice none 0 0, .int .i64 0, .int .i64 0] 32 32).call hb)
    clear hb
    obtain ⟨k0, k1, -⟩ := HK1.out
    have ca1 := blk_cell k0
    have fa1 := blk_frozen k0
    have za1 := blk_lt k0
    have cb1 := blk_cell k1
    have fb1 := blk_frozen k1
    have zb1 := blk_lt k1
    clear k0 k1
    go_wp2_with fail
    refine (does_calls s _ k w1 (HV.out.keepB HB1.out) HOK.out hwf (HAS.out.call HB1.out) (HPW.out.call HB1.out)).mono ?_
    rintro e w2 ⟨v2, rfl, hO, hb⟩
    obtain ⟨E0, e0, E1, e1, E3, e3, E4, e4, E5, e5, E6, e6, E7, e7, rfl⟩ := hO.k.form
    have HO2 := Lib.hid hO
    have HB2 := Lib.hid (bl_call HB1.out hb)
    have HK2 := Lib.hid (HK1.out.call hb)
    have hz2 := HB2.out.size
    have hq1 := zb1
    clear hO hb ca1 fa1 za1 cb1 fb1 zb1
    obtain ⟨k0, k1, -⟩ := HK2.out
    have ca2 := blk_cell k0
    have fa2 := blk_frozen k0
    have za2 := blk_lt k0
    have cb2 := blk_cell k1
    have fb2 := blk_frozen k1
    have zb2 := blk_lt k1
    clear k0 k1
    go_wp2_with fail
    refine (ownSt_calls (doesL s k) _ w2 HO2.out.k HSM.out).mono ?_
    rintro e w3 ⟨v3, rfl, hO, hb⟩
    rw [← HP.out] at hO
    obtain ⟨F0, f0, F1, f1, F3, f3, F4, f4, F5, f5, F6, f6, F7, f7, rfl⟩ := hO.k.form
    have HO := Lib.hid hO
    have HB3 := Lib.hid (bl_call HB2.out hb)
    have HK3 := Lib.hid (HK2.out.call hb)
    have hq2 := zb2
    clear hO hb ca2 fa2 za2 cb2 fb2 zb2
    obtain ⟨k0, k1, -⟩ := HK3.out
    have ca3 := blk_cell k0
    have fa3 := blk_frozen k0
    have za3 := blk_lt k0
    have cb3 := blk_cell k1
    have fb3 := blk_frozen k1
    have zb3 := blk_lt k1
    clear k0 k1
    go_wp2_with fail
    refine bodyPost_ret (v := .agg #[.slice F0 (doL s k).data.length f0, .slice F1 (doL s k).ret.length f1, .int .i32 (doL s k).a, .slice F3 (doL s k).mem.length f3, .slice F4 (doL s k).cells.length f4, .slice F5 (doL s k).vars.length f5, .slice F6 (doL s k).out.length f6, .slice F7 (doL s k).inp.length f7, .int .i64 (doL s k).fault, .int .i64 (doL s k).fuel]) (by simp [results, Tryd.results9, go_sem, cb3, zb3]) rfl ⟨_, rfl, ?_, ?_⟩
    · refine StO.low (lo := w2.heap.size) ?_ (by omega)
      with_reducible repeat (first | exact HO.out | refine StO.far ?_ (by simp only; omega) _)
    · with_reducible repeat (first | exact HB3.out | apply bl_set1)
  · have hgf : (stOk s && decide (s.fault = 0)) = false := by simpa using hgo
    have HP : Hid (doL s k = if stOk s = true then s else zeroSt) := Lib.hid (by
      unfold doL
      by_cases h : stOk s = true
      · have hf : ¬ s.fault = 0 := fun e => hgo (by simp [h, e])
        simp [h, hf]
      · simp [h])
    have HGO := Lib.hid hgf
    clear hgo hgf
    go_enter Tryd.func9, Tryd.ntmps9
    go_wp2_with fail
    refine (goes_calls s _ _ (HV.out.keepB (bl_alloc (bl_alloc (Below.refl _ _) _) _)) hs).mono ?_
    rintro e w1 ⟨rfl, hb⟩
    rw [HGO.out]
    have HB1 := Lib.hid (bl_call (bl_alloc (bl_alloc (Below.refl _ w) _) _) hb)
    have hz1 := HB1.out.size
    have HK1 := Lib.hid ((Bx.two w #[.slice A0 s.data.length c0, .slice A1 s.ret.length c1, .int .i32 s.a, .slice A3 s.mem.length c3, .slice A4 s.cells.length c4, .slice A5 s.vars.length c5, .slice A6 s.out.length c6, .slice A7 s.inp.length c7, .int .i64 s.fault, .int .i64 s.fuel] #[.slice none 0 0, .slice none 0 0, .int .i32 0, .slice none 0 0, .slice none 0 0, .slice none 0 0, .slice none 0 0, .slice none 0 0, .int .i64 0, .int .i64 0] 32 32).call hb)
    clear hb
    obtain ⟨k0, k1, -⟩ := HK1.out
    have ca1 := blk_cell k0
    have fa1 := blk_frozen k0
    have za1 := blk_lt k0
    have cb1 := blk_cell k1
    have fb1 := blk_frozen k1
    have zb1 := blk_lt k1
    clear k0 k1
    go_wp2_with fail
    refine (unmoved_calls s _ w1 (HV.out.keepB HB1.out) hs).mono ?_
    rintro e w2 ⟨v2, rfl, hO, hb⟩
    rw [← HP.out] at hO
    obtain ⟨E0, e0, E1, e1, E3, e3, E4, e4, E5, e5, E6, e6, E7, e7, rfl⟩ := hO.k.form
    have HO := Lib.hid hO
    have HB2 := Lib.hid (bl_call HB1.out hb)
    have HK2 := Lib.hid (HK1.out.call hb)
    have hz2 := hb.size
    have hq1 := zb1
    clear hO hb ca1 fa1 za1 cb1 fb1 zb1
    obtain ⟨k0, k1, -⟩ := HK2.out
    have ca2 := blk_cell k0
    have fa2 := blk_frozen k0
    have za2 := blk_lt k0
    have cb2 := blk_cell k1
    have fb2 := blk_frozen k1
    have zb2 := blk_lt k1
    clear k0 k1
    go_wp2_with fail
    refine bodyPost_ret (v := .agg #[.slice E0 (doL s k).data.length e0, .slice E1 (doL s k).ret.length e1, .int .i32 (doL s k).a, .slice E3 (doL s k).mem.length e3, .slice E4 (doL s k).cells.length e4, .slice E5 (doL s k).vars.length e5, .slice E6 (doL s k).out.length e6, .slice E7 (doL s k).inp.length e7, .int .i64 (doL s k).fault, .int .i64 (doL s k).fuel]) (by simp [results, Tryd.results9, go_sem, cb2, zb2]) rfl ⟨_, rfl, ?_, ?_⟩
    · refine StO.low (lo := w1.heap.size) ?_ hz1
      with_reducible repeat (first | exact HO.out | refine StO.far ?_ (by simp only; omega) _)
    · with_reducible repeat (first | exact HB2.out | apply bl_set1)
end Go.Proofs.YtgljbcdlldhlfaaDoor

/- Which states are right: contract of the program's StOk. -/
import Derived.Test.YtgljbcdlldhlfaaDoorOk
import Derived.Test.YtgljbcdlldhlfaaDoorIx
set_option linter.unusedVariables false
set_option linter.unusedSimpArgs false
namespace Go.Proofs.YtgljbcdlldhlfaaDoor
open Go.RowKit

set_option maxRecDepth 100000 in
set_option maxHeartbeats 2000000 in
theorem implStOk_calls (s : LSt) (v : Value) (w : World) (hv : StK w s v) (hs : s.small 140737488355328) :
    Calls Tryd.prog 77 #[v] w fun e w' => e = .returned (.bool (stOk s)) ∧ Below w.heap.size w w' := by
  obtain ⟨A0, c0, A1, c1, A3, c3, A4, c4, A5, c5, A6, c6, A7, c7, rfl, r0, r1, r3, r4, r5, r6, r7, -, -, -, -, hc5, -, -⟩ := hv
  obtain ⟨h0, h1, h3, h4, h5, h6, h7⟩ := hs
  obtain ⟨W, hW, cW, fW, zW, HB, HM, BW⟩ := box w #[.slice A0 s.data.length c0, .slice A1 s.ret.length c1, .int .i32 s.a, .slice A3 s.mem.length c3, .slice A4 s.cells.length c4, .slice A5 s.vars.length c5, .slice A6 s.out.length c6, .slice A7 s.inp.length c7, .int .i64 s.fault, .int .i64 s.fuel] 32
  by_cases hh : s.data.length ≤ 16 ∧ s.ret.length ≤ 24 ∧ s.mem.length = 32 ∧ (s.cells.length % 64 = 0 ∧ s.cells.length ≤ 768) ∧ s.vars.length ≤ 20
  · obtain ⟨g0, g1, g3, g4, g5⟩ := hh
    have G3 := Lib.hid g3
    have g3b : ((s.mem.length : Int) != 32) = false := by simp [g3]
    have d0 : decide ((16 : Int) < (s.data.length : Int)) = false := decide_eq_false (by omega)
    have d1 : decide ((24 : Int) < (s.ret.length : Int)) = false := decide_eq_false (by omega)
    have d5 : decide ((20 : Int) < (s.vars.length : Int)) = false := decide_eq_false (by omega)
    have d4 : decide (s.cells.length % 64 = 0 ∧ s.cells.length ≤ 768) = true := decide_eq_true g4
    have G4 := Lib.hid g4
    clear g3 g4
    go_enter Tryd.func77, Tryd.ntmps77
    go_wp2_with (go_at_call 94; (try rw [hW]); refine (implStoreOk_calls _ _ _ _ h4).mono ?_; rintro e W2 ⟨rfl, hb⟩; have B2 := blk_call BW.out hb; have p1 : W2.cell? ⟨w.heap.size, 1, none⟩ = some (.slice A1 s.ret.length c1) := blk_cell B2 1; have p4 : W2.cell? ⟨w.heap.size, 4, none⟩ = some (.slice A4 s.cells.length c4) := blk_cell B2 4; have p5 : W2.cell? ⟨w.heap.size, 5, none⟩ = some (.slice A5 s.vars.length c5) := blk_cell B2 5; have p6 : W2.cell? ⟨w.heap.size, 6, none⟩ = some (.slice A6 s.out.length c6) := blk_cell B2 6; have p7 : W2.cell? ⟨w.heap.size, 7, none⟩ = some (.slice A7 s.inp.length c7) := blk_cell B2 7; have p8 : W2.cell? ⟨w.heap.size, 8, none⟩ = some (.int .i64 s.fault) := blk_cell B2 8; have p9 : W2.cell? ⟨w.heap.size, 9, none⟩ = some (.int .i64 s.fuel) := blk_cell B2 9; have HB2 := Lib.hid (bl_call HB.out hb); clear hb)
    clear g3b d0 d1 d5 hW
    have HM2 := Lib.hid (below_mono HB2.out)
    go_loopw [39] (fun i wr => ∃ k : Nat, k ≤ s.ret.length ∧ i = .int .i64 k ∧ Below W2.heap.size W2 wr ∧ Hid (∀ x ∈ s.ret.take k, 0 ≤ x.kind ∧ x.kind ≤ 2)) (fun i _ => s.ret.length - (intOf i).toNat)
    case atStart => exact ⟨0, Nat.zero_le _, rfl, Below.refl _ _, Lib.hid (by simp)⟩
    case round =>
      obtain ⟨k, hk, rfl, hbr, HK⟩ := hrel
      have HBR := Lib.hid hbr
      clear hbr
      by_cases hlt : k < s.ret.length
      · have hu : s.ret[k]? = some s.ret[k] := List.getElem?_eq_getElem hlt
        obtain ⟨ad, rfl, hc⟩ := ((r1.mono HM2.out).keepB HBR.out).el LSlot.enc_len hu (by omega)
        have hc0 := hc 0 _ rfl
        have hc1 := hc 1 _ rfl
        rw [Nat.add_zero] at hc0
        rw [add_field _ _ _ (by omega)] at hc1
        clear hc
        by_cases ho : 0 ≤ s.ret[k].kind ∧ s.ret[k].kind ≤ 2
        · have hd : decide (0 ≤ s.ret[k].kind ∧ s.ret[k].kind ≤ 2) = true := decide_eq_true ho
          have HO := Lib.hid ho
          clear ho
          go_wp2_with (go_at_call 92; refine (within_calls _ _ _ _).mono ?_; rintro e w' ⟨rfl, rfl⟩)
          go_roundw
          case rel => exact ⟨k + 1, by omega, by go_num, HBR.out.alloc HBR.out.size _, Lib.hid (take_all_snoc HK.out hu HO.out)⟩
          case measure => simp [intOf]; omega
        · have hd : decide (0 ≤ s.ret[k].kind ∧ s.ret[k].kind ≤ 2) = false := decide_eq_false ho
          have HF := Lib.hid (stOk_false (s := s) (fun h => ho (h.kinds _ (List.getElem_mem hlt))))
          clear ho
          go_wp2_with (go_at_call 92; refine (within_calls _ _ _ _).mono ?_; rintro e w' ⟨rfl, rfl⟩)
          go_ret
          exact ⟨ret_bool HF.out.symm, bl_alloc (bl_call HB2.out HBR.out) _⟩
      · have : k = s.ret.length := by omega
        subst this
        rw [List.take_of_length_le (Nat.le_refl _)] at HK
        have B3 := blk_call B2 HBR.out
        have p5 : wr.cell? ⟨w.heap.size, 5, none⟩ = some (.slice A5 s.vars.length c5) := blk_cell B3 5
        have HB3 := Lib.hid (bl_call HB2.out HBR.out)
        have HM3 := Lib.hid (below_mono HB3.out)
        clear B2
        go_wp2
        obtain ⟨w3, rfl⟩ : ∃ w3 : World, w3 = wr := ⟨_, rfl⟩
        go_loopw [51] (fun i wr => ∃ (k : Nat), k ≤ s.vars.length ∧ i = .int .i64 k ∧ wr = w3 ∧ Hid (∀ x ∈ s.vars.take k, 0 ≤ x ∧ x ≤ (s.cells.length : Int) - 1) ∧ Hid ((s.vars.take k).Nodup)) (fun i _ => s.vars.length - (intOf i).toNat)
        case atStart => exact ⟨0, Nat.zero_le _, rfl, rfl, Lib.hid (by simp), Lib.hid (by simp)⟩
        case round =>
          obtain ⟨k, hk, rfl, rfl, HV, HN⟩ := hrel
          by_cases hlt : k < s.vars.length
          · have hu : (s.vars.map (Value.int .i64))[k]? = some (.int .i64 s.vars[k]) := by simp [hlt]
            have hu' : s.vars[k]? = some s.vars[k] := List.getElem?_eq_getElem hlt
            have HR5 := Lib.hid (r5.mono HM3.out)
            obtain ⟨ad, rfl, hc⟩ := HR5.out.at_ hu
            have p4 : wr.cell? ⟨w.heap.size, 4, none⟩ = some (.slice A4 s.cells.length c4) := blk_cell B3 4
            have e4 : IntKind.i64.wrap ((s.cells.length : Int) - 1) = (s.cells.length : Int) - 1 := IntWalk.i64_in _ (by omega)
            have hkl : (s.vars.take k).length = k := by simp; omega
            by_cases ho : 0 ≤ s.vars[k] ∧ s.vars[k] ≤ (s.cells.length : Int) - 1
            · have hd : decide (0 ≤ s.vars[k] ∧ s.vars[k] ≤ (s.cells.length : Int) - 1) = true := decide_eq_true ho
              have HO := Lib.hid ho
              clear ho hu
              by_cases hm : s.vars[k] ∈ s.vars.take k
              · have hd2 : decide (s.vars[k] ∈ s.vars.take k) = true := decide_eq_true hm
                have HF := Lib.hid (stOk_false (s := s) (fun h => by
                  obtain ⟨j, hj, e⟩ := List.getElem_of_mem hm
                  have hj' : j < k := by rw [List.length_take] at hj; omega
                  rw [List.getElem_take] at e
                  exact List.pairwise_iff_getElem.1 h.nodup j k (by omega) hlt hj' e))
                clear hm
                go_wp2_with (first | (go_at_call 92; refine (within_calls _ _ _ _).mono ?_; rintro e w' ⟨rfl, rfl⟩) | (go_at_call 95; refine (containsInts_len (some ad) k c5 (s.vars.take k) _ _ ?_ hkl (by omega)).mono ?_; rw [List.map_take]; exact HR5.out.take k; rintro e w' ⟨rfl, rfl⟩))
                go_ret
                exact ⟨ret_bool HF.out.symm, HB3.out⟩
              · have hd2 : decide (s.vars[k] ∈ s.vars.take k) = false := decide_eq_false hm
                have HN2 := Lib.hid (nodup_snoc HN.out hm)
                clear hm
                go_wp2_with (first | (go_at_call 92; refine (within_calls _ _ _ _).mono ?_; rintro e w' ⟨rfl, rfl⟩) | (go_at_call 95; refine (containsInts_len (some ad) k c5 (s.vars.take k) _ _ ?_ hkl (by omega)).mono ?_; rw [List.map_take]; exact HR5.out.take k; rintro e w' ⟨rfl, rfl⟩))
                go_roundw
                case rel => exact ⟨k + 1, by omega, by go_num, by trivial, Lib.hid (take_all_snoc HV.out hu' HO.out), Lib.hid (by rw [List.take_add_one, hu']; exact HN2.out)⟩
                case measure => simp [intOf]; omega
            · have hd : decide (0 ≤ s.vars[k] ∧ s.vars[k] ≤ (s.cells.length : Int) - 1) = false := decide_eq_false ho
              have HF := Lib.hid (stOk_false (s := s) (fun h => ho (h.range _ (List.getElem_mem hlt))))
              clear ho hu
              go_wp2_with (first | (go_at_call 92; refine (within_calls _ _ _ _).mono ?_; rintro e w' ⟨rfl, rfl⟩) | (go_at_call 95; refine (containsInts_len (some ad) k c5 (s.vars.take k) _ _ ?_ hkl (by omega)).mono ?_; rw [List.map_take]; exact HR5.out.take k; rintro e w' ⟨rfl, rfl⟩))
              go_ret
              exact ⟨ret_bool HF.out.symm, HB3.out⟩
          · have : k = s.vars.length := by omega
            subst this
            rw [List.take_of_length_le (Nat.le_refl _)] at HV HN
            have q6 : wr.cell? ⟨w.heap.size, 6, none⟩ = some (.slice A6 s.out.length c6) := blk_cell B3 6
            have q7 : wr.cell? ⟨w.heap.size, 7, none⟩ = some (.slice A7 s.inp.length c7) := blk_cell B3 7
            have q8 : wr.cell? ⟨w.heap.size, 8, none⟩ = some (.int .i64 s.fault) := blk_cell B3 8
            have q9 : wr.cell? ⟨w.heap.size, 9, none⟩ = some (.int .i64 s.fuel) := blk_cell B3 9
            clear B3
            have HE : Hid (stOk s = decide (s.out.length ≤ 400 ∧ s.inp.length ≤ 100 ∧ (0 ≤ s.fault ∧ s.fault ≤ 13) ∧ (0 ≤ s.fuel ∧ s.fuel ≤ 4000))) := Lib.hid (by
              by_cases hu : s.out.length ≤ 400 ∧ s.inp.length ≤ 100 ∧ (0 ≤ s.fault ∧ s.fault ≤ 13) ∧ (0 ≤ s.fuel ∧ s.fuel ≤ 4000)
              · rw [decide_eq_true hu]; exact stOk_true ⟨g0, g1, G3.out, G4.out.1, G4.out.2, g5, HK.out, HV.out, HN.out, hu.1, hu.2.1, hu.2.2.1, hu.2.2.2⟩
              · rw [decide_eq_false hu]; exact stOk_false (fun h => hu ⟨h.out, h.inp, h.fault, h.fuel⟩))
            by_cases a6 : s.out.length ≤ 400
            · by_cases a7 : s.inp.length ≤ 100
              · by_cases a8 : 0 ≤ s.fault ∧ s.fault ≤ 13
                · have b8 : decide (0 ≤ s.fault ∧ s.fault ≤ 13) = true := decide_eq_true a8
                  have HE2 : Hid (stOk s = decide (0 ≤ s.fuel ∧ s.fuel ≤ 4000)) := Lib.hid (HE.out.trans (decide_eq_decide.2 (show _ ↔ (0 ≤ s.fuel ∧ s.fuel ≤ 4000) from ⟨fun h => h.2.2.2, fun h => ⟨a6, a7, a8, h⟩⟩)))
                  clear a8
                  go_wp2_with (go_at_call 92; refine (within_calls _ _ _ _).mono ?_; rintro e w' ⟨rfl, rfl⟩)
                  go_ret
                  exact ⟨ret_bool (by rw [HE2.out, Bool.decide_and]), HB3.out⟩
                · have b8 : decide (0 ≤ s.fault ∧ s.fault ≤ 13) = false := decide_eq_false a8
                  have HE2 := Lib.hid (HE.out.trans (decide_eq_false (fun h => a8 h.2.2.1)))
                  clear a8
                  go_wp2_with (go_at_call 92; refine (within_calls _ _ _ _).mono ?_; rintro e w' ⟨rfl, rfl⟩)
                  go_ret
                  exact ⟨ret_bool HE2.out.symm, HB3.out⟩
              · have HE2 := Lib.hid (HE.out.trans (decide_eq_false (fun h => a7 h.2.1)))
                go_wp2_with (go_at_call 92; refine (within_calls _ _ _ _).mono ?_; rintro e w' ⟨rfl, rfl⟩)
                go_ret
                exact ⟨ret_bool HE2.out.symm, HB3.out⟩
            · have HE2 := Lib.hid (HE.out.trans (decide_eq_false (fun h => a6 h.1)))
              go_wp2_with (go_at_call 92; refine (within_calls _ _ _ _).mono ?_; rintro e w' ⟨rfl, rfl⟩)
              go_ret
              exact ⟨ret_bool HE2.out.symm, HB3.out⟩
  · have hf := stOk_false (s := s) (fun h => hh ⟨h.data, h.ret, h.mem, ⟨h.c64, h.cmax⟩, h.vars⟩)
    have hc : 16 < s.data.length ∨ (s.data.length ≤ 16 ∧ 24 < s.ret.length) ∨ (s.data.length ≤ 16 ∧ s.ret.length ≤ 24 ∧ s.mem.length ≠ 32) ∨ (s.data.length ≤ 16 ∧ s.ret.length ≤ 24 ∧ s.mem.length = 32 ∧ ¬ (s.cells.length % 64 = 0 ∧ s.cells.length ≤ 768)) ∨
        (s.data.length ≤ 16 ∧ s.ret.length ≤ 24 ∧ s.mem.length = 32 ∧ (s.cells.length % 64 = 0 ∧ s.cells.length ≤ 768) ∧ 20 < s.vars.length) := by omega
    have HF := Lib.hid hf
    clear hf hh
    have fin : ∀ b, decide (s.cells.length % 64 = 0 ∧ s.cells.length ≤ 768) = b → (b = true ↔ (s.cells.length % 64 = 0 ∧ s.cells.length ≤ 768)) := fun b h => by rw [← h]; simp
    rcases hc with g | ⟨_, g⟩ | ⟨_, _, g⟩ | ⟨_, _, g, gc⟩ | ⟨_, _, g, gc, _⟩
    · go_enter Tryd.func77, Tryd.ntmps77
      go_wp2
      go_ret
      exact ⟨ret_bool HF.out.symm, by first | exact HB.out | exact bl_alloc (Below.refl _ _) _⟩
    · go_enter Tryd.func77, Tryd.ntmps77
      go_wp2
      go_ret
      exact ⟨ret_bool HF.out.symm, by first | exact HB.out | exact bl_alloc (Below.refl _ _) _⟩
    · go_enter Tryd.func77, Tryd.ntmps77
      go_wp2
      go_ret
      exact ⟨ret_bool HF.out.symm, by first | exact HB.out | exact bl_alloc (Below.refl _ _) _⟩
    · have d4 : decide (s.cells.length % 64 = 0 ∧ s.cells.length ≤ 768) = false := decide_eq_false gc
      have g3b : ((s.mem.length : Int) != 32) = false := by simp [g]
      clear gc fin g
      go_enter Tryd.func77, Tryd.ntmps77
      go_wp2_with (go_at_call 94; (try rw [hW]); refine (implStoreOk_calls _ _ _ _ h4).mono ?_; rintro e W2 ⟨rfl, hb⟩; have HB2 := Lib.hid (bl_call HB.out hb); clear hb)
      go_ret
      exact ⟨ret_bool HF.out.symm, HB2.out⟩
    · have d4 : decide (s.cells.length % 64 = 0 ∧ s.cells.length ≤ 768) = true := decide_eq_true gc
      have g3b : ((s.mem.length : Int) != 32) = false := by simp [g]
      clear gc fin g
      go_enter Tryd.func77, Tryd.ntmps77
      go_wp2_with (go_at_call 94; (try rw [hW]); refine (implStoreOk_calls _ _ _ _ h4).mono ?_; rintro e W2 ⟨rfl, hb⟩; have B2 := blk_call BW.out hb; have p5 : W2.cell? ⟨w.heap.size, 5, none⟩ = some (.slice A5 s.vars.length c5) := blk_cell B2 5; have HB2 := Lib.hid (bl_call HB.out hb); clear hb)
      go_ret
      exact ⟨ret_bool HF.out.symm, HB2.out⟩
end Go.Proofs.YtgljbcdlldhlfaaDoor

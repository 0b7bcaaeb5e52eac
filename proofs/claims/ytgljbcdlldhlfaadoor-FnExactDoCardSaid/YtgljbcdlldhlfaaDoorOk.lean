/- Which states are right: contracts of StoreOk and StOk, the program's and the reference's. -/
import Derived.Test.YtgljbcdlldhlfaaDoorK
set_option linter.unusedVariables false
set_option linter.unusedSimpArgs false
namespace Go.Proofs.YtgljbcdlldhlfaaDoor
open Go.RowKit

structure StOkP (s : LSt) : Prop where
  data : s.data.length ≤ 16
  ret : s.ret.length ≤ 24
  mem : s.mem.length = 32
  c64 : s.cells.length % 64 = 0
  cmax : s.cells.length ≤ 768
  vars : s.vars.length ≤ 20
  kinds : ∀ x ∈ s.ret, 0 ≤ x.kind ∧ x.kind ≤ 2
  range : ∀ v ∈ s.vars, 0 ≤ v ∧ v ≤ (s.cells.length : Int) - 1
  nodup : s.vars.Nodup
  out : s.out.length ≤ 400
  inp : s.inp.length ≤ 100
  fault : 0 ≤ s.fault ∧ s.fault ≤ 13
  fuel : 0 ≤ s.fuel ∧ s.fuel ≤ 4000
theorem stOkP_iff (s : LSt) : StOkP s ↔ (s.data.length ≤ 16 ∧ s.ret.length ≤ 24 ∧ s.mem.length = 32 ∧ s.cells.length % 64 = 0 ∧ s.cells.length ≤ 768 ∧ s.vars.length ≤ 20 ∧ (∀ x ∈ s.ret, 0 ≤ x.kind ∧ x.kind ≤ 2) ∧ (∀ v ∈ s.vars, 0 ≤ v ∧ v ≤ (s.cells.length : Int) - 1) ∧ s.vars.Nodup ∧
    s.out.length ≤ 400 ∧ s.inp.length ≤ 100 ∧ (0 ≤ s.fault ∧ s.fault ≤ 13) ∧ (0 ≤ s.fuel ∧ s.fuel ≤ 4000)) :=
  ⟨fun ⟨a, b, c, d, e, f, g, h, i, j, k, l, m⟩ => ⟨a, b, c, d, e, f, g, h, i, j, k, l, m⟩, fun ⟨a, b, c, d, e, f, g, h, i, j, k, l, m⟩ => ⟨a, b, c, d, e, f, g, h, i, j, k, l, m⟩⟩
instance (s : LSt) : Decidable (StOkP s) := decidable_of_iff _ (stOkP_iff s).symm
def stOk (s : LSt) : Bool := decide (StOkP s)
theorem stOk_true {s : LSt} (h : StOkP s) : stOk s = true := decide_eq_true h
theorem stOk_false {s : LSt} (h : ¬ StOkP s) : stOk s = false := decide_eq_false h

theorem specIn_calls (x a b : Int) (w : World) : Calls Tryd.prog 61 #[.int .i64 x, .int .i64 a, .int .i64 b] w fun e w' => e = .returned (.bool (decide (a ≤ x ∧ x ≤ b))) ∧ w = w' := by
  by_cases h1 : a ≤ x <;> by_cases h2 : x ≤ b
  all_goals
    go_enter Tryd.func61, Tryd.ntmps61
    go_wp2
    go_ret
    exact ⟨by simp [h1, h2], rfl⟩
theorem within_calls (x a b : Int) (w : World) : Calls Tryd.prog 92 #[.int .i64 x, .int .i64 a, .int .i64 b] w fun e w' => e = .returned (.bool (decide (a ≤ x ∧ x ≤ b))) ∧ w = w' := by
  by_cases h1 : a ≤ x <;> by_cases h2 : x ≤ b
  all_goals
    go_enter Tryd.func92, Tryd.ntmps92
    go_wp2
    go_ret
    exact ⟨by simp [h1, h2], rfl⟩
theorem specStoreOk_calls (A : Option Addr) (n c : Nat) (w : World) (hn : n ≤ 140737488355328) : Calls Tryd.prog 62 #[.agg #[.slice A n c]] w fun e w' => e = .returned (.bool (decide (n % 64 = 0 ∧ n ≤ 768))) ∧ Below w.heap.size w w' := by
  by_cases h1 : n % 64 = 0 <;> by_cases h2 : n ≤ 768
  all_goals
    go_enter Tryd.func62, Tryd.ntmps62
    go_wp2
    go_ret
    exact ⟨ret_bool (by first | (apply decide_eq_decide.2; omega) | (symm; apply decide_eq_false; omega)), bl_alloc (Below.refl _ _) _⟩
theorem implStoreOk_calls (A : Option Addr) (n c : Nat) (w : World) (hn : n ≤ 140737488355328) : Calls Tryd.prog 94 #[.agg #[.slice A n c]] w fun e w' => e = .returned (.bool (decide (n % 64 = 0 ∧ n ≤ 768))) ∧ Below w.heap.size w w' := by
  by_cases h1 : n % 64 = 0 <;> by_cases h2 : n ≤ 768
  all_goals
    go_enter Tryd.func94, Tryd.ntmps94
    go_wp2
    go_ret
    exact ⟨ret_bool (by first | (apply decide_eq_decide.2; omega) | (symm; apply decide_eq_false; omega)), bl_alloc (Below.refl _ _) _⟩
set_option maxRecDepth 100000 in
set_option maxHeartbeats 1000000 in
theorem specStOk_calls (s : LSt) (v : Value) (w : World) (hv : StK w s v) (hs : s.small 140737488355328) :
    Calls Tryd.prog 15 #[v] w fun e w' => e = .returned (.bool (stOk s)) ∧ Below w.heap.size w w' := by
  obtain ⟨A0, c0, A1, c1, A3, c3, A4, c4, A5, c5, A6, c6, A7, c7, rfl, r0, r1, r3, r4, r5, r6, r7, -, -, -, -, hc5, -, -⟩ := hv
  obtain ⟨h0, h1, h3, h4, h5, h6, h7⟩ := hs
  obtain ⟨W, hW, cW, fW, zW, HB, HM, BW⟩ := box w #[.slice A0 s.data.length c0, .slice A1 s.ret.length c1, .int .i32 s.a, .slice A3 s.mem.length c3, .slice A4 s.cells.length c4, .slice A5 s.vars.length c5, .slice A6 s.out.length c6, .slice A7 s.inp.length c7, .int .i64 s.fault, .int .i64 s.fuel] 32
  by_cases hh : s.data.length ≤ 16 ∧ s.ret.length ≤ 24 ∧ s.mem.length = 32 ∧ s.vars.length ≤ 20 ∧ s.out.length ≤ 400 ∧ s.inp.length ≤ 100
  · obtain ⟨g0, g1, g3, g5, g6, g7⟩ := hh
    have G3 := Lib.hid g3
    have g3b : ((s.mem.length : Int) != 32) = false := by simp [g3]
    have d0 : decide ((16 : Int) < (s.data.length : Int)) = false := decide_eq_false (by omega)
    have d1 : decide ((24 : Int) < (s.ret.length : Int)) = false := decide_eq_false (by omega)
    have d5 : decide ((20 : Int) < (s.vars.length : Int)) = false := decide_eq_false (by omega)
    have d6 : decide ((400 : Int) < (s.out.length : Int)) = false := decide_eq_false (by omega)
    have d7 : decide ((100 : Int) < (s.inp.length : Int)) = false := decide_eq_false (by omega)
    clear g3
    go_enter Tryd.func15, Tryd.ntmps15
    go_wp2
    clear g3b d0 d1 d5 d6 d7 hW
    go_loop [3] (fun i => ∃ k : Nat, k ≤ s.ret.length ∧ i = .int .i64 k ∧ Hid (∀ x ∈ s.ret.take k, 0 ≤ x.kind ∧ x.kind ≤ 2)) (fun i => s.ret.length - (intOf i).toNat)
    case atStart => exact ⟨0, Nat.zero_le _, rfl, Lib.hid (by simp)⟩
    case round =>
      obtain ⟨k, hk, rfl, HK⟩ := hrel
      by_cases hlt : k < s.ret.length
      · have hu : s.ret[k]? = some s.ret[k] := List.getElem?_eq_getElem hlt
        obtain ⟨ad, rfl, hc⟩ := (r1.mono HM.out).el LSlot.enc_len hu (by omega)
        have hc0 := hc 0 _ rfl
        rw [Nat.add_zero] at hc0
        clear hc
        by_cases ho : 0 ≤ s.ret[k].kind ∧ s.ret[k].kind ≤ 2
        · have hd : decide (0 ≤ s.ret[k].kind ∧ s.ret[k].kind ≤ 2) = true := decide_eq_true ho
          have HO := Lib.hid ho
          clear ho
          go_wp2_with (go_at_call 61; refine (specIn_calls _ _ _ _).mono ?_; rintro e w' ⟨rfl, rfl⟩)
          go_round
          case rel => exact ⟨k + 1, by omega, by go_num, Lib.hid (take_all_snoc HK.out hu HO.out)⟩
          case measure => simp [intOf]; omega
        · have hd : decide (0 ≤ s.ret[k].kind ∧ s.ret[k].kind ≤ 2) = false := decide_eq_false ho
          have HF := Lib.hid (stOk_false (s := s) (fun h => ho (h.kinds _ (List.getElem_mem hlt))))
          clear ho
          go_wp2_with (go_at_call 61; refine (specIn_calls _ _ _ _).mono ?_; rintro e w' ⟨rfl, rfl⟩)
          go_ret
          exact ⟨ret_bool HF.out.symm, HB.out⟩
      · have : k = s.ret.length := by omega
        subst this
        rw [List.take_of_length_le (Nat.le_refl _)] at HK
        go_wp2
        go_loopw [4] (fun i wr => ∃ (k : Nat), k ≤ s.vars.length ∧ i = .int .i64 k ∧ Drawn W wr ∧ Hid (∀ x ∈ s.vars.take k, 0 ≤ x ∧ x ≤ (s.cells.length : Int) - 1) ∧ Hid ((s.vars.take k).Nodup)) (fun i _ => s.vars.length - (intOf i).toNat)
        case atStart => exact ⟨0, Nat.zero_le _, rfl, Drawn.refl _, Lib.hid (by simp), Lib.hid (by simp)⟩
        case round =>
          obtain ⟨k, hk, rfl, HD, HV, HN⟩ := hrel
          by_cases hlt : k < s.vars.length
          · have hu : (s.vars.map (Value.int .i64))[k]? = some (.int .i64 s.vars[k]) := by simp [hlt]
            have hu' : s.vars[k]? = some s.vars[k] := List.getElem?_eq_getElem hlt
            obtain ⟨ad, rfl, hc⟩ := (r5.mono (HM.out.trans HD.mono)).at_ hu
            have i0 : (0 : Int) ≤ (k : Int) := by omega
            have i1 : (k : Int) < (s.vars.length : Int) := by omega
            have q5 : wr.cell? ⟨w.heap.size, 5, none⟩ = some (.slice (some ad) s.vars.length c5) := (HD.cell _).trans (cW 5)
            have q4 : wr.cell? ⟨w.heap.size, 4, none⟩ = some (.slice A4 s.cells.length c4) := (HD.cell _).trans (cW 4)
            have e4 : IntKind.i64.wrap ((s.cells.length : Int) - 1) = (s.cells.length : Int) - 1 := IntWalk.i64_in _ (by omega)
            clear hu
            by_cases ho : 0 ≤ s.vars[k] ∧ s.vars[k] ≤ (s.cells.length : Int) - 1
            · have hd : decide (0 ≤ s.vars[k] ∧ s.vars[k] ≤ (s.cells.length : Int) - 1) = true := decide_eq_true ho
              have HO := Lib.hid ho
              clear ho
              go_wp2
              go_still_tail 9, (by kernel_rfl)
              go_wp2_with (go_at_call 61; refine (specIn_calls _ _ _ _).mono ?_; rintro e w' ⟨rfl, rfl⟩)
              obtain ⟨wo, rfl⟩ : ∃ wo : World, wo = wr := ⟨_, rfl⟩
              go_loopw [5] (fun i wr => ∃ (j : Nat), j ≤ k ∧ i = .int .i64 j ∧ Drawn W wr ∧ Hid (∀ x ∈ s.vars.take j, x ≠ s.vars[k])) (fun i _ => k - (intOf i).toNat)
              case atStart => exact ⟨0, Nat.zero_le _, rfl, HD.drew, Lib.hid (by simp)⟩
              case round =>
                obtain ⟨j, hj, rfl, HD2, HJ⟩ := hrel
                by_cases hjk : j < k
                · have hv : (s.vars.map (Value.int .i64))[j]? = some (.int .i64 s.vars[j]) := by simp [show j < s.vars.length by omega]
                  have hv' : s.vars[j]? = some s.vars[j] := List.getElem?_eq_getElem (by omega)
                  obtain ⟨ad', e', hc'⟩ := (r5.mono (HM.out.trans HD2.mono)).at_ hv
                  injection e' with e'
                  subst e'
                  have q52 : wr.cell? ⟨w.heap.size, 5, none⟩ = some (.slice (some ad) s.vars.length c5) := (HD2.cell _).trans (cW 5)
                  have ck : wr.cell? (ad.add k) = some (.int .i64 s.vars[k]) := (HD2.cell _).trans ((HD.cell _).symm.trans hc)
                  have j0 : (0 : Int) ≤ (j : Int) := by omega
                  have j1 : (j : Int) < (s.vars.length : Int) := by omega
                  have j2 : (j : Int) < (k : Int) := by omega
                  clear hv
                  by_cases hne : s.vars[j] = s.vars[k]
                  · have hd2 : (s.vars[j] == s.vars[k]) = true := by simp [hne]
                    have HF := Lib.hid (stOk_false (s := s) (fun h => List.pairwise_iff_getElem.1 h.nodup j k (by omega) hlt hjk hne))
                    clear hne
                    go_wp2
                    go_quiet (fail)
                    go_wp2
                    go_ret
                    exact ⟨ret_bool HF.out.symm, HB.out.trans ((HD2.drewN _).below _)⟩
                  · have hd2 : (s.vars[j] == s.vars[k]) = false := by simp [hne]
                    have HJ2 := Lib.hid (take_all_snoc HJ.out hv' hne)
                    clear hne
                    go_wp2
                    go_quiet (fail)
                    go_wp2
                    go_roundw
                    case rel => exact ⟨j + 1, by omega, by go_num, HD2.drewN _, HJ2⟩
                    case measure => simp [intOf]; omega
                · have : j = k := by omega
                  subst this
                  go_wp2
                  go_roundw
                  case rel => exact ⟨j + 1, by omega, by go_num, HD2, Lib.hid (take_all_snoc HV.out hu' HO.out), Lib.hid (by rw [List.take_add_one, hu']; exact nodup_snoc HN.out (fun hx => HJ.out _ hx rfl))⟩
                  case measure => simp [intOf]; omega
            · have hd : decide (0 ≤ s.vars[k] ∧ s.vars[k] ≤ (s.cells.length : Int) - 1) = false := decide_eq_false ho
              have HF := Lib.hid (stOk_false (s := s) (fun h => ho (h.range _ (List.getElem_mem hlt))))
              clear ho
              go_wp2
              go_still_tail 9, (by kernel_rfl)
              go_wp2_with (go_at_call 61; refine (specIn_calls _ _ _ _).mono ?_; rintro e w' ⟨rfl, rfl⟩)
              go_ret
              exact ⟨ret_bool HF.out.symm, HB.out.trans (HD.drew.below _)⟩
          · have : k = s.vars.length := by omega
            subst this
            rw [List.take_of_length_le (Nat.le_refl _)] at HV HN
            have q4 : wr.cell? ⟨w.heap.size, 4, none⟩ = some (.slice A4 s.cells.length c4) := (HD.cell _).trans (cW 4)
            have q5 : wr.cell? ⟨w.heap.size, 5, none⟩ = some (.slice A5 s.vars.length c5) := (HD.cell _).trans (cW 5)
            by_cases hc : s.cells.length % 64 = 0 ∧ s.cells.length ≤ 768
            · have hd : decide (s.cells.length % 64 = 0 ∧ s.cells.length ≤ 768) = true := decide_eq_true hc
              have HC := Lib.hid hc
              clear hc
              by_cases hf : 0 ≤ s.fault ∧ s.fault ≤ 13
              · have hdf : decide (0 ≤ s.fault ∧ s.fault ≤ 13) = true := decide_eq_true hf
                have HR : Hid (stOk s = decide (0 ≤ s.fuel ∧ s.fuel ≤ 4000)) := Lib.hid (by
                  by_cases hu : 0 ≤ s.fuel ∧ s.fuel ≤ 4000
                  · rw [decide_eq_true hu]; exact stOk_true ⟨g0, g1, G3.out, HC.out.1, HC.out.2, g5, HK.out, HV.out, HN.out, g6, g7, hf, hu⟩
                  · rw [decide_eq_false hu]; exact stOk_false (fun h => hu h.fuel))
                clear hf
                go_wp2_with (first | (go_at_call 62; refine (specStoreOk_calls _ _ _ _ h4).mono ?_; rintro e W2 ⟨rfl, hb⟩; have B2 := blk_call (HD.blk BW.out) hb; have p8 : W2.cell? ⟨w.heap.size, 8, none⟩ = some (.int .i64 s.fault) := blk_cell B2 8; have p9 : W2.cell? ⟨w.heap.size, 9, none⟩ = some (.int .i64 s.fuel) := blk_cell B2 9; have HB2 := Lib.hid (bl_call (HB.out.trans (HD.below _)) hb); clear B2 hb) | (go_at_call 61; refine (specIn_calls _ _ _ _).mono ?_; rintro e w' ⟨rfl, rfl⟩))
                go_ret
                exact ⟨ret_bool (by rw [HR.out, Bool.decide_and]), HB2.out⟩
              · have hdf : decide (0 ≤ s.fault ∧ s.fault ≤ 13) = false := decide_eq_false hf
                have HR := Lib.hid (stOk_false (s := s) (fun h => hf h.fault))
                clear hf
                go_wp2_with (first | (go_at_call 62; refine (specStoreOk_calls _ _ _ _ h4).mono ?_; rintro e W2 ⟨rfl, hb⟩; have B2 := blk_call (HD.blk BW.out) hb; have p8 : W2.cell? ⟨w.heap.size, 8, none⟩ = some (.int .i64 s.fault) := blk_cell B2 8; have HB2 := Lib.hid (bl_call (HB.out.trans (HD.below _)) hb); clear B2 hb) | (go_at_call 61; refine (specIn_calls _ _ _ _).mono ?_; rintro e w' ⟨rfl, rfl⟩))
                go_ret
                exact ⟨ret_bool HR.out.symm, HB2.out⟩
            · have hd : decide (s.cells.length % 64 = 0 ∧ s.cells.length ≤ 768) = false := decide_eq_false hc
              have HR := Lib.hid (stOk_false (s := s) (fun h => hc ⟨h.c64, h.cmax⟩))
              clear hc
              go_wp2_with (go_at_call 62; refine (specStoreOk_calls _ _ _ _ h4).mono ?_; rintro e W2 ⟨rfl, hb⟩; have HB2 := Lib.hid (bl_call (HB.out.trans (HD.below _)) hb); clear hb)
              go_ret
              exact ⟨ret_bool HR.out.symm, HB2.out⟩
  · have hf := stOk_false (s := s) (fun h => hh ⟨h.data, h.ret, h.mem, h.vars, h.out, h.inp⟩)
    have hc : 16 < s.data.length ∨ (s.data.length ≤ 16 ∧ 24 < s.ret.length) ∨ (s.data.length ≤ 16 ∧ s.ret.length ≤ 24 ∧ s.mem.length ≠ 32) ∨ (s.data.length ≤ 16 ∧ s.ret.length ≤ 24 ∧ s.mem.length = 32 ∧ 20 < s.vars.length) ∨
        (s.data.length ≤ 16 ∧ s.ret.length ≤ 24 ∧ s.mem.length = 32 ∧ s.vars.length ≤ 20 ∧ 400 < s.out.length) ∨ (s.data.length ≤ 16 ∧ s.ret.length ≤ 24 ∧ s.mem.length = 32 ∧ s.vars.length ≤ 20 ∧ s.out.length ≤ 400 ∧ 100 < s.inp.length) := by omega
    have HF := Lib.hid hf
    clear hf hh
    rcases hc with g | ⟨_, g⟩ | ⟨_, _, g⟩ | ⟨_, _, g, _⟩ | ⟨_, _, g, _, _⟩ | ⟨_, _, g, _, _, _⟩
    all_goals
      go_enter Tryd.func15, Tryd.ntmps15
      go_wp2
      go_ret
      exact ⟨ret_bool HF.out.symm, by first | exact HB.out | exact bl_alloc (Below.refl _ _) _⟩
end Go.Proofs.YtgljbcdlldhlfaaDoor

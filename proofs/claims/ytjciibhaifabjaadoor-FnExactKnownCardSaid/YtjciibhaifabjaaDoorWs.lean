/- The reference's WorldOk. -/
import Derived.Test.YtjciibhaifabjaaDoorWo
set_option linter.unusedVariables false
set_option linter.unusedSimpArgs false
namespace Go.Proofs.YtjciibhaifabjaaDoor
open Go.RowKit

def defsAll (op : Bool) (zs : List DDef) : Bool := decide (zs.length ≤ 24) && (!(op && decide (zs.length = 0)) && dwsOk op zs)
theorem dwsOk_all_no {op : Bool} {zs : List DDef} (h : dwsOk op zs = false) : defsAll op zs = false := by simp [defsAll, h]
theorem defsAll_long {op : Bool} {zs : List DDef} (h : 24 < zs.length) : defsAll op zs = false := by
  have : ¬ zs.length ≤ 24 := by omega
  simp [defsAll, this]
theorem defsAll_none {zs : List DDef} (h : zs.length = 0) : defsAll true zs = false := by simp [defsAll, h]
theorem defsAll_yes {op : Bool} {zs : List DDef} (h : zs.length ≤ 24) (h4 : op = false ∨ ¬ zs.length = 0) (h5 : dwsOk op zs = true) : defsAll op zs = true := by
  unfold defsAll
  rw [h5, decide_eq_true h]
  rcases h4 with h | h
  · subst h; rfl
  · rw [decide_eq_false h]; simp
theorem defsAll_parts {op : Bool} {zs : List DDef} (h : defsAll op zs = true) : ¬ 24 < zs.length ∧ (op = false ∨ zs.length ≠ 0) ∧ dwsOk op zs = true := by
  simp only [defsAll, Bool.and_eq_true, decide_eq_true_eq, Bool.not_eq_true', Bool.and_eq_false_iff, decide_eq_false_iff_not] at h
  exact ⟨by omega, h.2.1, h.2.2⟩
theorem worldOk_8 {x : LW} (h : defsAll x.opn x.defs = false) : worldOk x = false := by
  cases h' : worldOk x with
  | false => rfl
  | true =>
    simp only [worldOk, Bool.and_eq_true] at h'
    have : defsAll x.opn x.defs = true := by
      unfold defsAll
      rw [h'.2.1, h'.2.2.2.1, h'.2.2.2.2.1]
      rfl
    rw [this] at h
    cases h
theorem any_take {α : Type} {p : α → Bool} {xs : List α} (h : ∀ x ∈ xs, p x = false) : xs.any p = false := by
  rw [List.any_eq_false]
  exact fun x hx => by rw [h x hx]; simp
theorem any_at {α : Type} {p : α → Bool} {xs : List α} {k : Nat} {x : α} (hu : xs[k]? = some x) (h : p x = true) : xs.any p = true := List.any_eq_true.2 ⟨x, List.mem_of_getElem? hu, h⟩
theorem openI_no {xs : List LOp} {k : Nat} {o : LOp} (hu : xs[k]? = some o) (h : opOk o = false) : openI [] xs = none := by
  have : xs.all opOk = false := by
    rw [List.all_eq_false]
    exact ⟨o, List.mem_of_getElem? hu, by rw [h]; simp⟩
  rw [openI_eq, if_neg (by rw [this]; simp)]
set_option maxRecDepth 100000 in
set_option maxHeartbeats 4000000 in
theorem l13Defs_calls (A : Option Addr) (c : Nat) (zs : List DDef) (op : Bool) (w : World) (hr : Rd w A (zs.flatMap DDef.enc)) (hz : DefsR w zs) (hb : ∀ z ∈ zs, z.name.size ≤ 1048576 ∧ z.body.length ≤ 1048576) (hn : zs.length ≤ 140737488355328) :
    Calls Tryd.prog 61 #[.slice A zs.length c, .bool op] w fun e w' => e = .returned (.bool (defsAll op zs)) ∧ Below w.heap.size w w' := by
  have HR := Lib.hid hr
  have HZ := Lib.hid hz
  have HL := Lib.hid hb
  clear hr hz hb
  by_cases h24 : 24 < zs.length
  · have HF := Lib.hid (defsAll_long (op := op) h24)
    have d24 : (24 : Int) < (zs.length : Int) := by omega
    go_enter Tryd.func61, Tryd.ntmps61
    go_wp2
    go_ret
    exact ⟨ret_bool HF.out.symm, Below.refl _ _⟩
  have d24 : ¬ ((24 : Int) < (zs.length : Int)) := by omega
  cases op
  · go_enter Tryd.func61, Tryd.ntmps61
    go_wp2
    clear d24
    go_loopw [6] (fun i wr => ∃ k : Nat, k ≤ zs.length ∧ i = .int .i64 k ∧ Hid (Below w.heap.size w wr) ∧ Hid (∀ (j : Nat) (y : DDef), j < k → zs[j]? = some y → dwOk zs.length j false y = true)) (fun i _ => zs.length - (intOf i).toNat)
    case atStart => exact ⟨0, Nat.zero_le _, rfl, Lib.hid (Below.refl _ _), Lib.hid (fun j y h => by omega)⟩
    case round =>
      obtain ⟨k, hk, rfl, HW, HK⟩ := hrel
      by_cases hlt : k < zs.length
      · have hu : zs[k]? = some zs[k] := List.getElem?_eq_getElem hlt
        obtain ⟨ad, rfl, hc⟩ := (HR.out.keepB HW.out).el DDef.enc_len hu (by omega)
        have hc0 := hc 0 _ rfl
        have hc1 := hc 1 _ rfl
        rw [Nat.add_zero] at hc0
        rw [add_field _ _ _ (by omega)] at hc1
        have HZk := Lib.hid (HZ.out.at_ hu)
        obtain ⟨hzn, hzb⟩ := HL.out _ (List.getElem_mem hlt)
        have HU := Lib.hid hu
        clear hc hu
        generalize zs[k] = z at hc0 hc1 HZk hzn hzb HU
        have i1 : (k : Int) < (zs.length : Int) := by omega
        have HBX := Lib.hid (bl_alloc HW.out (.cells #[.string z.name, .slice z.A z.body.length z.c] 106))
        have KZ := Lib.hid (blk_new wr (.cells #[.string z.name, .slice z.A z.body.length z.c] 106))
        cases h1 : nameOk z.name
        · have HF := Lib.hid (dwsOk_all_no (op := false) (dwsOk_at HU.out (dw_2 h1)))
          go_wp2_with (go_at_call 63; (with_reducible refine (specNameOk_calls z.name _ hzn).mono ?_); rintro e w2 ⟨rfl, rfl⟩; rw [h1])
          go_ret
          exact ⟨ret_bool HF.out.symm, HBX.out⟩

        by_cases hl60 : 60 < z.body.length
        · have d60 : (60 : Int) < (z.body.length : Int) := by omega
          have HF := Lib.hid (dwsOk_all_no (op := false) (dwsOk_at HU.out (dw_1 (by rw [decide_eq_false (by omega), Bool.and_false]))))
          go_wp2_with (go_at_call 63; (with_reducible refine (specNameOk_calls z.name _ hzn).mono ?_); rintro e w2 ⟨rfl, rfl⟩; rw [h1])
          go_ret
          exact ⟨ret_bool HF.out.symm, HBX.out⟩

        have d60 : ¬ ((60 : Int) < (z.body.length : Int)) := by omega
        have hle60 : z.body.length ≤ 60 := by omega
        clear hl60
        go_wp2_with (go_at_call 63; (with_reducible refine (specNameOk_calls z.name _ hzn).mono ?_); rintro e w2 ⟨rfl, rfl⟩; rw [h1])
        clear hc0 hc1 d60 i1
        go_loopw [8] (fun j wj => ∃ q : Nat, q ≤ z.body.length ∧ j = .int .i64 q ∧ Hid (Below (wr.alloc (.cells #[.string z.name, .slice z.A z.body.length z.c] 106)).heap.size (wr.alloc (.cells #[.string z.name, .slice z.A z.body.length z.c] 106)) wj) ∧ Hid (∀ o ∈ z.body.take q, opOk o = true ∧ callB zs.length o = false)) (fun j _ => z.body.length - (intOf j).toNat)
        case atStart => exact ⟨0, Nat.zero_le _, rfl, Lib.hid (Below.refl _ _), Lib.hid (by simp)⟩
        case round =>
          obtain ⟨q, hq, rfl, HJ, HM⟩ := hrel
          have KJ := Lib.hid (blk_call KZ.out HJ.out)
          have cKJ := blk_cell KJ.out
          have fKJ := blk_frozen KJ.out
          have zKJ := blk_lt KJ.out
          have HBJ := Lib.hid (bl_call HBX.out HJ.out)
          by_cases hql : q < z.body.length
          · have hv : z.body[q]? = some z.body[q] := List.getElem?_eq_getElem hql
            obtain ⟨bd, hA2, hd⟩ := (HZk.out.1.keepB HBJ.out).el LOp.enc_len hv (by omega)
            have hd0 := hd 0 _ rfl
            have hd1 := hd 1 _ rfl
            rw [Nat.add_zero] at hd0
            rw [add_field _ _ _ (by omega)] at hd1
            simp only [hA2] at cKJ
            have HA2 := Lib.hid hA2
            clear hA2
            have hx := HZk.out.2.1 _ (List.getElem_mem hql)
            have HV := Lib.hid hv
            clear hd hv
            generalize z.body[q] = o at hd0 hd1 hx HV
            obtain ⟨kd, n⟩ := o
            obtain ⟨x0, x1⟩ := hx
            simp only at x0 x1
            have j1 : (q : Int) < (z.body.length : Int) := by omega
            cases hok : opOk ⟨kd, n⟩
            · have HF := Lib.hid (dwsOk_all_no (op := false) (dwsOk_at HU.out (dw_1 (by rw [openI_no HV.out hok]; rfl))))
              go_wp2_with (go_at_call 95; (with_reducible refine (l09Op_calls _ n _ x0 x1).mono ?_); rintro e w3 ⟨rfl, hb⟩; rw [hok]; have HB3 := Lib.hid (bl_call HJ.out hb); have hd03 := below_mono hb _ _ hd0; have hd13 := below_mono hb _ _ hd1; have KZ3 := Lib.hid (blk_call KJ.out hb); clear hb; have cKZ3 := blk_cell KZ3.out; have fKZ3 := blk_frozen KZ3.out; have zKZ3 := blk_lt KZ3.out; simp only [HA2.out] at cKZ3)
              go_ret
              exact ⟨ret_bool HF.out.symm, bl_call HBX.out HB3.out⟩

            by_cases hkd : kd = 2
            · subst hkd
              by_cases hle : (zs.length : Int) ≤ n
              · have d0 : decide ((zs.length : Int) ≤ n) = true := decide_eq_true hle
                have HF := Lib.hid (dwsOk_all_no (op := false) (dwsOk_at HU.out (dw_3 (by rw [any_at HV.out (by simp [callB, hle])]; rfl))))
                go_wp2_with (go_at_call 95; (with_reducible refine (l09Op_calls _ n _ x0 x1).mono ?_); rintro e w3 ⟨rfl, hb⟩; rw [hok]; have HB3 := Lib.hid (bl_call HJ.out hb); have hd03 := below_mono hb _ _ hd0; have hd13 := below_mono hb _ _ hd1; have KZ3 := Lib.hid (blk_call KJ.out hb); clear hb; have cKZ3 := blk_cell KZ3.out; have fKZ3 := blk_frozen KZ3.out; have zKZ3 := blk_lt KZ3.out; simp only [HA2.out] at cKZ3)
                go_ret
                exact ⟨ret_bool HF.out.symm, bl_call HBX.out HB3.out⟩

              · have HM2 := Lib.hid (take_all_snoc HM.out HV.out (show opOk ⟨2, n⟩ = true ∧ callB zs.length ⟨2, n⟩ = false from ⟨hok, by simp [callB, hle]⟩))
                have d0 : decide ((zs.length : Int) ≤ n) = false := decide_eq_false hle
                go_wp2_with (go_at_call 95; (with_reducible refine (l09Op_calls _ n _ x0 x1).mono ?_); rintro e w3 ⟨rfl, hb⟩; rw [hok]; have HB3 := Lib.hid (bl_call HJ.out hb); have hd03 := below_mono hb _ _ hd0; have hd13 := below_mono hb _ _ hd1; have KZ3 := Lib.hid (blk_call KJ.out hb); clear hb; have cKZ3 := blk_cell KZ3.out; have fKZ3 := blk_frozen KZ3.out; have zKZ3 := blk_lt KZ3.out; simp only [HA2.out] at cKZ3)
                go_roundw
                case rel => exact ⟨q + 1, by omega, by go_num, HB3, HM2⟩
                case measure => first | (simp [intOf]; done) | (simp [intOf]; omega)
            · have HM2 := Lib.hid (take_all_snoc HM.out HV.out (show opOk ⟨kd, n⟩ = true ∧ callB zs.length ⟨kd, n⟩ = false from ⟨hok, by simp [callB, hkd]⟩))
              have d0 : (kd == 2) = false := by simpa using hkd
              clear hkd
              go_wp2_with (go_at_call 95; (with_reducible refine (l09Op_calls _ n _ x0 x1).mono ?_); rintro e w3 ⟨rfl, hb⟩; rw [hok]; have HB3 := Lib.hid (bl_call HJ.out hb); have hd03 := below_mono hb _ _ hd0; have hd13 := below_mono hb _ _ hd1; have KZ3 := Lib.hid (blk_call KJ.out hb); clear hb; have cKZ3 := blk_cell KZ3.out; have fKZ3 := blk_frozen KZ3.out; have zKZ3 := blk_lt KZ3.out; simp only [HA2.out] at cKZ3)
              go_roundw
              case rel => exact ⟨q + 1, by omega, by go_num, HB3, HM2⟩
              case measure => first | (simp [intOf]; done) | (simp [intOf]; omega)
          · have : q = z.body.length := by omega
            subst this
            rw [List.take_of_length_le (Nat.le_refl _)] at HM
            have HI : Hid (openI [] z.body = openS [] z.body) := Lib.hid (by rw [openI_eq, if_pos (List.all_eq_true.2 fun o ho => (HM.out o ho).1)])
            have h3 : (!(z.body.any (callB zs.length))) = true := by rw [any_take fun o ho => (HM.out o ho).2]; rfl
            have H3 := Lib.hid h3
            clear h3
            cases hso : (openI [] z.body).isSome
            · have HF := Lib.hid (dwsOk_all_no (op := false) (dwsOk_at HU.out (dw_1 (by rw [hso]; rfl))))
              go_wp2_with (go_at_call 96; (with_reducible refine (l09Open_calls z.A z.c z.body _ ?_ ?_).mono ?_); exact HZk.out.1.keepB HBJ.out; omega; rintro e w3 ⟨⟨OB, od, rfl⟩, hb⟩; rw [← HI.out, hso]; have HB3 := Lib.hid (bl_call HBJ.out hb); clear hb)
              go_ret
              exact ⟨ret_bool HF.out.symm, HB3.out⟩

            have hopen : ((openI [] z.body).isSome && decide (z.body.length ≤ 60)) = true := by rw [hso, decide_eq_true hle60]; rfl
            have HOPEN := Lib.hid hopen
            clear hopen
            by_cases h4 : 0 < openN (openI [] z.body)
            · have h4' : (0 : Int) < ((openN (openI [] z.body) : Nat) : Int) := by omega
              have HF := Lib.hid (dwsOk_all_no (op := false) (dwsOk_at HU.out (dw_4 h4 rfl)))
              go_wp2_with (go_at_call 96; (with_reducible refine (l09Open_calls z.A z.c z.body _ ?_ ?_).mono ?_); exact HZk.out.1.keepB HBJ.out; omega; rintro e w3 ⟨⟨OB, od, rfl⟩, hb⟩; rw [← HI.out, hso]; have HB3 := Lib.hid (bl_call HBJ.out hb); clear hb)
              go_ret
              exact ⟨ret_bool HF.out.symm, HB3.out⟩
            · have h4' : ¬ ((0 : Int) < ((openN (openI [] z.body) : Nat) : Int)) := by omega
              have HK2 := Lib.hid (dw_snoc HK.out HU.out (dw_5 HOPEN.out h1 H3.out h4))
              go_wp2_with (go_at_call 96; (with_reducible refine (l09Open_calls z.A z.c z.body _ ?_ ?_).mono ?_); exact HZk.out.1.keepB HBJ.out; omega; rintro e w3 ⟨⟨OB, od, rfl⟩, hb⟩; rw [← HI.out, hso]; have HB3 := Lib.hid (bl_call HBJ.out hb); clear hb)
              go_roundw
              case rel => exact ⟨k + 1, by omega, by go_num, HB3, HK2⟩
              case measure => first | (simp [intOf]; done) | (simp [intOf]; omega)
      · have : k = zs.length := by omega
        subst this
        have HF := Lib.hid (defsAll_yes (op := false) (zs := zs) (by omega) (.inl rfl) (dwsOk_all HK.out))
        go_wp2
        go_ret
        exact ⟨ret_bool HF.out.symm, HW.out⟩
  by_cases h0 : zs.length = 0
  · have HF := Lib.hid (defsAll_none h0)
    have dz : ((zs.length : Int) == 0) = true := by simp [h0]
    clear h0
    go_enter Tryd.func61, Tryd.ntmps61
    go_wp2
    go_ret
    exact ⟨ret_bool HF.out.symm, Below.refl _ _⟩
  · have dz : ((zs.length : Int) == 0) = false := by simpa using h0
    go_enter Tryd.func61, Tryd.ntmps61
    go_wp2
    clear d24 dz
    go_loopw [6] (fun i wr => ∃ k : Nat, k ≤ zs.length ∧ i = .int .i64 k ∧ Hid (Below w.heap.size w wr) ∧ Hid (∀ (j : Nat) (y : DDef), j < k → zs[j]? = some y → dwOk zs.length j true y = true)) (fun i _ => zs.length - (intOf i).toNat)
    case atStart => exact ⟨0, Nat.zero_le _, rfl, Lib.hid (Below.refl _ _), Lib.hid (fun j y h => by omega)⟩
    case round =>
      obtain ⟨k, hk, rfl, HW, HK⟩ := hrel
      by_cases hlt : k < zs.length
      · have hu : zs[k]? = some zs[k] := List.getElem?_eq_getElem hlt
        obtain ⟨ad, rfl, hc⟩ := (HR.out.keepB HW.out).el DDef.enc_len hu (by omega)
        have hc0 := hc 0 _ rfl
        have hc1 := hc 1 _ rfl
        rw [Nat.add_zero] at hc0
        rw [add_field _ _ _ (by omega)] at hc1
        have HZk := Lib.hid (HZ.out.at_ hu)
        obtain ⟨hzn, hzb⟩ := HL.out _ (List.getElem_mem hlt)
        have HU := Lib.hid hu
        clear hc hu
        generalize zs[k] = z at hc0 hc1 HZk hzn hzb HU
        have i1 : (k : Int) < (zs.length : Int) := by omega
        have HBX := Lib.hid (bl_alloc HW.out (.cells #[.string z.name, .slice z.A z.body.length z.c] 106))
        have KZ := Lib.hid (blk_new wr (.cells #[.string z.name, .slice z.A z.body.length z.c] 106))
        cases h1 : nameOk z.name
        · have HF := Lib.hid (dwsOk_all_no (op := true) (dwsOk_at HU.out (dw_2 h1)))
          go_wp2_with (go_at_call 63; (with_reducible refine (specNameOk_calls z.name _ hzn).mono ?_); rintro e w2 ⟨rfl, rfl⟩; rw [h1])
          go_ret
          exact ⟨ret_bool HF.out.symm, HBX.out⟩

        by_cases hl60 : 60 < z.body.length
        · have d60 : (60 : Int) < (z.body.length : Int) := by omega
          have HF := Lib.hid (dwsOk_all_no (op := true) (dwsOk_at HU.out (dw_1 (by rw [decide_eq_false (by omega), Bool.and_false]))))
          go_wp2_with (go_at_call 63; (with_reducible refine (specNameOk_calls z.name _ hzn).mono ?_); rintro e w2 ⟨rfl, rfl⟩; rw [h1])
          go_ret
          exact ⟨ret_bool HF.out.symm, HBX.out⟩

        have d60 : ¬ ((60 : Int) < (z.body.length : Int)) := by omega
        have hle60 : z.body.length ≤ 60 := by omega
        clear hl60
        go_wp2_with (go_at_call 63; (with_reducible refine (specNameOk_calls z.name _ hzn).mono ?_); rintro e w2 ⟨rfl, rfl⟩; rw [h1])
        clear hc0 hc1 d60 i1
        go_loopw [8] (fun j wj => ∃ q : Nat, q ≤ z.body.length ∧ j = .int .i64 q ∧ Hid (Below (wr.alloc (.cells #[.string z.name, .slice z.A z.body.length z.c] 106)).heap.size (wr.alloc (.cells #[.string z.name, .slice z.A z.body.length z.c] 106)) wj) ∧ Hid (∀ o ∈ z.body.take q, opOk o = true ∧ callB zs.length o = false)) (fun j _ => z.body.length - (intOf j).toNat)
        case atStart => exact ⟨0, Nat.zero_le _, rfl, Lib.hid (Below.refl _ _), Lib.hid (by simp)⟩
        case round =>
          obtain ⟨q, hq, rfl, HJ, HM⟩ := hrel
          have KJ := Lib.hid (blk_call KZ.out HJ.out)
          have cKJ := blk_cell KJ.out
          have fKJ := blk_frozen KJ.out
          have zKJ := blk_lt KJ.out
          have HBJ := Lib.hid (bl_call HBX.out HJ.out)
          by_cases hql : q < z.body.length
          · have hv : z.body[q]? = some z.body[q] := List.getElem?_eq_getElem hql
            obtain ⟨bd, hA2, hd⟩ := (HZk.out.1.keepB HBJ.out).el LOp.enc_len hv (by omega)
            have hd0 := hd 0 _ rfl
            have hd1 := hd 1 _ rfl
            rw [Nat.add_zero] at hd0
            rw [add_field _ _ _ (by omega)] at hd1
            simp only [hA2] at cKJ
            have HA2 := Lib.hid hA2
            clear hA2
            have hx := HZk.out.2.1 _ (List.getElem_mem hql)
            have HV := Lib.hid hv
            clear hd hv
            generalize z.body[q] = o at hd0 hd1 hx HV
            obtain ⟨kd, n⟩ := o
            obtain ⟨x0, x1⟩ := hx
            simp only at x0 x1
            have j1 : (q : Int) < (z.body.length : Int) := by omega
            cases hok : opOk ⟨kd, n⟩
            · have HF := Lib.hid (dwsOk_all_no (op := true) (dwsOk_at HU.out (dw_1 (by rw [openI_no HV.out hok]; rfl))))
              go_wp2_with (go_at_call 95; (with_reducible refine (l09Op_calls _ n _ x0 x1).mono ?_); rintro e w3 ⟨rfl, hb⟩; rw [hok]; have HB3 := Lib.hid (bl_call HJ.out hb); have hd03 := below_mono hb _ _ hd0; have hd13 := below_mono hb _ _ hd1; have KZ3 := Lib.hid (blk_call KJ.out hb); clear hb; have cKZ3 := blk_cell KZ3.out; have fKZ3 := blk_frozen KZ3.out; have zKZ3 := blk_lt KZ3.out; simp only [HA2.out] at cKZ3)
              go_ret
              exact ⟨ret_bool HF.out.symm, bl_call HBX.out HB3.out⟩

            by_cases hkd : kd = 2
            · subst hkd
              by_cases hle : (zs.length : Int) ≤ n
              · have d0 : decide ((zs.length : Int) ≤ n) = true := decide_eq_true hle
                have HF := Lib.hid (dwsOk_all_no (op := true) (dwsOk_at HU.out (dw_3 (by rw [any_at HV.out (by simp [callB, hle])]; rfl))))
                go_wp2_with (go_at_call 95; (with_reducible refine (l09Op_calls _ n _ x0 x1).mono ?_); rintro e w3 ⟨rfl, hb⟩; rw [hok]; have HB3 := Lib.hid (bl_call HJ.out hb); have hd03 := below_mono hb _ _ hd0; have hd13 := below_mono hb _ _ hd1; have KZ3 := Lib.hid (blk_call KJ.out hb); clear hb; have cKZ3 := blk_cell KZ3.out; have fKZ3 := blk_frozen KZ3.out; have zKZ3 := blk_lt KZ3.out; simp only [HA2.out] at cKZ3)
                go_ret
                exact ⟨ret_bool HF.out.symm, bl_call HBX.out HB3.out⟩

              · have HM2 := Lib.hid (take_all_snoc HM.out HV.out (show opOk ⟨2, n⟩ = true ∧ callB zs.length ⟨2, n⟩ = false from ⟨hok, by simp [callB, hle]⟩))
                have d0 : decide ((zs.length : Int) ≤ n) = false := decide_eq_false hle
                go_wp2_with (go_at_call 95; (with_reducible refine (l09Op_calls _ n _ x0 x1).mono ?_); rintro e w3 ⟨rfl, hb⟩; rw [hok]; have HB3 := Lib.hid (bl_call HJ.out hb); have hd03 := below_mono hb _ _ hd0; have hd13 := below_mono hb _ _ hd1; have KZ3 := Lib.hid (blk_call KJ.out hb); clear hb; have cKZ3 := blk_cell KZ3.out; have fKZ3 := blk_frozen KZ3.out; have zKZ3 := blk_lt KZ3.out; simp only [HA2.out] at cKZ3)
                go_roundw
                case rel => exact ⟨q + 1, by omega, by go_num, HB3, HM2⟩
                case measure => first | (simp [intOf]; done) | (simp [intOf]; omega)
            · have HM2 := Lib.hid (take_all_snoc HM.out HV.out (show opOk ⟨kd, n⟩ = true ∧ callB zs.length ⟨kd, n⟩ = false from ⟨hok, by simp [callB, hkd]⟩))
              have d0 : (kd == 2) = false := by simpa using hkd
              clear hkd
              go_wp2_with (go_at_call 95; (with_reducible refine (l09Op_calls _ n _ x0 x1).mono ?_); rintro e w3 ⟨rfl, hb⟩; rw [hok]; have HB3 := Lib.hid (bl_call HJ.out hb); have hd03 := below_mono hb _ _ hd0; have hd13 := below_mono hb _ _ hd1; have KZ3 := Lib.hid (blk_call KJ.out hb); clear hb; have cKZ3 := blk_cell KZ3.out; have fKZ3 := blk_frozen KZ3.out; have zKZ3 := blk_lt KZ3.out; simp only [HA2.out] at cKZ3)
              go_roundw
              case rel => exact ⟨q + 1, by omega, by go_num, HB3, HM2⟩
              case measure => first | (simp [intOf]; done) | (simp [intOf]; omega)
          · have : q = z.body.length := by omega
            subst this
            rw [List.take_of_length_le (Nat.le_refl _)] at HM
            have HI : Hid (openI [] z.body = openS [] z.body) := Lib.hid (by rw [openI_eq, if_pos (List.all_eq_true.2 fun o ho => (HM.out o ho).1)])
            have h3 : (!(z.body.any (callB zs.length))) = true := by rw [any_take fun o ho => (HM.out o ho).2]; rfl
            have H3 := Lib.hid h3
            clear h3
            cases hso : (openI [] z.body).isSome
            · have HF := Lib.hid (dwsOk_all_no (op := true) (dwsOk_at HU.out (dw_1 (by rw [hso]; rfl))))
              go_wp2_with (go_at_call 96; (with_reducible refine (l09Open_calls z.A z.c z.body _ ?_ ?_).mono ?_); exact HZk.out.1.keepB HBJ.out; omega; rintro e w3 ⟨⟨OB, od, rfl⟩, hb⟩; rw [← HI.out, hso]; have HB3 := Lib.hid (bl_call HBJ.out hb); clear hb)
              go_ret
              exact ⟨ret_bool HF.out.symm, HB3.out⟩

            have hopen : ((openI [] z.body).isSome && decide (z.body.length ≤ 60)) = true := by rw [hso, decide_eq_true hle60]; rfl
            have HOPEN := Lib.hid hopen
            clear hopen
            by_cases h4 : 0 < openN (openI [] z.body)
            · have h4' : (0 : Int) < ((openN (openI [] z.body) : Nat) : Int) := by omega
              by_cases h5 : k + 1 = zs.length
              · have e5 : ¬ ((k : Int) < (zs.length : Int) - 1) := by omega
                have HK2 := Lib.hid (dw_snoc HK.out HU.out (dw_6 HOPEN.out h1 H3.out (by simp [h5])))
                go_wp2_with (go_at_call 96; (with_reducible refine (l09Open_calls z.A z.c z.body _ ?_ ?_).mono ?_); exact HZk.out.1.keepB HBJ.out; omega; rintro e w3 ⟨⟨OB, od, rfl⟩, hb⟩; rw [← HI.out, hso]; have HB3 := Lib.hid (bl_call HBJ.out hb); clear hb)
                go_roundw
                case rel => exact ⟨k + 1, by omega, by go_num, HB3, HK2⟩
                case measure => first | (simp [intOf]; done) | (simp [intOf]; omega)

              · have e5 : (k : Int) < (zs.length : Int) - 1 := by omega
                have HF := Lib.hid (dwsOk_all_no (op := true) (dwsOk_at HU.out (dw_4 h4 (by simp [h5]))))
                go_wp2_with (go_at_call 96; (with_reducible refine (l09Open_calls z.A z.c z.body _ ?_ ?_).mono ?_); exact HZk.out.1.keepB HBJ.out; omega; rintro e w3 ⟨⟨OB, od, rfl⟩, hb⟩; rw [← HI.out, hso]; have HB3 := Lib.hid (bl_call HBJ.out hb); clear hb)
                go_ret
                exact ⟨ret_bool HF.out.symm, HB3.out⟩
            · have h4' : ¬ ((0 : Int) < ((openN (openI [] z.body) : Nat) : Int)) := by omega
              have HK2 := Lib.hid (dw_snoc HK.out HU.out (dw_5 HOPEN.out h1 H3.out h4))
              go_wp2_with (go_at_call 96; (with_reducible refine (l09Open_calls z.A z.c z.body _ ?_ ?_).mono ?_); exact HZk.out.1.keepB HBJ.out; omega; rintro e w3 ⟨⟨OB, od, rfl⟩, hb⟩; rw [← HI.out, hso]; have HB3 := Lib.hid (bl_call HBJ.out hb); clear hb)
              go_roundw
              case rel => exact ⟨k + 1, by omega, by go_num, HB3, HK2⟩
              case measure => first | (simp [intOf]; done) | (simp [intOf]; omega)
      · have : k = zs.length := by omega
        subst this
        have HF := Lib.hid (defsAll_yes (op := true) (zs := zs) (by omega) (.inr h0) (dwsOk_all HK.out))
        go_wp2
        go_ret
        exact ⟨ret_bool HF.out.symm, HW.out⟩
set_option maxRecDepth 100000 in
set_option maxHeartbeats 4000000 in
theorem specWorldOk_calls (x : LW) (v : Value) (w : World) (hv : WK w x v) (hs : x.low) :
    Calls Tryd.prog 20 #[v] w fun e w' => e = .returned (.bool (worldOk x)) ∧ Below w.heap.size w w' := by
  obtain ⟨A, a, B, b, D0, d0, D1, d1, D3, d3, D4, d4, D5, d5, D6, d6, D7, d7, rfl, h1, h2, h3, h4, h5⟩ := hv
  have H1 := Lib.hid h1
  have H2 := Lib.hid h2
  have H3 := Lib.hid h3
  have H5 := Lib.hid h5
  have HS := Lib.hid hs
  have HN3 : Hid (∀ z ∈ x.defs, z.name.size ≤ 1048576 ∧ z.body.length ≤ 1048576) := Lib.hid (defsS_of (by have := hs.defs; omega))
  have HN4 : Hid (∀ z ∈ x.dict, z.name.size ≤ 1048576) := Lib.hid fun z hz => by
    have := szEs_mem hz
    have := hs.dict
    omega
  have h7 : Rd w D5 (x.st.vars.map (Value.int .i64)) := by
    obtain ⟨F0, f0, F1, f1, F3, f3, F4, f4, F5, f5, F6, f6, F7, f7, he, q0, q1, q3, q4, q5, q6, q7, -⟩ := h5
    simp only [Value.agg.injEq, Array.mk.injEq, List.cons.injEq, Value.slice.injEq, and_true, true_and] at he
    obtain ⟨⟨-, -⟩, ⟨-, -⟩, ⟨-, -⟩, ⟨-, -⟩, ⟨rfl, -⟩, -⟩ := he
    exact q5
  have H7 := Lib.hid h7
  have hv7 := hs.st.2.2.2.2.1
  have KA := Lib.hid (blk_new w (.cells #[.slice A x.defs.length a, .slice B x.dict.length b, .slice D0 x.st.data.length d0, .slice D1 x.st.ret.length d1, .int .i32 x.st.a, .slice D3 x.st.mem.length d3, .slice D4 x.st.cells.length d4, .slice D5 x.st.vars.length d5, .slice D6 x.st.out.length d6, .slice D7 x.st.inp.length d7, .int .i64 x.st.fault, .int .i64 x.st.fuel, .bool x.opn, .bool x.yel] 57))
  have HB := Lib.hid (bl_alloc (Below.refl _ w) (.cells #[.slice A x.defs.length a, .slice B x.dict.length b, .slice D0 x.st.data.length d0, .slice D1 x.st.ret.length d1, .int .i32 x.st.a, .slice D3 x.st.mem.length d3, .slice D4 x.st.cells.length d4, .slice D5 x.st.vars.length d5, .slice D6 x.st.out.length d6, .slice D7 x.st.inp.length d7, .int .i64 x.st.fault, .int .i64 x.st.fuel, .bool x.opn, .bool x.yel] 57))
  clear h1 h2 h3 h4 h5 h7 hs
  have hdl : x.defs.length ≤ 140737488355328 := by have := HS.out.defs; omega
  cases hst : stOk x.st
  · have HF := Lib.hid (worldOk_1 hst)
    go_enter Tryd.func20, Tryd.ntmps20
    go_wp2_with fail
    refine (specStOk_calls x.st _ _ (H5.out.keepB HB.out) (LSt.small_mono HS.out.st (by omega))).mono ?_
    rintro e w1 ⟨rfl, hb⟩
    rw [hst]
    replace KA := Lib.hid (blk_call KA.out hb)
    replace HB := Lib.hid (bl_call HB.out hb)
    clear hb
    have cKA := blk_cell KA.out
    have fKA := blk_frozen KA.out
    have zKA := blk_lt KA.out
    replace H1 := Lib.hid (H1.out.keepB HB.out)
    replace H2 := Lib.hid (H2.out.call HB.out)
    go_wp2_with fail
    go_ret
    exact ⟨ret_bool HF.out.symm, HB.out⟩
  by_cases h40 : 40 < x.dict.length
  · have HF := Lib.hid (worldOk_3 h40)
    have d40 : (40 : Int) < (x.dict.length : Int) := by omega
    go_enter Tryd.func20, Tryd.ntmps20
    go_wp2_with fail
    refine (specStOk_calls x.st _ _ (H5.out.keepB HB.out) (LSt.small_mono HS.out.st (by omega))).mono ?_
    rintro e w1 ⟨rfl, hb⟩
    rw [hst]
    replace KA := Lib.hid (blk_call KA.out hb)
    replace HB := Lib.hid (bl_call HB.out hb)
    clear hb
    have cKA := blk_cell KA.out
    have fKA := blk_frozen KA.out
    have zKA := blk_lt KA.out
    replace H1 := Lib.hid (H1.out.keepB HB.out)
    replace H2 := Lib.hid (H2.out.call HB.out)
    go_wp2_with fail
    go_ret
    exact ⟨ret_bool HF.out.symm, HB.out⟩
  have d40 : ¬ ((40 : Int) < (x.dict.length : Int)) := by omega
  cases hD : defsAll x.opn x.defs
  · have HF := Lib.hid (worldOk_8 hD)
    go_enter Tryd.func20, Tryd.ntmps20
    go_wp2_with fail
    refine (specStOk_calls x.st _ _ (H5.out.keepB HB.out) (LSt.small_mono HS.out.st (by omega))).mono ?_
    rintro e w1 ⟨rfl, hb⟩
    rw [hst]
    replace KA := Lib.hid (blk_call KA.out hb)
    replace HB := Lib.hid (bl_call HB.out hb)
    clear hb
    have cKA := blk_cell KA.out
    have fKA := blk_frozen KA.out
    have zKA := blk_lt KA.out
    replace H1 := Lib.hid (H1.out.keepB HB.out)
    replace H2 := Lib.hid (H2.out.call HB.out)
    go_wp2_with (go_at_call 61; (with_reducible refine (l13Defs_calls A a x.defs x.opn _ ?_ ?_ ?_ ?_).mono ?_); exact H1.out; exact H2.out; exact HN3.out; omega; rintro e w2 ⟨rfl, hb⟩; rw [hD]; have HB2 := Lib.hid (bl_call HB.out hb); have KA2 := Lib.hid (blk_call KA.out hb); have HX2 := Lib.hid hb; clear hb; have cKA2 := blk_cell KA2.out; have fKA2 := blk_frozen KA2.out; have zKA2 := blk_lt KA2.out)
    go_ret
    exact ⟨ret_bool HF.out.symm, HB2.out⟩
  · obtain ⟨h24, hopp, hdw⟩ := defsAll_parts hD
    have HOP := Lib.hid hopp
    have HDW := Lib.hid hdw
    clear hopp hdw
    go_enter Tryd.func20, Tryd.ntmps20
    go_wp2_with fail
    refine (specStOk_calls x.st _ _ (H5.out.keepB HB.out) (LSt.small_mono HS.out.st (by omega))).mono ?_
    rintro e w1 ⟨rfl, hb⟩
    rw [hst]
    replace KA := Lib.hid (blk_call KA.out hb)
    replace HB := Lib.hid (bl_call HB.out hb)
    clear hb
    have cKA := blk_cell KA.out
    have fKA := blk_frozen KA.out
    have zKA := blk_lt KA.out
    replace H1 := Lib.hid (H1.out.keepB HB.out)
    replace H2 := Lib.hid (H2.out.call HB.out)
    replace H3 := Lib.hid (H3.out.keepB HB.out)
    replace H7 := Lib.hid (H7.out.keepB HB.out)
    go_wp2_with (go_at_call 61; (with_reducible refine (l13Defs_calls A a x.defs x.opn _ ?_ ?_ ?_ ?_).mono ?_); exact H1.out; exact H2.out; exact HN3.out; omega; rintro e w2 ⟨rfl, hb⟩; rw [hD]; have HB2 := Lib.hid (bl_call HB.out hb); have KA2 := Lib.hid (blk_call KA.out hb); have HX2 := Lib.hid hb; clear hb; have cKA2 := blk_cell KA2.out; have fKA2 := blk_frozen KA2.out; have zKA2 := blk_lt KA2.out)
    have HWS := HX2
    clear cKA2 fKA2 zKA2 KA2 HB2 HX2
    go_loopw [3] (fun i wr => ∃ k : Nat, k ≤ x.dict.length ∧ i = .int .i64 k ∧ Hid (Below w1.heap.size w1 wr) ∧ Hid (∀ z ∈ x.dict.take k, entOk x z = true)) (fun i _ => x.dict.length - (intOf i).toNat)
    case atStart => exact ⟨0, Nat.zero_le _, rfl, HWS, Lib.hid (by simp)⟩
    case round =>
      obtain ⟨k, hk, rfl, HW, HK⟩ := hrel
      have KR := Lib.hid (blk_call KA.out HW.out)
      have cKR := blk_cell KR.out
      have fKR := blk_frozen KR.out
      have zKR := blk_lt KR.out
      by_cases hlt : k < x.dict.length
      · have hu : x.dict[k]? = some x.dict[k] := List.getElem?_eq_getElem hlt
        obtain ⟨ad, rfl, hc⟩ := (H3.out.keepB HW.out).el LEntry.enc_len hu (by omega)
        have hc0 := hc 0 _ rfl
        have hc1 := hc 1 _ rfl
        have hc2 := hc 2 _ rfl
        rw [Nat.add_zero] at hc0
        rw [add_field _ _ _ (by omega)] at hc1
        rw [add_field _ _ _ (by omega)] at hc2
        have hzn := HN4.out _ (List.getElem_mem hlt)
        have HU := Lib.hid hu
        clear hc hu
        generalize x.dict[k] = z at hc0 hc1 hc2 hzn HU
        obtain ⟨zn, zv, zx⟩ := z
        simp only at hc0 hc1 hc2 hzn
        have i1 : (k : Int) < (x.dict.length : Int) := by omega
        cases zv
        · have HBX := Lib.hid (bl_alloc HW.out (.cells #[.string zn, .bool false, .int .i64 zx] 99))
          cases hin : inB zx 0 ((x.defs.length : Int) - 1)
          · have HF := Lib.hid (worldOk_6 HU.out (show entOk x ⟨zn, false, zx⟩ = false by simp [entOk, hin]))
            go_wp2_with (go_at_call 36; (with_reducible refine (specInB_calls _ _ _ _).mono ?_); rintro e w2 ⟨rfl, rfl⟩; rw [hin])
            go_ret
            exact ⟨ret_bool HF.out.symm, bl_call HB.out HBX.out⟩

          cases h1 : nameOk zn
          · have HF := Lib.hid (worldOk_6 HU.out (show entOk x ⟨zn, false, zx⟩ = false by simp [entOk, h1]))
            go_wp2_with (first | (go_at_call 36; (with_reducible refine (specInB_calls _ _ _ _).mono ?_); rintro e w2 ⟨rfl, rfl⟩; rw [hin]) | (go_at_call 63; (with_reducible refine (specNameOk_calls zn _ hzn).mono ?_); rintro e w2 ⟨rfl, rfl⟩; rw [h1]))
            go_ret
            exact ⟨ret_bool HF.out.symm, bl_call HB.out HBX.out⟩

          · have HK2 := Lib.hid (take_all_snoc HK.out HU.out (show entOk x ⟨zn, false, zx⟩ = true by simp [entOk, hin, h1]))
            go_wp2_with (first | (go_at_call 36; (with_reducible refine (specInB_calls _ _ _ _).mono ?_); rintro e w2 ⟨rfl, rfl⟩; rw [hin]) | (go_at_call 63; (with_reducible refine (specNameOk_calls zn _ hzn).mono ?_); rintro e w2 ⟨rfl, rfl⟩; rw [h1]))
            go_roundw
            case rel => exact ⟨k + 1, by omega, by go_num, HBX, HK2⟩
            case measure => first | (simp [intOf]; done) | (simp [intOf]; omega)

        · have HBX := Lib.hid (bl_alloc HW.out (.cells #[.string zn, .bool true, .int .i64 zx] 99))
          cases hin : decide (zx ∈ x.st.vars)
          · have HF := Lib.hid (worldOk_6 HU.out (show entOk x ⟨zn, true, zx⟩ = false by simp [entOk, hin]))
            go_wp2_with (first | (go_at_call 62; (with_reducible refine (l13Has_calls D5 d5 x.st.vars zx _ ?_ ?_).mono ?_); exact H7.out.keepB HBX.out; omega; rintro e w2 ⟨rfl, rfl⟩; rw [hin]) | (go_at_call 36; (with_reducible refine (specInB_calls _ _ _ _).mono ?_); rintro e w2 ⟨rfl, rfl⟩))
            go_ret
            exact ⟨ret_bool HF.out.symm, bl_call HB.out HBX.out⟩

          cases h1 : nameOk zn
          · have HF := Lib.hid (worldOk_6 HU.out (show entOk x ⟨zn, true, zx⟩ = false by simp [entOk, h1]))
            go_wp2_with (first | (go_at_call 62; (with_reducible refine (l13Has_calls D5 d5 x.st.vars zx _ ?_ ?_).mono ?_); exact H7.out.keepB HBX.out; omega; rintro e w2 ⟨rfl, rfl⟩; rw [hin]) | (go_at_call 36; (with_reducible refine (specInB_calls _ _ _ _).mono ?_); rintro e w2 ⟨rfl, rfl⟩) | (go_at_call 63; (with_reducible refine (specNameOk_calls zn _ hzn).mono ?_); rintro e w2 ⟨rfl, rfl⟩; rw [h1]))
            go_ret
            exact ⟨ret_bool HF.out.symm, bl_call HB.out HBX.out⟩

          · have HK2 := Lib.hid (take_all_snoc HK.out HU.out (show entOk x ⟨zn, true, zx⟩ = true by simp [entOk, hin, h1]))
            go_wp2_with (first | (go_at_call 62; (with_reducible refine (l13Has_calls D5 d5 x.st.vars zx _ ?_ ?_).mono ?_); exact H7.out.keepB HBX.out; omega; rintro e w2 ⟨rfl, rfl⟩; rw [hin]) | (go_at_call 36; (with_reducible refine (specInB_calls _ _ _ _).mono ?_); rintro e w2 ⟨rfl, rfl⟩) | (go_at_call 63; (with_reducible refine (specNameOk_calls zn _ hzn).mono ?_); rintro e w2 ⟨rfl, rfl⟩; rw [h1]))
            go_roundw
            case rel => exact ⟨k + 1, by omega, by go_num, HBX, HK2⟩
            case measure => first | (simp [intOf]; done) | (simp [intOf]; omega)

      · have : k = x.dict.length := by omega
        subst this
        rw [List.take_of_length_le (Nat.le_refl _)] at HK
        have HF := Lib.hid (worldOk_7 (x := x) hst h24 h40 HOP.out HDW.out HK.out)
        go_wp2
        go_ret
        exact ⟨ret_bool HF.out.symm, bl_call HB.out HW.out⟩
end Go.Proofs.YtjciibhaifabjaaDoor

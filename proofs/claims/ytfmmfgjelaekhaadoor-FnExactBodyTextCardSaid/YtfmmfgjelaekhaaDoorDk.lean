/- Which definitions are right: contracts of DefsOk, the program's and the reference's. -/
import Derived.Test.YtfmmfgjelaekhaaDoorDf
set_option linter.unusedVariables false
set_option linter.unusedSimpArgs false
namespace Go.Proofs.YtfmmfgjelaekhaaDoor
open Go.RowKit

/-- Does an op call a definition that is not? -/
def callB (m : Nat) (o : LOp) : Bool := decide (o.kind = 2) && decide ((m : Int) ≤ o.n)
def defOk (m : Nat) (z : DDef) : Bool := nameOk z.name && (shapeOk z.body && !(z.body.any (callB m)))
def defsOk (zs : List DDef) : Bool := decide (zs.length ≤ 24) && zs.all (defOk zs.length)
theorem defOk_1 {m : Nat} {z : DDef} (h : nameOk z.name = false) : defOk m z = false := by simp [defOk, h]
theorem defOk_2 {m : Nat} {z : DDef} (h : shapeOk z.body = false) : defOk m z = false := by simp [defOk, h]
theorem defOk_3 {m : Nat} {z : DDef} (h1 : nameOk z.name = true) (h2 : shapeOk z.body = true) : defOk m z = !(z.body.any (callB m)) := by simp [defOk, h1, h2]
theorem defsOk_long {zs : List DDef} (h : 24 < zs.length) : defsOk zs = false := by
  have : ¬ zs.length ≤ 24 := by omega
  simp [defsOk, this]
theorem defsOk_any {zs : List DDef} (h : zs.length ≤ 24) : defsOk zs = !(zs.any fun z => !defOk zs.length z) := by
  simp [defsOk, h, List.all_eq_not_any_not]
theorem defsOk_at {zs : List DDef} {k : Nat} {z : DDef} (hu : zs[k]? = some z) (h : defOk zs.length z = false) : defsOk zs = false := by
  have : zs.all (defOk zs.length) = false := by
    rw [List.all_eq_false]
    exact ⟨z, List.mem_of_getElem? hu, by rw [h]; simp⟩
  rw [defsOk, this, Bool.and_false]
theorem defsOk_all {zs : List DDef} (h : zs.length ≤ 24) (ha : ∀ z ∈ zs, defOk zs.length z = true) : defsOk zs = true := by
  rw [defsOk, List.all_eq_true.2 ha, decide_eq_true h]
  rfl
theorem callsBelowC_calls (k n : Int) (m g : Nat) (w : World) (hc : w.cell? ⟨g, 0, none⟩ = some (.int .i64 m)) (hn0 : -2147483648 ≤ n) (hn1 : n ≤ 2147483647) :
    Calls Tryd.prog 121 #[.agg #[.int .i64 k, .int .i32 n], .pointer (some ⟨g, 0, none⟩)] w fun e w' => e = .returned (.bool (callB m ⟨k, n⟩)) ∧ Below w.heap.size w w' := by
  have hg : g < w.heap.size := World.block_lt_of_cell? w _ hc
  by_cases hk : k = 2
  · subst hk
    go_enter Tryd.func121, Tryd.ntmps121
    go_wp2
    go_ret
    exact ⟨ret_bool (by simp [callB]), bl_alloc (Below.refl _ _) _⟩
  · have e2 : (k == 2) = false := by simpa using hk
    have HF : Hid (callB m ⟨k, n⟩ = false) := Lib.hid (by simp [callB, hk])
    clear hk
    go_enter Tryd.func121, Tryd.ntmps121
    go_wp2
    go_ret
    exact ⟨ret_bool HF.out.symm, bl_alloc (Below.refl _ _) _⟩
set_option maxRecDepth 100000 in
theorem callsBelow_calls (A : Option Addr) (c : Nat) (xs : List LOp) (m : Nat) (w : World) (hr : Rd w A (xs.flatMap LOp.enc)) (hx : ∀ x ∈ xs, x.ok32) (hn : xs.length ≤ 140737488355328) :
    Calls Tryd.prog 97 #[.slice A xs.length c, .int .i64 m] w fun e w' => e = .returned (.bool (!(xs.any (callB m)))) ∧ Below w.heap.size w w' := by
  have HR := Lib.hid hr
  have HCL : Hid (∀ (W : World) (x : LOp), Below (w.alloc (.cells #[.int .i64 m] 3)).heap.size (w.alloc (.cells #[.int .i64 m] 3)) W → x ∈ xs → Calls Tryd.prog 121 (#[.agg (LOp.enc x).toArray] ++ #[.pointer (some ⟨w.heap.size, 0, none⟩)]) W fun e w' => e = .returned (.bool (callB m x)) ∧ Below W.heap.size W w') :=
    Lib.hid fun W x hb hm => callsBelowC_calls x.kind x.n m w.heap.size W (blk_cell (blk_call (blk_new w _) hb) 0) (hx x hm).1 (hx x hm).2
  clear hr hx
  go_enter Tryd.func97, Tryd.ntmps97
  go_wp2_with fail
  refine (contFOp_calls LOp.enc LOp.enc_len (callB m) A c xs 121 #[.pointer (some ⟨w.heap.size, 0, none⟩)] (fun _ _ => by kernel_rfl) _ (HR.out.call (bl_alloc (Below.refl _ _) _)) hn HCL.out).mono ?_
  rintro e w2 ⟨rfl, hb⟩
  have HB := Lib.hid (bl_call (bl_alloc (Below.refl _ _) _) hb)
  clear hb
  generalize hq : xs.any (callB m) = r
  go_wp2_with fail
  go_ret
  exact ⟨ret_bool (by rw [hq]), HB.out⟩
set_option maxRecDepth 100000 in
set_option maxHeartbeats 1000000 in
theorem defsOkC_calls (z : DDef) (m cc g : Nat) (D : Option Addr) (w : World) (hA : Asc w) (hc : w.cell? ⟨g, 0, none⟩ = some (.slice D m cc)) (hz : z.R w) (hs : z.name.size ≤ 1048576) (hn : z.body.length ≤ 1048576) :
    Calls Tryd.prog 95 #[.agg #[.string z.name, .slice z.A z.body.length z.c], .pointer (some ⟨g, 0, none⟩)] w fun e w' => e = .returned (.bool (!defOk m z)) ∧ Below w.heap.size w w' := by
  have hg : g < w.heap.size := World.block_lt_of_cell? w _ hc
  have HA := Lib.hid hA
  have HR := Lib.hid hz.1
  have HX := Lib.hid hz.2.1
  clear hA hz
  cases h1 : nameOk z.name
  · have HF := Lib.hid (defOk_1 (m := m) h1)
    go_enter Tryd.func95, Tryd.ntmps95
    go_wp2_with (go_at_call 96; (with_reducible refine (nameOk_calls z.name _ hs).mono ?_); rintro e w' ⟨rfl, rfl⟩; rw [h1])
    go_ret
    exact ⟨ret_bool (by rw [HF.out]; rfl), bl_alloc (Below.refl _ _) _⟩
  cases h2 : shapeOk z.body
  · have HF := Lib.hid (defOk_2 (m := m) h2)
    go_enter Tryd.func95, Tryd.ntmps95
    go_wp2_with (first | (go_at_call 96; (with_reducible refine (nameOk_calls z.name _ hs).mono ?_); rintro e w' ⟨rfl, rfl⟩; rw [h1]) | (go_at_call 29; (with_reducible refine (shapeOk_calls z.A z.c z.body _ ?_ ?_ ?_ ?_).mono ?_); exact HA.out.call (bl_alloc (Below.refl _ _) _); exact HR.out.call (bl_alloc (Below.refl _ _) _); exact HX.out; exact hn; rintro e w2 ⟨rfl, hb⟩; rw [h2]; have HB := Lib.hid (bl_call (bl_alloc (Below.refl _ _) _) hb); clear hb))
    go_ret
    exact ⟨ret_bool (by rw [HF.out]; rfl), HB.out⟩
  · have HF := Lib.hid (defOk_3 (m := m) h1 h2)
    go_enter Tryd.func95, Tryd.ntmps95
    go_wp2_with (first | (go_at_call 96; (with_reducible refine (nameOk_calls z.name _ hs).mono ?_); rintro e w' ⟨rfl, rfl⟩; rw [h1]) | (go_at_call 29; (with_reducible refine (shapeOk_calls z.A z.c z.body _ ?_ ?_ ?_ ?_).mono ?_); exact HA.out.call (bl_alloc (Below.refl _ _) _); exact HR.out.call (bl_alloc (Below.refl _ _) _); exact HX.out; exact hn; rintro e w2 ⟨rfl, hb⟩; rw [h2]; obtain ⟨q2, f2⟩ := bcell hb; have z2 := below1 (n := w.heap.size) hb (by simp; try omega); have y2 := below1 (n := g) hb (by simp; try omega); have HB := Lib.hid (bl_call (bl_alloc (Below.refl _ _) _) hb); clear hb) | (go_at_call 97; (with_reducible refine (callsBelow_calls z.A z.c z.body m _ ?_ ?_ ?_).mono ?_); exact HR.out.call HB.out; exact HX.out; omega; rintro e w3 ⟨rfl, hb⟩; have HB3 := Lib.hid (bl_call HB.out hb); clear hb; generalize z.body.any (callB m) = r at HF ⊢))
    go_ret
    exact ⟨ret_bool (by rw [HF.out, Bool.not_not]), HB3.out⟩
set_option maxRecDepth 100000 in
set_option maxHeartbeats 1000000 in
theorem defsOk_calls (A : Option Addr) (c : Nat) (zs : List DDef) (w : World) (hA : Asc w) (hr : Rd w A (zs.flatMap DDef.enc)) (hz : DefsR w zs) (hb : ∀ z ∈ zs, z.name.size ≤ 1048576 ∧ z.body.length ≤ 1048576) (hn : zs.length ≤ 140737488355328) :
    Calls Tryd.prog 45 #[.slice A zs.length c] w fun e w' => e = .returned (.bool (defsOk zs)) ∧ Below w.heap.size w w' := by
  have HA := Lib.hid hA
  have HR := Lib.hid hr
  have HZ := Lib.hid hz
  have HL := Lib.hid hb
  clear hA hr hz hb
  by_cases h24 : 24 < zs.length
  · have HF := Lib.hid (defsOk_long h24)
    have d24 : decide ((zs.length : Int) ≤ 24) = false := decide_eq_false (by omega)
    go_enter Tryd.func45, Tryd.ntmps45
    go_wp2
    go_ret
    exact ⟨ret_bool HF.out.symm, bl_alloc (Below.refl _ _) _⟩
  · have HF := Lib.hid (defsOk_any (zs := zs) (by omega))
    have d24 : decide ((zs.length : Int) ≤ 24) = true := decide_eq_true (by omega)
    have HCL : Hid (∀ (W : World) (x : DDef), Below (w.alloc (.cells #[.slice A zs.length c] 58)).heap.size (w.alloc (.cells #[.slice A zs.length c] 58)) W → x ∈ zs → Calls Tryd.prog 95 (#[.agg (DDef.enc x).toArray] ++ #[.pointer (some ⟨w.heap.size, 0, none⟩)]) W fun e w' => e = .returned (.bool (!defOk zs.length x)) ∧ Below W.heap.size W w') :=
      Lib.hid fun W x hb hm => defsOkC_calls x zs.length c w.heap.size A W ((HA.out.call (bl_alloc (Below.refl _ _) _)).call hb) (blk_cell (blk_call (blk_new w _) hb) 0) (((HZ.out x hm).call (bl_alloc (Below.refl _ _) _)).call hb) (HL.out x hm).1 (HL.out x hm).2
    go_enter Tryd.func45, Tryd.ntmps45
    go_wp2_with fail
    refine (contFDef_calls DDef.enc DDef.enc_len (fun z => !defOk zs.length z) A c zs 95 #[.pointer (some ⟨w.heap.size, 0, none⟩)] (fun _ _ => by kernel_rfl) _ (HR.out.call (bl_alloc (Below.refl _ _) _)) hn HCL.out).mono ?_
    rintro e w2 ⟨rfl, hb⟩
    have HB := Lib.hid (bl_call (bl_alloc (Below.refl _ _) _) hb)
    clear hb
    generalize (zs.any fun z => !defOk zs.length z) = r at HF ⊢
    go_wp2_with fail
    go_ret
    exact ⟨ret_bool HF.out.symm, HB.out⟩
theorem any_of_take {α : Type} {p : α → Bool} {xs : List α} (h : ∀ x ∈ xs, p x = false) : xs.any p = false := by
  rw [List.any_eq_false]
  exact fun x hx => by rw [h x hx]; simp
theorem any_of_at {α : Type} {p : α → Bool} {xs : List α} {k : Nat} {x : α} (hu : xs[k]? = some x) (h : p x = true) : xs.any p = true := List.any_eq_true.2 ⟨x, List.mem_of_getElem? hu, h⟩
set_option maxRecDepth 100000 in
set_option maxHeartbeats 2000000 in
theorem specDefsOk_calls (A : Option Addr) (c : Nat) (zs : List DDef) (w : World) (hr : Rd w A (zs.flatMap DDef.enc)) (hz : DefsR w zs) (hb : ∀ z ∈ zs, z.name.size ≤ 1048576 ∧ z.body.length ≤ 1048576) (hn : zs.length ≤ 140737488355328) :
    Calls Tryd.prog 43 #[.slice A zs.length c] w fun e w' => e = .returned (.bool (defsOk zs)) ∧ Below w.heap.size w w' := by
  have HR := Lib.hid hr
  have HZ := Lib.hid hz
  have HL := Lib.hid hb
  clear hr hz hb
  by_cases h24 : 24 < zs.length
  · have HF := Lib.hid (defsOk_long h24)
    go_enter Tryd.func43, Tryd.ntmps43
    go_wp2
    go_ret
    exact ⟨ret_bool HF.out.symm, Below.refl _ _⟩
  have d24 : decide ((24 : Int) < (zs.length : Int)) = false := decide_eq_false (by omega)
  go_enter Tryd.func43, Tryd.ntmps43
  go_wp2
  clear d24
  go_loopw [3] (fun i wr => ∃ k : Nat, k ≤ zs.length ∧ i = .int .i64 k ∧ Hid (Below w.heap.size w wr) ∧ Hid (∀ z ∈ zs.take k, defOk zs.length z = true)) (fun i _ => zs.length - (intOf i).toNat)
  case atStart => exact ⟨0, Nat.zero_le _, rfl, Lib.hid (Below.refl _ _), Lib.hid (by simp)⟩
  case round =>
    obtain ⟨k, hk, rfl, HW, HN⟩ := hrel
    by_cases hlt : k < zs.length
    · have hu : zs[k]? = some zs[k] := List.getElem?_eq_getElem hlt
      obtain ⟨ad, rfl, hc⟩ := HR.out.el DDef.enc_len hu (by omega)
      have hc0 := hc 0 _ rfl
      have hc1 := hc 1 _ rfl
      rw [Nat.add_zero] at hc0
      rw [add_field _ _ _ (by omega)] at hc1
      have HZk := Lib.hid (HZ.out.at_ hu)
      have hbl := HL.out _ (List.getElem_mem hlt)
      have HU := Lib.hid hu
      clear hc hu
      generalize zs[k] = z at hc0 hc1 HZk hbl HU
      obtain ⟨hs, hn1⟩ := hbl
      have i1 : (k : Int) < (zs.length : Int) := by omega
      have HC := Lib.hid (And.intro hc0 hc1)
      clear hc0 hc1
      have hc0 := below_mono HW.out _ _ HC.out.1
      have hc1 := below_mono HW.out _ _ HC.out.2
      cases h1 : nameOk z.name
      · have HF := Lib.hid (defsOk_at HU.out (defOk_1 h1))
        go_wp2_with (go_at_call 92; (with_reducible refine (specNameOk_calls z.name _ hs).mono ?_); rintro e w' ⟨rfl, rfl⟩; rw [h1])
        go_ret
        exact ⟨ret_bool HF.out.symm, HW.out⟩
      cases h2 : shapeOk z.body
      · have HF := Lib.hid (defsOk_at HU.out (defOk_2 h2))
        go_wp2_with (first | (go_at_call 92; (with_reducible refine (specNameOk_calls z.name _ hs).mono ?_); rintro e w' ⟨rfl, rfl⟩; rw [h1]) | (go_at_call 27; (with_reducible refine (specShapeOk_calls z.A z.c z.body _ ?_ ?_ ?_).mono ?_); exact HZk.out.1.keepB HW.out; exact HZk.out.2.1; exact hn1; rintro e w2 ⟨rfl, hb⟩; rw [h2]; have HB := Lib.hid (bl_call HW.out hb); clear hb))
        go_ret
        exact ⟨ret_bool HF.out.symm, HB.out⟩
      · have HD := Lib.hid (defOk_3 (m := zs.length) h1 h2)
        go_wp2_with (first | (go_at_call 92; (with_reducible refine (specNameOk_calls z.name _ hs).mono ?_); rintro e w' ⟨rfl, rfl⟩; rw [h1]) | (go_at_call 27; (with_reducible refine (specShapeOk_calls z.A z.c z.body _ ?_ ?_ ?_).mono ?_); exact HZk.out.1.keepB HW.out; exact HZk.out.2.1; exact hn1; rintro e w2 ⟨rfl, hb⟩; rw [h2]; have HB := Lib.hid (bl_call HW.out hb); clear hb))
        clear hc0 hc1
        go_loopw [4, 5] (fun j _ wj => ∃ q : Nat, q ≤ z.body.length ∧ j = .int .i64 q ∧ Hid (Below w.heap.size w wj) ∧ Hid (∀ o ∈ z.body.take q, callB zs.length o = false)) (fun j _ _ => z.body.length - (intOf j).toNat)
        case atStart => exact ⟨0, Nat.zero_le _, rfl, HB, Lib.hid (by simp)⟩
        case round =>
          obtain ⟨q, hq, rfl, HJ, HM⟩ := hrel
          have hc0 := below_mono HJ.out _ _ HC.out.1
          have hc1 := below_mono HJ.out _ _ HC.out.2
          by_cases hql : q < z.body.length
          · have hv : z.body[q]? = some z.body[q] := List.getElem?_eq_getElem hql
            obtain ⟨bd, hA2, hd⟩ := (HZk.out.1.keepB HJ.out).el LOp.enc_len hv (by omega)
            have hd0 := hd 0 _ rfl
            have hd1 := hd 1 _ rfl
            rw [Nat.add_zero] at hd0
            rw [add_field _ _ _ (by omega)] at hd1
            rw [hA2] at hc1
            have hx := HZk.out.2.1 _ (List.getElem_mem hql)
            have HV := Lib.hid hv
            clear hd hv
            generalize z.body[q] = x at hd0 hd1 hx HV
            obtain ⟨kd, n⟩ := x
            obtain ⟨x0, x1⟩ := hx
            simp only at x0 x1
            have j1 : (q : Int) < (z.body.length : Int) := by omega
            by_cases hkd : kd = 2
            · subst hkd
              by_cases hle : (zs.length : Int) ≤ n
              · have HF := Lib.hid (defsOk_at HU.out (by rw [HD.out, any_of_at HV.out (by simp [callB, hle])]; rfl))
                have d0 : decide ((zs.length : Int) ≤ n) = true := decide_eq_true hle
                go_wp2
                go_ret
                exact ⟨ret_bool HF.out.symm, bl_alloc HJ.out _⟩
              · have HM2 := Lib.hid (take_all_snoc HM.out HV.out (show callB zs.length ⟨2, n⟩ = false by simp [callB, hle]))
                have d0 : decide ((zs.length : Int) ≤ n) = false := decide_eq_false hle
                go_wp2
                go_roundw
                case rel => exact ⟨q + 1, by omega, by go_num, Lib.hid (bl_alloc HJ.out _), HM2⟩
                case measure => simp [intOf]; omega
            · have HM2 := Lib.hid (take_all_snoc HM.out HV.out (show callB zs.length ⟨kd, n⟩ = false by simp [callB, hkd]))
              have d0 : (kd == 2) = false := by simpa using hkd
              clear hkd
              go_wp2
              go_roundw
              case rel => exact ⟨q + 1, by omega, by go_num, Lib.hid (bl_alloc HJ.out _), HM2⟩
              case measure => simp [intOf]; omega
          · have : q = z.body.length := by omega
            subst this
            rw [List.take_of_length_le (Nat.le_refl _)] at HM
            have HN2 := Lib.hid (take_all_snoc HN.out HU.out (show defOk zs.length z = true by rw [HD.out, any_of_take HM.out]; rfl))
            go_wp2
            go_roundw
            case rel => exact ⟨k + 1, by omega, by go_num, HJ, HN2⟩
            case measure => simp [intOf]; omega
    · have : k = zs.length := by omega
      subst this
      rw [List.take_of_length_le (Nat.le_refl _)] at HN
      have HF := Lib.hid (defsOk_all (by omega) HN.out)
      go_wp2
      go_ret
      exact ⟨ret_bool HF.out.symm, HW.out⟩
theorem defsOk_val {ys zs : List DDef} (h : ys.map DDef.val = zs.map DDef.val) : defsOk ys = defsOk zs := by
  have e : ∀ l : List DDef, defsOk l = (decide ((l.map DDef.val).length ≤ 24) && (l.map DDef.val).all fun v => defOk (l.map DDef.val).length ⟨v.1, v.2, none, 0⟩) := fun l => by
    simp only [defsOk, List.length_map, List.all_map]
    rfl
  rw [e, e, h]
end Go.Proofs.YtfmmfgjelaekhaaDoor

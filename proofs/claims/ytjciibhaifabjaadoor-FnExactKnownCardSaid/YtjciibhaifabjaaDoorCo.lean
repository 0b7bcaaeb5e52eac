/- Which code is right: contracts of CodeOk, the program's and the reference's. -/
import Derived.Test.YtjciibhaifabjaaDoorP
import Derived.Test.YtjciibhaifabjaaDoorS
import Derived.Test.YtjciibhaifabjaaDoorCf
set_option linter.unusedVariables false
set_option linter.unusedSimpArgs false
namespace Go.Proofs.YtjciibhaifabjaaDoor
open Go.RowKit

def inB (x a b : Int) : Bool := decide (a ≤ x ∧ x ≤ b)
theorem inB_iff {x a b : Int} : inB x a b = true ↔ a ≤ x ∧ x ≤ b := by simp [inB]
theorem specInB_calls (x a b : Int) (w : World) : Calls Tryd.prog 36 #[.int .i64 x, .int .i64 a, .int .i64 b] w fun e w' => e = .returned (.bool (inB x a b)) ∧ w = w' := by
  by_cases h1 : a ≤ x <;> by_cases h2 : x ≤ b
  all_goals
    go_enter Tryd.func36, Tryd.ntmps36
    go_wp2
    go_ret
    exact ⟨by simp [inB, h1, h2], rfl⟩
theorem withinB_calls (x a b : Int) (w : World) : Calls Tryd.prog 70 #[.int .i64 x, .int .i64 a, .int .i64 b] w fun e w' => e = .returned (.bool (inB x a b)) ∧ w = w' := by
  by_cases h1 : a ≤ x <;> by_cases h2 : x ≤ b
  all_goals
    go_enter Tryd.func70, Tryd.ntmps70
    go_wp2
    go_ret
    exact ⟨by simp [inB, h1, h2], rfl⟩
/-- Is the number of a step as told? -/
def insOk (len : Nat) (i : LIns) : Bool :=
  if i.op = 0 then inB i.n (-2147483648) 2147483647 else if i.op = 1 then inB i.n 0 23 else if i.op = 2 ∨ i.op = 3 ∨ i.op = 4 ∨ i.op = 5 ∨ i.op = 7 then inB i.n 0 (len - 1) else if i.op = 6 ∨ i.op = 8 ∨ i.op = 9 then decide (i.n = 0) else false
theorem primName_empty (k : Int) : (primName k).toList.isEmpty = !inB k 0 23 := by
  by_cases h : 0 ≤ k ∧ k ≤ 23
  · have : k = 0 ∨ k = 1 ∨ k = 2 ∨ k = 3 ∨ k = 4 ∨ k = 5 ∨ k = 6 ∨ k = 7 ∨ k = 8 ∨ k = 9 ∨ k = 10 ∨ k = 11 ∨ k = 12 ∨ k = 13 ∨ k = 14 ∨ k = 15 ∨ k = 16 ∨ k = 17 ∨ k = 18 ∨ k = 19 ∨ k = 20 ∨ k = 21 ∨ k = 22 ∨ k = 23 := by omega
    rcases this with rfl | rfl | rfl | rfl | rfl | rfl | rfl | rfl | rfl | rfl | rfl | rfl | rfl | rfl | rfl | rfl | rfl | rfl | rfl | rfl | rfl | rfl | rfl | rfl <;> decide +kernel
  · rw [primName, if_neg h]
    simp [inB, h]
theorem wrapI32 (n : Int) : (n != wrap64 (wrap32 n)) = !inB n (-2147483648) 2147483647 := by
  have e : (n = wrap64 (wrap32 n)) ↔ (-2147483648 ≤ n ∧ n ≤ 2147483647) := by unfold wrap64 wrap32; omega
  by_cases h : -2147483648 ≤ n ∧ n ≤ 2147483647
  · have h2 := e.2 h
    simp [inB, h, ← h2]
  · have h2 : ¬ n = wrap64 (wrap32 n) := fun k => h (e.1 k)
    simp [inB, h, h2]
set_option maxRecDepth 100000 in
theorem codeOkC_calls (op n : Int) (len g : Nat) (w : World) (hA : Asc w) (hc : w.cell? ⟨g, 0, none⟩ = some (.int .i64 len)) (h1 : 1 ≤ len) (hlen : len ≤ 1500) :
    Calls Tryd.prog 112 #[.agg #[.int .i64 op, .int .i64 n], .pointer (some ⟨g, 0, none⟩)] w fun e w' => e = .returned (.bool (!insOk len ⟨op, n⟩)) ∧ Below w.heap.size w w' := by
  have HA := Lib.hid hA
  clear hA
  have hg : g < w.heap.size := World.block_lt_of_cell? w _ hc
  have hop : op = 0 ∨ op = 1 ∨ (op = 2 ∨ op = 3 ∨ op = 4 ∨ op = 5 ∨ op = 7) ∨ (op = 6 ∨ op = 8 ∨ op = 9) ∨ (¬ op = 0 ∧ ¬ op = 1 ∧ ¬ op = 2 ∧ ¬ op = 3 ∧ ¬ op = 4 ∧ ¬ op = 5 ∧ ¬ op = 6 ∧ ¬ op = 7 ∧ ¬ op = 8 ∧ ¬ op = 9) := by omega
  rcases hop with rfl | rfl | hop | hop | ⟨o0, o1, o2, o3, o4, o5, o6, o7, o8, o9⟩
  · go_enter Tryd.func112, Tryd.ntmps112
    go_wp2
    go_ret
    exact ⟨ret_bool (by rw [wrapI32]; simp [insOk]), bl_alloc (Below.refl _ _) _⟩
  · have HE := Lib.hid (primName_empty n)
    go_enter Tryd.func112, Tryd.ntmps112
    go_wp2_with (go_at_call 113; (with_reducible refine (primName_calls n _ ?_).mono ?_); exact HA.out.call (bl_alloc (Below.refl _ _) _); rintro e w2 ⟨rfl, hb⟩; have HB := Lib.hid hb; clear hb; generalize primName n = s at HE ⊢)
    go_ret
    exact ⟨ret_bool (by rw [HE.out]; simp [insOk]), bl_call (bl_alloc (Below.refl _ _) _) HB.out⟩
  · rcases hop with rfl | rfl | rfl | rfl | rfl
    all_goals
      go_enter Tryd.func112, Tryd.ntmps112
      go_wp2_with (go_at_call 70; refine (withinB_calls _ _ _ _).mono ?_; rintro e w' ⟨rfl, rfl⟩)
      go_ret
      exact ⟨ret_bool (by simp [insOk]), bl_alloc (Below.refl _ _) _⟩
  · rcases hop with rfl | rfl | rfl
    all_goals
      go_enter Tryd.func112, Tryd.ntmps112
      go_wp2
      go_ret
      exact ⟨ret_bool (by simp [insOk, bne, Bool.beq_eq_decide_eq]), bl_alloc (Below.refl _ _) _⟩
  · have HI : Hid ((!insOk len ⟨op, n⟩) = true) := Lib.hid (by simp [insOk, o0, o1, o2, o3, o4, o5, o6, o7, o8, o9])
    go_enter Tryd.func112, Tryd.ntmps112
    go_wp2
    go_ret
    exact ⟨ret_bool HI.out.symm, bl_alloc (Below.refl _ _) _⟩
def codeOk (xs : List LIns) : Bool := inB xs.length 1 1500 && (decide (xs.getLast?.map LIns.op = some 9) && xs.all (insOk xs.length))
theorem codeOk_no1 {xs : List LIns} (h : inB xs.length 1 1500 = false) : codeOk xs = false := by simp [codeOk, h]
theorem last_at {xs : List LIns} (h : 0 < xs.length) : xs[xs.length - 1]? = some xs[xs.length - 1] ∧ xs.getLast?.map LIns.op = some xs[xs.length - 1].op := by
  have e : xs[xs.length - 1]? = some xs[xs.length - 1] := List.getElem?_eq_getElem (by omega)
  refine ⟨e, ?_⟩
  rw [List.getLast?_eq_getElem?, e]
  rfl
theorem codeOk_no2 {xs : List LIns} {o : Int} (hl : xs.getLast?.map LIns.op = some o) (h : ¬ o = 9) : codeOk xs = false := by simp [codeOk, hl, h]
theorem codeOk_all {xs : List LIns} {o : Int} (h : inB xs.length 1 1500 = true) (hl : xs.getLast?.map LIns.op = some o) (ho : o = 9) : codeOk xs = !(xs.any fun i => !insOk xs.length i) := by
  simp [codeOk, h, hl, ho, List.all_eq_not_any_not]
theorem codeOk_at {xs : List LIns} {k : Nat} {x : LIns} (h : codeOk xs = !(xs.any fun i => !insOk xs.length i)) (hu : xs[k]? = some x) (hx : insOk xs.length x = false) : codeOk xs = false := by
  rw [h]
  have : (xs.any fun i => !insOk xs.length i) = true := List.any_eq_true.2 ⟨x, List.mem_of_getElem? hu, by rw [hx]; rfl⟩
  rw [this]
  rfl
set_option maxRecDepth 100000 in
set_option maxHeartbeats 400000 in
theorem codeOk_calls (A : Option Addr) (c : Nat) (xs : List LIns) (w : World) (hA : Asc w) (hr : Rd w A (xs.flatMap LIns.enc)) (hn : xs.length ≤ 140737488355328) :
    Calls Tryd.prog 83 #[.slice A xs.length c] w fun e w' => e = .returned (.bool (codeOk xs)) ∧ Below w.heap.size w w' := by
  have HA := Lib.hid hA
  have HR := Lib.hid hr
  clear hA hr
  cases h1 : inB xs.length 1 1500
  · have HF := Lib.hid (codeOk_no1 h1)
    go_enter Tryd.func83, Tryd.ntmps83
    go_wp2_with (go_at_call 70; refine (withinB_calls _ _ _ _).mono ?_; rintro e w' ⟨rfl, rfl⟩)
    go_ret
    exact ⟨ret_bool HF.out.symm, bl_alloc (Below.refl _ _) _⟩
  · have hlen := inB_iff.1 h1
    have hpos : 0 < xs.length := by omega
    obtain ⟨hu, hl⟩ := last_at hpos
    obtain ⟨ad, rfl, hc⟩ := (HR.out.call (bl_alloc (Below.refl _ _) (.cells #[.int .i64 xs.length] 3))).el LIns.enc_len hu (by omega)
    have hc0 := hc 0 _ rfl
    rw [Nat.add_zero] at hc0
    clear hc hu
    have HL := Lib.hid hl
    clear hl
    generalize xs[xs.length - 1].op = o at hc0 HL
    by_cases ho : o = 9
    · have HO := Lib.hid (codeOk_all h1 HL.out ho)
      have HCL : Hid (∀ (W : World) (x : LIns), Below (w.alloc (.cells #[.int .i64 xs.length] 3)).heap.size (w.alloc (.cells #[.int .i64 xs.length] 3)) W → x ∈ xs → Calls Tryd.prog 112 (#[.agg (LIns.enc x).toArray] ++ #[.pointer (some ⟨w.heap.size, 0, none⟩)]) W fun e w' => e = .returned (.bool (!insOk xs.length x)) ∧ Below W.heap.size W w') :=
        Lib.hid fun W x hb _ => codeOkC_calls x.op x.n xs.length w.heap.size W ((HA.out.call (bl_alloc (Below.refl _ _) _)).call hb) (blk_cell (blk_call (blk_new w _) hb) 0) (by omega) (by omega)
      subst ho
      go_enter Tryd.func83, Tryd.ntmps83
      go_wp2_with (first | (go_at_call 70; refine (withinB_calls _ _ _ _).mono ?_; rintro e w' ⟨rfl, rfl⟩))
      refine (contFIns_calls LIns.enc LIns.enc_len (fun i => !insOk xs.length i) (some ad) c xs 112 #[.pointer (some ⟨w.heap.size, 0, none⟩)] (fun _ _ => by kernel_rfl) _ (HR.out.call (bl_alloc (Below.refl _ _) _)) hn HCL.out).mono ?_
      rintro e w2 ⟨rfl, hb⟩
      have HB := Lib.hid (bl_call (bl_alloc (Below.refl _ _) _) hb)
      clear hb
      generalize (xs.any fun i => !insOk xs.length i) = r at HO ⊢
      go_wp2_with fail
      go_ret
      exact ⟨ret_bool HO.out.symm, HB.out⟩
    · have HO := Lib.hid (codeOk_no2 HL.out ho)
      go_enter Tryd.func83, Tryd.ntmps83
      go_wp2_with (first | (go_at_call 70; refine (withinB_calls _ _ _ _).mono ?_; rintro e w' ⟨rfl, rfl⟩))
      go_ret
      exact ⟨ret_bool HO.out.symm, bl_alloc (Below.refl _ _) _⟩
set_option maxRecDepth 100000 in
set_option maxHeartbeats 1000000 in
theorem specCodeOk_calls (A : Option Addr) (c : Nat) (xs : List LIns) (w : World) (hr : Rd w A (xs.flatMap LIns.enc)) (hn : xs.length ≤ 140737488355328) :
    Calls Tryd.prog 35 #[.slice A xs.length c] w fun e w' => e = .returned (.bool (codeOk xs)) ∧ Below w.heap.size w w' := by
  have HR := Lib.hid hr
  clear hr
  cases h1 : inB xs.length 1 1500
  · have HF := Lib.hid (codeOk_no1 h1)
    go_enter Tryd.func35, Tryd.ntmps35
    go_wp2_with (go_at_call 36; refine (specInB_calls _ _ _ _).mono ?_; rintro e w' ⟨rfl, rfl⟩)
    go_ret
    exact ⟨ret_bool HF.out.symm, Below.refl _ _⟩
  have hlen := inB_iff.1 h1
  have hpos : 0 < xs.length := by omega
  obtain ⟨hu, hl⟩ := last_at hpos
  obtain ⟨ad, rfl, hc⟩ := HR.out.el LIns.enc_len hu (by omega)
  have hc0 := hc 0 _ rfl
  rw [Nat.add_zero] at hc0
  clear hc hu
  have HL := Lib.hid hl
  clear hl
  generalize xs[xs.length - 1].op = o at hc0 HL
  by_cases ho : o = 9
  · have HO := Lib.hid (codeOk_all h1 HL.out ho)
    subst ho
    go_enter Tryd.func35, Tryd.ntmps35
    go_wp2_with (first | (go_at_call 36; refine (specInB_calls _ _ _ _).mono ?_; rintro e w' ⟨rfl, rfl⟩))
    clear hc0 h1
    go_loopw [4] (fun i wr => ∃ k : Nat, k ≤ xs.length ∧ i = .int .i64 k ∧ Hid (Below w.heap.size w wr) ∧ Hid (∀ x ∈ xs.take k, insOk xs.length x = true)) (fun i _ => xs.length - (intOf i).toNat)
    case atStart => exact ⟨0, Nat.zero_le _, rfl, Lib.hid (Below.refl _ _), Lib.hid (by simp)⟩
    case round =>
      obtain ⟨k, hk, rfl, HW, HN⟩ := hrel
      by_cases hlt : k < xs.length
      · have hu : xs[k]? = some xs[k] := List.getElem?_eq_getElem hlt
        obtain ⟨ad', e', hc⟩ := (HR.out.keepB HW.out).el LIns.enc_len hu (by omega)
        injection e' with e'
        subst e'
        have hc0 := hc 0 _ rfl
        have hc1 := hc 1 _ rfl
        rw [Nat.add_zero] at hc0
        rw [add_field _ _ _ (by omega)] at hc1
        have HU := Lib.hid hu
        clear hc hu
        generalize xs[k] = x at hc0 hc1 HU
        obtain ⟨op, n⟩ := x
        have i1 : (k : Int) < (xs.length : Int) := by omega
        have hop : op = 0 ∨ op = 1 ∨ (op = 2 ∨ op = 3 ∨ op = 4 ∨ op = 5 ∨ op = 7) ∨ (op = 6 ∨ op = 8 ∨ op = 9) ∨ (¬ op = 0 ∧ ¬ op = 1 ∧ ¬ op = 2 ∧ ¬ op = 3 ∧ ¬ op = 4 ∧ ¬ op = 5 ∧ ¬ op = 6 ∧ ¬ op = 7 ∧ ¬ op = 8 ∧ ¬ op = 9) := by omega
        rcases hop with rfl | rfl | hop | hop | ⟨o0, o1, o2, o3, o4, o5, o6, o7, o8, o9⟩
        · skip
          cases hb : inB n (-2147483648) 2147483647
          · have HI : Hid (insOk xs.length ⟨0, n⟩ = false) := Lib.hid (by simp [insOk, hb])
            have HF := Lib.hid (codeOk_at HO.out HU.out HI.out)
            go_wp2_with (go_at_call 36; refine (specInB_calls _ _ _ _).mono ?_; rintro e w' ⟨rfl, rfl⟩)
            go_ret
            exact ⟨ret_bool HF.out.symm, bl_alloc HW.out _⟩
          · have HI : Hid (insOk xs.length ⟨0, n⟩ = true) := Lib.hid (by simp [insOk, hb])
            have HN2 := Lib.hid (take_all_snoc HN.out HU.out HI.out)
            go_wp2_with (go_at_call 36; refine (specInB_calls _ _ _ _).mono ?_; rintro e w' ⟨rfl, rfl⟩)
            go_roundw
            case rel => exact ⟨k + 1, by omega, by go_num, Lib.hid (bl_alloc HW.out _), HN2⟩
            case measure => simp [intOf]; omega
        · have he := primName_empty n
          cases hb : inB n 0 23
          · have HI : Hid (insOk xs.length ⟨1, n⟩ = false) := Lib.hid (by simp [insOk, hb])
            have HF := Lib.hid (codeOk_at HO.out HU.out HI.out)
            have he : (primName n).toList.isEmpty = true := by rw [he, hb]; rfl
            clear hb
            go_wp2_with (go_at_call 78; (with_reducible refine (specPrimName_calls n _).mono ?_); rintro e w2 ⟨rfl, hb⟩; have HB2 := Lib.hid (bl_call (bl_alloc HW.out _) hb); clear hb; generalize primName n = s at he ⊢)
            go_ret
            exact ⟨ret_bool HF.out.symm, HB2.out⟩
          · have HI : Hid (insOk xs.length ⟨1, n⟩ = true) := Lib.hid (by simp [insOk, hb])
            have HN2 := Lib.hid (take_all_snoc HN.out HU.out HI.out)
            have he : (primName n).toList.isEmpty = false := by rw [he, hb]; rfl
            clear hb
            go_wp2_with (go_at_call 78; (with_reducible refine (specPrimName_calls n _).mono ?_); rintro e w2 ⟨rfl, hb⟩; have HB2 := Lib.hid (bl_call (bl_alloc HW.out _) hb); clear hb; generalize primName n = s at he ⊢)
            go_roundw
            case rel => exact ⟨k + 1, by omega, by go_num, Lib.hid (HB2.out), HN2⟩
            case measure => simp [intOf]; omega
        · rcases hop with rfl | rfl | rfl | rfl | rfl
          · cases hb : inB n 0 (xs.length - 1)
            · have HI : Hid (insOk xs.length ⟨2, n⟩ = false) := Lib.hid (by simp [insOk, hb])
              have HF := Lib.hid (codeOk_at HO.out HU.out HI.out)
              go_wp2_with (go_at_call 36; refine (specInB_calls _ _ _ _).mono ?_; rintro e w' ⟨rfl, rfl⟩)
              go_ret
              exact ⟨ret_bool HF.out.symm, bl_alloc HW.out _⟩
            · have HI : Hid (insOk xs.length ⟨2, n⟩ = true) := Lib.hid (by simp [insOk, hb])
              have HN2 := Lib.hid (take_all_snoc HN.out HU.out HI.out)
              go_wp2_with (go_at_call 36; refine (specInB_calls _ _ _ _).mono ?_; rintro e w' ⟨rfl, rfl⟩)
              go_roundw
              case rel => exact ⟨k + 1, by omega, by go_num, Lib.hid (bl_alloc HW.out _), HN2⟩
              case measure => simp [intOf]; omega
          · cases hb : inB n 0 (xs.length - 1)
            · have HI : Hid (insOk xs.length ⟨3, n⟩ = false) := Lib.hid (by simp [insOk, hb])
              have HF := Lib.hid (codeOk_at HO.out HU.out HI.out)
              go_wp2_with (go_at_call 36; refine (specInB_calls _ _ _ _).mono ?_; rintro e w' ⟨rfl, rfl⟩)
              go_ret
              exact ⟨ret_bool HF.out.symm, bl_alloc HW.out _⟩
            · have HI : Hid (insOk xs.length ⟨3, n⟩ = true) := Lib.hid (by simp [insOk, hb])
              have HN2 := Lib.hid (take_all_snoc HN.out HU.out HI.out)
              go_wp2_with (go_at_call 36; refine (specInB_calls _ _ _ _).mono ?_; rintro e w' ⟨rfl, rfl⟩)
              go_roundw
              case rel => exact ⟨k + 1, by omega, by go_num, Lib.hid (bl_alloc HW.out _), HN2⟩
              case measure => simp [intOf]; omega
          · cases hb : inB n 0 (xs.length - 1)
            · have HI : Hid (insOk xs.length ⟨4, n⟩ = false) := Lib.hid (by simp [insOk, hb])
              have HF := Lib.hid (codeOk_at HO.out HU.out HI.out)
              go_wp2_with (go_at_call 36; refine (specInB_calls _ _ _ _).mono ?_; rintro e w' ⟨rfl, rfl⟩)
              go_ret
              exact ⟨ret_bool HF.out.symm, bl_alloc HW.out _⟩
            · have HI : Hid (insOk xs.length ⟨4, n⟩ = true) := Lib.hid (by simp [insOk, hb])
              have HN2 := Lib.hid (take_all_snoc HN.out HU.out HI.out)
              go_wp2_with (go_at_call 36; refine (specInB_calls _ _ _ _).mono ?_; rintro e w' ⟨rfl, rfl⟩)
              go_roundw
              case rel => exact ⟨k + 1, by omega, by go_num, Lib.hid (bl_alloc HW.out _), HN2⟩
              case measure => simp [intOf]; omega
          · cases hb : inB n 0 (xs.length - 1)
            · have HI : Hid (insOk xs.length ⟨5, n⟩ = false) := Lib.hid (by simp [insOk, hb])
              have HF := Lib.hid (codeOk_at HO.out HU.out HI.out)
              go_wp2_with (go_at_call 36; refine (specInB_calls _ _ _ _).mono ?_; rintro e w' ⟨rfl, rfl⟩)
              go_ret
              exact ⟨ret_bool HF.out.symm, bl_alloc HW.out _⟩
            · have HI : Hid (insOk xs.length ⟨5, n⟩ = true) := Lib.hid (by simp [insOk, hb])
              have HN2 := Lib.hid (take_all_snoc HN.out HU.out HI.out)
              go_wp2_with (go_at_call 36; refine (specInB_calls _ _ _ _).mono ?_; rintro e w' ⟨rfl, rfl⟩)
              go_roundw
              case rel => exact ⟨k + 1, by omega, by go_num, Lib.hid (bl_alloc HW.out _), HN2⟩
              case measure => simp [intOf]; omega
          · cases hb : inB n 0 (xs.length - 1)
            · have HI : Hid (insOk xs.length ⟨7, n⟩ = false) := Lib.hid (by simp [insOk, hb])
              have HF := Lib.hid (codeOk_at HO.out HU.out HI.out)
              go_wp2_with (go_at_call 36; refine (specInB_calls _ _ _ _).mono ?_; rintro e w' ⟨rfl, rfl⟩)
              go_ret
              exact ⟨ret_bool HF.out.symm, bl_alloc HW.out _⟩
            · have HI : Hid (insOk xs.length ⟨7, n⟩ = true) := Lib.hid (by simp [insOk, hb])
              have HN2 := Lib.hid (take_all_snoc HN.out HU.out HI.out)
              go_wp2_with (go_at_call 36; refine (specInB_calls _ _ _ _).mono ?_; rintro e w' ⟨rfl, rfl⟩)
              go_roundw
              case rel => exact ⟨k + 1, by omega, by go_num, Lib.hid (bl_alloc HW.out _), HN2⟩
              case measure => simp [intOf]; omega
        · rcases hop with rfl | rfl | rfl
          · cases hb : decide (n = 0)
            · have HI : Hid (insOk xs.length ⟨6, n⟩ = false) := Lib.hid (by simp [insOk, hb])
              have HF := Lib.hid (codeOk_at HO.out HU.out HI.out)
              have hn0 : (n == 0) = false := by simpa using hb
              clear hb
              go_wp2
              go_ret
              exact ⟨ret_bool HF.out.symm, bl_alloc HW.out _⟩
            · have HI : Hid (insOk xs.length ⟨6, n⟩ = true) := Lib.hid (by simp [insOk, hb])
              have HN2 := Lib.hid (take_all_snoc HN.out HU.out HI.out)
              have hn0 : n = 0 := of_decide_eq_true hb
              subst hn0
              go_wp2
              go_roundw
              case rel => exact ⟨k + 1, by omega, by go_num, Lib.hid (bl_alloc HW.out _), HN2⟩
              case measure => simp [intOf]; omega
          · cases hb : decide (n = 0)
            · have HI : Hid (insOk xs.length ⟨8, n⟩ = false) := Lib.hid (by simp [insOk, hb])
              have HF := Lib.hid (codeOk_at HO.out HU.out HI.out)
              have hn0 : (n == 0) = false := by simpa using hb
              clear hb
              go_wp2
              go_ret
              exact ⟨ret_bool HF.out.symm, bl_alloc HW.out _⟩
            · have HI : Hid (insOk xs.length ⟨8, n⟩ = true) := Lib.hid (by simp [insOk, hb])
              have HN2 := Lib.hid (take_all_snoc HN.out HU.out HI.out)
              have hn0 : n = 0 := of_decide_eq_true hb
              subst hn0
              go_wp2
              go_roundw
              case rel => exact ⟨k + 1, by omega, by go_num, Lib.hid (bl_alloc HW.out _), HN2⟩
              case measure => simp [intOf]; omega
          · cases hb : decide (n = 0)
            · have HI : Hid (insOk xs.length ⟨9, n⟩ = false) := Lib.hid (by simp [insOk, hb])
              have HF := Lib.hid (codeOk_at HO.out HU.out HI.out)
              have hn0 : (n == 0) = false := by simpa using hb
              clear hb
              go_wp2
              go_ret
              exact ⟨ret_bool HF.out.symm, bl_alloc HW.out _⟩
            · have HI : Hid (insOk xs.length ⟨9, n⟩ = true) := Lib.hid (by simp [insOk, hb])
              have HN2 := Lib.hid (take_all_snoc HN.out HU.out HI.out)
              have hn0 : n = 0 := of_decide_eq_true hb
              subst hn0
              go_wp2
              go_roundw
              case rel => exact ⟨k + 1, by omega, by go_num, Lib.hid (bl_alloc HW.out _), HN2⟩
              case measure => simp [intOf]; omega
        · have HI : Hid (insOk xs.length ⟨op, n⟩ = false) := Lib.hid (by simp [insOk, o0, o1, o2, o3, o4, o5, o6, o7, o8, o9])
          have HF := Lib.hid (codeOk_at HO.out HU.out HI.out)
          go_wp2
          go_ret
          exact ⟨ret_bool HF.out.symm, bl_alloc HW.out _⟩
      · have : k = xs.length := by omega
        subst this
        rw [List.take_of_length_le (Nat.le_refl _)] at HN
        have HF : Hid (codeOk xs = true) := Lib.hid (by rw [HO.out]; simpa using HN.out)
        go_wp2
        go_ret
        exact ⟨ret_bool HF.out.symm, HW.out⟩
  · have HO := Lib.hid (codeOk_no2 HL.out ho)
    go_enter Tryd.func35, Tryd.ntmps35
    go_wp2_with (first | (go_at_call 36; refine (specInB_calls _ _ _ _).mono ?_; rintro e w' ⟨rfl, rfl⟩))
    go_ret
    exact ⟨ret_bool HO.out.symm, Below.refl _ _⟩
end Go.Proofs.YtjciibhaifabjaaDoor

/- WorldOk: contracts of the program's and the reference's. -/
import Derived.Test.YtjciibhaifabjaaDoorDk
import Derived.Test.YtjciibhaifabjaaDoorOj
import Derived.Test.YtjciibhaifabjaaDoorWd
set_option linter.unusedVariables false
set_option linter.unusedSimpArgs false
namespace Go.Proofs.YtjciibhaifabjaaDoor
open Go.RowKit

/-- Is the k-th of n definitions right, where the last one may be open? -/
def dwOk (n k : Nat) (op : Bool) (z : DDef) : Bool := nameOk z.name && (decide (z.body.length ≤ 60) && ((openI [] z.body).isSome && (!(z.body.any (callB n)) && !(decide (0 < openN (openI [] z.body)) && !(op && decide (k + 1 = n))))))
def dwsOk (op : Bool) (zs : List DDef) : Bool := (List.range zs.length).all fun k => match zs[k]? with | some z => dwOk zs.length k op z | none => true
def entOk (x : LW) (e : LEntry) : Bool := (if e.var = true then decide (e.n ∈ x.st.vars) else inB e.n 0 ((x.defs.length : Int) - 1)) && nameOk e.name
def worldOk (x : LW) : Bool := stOk x.st && (decide (x.defs.length ≤ 24) && (decide (x.dict.length ≤ 40) && (!(x.opn && decide (x.defs.length = 0)) && (dwsOk x.opn x.defs && x.dict.all (entOk x)))))
theorem dwsOk_at {op : Bool} {zs : List DDef} {k : Nat} {z : DDef} (hu : zs[k]? = some z) (h : dwOk zs.length k op z = false) : dwsOk op zs = false := by
  unfold dwsOk
  rw [List.all_eq_false]
  exact ⟨k, List.mem_range.2 (List.getElem?_eq_some_iff.1 hu).1, by simp [hu, h]⟩
theorem dwsOk_all {op : Bool} {zs : List DDef} (h : ∀ (k : Nat) (z : DDef), k < zs.length → zs[k]? = some z → dwOk zs.length k op z = true) : dwsOk op zs = true := by
  unfold dwsOk
  rw [List.all_eq_true]
  intro k hk
  rw [List.mem_range] at hk
  rw [List.getElem?_eq_getElem hk]
  exact h k _ hk (List.getElem?_eq_getElem hk)
theorem dw_snoc {op : Bool} {zs : List DDef} {k : Nat} {z : DDef} (h : ∀ (j : Nat) (y : DDef), j < k → zs[j]? = some y → dwOk zs.length j op y = true) (hu : zs[k]? = some z) (hz : dwOk zs.length k op z = true) : ∀ (j : Nat) (y : DDef), j < k + 1 → zs[j]? = some y → dwOk zs.length j op y = true := by
  intro j y hj hy
  rcases Nat.lt_or_ge j k with h1 | h1
  · exact h j y h1 hy
  · obtain rfl : j = k := by omega
    rw [hu] at hy
    cases hy
    exact hz
theorem worldOk_1 {x : LW} (h : stOk x.st = false) : worldOk x = false := by simp [worldOk, h]
theorem worldOk_2 {x : LW} (h : 24 < x.defs.length) : worldOk x = false := by
  have : ¬ x.defs.length ≤ 24 := by omega
  simp [worldOk, this]
theorem worldOk_3 {x : LW} (h : 40 < x.dict.length) : worldOk x = false := by
  have : ¬ x.dict.length ≤ 40 := by omega
  simp [worldOk, this]
theorem worldOk_4 {x : LW} (h : x.opn = true) (h0 : x.defs.length = 0) : worldOk x = false := by simp [worldOk, h, h0]
theorem worldOk_5 {x : LW} (h : dwsOk x.opn x.defs = false) : worldOk x = false := by simp [worldOk, h]
theorem worldOk_6 {x : LW} {k : Nat} {z : LEntry} (hu : x.dict[k]? = some z) (h : entOk x z = false) : worldOk x = false := by
  have : x.dict.all (entOk x) = false := by
    rw [List.all_eq_false]
    exact ⟨z, List.mem_of_getElem? hu, by rw [h]; simp⟩
  simp [worldOk, this]
theorem worldOk_7 {x : LW} (h1 : stOk x.st = true) (h2 : ¬ 24 < x.defs.length) (h3 : ¬ 40 < x.dict.length) (h4 : x.opn = false ∨ x.defs.length ≠ 0) (h5 : dwsOk x.opn x.defs = true) (h6 : ∀ z ∈ x.dict, entOk x z = true) : worldOk x = true := by
  have e2 : x.defs.length ≤ 24 := by omega
  have e3 : x.dict.length ≤ 40 := by omega
  have e6 : x.dict.all (entOk x) = true := List.all_eq_true.2 h6
  unfold worldOk
  rw [h1, h5, e6, decide_eq_true e2, decide_eq_true e3]
  rcases h4 with h | h <;> simp [h]
theorem szEs_mem {zs : List LEntry} {z : LEntry} (h : z ∈ zs) : z.name.size ≤ szEs zs := by
  induction zs with
  | nil => cases h
  | cons a l ih =>
    rw [szEs_cons]
    rcases List.mem_cons.1 h with rfl | h
    · show szE z ≤ _
      omega
    · have := ih h; omega
theorem dwsOk_val {op : Bool} {ys zs : List DDef} (h : ys.map DDef.val = zs.map DDef.val) : dwsOk op ys = dwsOk op zs := by
  have e : ∀ l : List DDef, dwsOk op l = (List.range (l.map DDef.val).length).all fun k => match (l.map DDef.val)[k]? with | some v => dwOk (l.map DDef.val).length k op ⟨v.1, v.2, none, 0⟩ | none => true := fun l => by
    unfold dwsOk
    simp only [List.length_map, List.getElem?_map]
    congr 1
    funext k
    cases l[k]? <;> rfl
  rw [e, e, h]
theorem worldOk_val {x : LW} {ys : List DDef} (h : ys.map DDef.val = x.defs.map DDef.val) : worldOk { x with defs := ys } = worldOk x := by
  have hl : ys.length = x.defs.length := val_len h
  have he : entOk { x with defs := ys } = entOk x := by
    funext e
    simp [entOk, hl]
  unfold worldOk
  rw [he]
  simp only [hl, dwsOk_val h]
theorem l13Has_calls (A : Option Addr) (c : Nat) (xs : List Int) (v : Int) (w : World) (hr : Rd w A (xs.map (Value.int .i64))) (hn : xs.length ≤ 140737488355328) :
    Calls Tryd.prog 62 #[.slice A xs.length c, .int .i64 v] w fun e w' => e = .returned (.bool (decide (v ∈ xs))) ∧ w' = w := by
  have HR := Lib.hid hr
  clear hr
  go_enter Tryd.func62, Tryd.ntmps62
  go_wp2
  go_loopw [5] (fun i wr => ∃ k : Nat, k ≤ xs.length ∧ i = .int .i64 k ∧ wr = w ∧ Hid (∀ y ∈ xs.take k, y ≠ v)) (fun i _ => xs.length - (intOf i).toNat)
  case atStart => exact ⟨0, Nat.zero_le _, rfl, rfl, Lib.hid (by simp)⟩
  case round =>
    obtain ⟨k, hk, rfl, rfl, HK⟩ := hrel
    by_cases hlt : k < xs.length
    · have hu : xs[k]? = some xs[k] := List.getElem?_eq_getElem hlt
      obtain ⟨ad, rfl, hc⟩ := HR.out.at_ (j := k) (u := .int .i64 xs[k]) (by rw [List.getElem?_map, hu]; rfl)
      have HU := Lib.hid hu
      clear hu
      generalize xs[k] = y at hc HU
      have i1 : (k : Int) < (xs.length : Int) := by omega
      by_cases hy : y = v
      · subst hy
        have HF : Hid (decide (y ∈ xs) = true) := Lib.hid (decide_eq_true (List.mem_of_getElem? HU.out))
        go_wp2
        go_ret
        exact ⟨ret_bool HF.out.symm, rfl⟩
      · have hy' : (y == v) = false := by simpa using hy
        have HK2 := Lib.hid (take_all_snoc HK.out HU.out hy)
        clear hy
        go_wp2
        go_roundw
        case rel => exact ⟨k + 1, by omega, by go_num, trivial, HK2⟩
        case measure => simp [intOf]; omega
    · have : k = xs.length := by omega
      subst this
      rw [List.take_of_length_le (Nat.le_refl _)] at HK
      have HF : Hid (decide (v ∈ xs) = false) := Lib.hid (decide_eq_false fun h => HK.out v h rfl)
      go_wp2
      go_ret
      exact ⟨ret_bool HF.out.symm, rfl⟩
theorem dw_1 {n k : Nat} {op : Bool} {z : DDef} (h : ((openI [] z.body).isSome && decide (z.body.length ≤ 60)) = false) : dwOk n k op z = false := by
  unfold dwOk
  cases h1 : (openI [] z.body).isSome
  · simp
  · rw [h1, Bool.true_and] at h
    rw [h]
    simp
theorem dw_2 {n k : Nat} {op : Bool} {z : DDef} (h : nameOk z.name = false) : dwOk n k op z = false := by simp [dwOk, h]
theorem dw_3 {n k : Nat} {op : Bool} {z : DDef} (h : (!(z.body.any (callB n))) = false) : dwOk n k op z = false := by simp only [dwOk, h, Bool.false_and, Bool.and_false]
theorem dw_4 {n k : Nat} {op : Bool} {z : DDef} (h : 0 < openN (openI [] z.body)) (h' : (op && decide (k + 1 = n)) = false) : dwOk n k op z = false := by simp only [dwOk, h', decide_eq_true h, Bool.not_false, Bool.and_true, Bool.not_true, Bool.and_false]
theorem dw_6 {n k : Nat} {op : Bool} {z : DDef} (h : ((openI [] z.body).isSome && decide (z.body.length ≤ 60)) = true) (h1 : nameOk z.name = true) (h3 : (!(z.body.any (callB n))) = true) (h' : (op && decide (k + 1 = n)) = true) : dwOk n k op z = true := by
  rw [Bool.and_eq_true] at h
  simp only [dwOk, h1, h3, h.1, h.2, h', Bool.not_true, Bool.and_false, Bool.not_false, Bool.and_true]
theorem dw_5 {n k : Nat} {op : Bool} {z : DDef} (h : ((openI [] z.body).isSome && decide (z.body.length ≤ 60)) = true) (h1 : nameOk z.name = true) (h3 : (!(z.body.any (callB n))) = true) (h4 : ¬ 0 < openN (openI [] z.body)) : dwOk n k op z = true := by
  rw [Bool.and_eq_true] at h
  simp only [dwOk, h1, h3, h.1, h.2, decide_eq_false h4, Bool.false_and, Bool.not_false, Bool.and_true]
set_option maxRecDepth 100000 in
set_option maxHeartbeats 4000000 in
theorem implWorldOk_calls (x : LW) (v : Value) (w : World) (hA : Asc w) (hv : WK w x v) (hs : x.low) :
    Calls Tryd.prog 22 #[v] w fun e w' => e = .returned (.bool (worldOk x)) ∧ Below w.heap.size w w' := by
  obtain ⟨A, a, B, b, D0, d0, D1, d1, D3, d3, D4, d4, D5, d5, D6, d6, D7, d7, rfl, h1, h2, h3, h4, h5⟩ := hv
  have H1 := Lib.hid h1
  have H2 := Lib.hid h2
  have H3 := Lib.hid h3
  have H5 := Lib.hid h5
  have HS := Lib.hid hs
  have HN3 : Hid (∀ z ∈ x.defs, z.name.size ≤ 1048576 ∧ z.body.length ≤ 1048576) := Lib.hid (defsS_of (by have := hs.defs; omega))
  have HN4 : Hid (∀ z ∈ x.dict, z.name.size ≤ 1048576) := Lib.hid fun z hz => by
    have := szEs_mem hz
    have := hs.dict
    omega
  have h7 : Rd w D5 (x.st.vars.map (Value.int .i64)) := by
    obtain ⟨F0, f0, F1, f1, F3, f3, F4, f4, F5, f5, F6, f6, F7, f7, he, q0, q1, q3, q4, q5, q6, q7, -⟩ := h5
    simp only [Value.agg.injEq, Array.mk.injEq, List.cons.injEq, Value.slice.injEq, and_true, true_and] at he
    obtain ⟨⟨-, -⟩, ⟨-, -⟩, ⟨-, -⟩, ⟨-, -⟩, ⟨rfl, -⟩, -⟩ := he
    exact q5
  have H7 := Lib.hid h7
  have hv7 := hs.st.2.2.2.2.1
  have KA := Lib.hid (blk_new w (.cells #[.slice A x.defs.length a, .slice B x.dict.length b, .slice D0 x.st.data.length d0, .slice D1 x.st.ret.length d1, .int .i32 x.st.a, .slice D3 x.st.mem.length d3, .slice D4 x.st.cells.length d4, .slice D5 x.st.vars.length d5, .slice D6 x.st.out.length d6, .slice D7 x.st.inp.length d7, .int .i64 x.st.fault, .int .i64 x.st.fuel, .bool x.opn, .bool x.yel] 57))
  have HB := Lib.hid (bl_alloc (Below.refl _ w) (.cells #[.slice A x.defs.length a, .slice B x.dict.length b, .slice D0 x.st.data.length d0, .slice D1 x.st.ret.length d1, .int .i32 x.st.a, .slice D3 x.st.mem.length d3, .slice D4 x.st.cells.length d4, .slice D5 x.st.vars.length d5, .slice D6 x.st.out.length d6, .slice D7 x.st.inp.length d7, .int .i64 x.st.fault, .int .i64 x.st.fuel, .bool x.opn, .bool x.yel] 57))
  have HA := Lib.hid (hA.call HB.out)
  clear h1 h2 h3 h4 h5 h7 hs hA
  cases hst : stOk x.st
  · have HF := Lib.hid (worldOk_1 hst)
    go_enter Tryd.func22, Tryd.ntmps22
    go_wp2_with fail
    refine (implStOk_calls x.st _ _ (H5.out.keepB HB.out) (LSt.small_mono HS.out.st (by omega))).mono ?_
    rintro e w1 ⟨rfl, hb⟩
    rw [hst]
    replace KA := Lib.hid (blk_call KA.out hb)
    replace HB := Lib.hid (bl_call HB.out hb)
    replace HA := Lib.hid (HA.out.call hb)
    clear hb
    have cKA := blk_cell KA.out
    have fKA := blk_frozen KA.out
    have zKA := blk_lt KA.out
    go_wp2_with fail
    go_ret
    exact ⟨ret_bool HF.out.symm, HB.out⟩
  by_cases h24 : 24 < x.defs.length
  · have HF := Lib.hid (worldOk_2 h24)
    have d24 : (24 : Int) < (x.defs.length : Int) := by omega
    go_enter Tryd.func22, Tryd.ntmps22
    go_wp2_with fail
    refine (implStOk_calls x.st _ _ (H5.out.keepB HB.out) (LSt.small_mono HS.out.st (by omega))).mono ?_
    rintro e w1 ⟨rfl, hb⟩
    rw [hst]
    replace KA := Lib.hid (blk_call KA.out hb)
    replace HB := Lib.hid (bl_call HB.out hb)
    replace HA := Lib.hid (HA.out.call hb)
    clear hb
    have cKA := blk_cell KA.out
    have fKA := blk_frozen KA.out
    have zKA := blk_lt KA.out
    go_wp2_with fail
    go_ret
    exact ⟨ret_bool HF.out.symm, HB.out⟩
  have d24 : ¬ ((24 : Int) < (x.defs.length : Int)) := by omega
  by_cases h40 : 40 < x.dict.length
  · have HF := Lib.hid (worldOk_3 h40)
    have d40 : (40 : Int) < (x.dict.length : Int) := by omega
    go_enter Tryd.func22, Tryd.ntmps22
    go_wp2_with fail
    refine (implStOk_calls x.st _ _ (H5.out.keepB HB.out) (LSt.small_mono HS.out.st (by omega))).mono ?_
    rintro e w1 ⟨rfl, hb⟩
    rw [hst]
    replace KA := Lib.hid (blk_call KA.out hb)
    replace HB := Lib.hid (bl_call HB.out hb)
    replace HA := Lib.hid (HA.out.call hb)
    clear hb
    have cKA := blk_cell KA.out
    have fKA := blk_frozen KA.out
    have zKA := blk_lt KA.out
    go_wp2_with fail
    go_ret
    exact ⟨ret_bool HF.out.symm, HB.out⟩
  have d40 : ¬ ((40 : Int) < (x.dict.length : Int)) := by omega
  rcases Bool.eq_false_or_eq_true x.opn with ho | ho
  case inr =>
    have HOP : Hid (x.opn = false ∨ x.defs.length ≠ 0) := Lib.hid (.inl ho)
    have HO := Lib.hid ho
    clear ho
    go_enter Tryd.func22, Tryd.ntmps22
    go_wp2_with fail
    refine (implStOk_calls x.st _ _ (H5.out.keepB HB.out) (LSt.small_mono HS.out.st (by omega))).mono ?_
    rintro e w1 ⟨rfl, hb⟩
    rw [hst]
    replace KA := Lib.hid (blk_call KA.out hb)
    replace HB := Lib.hid (bl_call HB.out hb)
    replace HA := Lib.hid (HA.out.call hb)
    clear hb
    have cKA := blk_cell KA.out
    have fKA := blk_frozen KA.out
    have zKA := blk_lt KA.out
    have ho := HO.out
    replace H1 := Lib.hid (H1.out.keepB HB.out)
    replace H2 := Lib.hid (H2.out.call HB.out)
    replace H3 := Lib.hid (H3.out.keepB HB.out)
    replace H7 := Lib.hid (H7.out.keepB HB.out)
    go_wp2
    go_loopw [39] (fun i wr => ∃ k : Nat, k ≤ x.defs.length ∧ i = .int .i64 k ∧ Hid (Below w1.heap.size w1 wr) ∧ Hid (∀ (j : Nat) (y : DDef), j < k → x.defs[j]? = some y → dwOk x.defs.length j x.opn y = true)) (fun i _ => x.defs.length - (intOf i).toNat)
    case atStart => exact ⟨0, Nat.zero_le _, rfl, Lib.hid (Below.refl _ _), Lib.hid (fun j y h => by omega)⟩
    case round =>
      obtain ⟨k, hk, rfl, HW, HK⟩ := hrel
      have KR := Lib.hid (blk_call KA.out HW.out)
      have cKR := blk_cell KR.out
      have fKR := blk_frozen KR.out
      have zKR := blk_lt KR.out
      by_cases hlt : k < x.defs.length
      · have hu : x.defs[k]? = some x.defs[k] := List.getElem?_eq_getElem hlt
        obtain ⟨ad, rfl, hc⟩ := (H1.out.keepB HW.out).el DDef.enc_len hu (by omega)
        have hc0 := hc 0 _ rfl
        have hc1 := hc 1 _ rfl
        rw [Nat.add_zero] at hc0
        rw [add_field _ _ _ (by omega)] at hc1
        have HZk := Lib.hid (H2.out.at_ hu)
        obtain ⟨hzn, hzb⟩ := HN3.out _ (List.getElem_mem hlt)
        have HU := Lib.hid hu
        clear hc hu
        generalize x.defs[k] = z at hc0 hc1 HZk hzn hzb HU
        have i1 : (k : Int) < (x.defs.length : Int) := by omega
        have HBX := Lib.hid (bl_alloc HW.out (.cells #[.string z.name, .slice z.A z.body.length z.c] 106))
        have KZ := Lib.hid (blk_new wr (.cells #[.string z.name, .slice z.A z.body.length z.c] 106))
        cases hopen : ((openI [] z.body).isSome && decide (z.body.length ≤ 60))
        · have HF := Lib.hid (worldOk_5 (x := x) (dwsOk_at HU.out (dw_1 hopen)))
          go_wp2_with (go_at_call 67; (with_reducible refine (openIn_calls z.A z.c z.body _ ?_ ?_ ?_ ?_).mono ?_); exact HA.out.call HBX.out; exact HZk.out.1.keepB HBX.out; exact HZk.out.2.1; omega; rintro e w2 ⟨⟨OB, od, rfl⟩, hb⟩; rw [hopen]; have HB2 := Lib.hid (bl_call HBX.out hb); have KZ2 := Lib.hid (blk_call KZ.out hb); have KR2 := Lib.hid (blk_call (blk_alloc KR.out (.cells #[.string z.name, .slice z.A z.body.length z.c] 106)) hb); clear hb; have cKZ2 := blk_cell KZ2.out; have fKZ2 := blk_frozen KZ2.out; have zKZ2 := blk_lt KZ2.out; have cKR2 := blk_cell KR2.out; have fKR2 := blk_frozen KR2.out; have zKR2 := blk_lt KR2.out)
          go_ret
          exact ⟨ret_bool HF.out.symm, bl_call HB.out HB2.out⟩

        cases h1 : nameOk z.name
        · have HF := Lib.hid (worldOk_5 (x := x) (dwsOk_at HU.out (dw_2 h1)))
          go_wp2_with (first | (go_at_call 67; (with_reducible refine (openIn_calls z.A z.c z.body _ ?_ ?_ ?_ ?_).mono ?_); exact HA.out.call HBX.out; exact HZk.out.1.keepB HBX.out; exact HZk.out.2.1; omega; rintro e w2 ⟨⟨OB, od, rfl⟩, hb⟩; rw [hopen]; have HB2 := Lib.hid (bl_call HBX.out hb); have KZ2 := Lib.hid (blk_call KZ.out hb); have KR2 := Lib.hid (blk_call (blk_alloc KR.out (.cells #[.string z.name, .slice z.A z.body.length z.c] 106)) hb); clear hb; have cKZ2 := blk_cell KZ2.out; have fKZ2 := blk_frozen KZ2.out; have zKZ2 := blk_lt KZ2.out; have cKR2 := blk_cell KR2.out; have fKR2 := blk_frozen KR2.out; have zKR2 := blk_lt KR2.out) | (go_at_call 68; (with_reducible refine (nameOk_calls z.name _ hzn).mono ?_); rintro e w2 ⟨rfl, rfl⟩; rw [h1]))
          go_ret
          exact ⟨ret_bool HF.out.symm, bl_call HB.out HB2.out⟩

        cases h3 : !(z.body.any (callB x.defs.length))
        · have HF := Lib.hid (worldOk_5 (x := x) (dwsOk_at HU.out (dw_3 h3)))
          go_wp2_with (first | (go_at_call 67; (with_reducible refine (openIn_calls z.A z.c z.body _ ?_ ?_ ?_ ?_).mono ?_); exact HA.out.call HBX.out; exact HZk.out.1.keepB HBX.out; exact HZk.out.2.1; omega; rintro e w2 ⟨⟨OB, od, rfl⟩, hb⟩; rw [hopen]; have HB2 := Lib.hid (bl_call HBX.out hb); have KZ2 := Lib.hid (blk_call KZ.out hb); have KR2 := Lib.hid (blk_call (blk_alloc KR.out (.cells #[.string z.name, .slice z.A z.body.length z.c] 106)) hb); clear hb; have cKZ2 := blk_cell KZ2.out; have fKZ2 := blk_frozen KZ2.out; have zKZ2 := blk_lt KZ2.out; have cKR2 := blk_cell KR2.out; have fKR2 := blk_frozen KR2.out; have zKR2 := blk_lt KR2.out) | (go_at_call 68; (with_reducible refine (nameOk_calls z.name _ hzn).mono ?_); rintro e w2 ⟨rfl, rfl⟩; rw [h1]) | (go_at_call 69; (with_reducible refine (callsBelow_calls z.A z.c z.body x.defs.length _ ?_ ?_ ?_).mono ?_); exact HZk.out.1.keepB HB2.out; exact HZk.out.2.1; omega; rintro e w3 ⟨rfl, hb⟩; rw [h3]; have HB3 := Lib.hid (bl_call HB2.out hb); have KZ3 := Lib.hid (blk_call KZ2.out hb); have KR3 := Lib.hid (blk_call KR2.out hb); clear hb; have cKZ3 := blk_cell KZ3.out; have fKZ3 := blk_frozen KZ3.out; have zKZ3 := blk_lt KZ3.out; have cKR3 := blk_cell KR3.out; have fKR3 := blk_frozen KR3.out; have zKR3 := blk_lt KR3.out))
          go_ret
          exact ⟨ret_bool HF.out.symm, bl_call HB.out HB3.out⟩

        by_cases h4 : 0 < openN (openI [] z.body)
        · have h4' : (0 : Int) < ((openN (openI [] z.body) : Nat) : Int) := by omega
          have HF := Lib.hid (worldOk_5 (x := x) (dwsOk_at HU.out (dw_4 h4 (by simp [ho]))))
          go_wp2_with (first | (go_at_call 67; (with_reducible refine (openIn_calls z.A z.c z.body _ ?_ ?_ ?_ ?_).mono ?_); exact HA.out.call HBX.out; exact HZk.out.1.keepB HBX.out; exact HZk.out.2.1; omega; rintro e w2 ⟨⟨OB, od, rfl⟩, hb⟩; rw [hopen]; have HB2 := Lib.hid (bl_call HBX.out hb); have KZ2 := Lib.hid (blk_call KZ.out hb); have KR2 := Lib.hid (blk_call (blk_alloc KR.out (.cells #[.string z.name, .slice z.A z.body.length z.c] 106)) hb); clear hb; have cKZ2 := blk_cell KZ2.out; have fKZ2 := blk_frozen KZ2.out; have zKZ2 := blk_lt KZ2.out; have cKR2 := blk_cell KR2.out; have fKR2 := blk_frozen KR2.out; have zKR2 := blk_lt KR2.out) | (go_at_call 68; (with_reducible refine (nameOk_calls z.name _ hzn).mono ?_); rintro e w2 ⟨rfl, rfl⟩; rw [h1]) | (go_at_call 69; (with_reducible refine (callsBelow_calls z.A z.c z.body x.defs.length _ ?_ ?_ ?_).mono ?_); exact HZk.out.1.keepB HB2.out; exact HZk.out.2.1; omega; rintro e w3 ⟨rfl, hb⟩; rw [h3]; have HB3 := Lib.hid (bl_call HB2.out hb); have KZ3 := Lib.hid (blk_call KZ2.out hb); have KR3 := Lib.hid (blk_call KR2.out hb); clear hb; have cKZ3 := blk_cell KZ3.out; have fKZ3 := blk_frozen KZ3.out; have zKZ3 := blk_lt KZ3.out; have cKR3 := blk_cell KR3.out; have fKR3 := blk_frozen KR3.out; have zKR3 := blk_lt KR3.out))
          go_ret
          exact ⟨ret_bool HF.out.symm, bl_call HB.out HB3.out⟩
        · have h4' : ¬ ((0 : Int) < ((openN (openI [] z.body) : Nat) : Int)) := by omega
          have HK2 := Lib.hid (dw_snoc HK.out HU.out (dw_5 hopen h1 h3 h4))
          go_wp2_with (first | (go_at_call 67; (with_reducible refine (openIn_calls z.A z.c z.body _ ?_ ?_ ?_ ?_).mono ?_); exact HA.out.call HBX.out; exact HZk.out.1.keepB HBX.out; exact HZk.out.2.1; omega; rintro e w2 ⟨⟨OB, od, rfl⟩, hb⟩; rw [hopen]; have HB2 := Lib.hid (bl_call HBX.out hb); have KZ2 := Lib.hid (blk_call KZ.out hb); have KR2 := Lib.hid (blk_call (blk_alloc KR.out (.cells #[.string z.name, .slice z.A z.body.length z.c] 106)) hb); clear hb; have cKZ2 := blk_cell KZ2.out; have fKZ2 := blk_frozen KZ2.out; have zKZ2 := blk_lt KZ2.out; have cKR2 := blk_cell KR2.out; have fKR2 := blk_frozen KR2.out; have zKR2 := blk_lt KR2.out) | (go_at_call 68; (with_reducible refine (nameOk_calls z.name _ hzn).mono ?_); rintro e w2 ⟨rfl, rfl⟩; rw [h1]) | (go_at_call 69; (with_reducible refine (callsBelow_calls z.A z.c z.body x.defs.length _ ?_ ?_ ?_).mono ?_); exact HZk.out.1.keepB HB2.out; exact HZk.out.2.1; omega; rintro e w3 ⟨rfl, hb⟩; rw [h3]; have HB3 := Lib.hid (bl_call HB2.out hb); have KZ3 := Lib.hid (blk_call KZ2.out hb); have KR3 := Lib.hid (blk_call KR2.out hb); clear hb; have cKZ3 := blk_cell KZ3.out; have fKZ3 := blk_frozen KZ3.out; have zKZ3 := blk_lt KZ3.out; have cKR3 := blk_cell KR3.out; have fKR3 := blk_frozen KR3.out; have zKR3 := blk_lt KR3.out))
          go_roundw
          case rel => exact ⟨k + 1, by omega, by go_num, HB3, HK2⟩
          case measure => first | (simp [intOf]; done) | (simp [intOf]; omega)
      · have : k = x.defs.length := by omega
        subst this
        have HDW := Lib.hid (dwsOk_all HK.out)
        have HWS := HW
        clear HK
        go_wp2
        clear cKR fKR zKR KR HW
        go_loopw [89] (fun i wr => ∃ k : Nat, k ≤ x.dict.length ∧ i = .int .i64 k ∧ Hid (Below w1.heap.size w1 wr) ∧ Hid (∀ z ∈ x.dict.take k, entOk x z = true)) (fun i _ => x.dict.length - (intOf i).toNat)
        case atStart => exact ⟨0, Nat.zero_le _, rfl, HWS, Lib.hid (by simp)⟩
        case round =>
          obtain ⟨k, hk, rfl, HW, HK⟩ := hrel
          have KR := Lib.hid (blk_call KA.out HW.out)
          have cKR := blk_cell KR.out
          have fKR := blk_frozen KR.out
          have zKR := blk_lt KR.out
          by_cases hlt : k < x.dict.length
          · have hu : x.dict[k]? = some x.dict[k] := List.getElem?_eq_getElem hlt
            obtain ⟨ad, rfl, hc⟩ := (H3.out.keepB HW.out).el LEntry.enc_len hu (by omega)
            have hc0 := hc 0 _ rfl
            have hc1 := hc 1 _ rfl
            have hc2 := hc 2 _ rfl
            rw [Nat.add_zero] at hc0
            rw [add_field _ _ _ (by omega)] at hc1
            rw [add_field _ _ _ (by omega)] at hc2
            have hzn := HN4.out _ (List.getElem_mem hlt)
            have HU := Lib.hid hu
            clear hc hu
            generalize x.dict[k] = z at hc0 hc1 hc2 hzn HU
            obtain ⟨zn, zv, zx⟩ := z
            simp only at hc0 hc1 hc2 hzn
            have i1 : (k : Int) < (x.dict.length : Int) := by omega
            cases zv
            · have HBX := Lib.hid (bl_alloc HW.out (.cells #[.string zn, .bool false, .int .i64 zx] 99))
              cases hin : inB zx 0 ((x.defs.length : Int) - 1)
              · have HF := Lib.hid (worldOk_6 HU.out (show entOk x ⟨zn, false, zx⟩ = false by simp [entOk, hin]))
                go_wp2_with (go_at_call 70; (with_reducible refine (withinB_calls _ _ _ _).mono ?_); rintro e w2 ⟨rfl, rfl⟩; rw [hin])
                go_ret
                exact ⟨ret_bool HF.out.symm, bl_call HB.out HBX.out⟩

              cases h1 : nameOk zn
              · have HF := Lib.hid (worldOk_6 HU.out (show entOk x ⟨zn, false, zx⟩ = false by simp [entOk, h1]))
                go_wp2_with (first | (go_at_call 70; (with_reducible refine (withinB_calls _ _ _ _).mono ?_); rintro e w2 ⟨rfl, rfl⟩; rw [hin]) | (go_at_call 68; (with_reducible refine (nameOk_calls zn _ hzn).mono ?_); rintro e w2 ⟨rfl, rfl⟩; rw [h1]))
                go_ret
                exact ⟨ret_bool HF.out.symm, bl_call HB.out HBX.out⟩

              · have HK2 := Lib.hid (take_all_snoc HK.out HU.out (show entOk x ⟨zn, false, zx⟩ = true by simp [entOk, hin, h1]))
                go_wp2_with (first | (go_at_call 70; (with_reducible refine (withinB_calls _ _ _ _).mono ?_); rintro e w2 ⟨rfl, rfl⟩; rw [hin]) | (go_at_call 68; (with_reducible refine (nameOk_calls zn _ hzn).mono ?_); rintro e w2 ⟨rfl, rfl⟩; rw [h1]))
                go_roundw
                case rel => exact ⟨k + 1, by omega, by go_num, HBX, HK2⟩
                case measure => first | (simp [intOf]; done) | (simp [intOf]; omega)

            · have HBX := Lib.hid (bl_alloc HW.out (.cells #[.string zn, .bool true, .int .i64 zx] 99))
              cases hin : decide (zx ∈ x.st.vars)
              · have HF := Lib.hid (worldOk_6 HU.out (show entOk x ⟨zn, true, zx⟩ = false by simp [entOk, hin]))
                go_wp2_with (first | (go_at_call 71; (with_reducible refine (containsInts_calls D5 d5 x.st.vars zx _ ?_ ?_).mono ?_); exact H7.out.keepB HBX.out; omega; rintro e w2 ⟨rfl, rfl⟩; rw [hin]) | (go_at_call 70; (with_reducible refine (withinB_calls _ _ _ _).mono ?_); rintro e w2 ⟨rfl, rfl⟩))
                go_ret
                exact ⟨ret_bool HF.out.symm, bl_call HB.out HBX.out⟩

              cases h1 : nameOk zn
              · have HF := Lib.hid (worldOk_6 HU.out (show entOk x ⟨zn, true, zx⟩ = false by simp [entOk, h1]))
                go_wp2_with (first | (go_at_call 71; (with_reducible refine (containsInts_calls D5 d5 x.st.vars zx _ ?_ ?_).mono ?_); exact H7.out.keepB HBX.out; omega; rintro e w2 ⟨rfl, rfl⟩; rw [hin]) | (go_at_call 70; (with_reducible refine (withinB_calls _ _ _ _).mono ?_); rintro e w2 ⟨rfl, rfl⟩) | (go_at_call 68; (with_reducible refine (nameOk_calls zn _ hzn).mono ?_); rintro e w2 ⟨rfl, rfl⟩; rw [h1]))
                go_ret
                exact ⟨ret_bool HF.out.symm, bl_call HB.out HBX.out⟩

              · have HK2 := Lib.hid (take_all_snoc HK.out HU.out (show entOk x ⟨zn, true, zx⟩ = true by simp [entOk, hin, h1]))
                go_wp2_with (first | (go_at_call 71; (with_reducible refine (containsInts_calls D5 d5 x.st.vars zx _ ?_ ?_).mono ?_); exact H7.out.keepB HBX.out; omega; rintro e w2 ⟨rfl, rfl⟩; rw [hin]) | (go_at_call 70; (with_reducible refine (withinB_calls _ _ _ _).mono ?_); rintro e w2 ⟨rfl, rfl⟩) | (go_at_call 68; (with_reducible refine (nameOk_calls zn _ hzn).mono ?_); rintro e w2 ⟨rfl, rfl⟩; rw [h1]))
                go_roundw
                case rel => exact ⟨k + 1, by omega, by go_num, HBX, HK2⟩
                case measure => first | (simp [intOf]; done) | (simp [intOf]; omega)

          · have : k = x.dict.length := by omega
            subst this
            rw [List.take_of_length_le (Nat.le_refl _)] at HK
            have HF := Lib.hid (worldOk_7 (x := x) hst h24 h40 HOP.out HDW.out HK.out)
            go_wp2
            go_ret
            exact ⟨ret_bool HF.out.symm, bl_call HB.out HW.out⟩
  case inl =>
  by_cases h0 : x.defs.length = 0
  · have HF := Lib.hid (worldOk_4 ho h0)
    have dz : ((x.defs.length : Int) == 0) = true := by simp [h0]
    have HO := Lib.hid ho
    clear ho h0
    go_enter Tryd.func22, Tryd.ntmps22
    go_wp2_with fail
    refine (implStOk_calls x.st _ _ (H5.out.keepB HB.out) (LSt.small_mono HS.out.st (by omega))).mono ?_
    rintro e w1 ⟨rfl, hb⟩
    rw [hst]
    replace KA := Lib.hid (blk_call KA.out hb)
    replace HB := Lib.hid (bl_call HB.out hb)
    replace HA := Lib.hid (HA.out.call hb)
    clear hb
    have cKA := blk_cell KA.out
    have fKA := blk_frozen KA.out
    have zKA := blk_lt KA.out
    have ho := HO.out
    go_wp2_with fail
    go_ret
    exact ⟨ret_bool HF.out.symm, HB.out⟩
  · have HOP : Hid (x.opn = false ∨ x.defs.length ≠ 0) := Lib.hid (.inr h0)
    have dz : ((x.defs.length : Int) == 0) = false := by simpa using h0
    have HO := Lib.hid ho
    clear ho
    go_enter Tryd.func22, Tryd.ntmps22
    go_wp2_with fail
    refine (implStOk_calls x.st _ _ (H5.out.keepB HB.out) (LSt.small_mono HS.out.st (by omega))).mono ?_
    rintro e w1 ⟨rfl, hb⟩
    rw [hst]
    replace KA := Lib.hid (blk_call KA.out hb)
    replace HB := Lib.hid (bl_call HB.out hb)
    replace HA := Lib.hid (HA.out.call hb)
    clear hb
    have cKA := blk_cell KA.out
    have fKA := blk_frozen KA.out
    have zKA := blk_lt KA.out
    have ho := HO.out
    replace H1 := Lib.hid (H1.out.keepB HB.out)
    replace H2 := Lib.hid (H2.out.call HB.out)
    replace H3 := Lib.hid (H3.out.keepB HB.out)
    replace H7 := Lib.hid (H7.out.keepB HB.out)
    go_wp2
    go_loopw [39] (fun i wr => ∃ k : Nat, k ≤ x.defs.length ∧ i = .int .i64 k ∧ Hid (Below w1.heap.size w1 wr) ∧ Hid (∀ (j : Nat) (y : DDef), j < k → x.defs[j]? = some y → dwOk x.defs.length j x.opn y = true)) (fun i _ => x.defs.length - (intOf i).toNat)
    case atStart => exact ⟨0, Nat.zero_le _, rfl, Lib.hid (Below.refl _ _), Lib.hid (fun j y h => by omega)⟩
    case round =>
      obtain ⟨k, hk, rfl, HW, HK⟩ := hrel
      have KR := Lib.hid (blk_call KA.out HW.out)
      have cKR := blk_cell KR.out
      have fKR := blk_frozen KR.out
      have zKR := blk_lt KR.out
      by_cases hlt : k < x.defs.length
      · have hu : x.defs[k]? = some x.defs[k] := List.getElem?_eq_getElem hlt
        obtain ⟨ad, rfl, hc⟩ := (H1.out.keepB HW.out).el DDef.enc_len hu (by omega)
        have hc0 := hc 0 _ rfl
        have hc1 := hc 1 _ rfl
        rw [Nat.add_zero] at hc0
        rw [add_field _ _ _ (by omega)] at hc1
        have HZk := Lib.hid (H2.out.at_ hu)
        obtain ⟨hzn, hzb⟩ := HN3.out _ (List.getElem_mem hlt)
        have HU := Lib.hid hu
        clear hc hu
        generalize x.defs[k] = z at hc0 hc1 HZk hzn hzb HU
        have i1 : (k : Int) < (x.defs.length : Int) := by omega
        have HBX := Lib.hid (bl_alloc HW.out (.cells #[.string z.name, .slice z.A z.body.length z.c] 106))
        have KZ := Lib.hid (blk_new wr (.cells #[.string z.name, .slice z.A z.body.length z.c] 106))
        cases hopen : ((openI [] z.body).isSome && decide (z.body.length ≤ 60))
        · have HF := Lib.hid (worldOk_5 (x := x) (dwsOk_at HU.out (dw_1 hopen)))
          go_wp2_with (go_at_call 67; (with_reducible refine (openIn_calls z.A z.c z.body _ ?_ ?_ ?_ ?_).mono ?_); exact HA.out.call HBX.out; exact HZk.out.1.keepB HBX.out; exact HZk.out.2.1; omega; rintro e w2 ⟨⟨OB, od, rfl⟩, hb⟩; rw [hopen]; have HB2 := Lib.hid (bl_call HBX.out hb); have KZ2 := Lib.hid (blk_call KZ.out hb); have KR2 := Lib.hid (blk_call (blk_alloc KR.out (.cells #[.string z.name, .slice z.A z.body.length z.c] 106)) hb); clear hb; have cKZ2 := blk_cell KZ2.out; have fKZ2 := blk_frozen KZ2.out; have zKZ2 := blk_lt KZ2.out; have cKR2 := blk_cell KR2.out; have fKR2 := blk_frozen KR2.out; have zKR2 := blk_lt KR2.out)
          go_ret
          exact ⟨ret_bool HF.out.symm, bl_call HB.out HB2.out⟩

        cases h1 : nameOk z.name
        · have HF := Lib.hid (worldOk_5 (x := x) (dwsOk_at HU.out (dw_2 h1)))
          go_wp2_with (first | (go_at_call 67; (with_reducible refine (openIn_calls z.A z.c z.body _ ?_ ?_ ?_ ?_).mono ?_); exact HA.out.call HBX.out; exact HZk.out.1.keepB HBX.out; exact HZk.out.2.1; omega; rintro e w2 ⟨⟨OB, od, rfl⟩, hb⟩; rw [hopen]; have HB2 := Lib.hid (bl_call HBX.out hb); have KZ2 := Lib.hid (blk_call KZ.out hb); have KR2 := Lib.hid (blk_call (blk_alloc KR.out (.cells #[.string z.name, .slice z.A z.body.length z.c] 106)) hb); clear hb; have cKZ2 := blk_cell KZ2.out; have fKZ2 := blk_frozen KZ2.out; have zKZ2 := blk_lt KZ2.out; have cKR2 := blk_cell KR2.out; have fKR2 := blk_frozen KR2.out; have zKR2 := blk_lt KR2.out) | (go_at_call 68; (with_reducible refine (nameOk_calls z.name _ hzn).mono ?_); rintro e w2 ⟨rfl, rfl⟩; rw [h1]))
          go_ret
          exact ⟨ret_bool HF.out.symm, bl_call HB.out HB2.out⟩

        cases h3 : !(z.body.any (callB x.defs.length))
        · have HF := Lib.hid (worldOk_5 (x := x) (dwsOk_at HU.out (dw_3 h3)))
          go_wp2_with (first | (go_at_call 67; (with_reducible refine (openIn_calls z.A z.c z.body _ ?_ ?_ ?_ ?_).mono ?_); exact HA.out.call HBX.out; exact HZk.out.1.keepB HBX.out; exact HZk.out.2.1; omega; rintro e w2 ⟨⟨OB, od, rfl⟩, hb⟩; rw [hopen]; have HB2 := Lib.hid (bl_call HBX.out hb); have KZ2 := Lib.hid (blk_call KZ.out hb); have KR2 := Lib.hid (blk_call (blk_alloc KR.out (.cells #[.string z.name, .slice z.A z.body.length z.c] 106)) hb); clear hb; have cKZ2 := blk_cell KZ2.out; have fKZ2 := blk_frozen KZ2.out; have zKZ2 := blk_lt KZ2.out; have cKR2 := blk_cell KR2.out; have fKR2 := blk_frozen KR2.out; have zKR2 := blk_lt KR2.out) | (go_at_call 68; (with_reducible refine (nameOk_calls z.name _ hzn).mono ?_); rintro e w2 ⟨rfl, rfl⟩; rw [h1]) | (go_at_call 69; (with_reducible refine (callsBelow_calls z.A z.c z.body x.defs.length _ ?_ ?_ ?_).mono ?_); exact HZk.out.1.keepB HB2.out; exact HZk.out.2.1; omega; rintro e w3 ⟨rfl, hb⟩; rw [h3]; have HB3 := Lib.hid (bl_call HB2.out hb); have KZ3 := Lib.hid (blk_call KZ2.out hb); have KR3 := Lib.hid (blk_call KR2.out hb); clear hb; have cKZ3 := blk_cell KZ3.out; have fKZ3 := blk_frozen KZ3.out; have zKZ3 := blk_lt KZ3.out; have cKR3 := blk_cell KR3.out; have fKR3 := blk_frozen KR3.out; have zKR3 := blk_lt KR3.out))
          go_ret
          exact ⟨ret_bool HF.out.symm, bl_call HB.out HB3.out⟩

        by_cases h4 : 0 < openN (openI [] z.body)
        · have h4' : (0 : Int) < ((openN (openI [] z.body) : Nat) : Int) := by omega
          by_cases h5 : k + 1 = x.defs.length
          · have e5 : ((k : Int) == (x.defs.length : Int) - 1) = true := by simp; omega
            have HK2 := Lib.hid (dw_snoc HK.out HU.out (dw_6 hopen h1 h3 (by simp [ho, h5])))
            go_wp2_with (first | (go_at_call 67; (with_reducible refine (openIn_calls z.A z.c z.body _ ?_ ?_ ?_ ?_).mono ?_); exact HA.out.call HBX.out; exact HZk.out.1.keepB HBX.out; exact HZk.out.2.1; omega; rintro e w2 ⟨⟨OB, od, rfl⟩, hb⟩; rw [hopen]; have HB2 := Lib.hid (bl_call HBX.out hb); have KZ2 := Lib.hid (blk_call KZ.out hb); have KR2 := Lib.hid (blk_call (blk_alloc KR.out (.cells #[.string z.name, .slice z.A z.body.length z.c] 106)) hb); clear hb; have cKZ2 := blk_cell KZ2.out; have fKZ2 := blk_frozen KZ2.out; have zKZ2 := blk_lt KZ2.out; have cKR2 := blk_cell KR2.out; have fKR2 := blk_frozen KR2.out; have zKR2 := blk_lt KR2.out) | (go_at_call 68; (with_reducible refine (nameOk_calls z.name _ hzn).mono ?_); rintro e w2 ⟨rfl, rfl⟩; rw [h1]) | (go_at_call 69; (with_reducible refine (callsBelow_calls z.A z.c z.body x.defs.length _ ?_ ?_ ?_).mono ?_); exact HZk.out.1.keepB HB2.out; exact HZk.out.2.1; omega; rintro e w3 ⟨rfl, hb⟩; rw [h3]; have HB3 := Lib.hid (bl_call HB2.out hb); have KZ3 := Lib.hid (blk_call KZ2.out hb); have KR3 := Lib.hid (blk_call KR2.out hb); clear hb; have cKZ3 := blk_cell KZ3.out; have fKZ3 := blk_frozen KZ3.out; have zKZ3 := blk_lt KZ3.out; have cKR3 := blk_cell KR3.out; have fKR3 := blk_frozen KR3.out; have zKR3 := blk_lt KR3.out))
            go_roundw
            case rel => exact ⟨k + 1, by omega, by go_num, HB3, HK2⟩
            case measure => first | (simp [intOf]; done) | (simp [intOf]; omega)

          · have e5 : ((k : Int) == (x.defs.length : Int) - 1) = false := by simp; omega
            have HF := Lib.hid (worldOk_5 (x := x) (dwsOk_at HU.out (dw_4 h4 (by simp [ho, h5]))))
            go_wp2_with (first | (go_at_call 67; (with_reducible refine (openIn_calls z.A z.c z.body _ ?_ ?_ ?_ ?_).mono ?_); exact HA.out.call HBX.out; exact HZk.out.1.keepB HBX.out; exact HZk.out.2.1; omega; rintro e w2 ⟨⟨OB, od, rfl⟩, hb⟩; rw [hopen]; have HB2 := Lib.hid (bl_call HBX.out hb); have KZ2 := Lib.hid (blk_call KZ.out hb); have KR2 := Lib.hid (blk_call (blk_alloc KR.out (.cells #[.string z.name, .slice z.A z.body.length z.c] 106)) hb); clear hb; have cKZ2 := blk_cell KZ2.out; have fKZ2 := blk_frozen KZ2.out; have zKZ2 := blk_lt KZ2.out; have cKR2 := blk_cell KR2.out; have fKR2 := blk_frozen KR2.out; have zKR2 := blk_lt KR2.out) | (go_at_call 68; (with_reducible refine (nameOk_calls z.name _ hzn).mono ?_); rintro e w2 ⟨rfl, rfl⟩; rw [h1]) | (go_at_call 69; (with_reducible refine (callsBelow_calls z.A z.c z.body x.defs.length _ ?_ ?_ ?_).mono ?_); exact HZk.out.1.keepB HB2.out; exact HZk.out.2.1; omega; rintro e w3 ⟨rfl, hb⟩; rw [h3]; have HB3 := Lib.hid (bl_call HB2.out hb); have KZ3 := Lib.hid (blk_call KZ2.out hb); have KR3 := Lib.hid (blk_call KR2.out hb); clear hb; have cKZ3 := blk_cell KZ3.out; have fKZ3 := blk_frozen KZ3.out; have zKZ3 := blk_lt KZ3.out; have cKR3 := blk_cell KR3.out; have fKR3 := blk_frozen KR3.out; have zKR3 := blk_lt KR3.out))
            go_ret
            exact ⟨ret_bool HF.out.symm, bl_call HB.out HB3.out⟩
        · have h4' : ¬ ((0 : Int) < ((openN (openI [] z.body) : Nat) : Int)) := by omega
          have HK2 := Lib.hid (dw_snoc HK.out HU.out (dw_5 hopen h1 h3 h4))
          go_wp2_with (first | (go_at_call 67; (with_reducible refine (openIn_calls z.A z.c z.body _ ?_ ?_ ?_ ?_).mono ?_); exact HA.out.call HBX.out; exact HZk.out.1.keepB HBX.out; exact HZk.out.2.1; omega; rintro e w2 ⟨⟨OB, od, rfl⟩, hb⟩; rw [hopen]; have HB2 := Lib.hid (bl_call HBX.out hb); have KZ2 := Lib.hid (blk_call KZ.out hb); have KR2 := Lib.hid (blk_call (blk_alloc KR.out (.cells #[.string z.name, .slice z.A z.body.length z.c] 106)) hb); clear hb; have cKZ2 := blk_cell KZ2.out; have fKZ2 := blk_frozen KZ2.out; have zKZ2 := blk_lt KZ2.out; have cKR2 := blk_cell KR2.out; have fKR2 := blk_frozen KR2.out; have zKR2 := blk_lt KR2.out) | (go_at_call 68; (with_reducible refine (nameOk_calls z.name _ hzn).mono ?_); rintro e w2 ⟨rfl, rfl⟩; rw [h1]) | (go_at_call 69; (with_reducible refine (callsBelow_calls z.A z.c z.body x.defs.length _ ?_ ?_ ?_).mono ?_); exact HZk.out.1.keepB HB2.out; exact HZk.out.2.1; omega; rintro e w3 ⟨rfl, hb⟩; rw [h3]; have HB3 := Lib.hid (bl_call HB2.out hb); have KZ3 := Lib.hid (blk_call KZ2.out hb); have KR3 := Lib.hid (blk_call KR2.out hb); clear hb; have cKZ3 := blk_cell KZ3.out; have fKZ3 := blk_frozen KZ3.out; have zKZ3 := blk_lt KZ3.out; have cKR3 := blk_cell KR3.out; have fKR3 := blk_frozen KR3.out; have zKR3 := blk_lt KR3.out))
          go_roundw
          case rel => exact ⟨k + 1, by omega, by go_num, HB3, HK2⟩
          case measure => first | (simp [intOf]; done) | (simp [intOf]; omega)
      · have : k = x.defs.length := by omega
        subst this
        have HDW := Lib.hid (dwsOk_all HK.out)
        have HWS := HW
        clear HK
        go_wp2
        clear cKR fKR zKR KR HW
        go_loopw [89] (fun i wr => ∃ k : Nat, k ≤ x.dict.length ∧ i = .int .i64 k ∧ Hid (Below w1.heap.size w1 wr) ∧ Hid (∀ z ∈ x.dict.take k, entOk x z = true)) (fun i _ => x.dict.length - (intOf i).toNat)
        case atStart => exact ⟨0, Nat.zero_le _, rfl, HWS, Lib.hid (by simp)⟩
        case round =>
          obtain ⟨k, hk, rfl, HW, HK⟩ := hrel
          have KR := Lib.hid (blk_call KA.out HW.out)
          have cKR := blk_cell KR.out
          have fKR := blk_frozen KR.out
          have zKR := blk_lt KR.out
          by_cases hlt : k < x.dict.length
          · have hu : x.dict[k]? = some x.dict[k] := List.getElem?_eq_getElem hlt
            obtain ⟨ad, rfl, hc⟩ := (H3.out.keepB HW.out).el LEntry.enc_len hu (by omega)
            have hc0 := hc 0 _ rfl
            have hc1 := hc 1 _ rfl
            have hc2 := hc 2 _ rfl
            rw [Nat.add_zero] at hc0
            rw [add_field _ _ _ (by omega)] at hc1
            rw [add_field _ _ _ (by omega)] at hc2
            have hzn := HN4.out _ (List.getElem_mem hlt)
            have HU := Lib.hid hu
            clear hc hu
            generalize x.dict[k] = z at hc0 hc1 hc2 hzn HU
            obtain ⟨zn, zv, zx⟩ := z
            simp only at hc0 hc1 hc2 hzn
            have i1 : (k : Int) < (x.dict.length : Int) := by omega
            cases zv
            · have HBX := Lib.hid (bl_alloc HW.out (.cells #[.string zn, .bool false, .int .i64 zx] 99))
              cases hin : inB zx 0 ((x.defs.length : Int) - 1)
              · have HF := Lib.hid (worldOk_6 HU.out (show entOk x ⟨zn, false, zx⟩ = false by simp [entOk, hin]))
                go_wp2_with (go_at_call 70; (with_reducible refine (withinB_calls _ _ _ _).mono ?_); rintro e w2 ⟨rfl, rfl⟩; rw [hin])
                go_ret
                exact ⟨ret_bool HF.out.symm, bl_call HB.out HBX.out⟩

              cases h1 : nameOk zn
              · have HF := Lib.hid (worldOk_6 HU.out (show entOk x ⟨zn, false, zx⟩ = false by simp [entOk, h1]))
                go_wp2_with (first | (go_at_call 70; (with_reducible refine (withinB_calls _ _ _ _).mono ?_); rintro e w2 ⟨rfl, rfl⟩; rw [hin]) | (go_at_call 68; (with_reducible refine (nameOk_calls zn _ hzn).mono ?_); rintro e w2 ⟨rfl, rfl⟩; rw [h1]))
                go_ret
                exact ⟨ret_bool HF.out.symm, bl_call HB.out HBX.out⟩

              · have HK2 := Lib.hid (take_all_snoc HK.out HU.out (show entOk x ⟨zn, false, zx⟩ = true by simp [entOk, hin, h1]))
                go_wp2_with (first | (go_at_call 70; (with_reducible refine (withinB_calls _ _ _ _).mono ?_); rintro e w2 ⟨rfl, rfl⟩; rw [hin]) | (go_at_call 68; (with_reducible refine (nameOk_calls zn _ hzn).mono ?_); rintro e w2 ⟨rfl, rfl⟩; rw [h1]))
                go_roundw
                case rel => exact ⟨k + 1, by omega, by go_num, HBX, HK2⟩
                case measure => first | (simp [intOf]; done) | (simp [intOf]; omega)

            · have HBX := Lib.hid (bl_alloc HW.out (.cells #[.string zn, .bool true, .int .i64 zx] 99))
              cases hin : decide (zx ∈ x.st.vars)
              · have HF := Lib.hid (worldOk_6 HU.out (show entOk x ⟨zn, true, zx⟩ = false by simp [entOk, hin]))
                go_wp2_with (first | (go_at_call 71; (with_reducible refine (containsInts_calls D5 d5 x.st.vars zx _ ?_ ?_).mono ?_); exact H7.out.keepB HBX.out; omega; rintro e w2 ⟨rfl, rfl⟩; rw [hin]) | (go_at_call 70; (with_reducible refine (withinB_calls _ _ _ _).mono ?_); rintro e w2 ⟨rfl, rfl⟩))
                go_ret
                exact ⟨ret_bool HF.out.symm, bl_call HB.out HBX.out⟩

              cases h1 : nameOk zn
              · have HF := Lib.hid (worldOk_6 HU.out (show entOk x ⟨zn, true, zx⟩ = false by simp [entOk, h1]))
                go_wp2_with (first | (go_at_call 71; (with_reducible refine (containsInts_calls D5 d5 x.st.vars zx _ ?_ ?_).mono ?_); exact H7.out.keepB HBX.out; omega; rintro e w2 ⟨rfl, rfl⟩; rw [hin]) | (go_at_call 70; (with_reducible refine (withinB_calls _ _ _ _).mono ?_); rintro e w2 ⟨rfl, rfl⟩) | (go_at_call 68; (with_reducible refine (nameOk_calls zn _ hzn).mono ?_); rintro e w2 ⟨rfl, rfl⟩; rw [h1]))
                go_ret
                exact ⟨ret_bool HF.out.symm, bl_call HB.out HBX.out⟩

              · have HK2 := Lib.hid (take_all_snoc HK.out HU.out (show entOk x ⟨zn, true, zx⟩ = true by simp [entOk, hin, h1]))
                go_wp2_with (first | (go_at_call 71; (with_reducible refine (containsInts_calls D5 d5 x.st.vars zx _ ?_ ?_).mono ?_); exact H7.out.keepB HBX.out; omega; rintro e w2 ⟨rfl, rfl⟩; rw [hin]) | (go_at_call 70; (with_reducible refine (withinB_calls _ _ _ _).mono ?_); rintro e w2 ⟨rfl, rfl⟩) | (go_at_call 68; (with_reducible refine (nameOk_calls zn _ hzn).mono ?_); rintro e w2 ⟨rfl, rfl⟩; rw [h1]))
                go_roundw
                case rel => exact ⟨k + 1, by omega, by go_num, HBX, HK2⟩
                case measure => first | (simp [intOf]; done) | (simp [intOf]; omega)

          · have : k = x.dict.length := by omega
            subst this
            rw [List.take_of_length_le (Nat.le_refl _)] at HK
            have HF := Lib.hid (worldOk_7 (x := x) hst h24 h40 HOP.out HDW.out HK.out)
            go_wp2
            go_ret
            exact ⟨ret_bool HF.out.symm, bl_call HB.out HW.out⟩
end Go.Proofs.YtjciibhaifabjaaDoor

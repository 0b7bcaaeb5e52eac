/- The listing of code: contracts of Listing, the program's and the reference's. -/
import Derived.Test.YtfmmfgjelaekhaaDoorIt
import Derived.Test.YtfmmfgjelaekhaaDoorBu
import Derived.Laws.IdiomStrings
set_option linter.unusedVariables false
set_option linter.unusedSimpArgs false
namespace Go.Proofs.YtfmmfgjelaekhaaDoor
open Go.RowKit Go.Sort

/-- One line. -/
def lineT (k : Nat) (i : LIns) : ByteArray := decT (k : Int) ++ ⟨#[32]⟩ ++ insText i ++ ⟨#[10]⟩
def listL (xs : List LIns) : List UInt8 := xs.zipIdx.flatMap fun p => (lineT p.2 p.1).data.toList
theorem listL_snoc {xs : List LIns} {k : Nat} {x : LIns} (h : xs[k]? = some x) : listL (xs.take (k + 1)) = listL (xs.take k) ++ (lineT k x).data.toList := by
  have hk := (List.getElem?_eq_some_iff.1 h).1
  rw [List.take_add_one, h]
  simp only [listL, Option.toList_some, List.zipIdx_append, List.flatMap_append]
  congr 1
  simp [Nat.min_eq_left (Nat.le_of_lt hk)]
def listT (xs : List LIns) : ByteArray := if codeOk xs = true then ⟨(listL xs).toArray⟩ else ⟨#[]⟩
theorem listT_no {xs : List LIns} (h : codeOk xs = false) : listT xs = ⟨#[]⟩ := by rw [listT, if_neg (by rw [h]; simp)]
theorem listT_yes {xs : List LIns} (h : codeOk xs = true) : listT xs = ⟨(listL xs).toArray⟩ := by rw [listT, if_pos h]
theorem codeOk_len {xs : List LIns} (h : codeOk xs = true) : 1 ≤ xs.length ∧ xs.length ≤ 1500 := by
  simp only [codeOk, Bool.and_eq_true] at h
  have := inB_iff.1 h.1
  omega
theorem insText_size (i : LIns) (h0 : -9223372036854775808 ≤ i.n) (h1 : i.n ≤ 9223372036854775807) : (insText i).size ≤ 40 := by
  have hd := decT_size h0 h1
  have hp := primName_size i.n
  have hw : ∀ o : Int, (opWd o).size ≤ 12 := fun o => by (unfold opWd; repeat' (first | decide | split))
  have hs : ∀ o : Int, (opSp o).size ≤ 12 := fun o => by (unfold opSp; repeat' (first | decide | split))
  have := hw i.op
  have := hs i.op
  have := hs 1
  unfold insText
  split
  · omega
  · split
    · split
      · rw [ByteArray.size_append]; omega
      · decide
    · split
      · rw [ByteArray.size_append]; omega
      · decide
theorem isb_call {T e : TypeId} {B b : Nat} {bs : List Value} {w w1 : World} (h : Lib.IsBuilder T e B b bs w) (hb : Below w.heap.size w w1) : Lib.IsBuilder T e B b bs w1 := by
  rcases h with ⟨hB, v, hbk, hown, hne⟩ | ⟨hB, v, hbk, hown, hne⟩
  · refine .inl ⟨hB, v, blk_call hbk hb, ⟨hown.1, ?_⟩, hne⟩
    rcases hown.2 with h0 | ⟨g, cap, cur, hv, hg, hc, r⟩
    · exact .inl h0
    · exact .inr ⟨g, cap, cur, hv, hg, blk_call hc hb, r⟩
  · refine .inr ⟨hB, v, blk_call hbk hb, ⟨hown.1, ?_⟩, hne⟩
    rcases hown.2 with h0 | ⟨g, cap, cur, hv, hg, hc, r⟩
    · exact .inl h0
    · exact .inr ⟨g, cap, cur, hv, hg, blk_call hc hb, r⟩
theorem isb_lt {T e : TypeId} {B b : Nat} {bs : List Value} {w : World} (h : Lib.IsBuilder T e B b bs w) : b < w.heap.size := by
  rcases h with h | h
  · exact h.lt
  · exact h.lt
set_option maxRecDepth 100000 in
set_option maxHeartbeats 2000000 in
theorem listing_calls (A : Option Addr) (c : Nat) (xs : List LIns) (w : World) (hA : Asc w) (hP : Pow w) (hr : Rd w A (xs.flatMap LIns.enc)) (hx : ∀ x ∈ xs, -9223372036854775808 ≤ x.n ∧ x.n ≤ 9223372036854775807) (hn : xs.length ≤ 140737488355328) :
    Calls Tryd.prog 56 #[.slice A xs.length c] w fun e w' => e = .returned (.string (listT xs)) ∧ Below w.heap.size w w' := by
  have HA := Lib.hid hA
  have HP := Lib.hid hP
  have HR := Lib.hid hr
  have HX := Lib.hid hx
  clear hA hP hr hx
  cases hok : codeOk xs
  · have HF := Lib.hid (listT_no hok)
    go_enter Tryd.func56, Tryd.ntmps56
    go_wp2_with (go_at_call 24; (with_reducible refine (codeOk_calls A c xs _ ?_ ?_ hn).mono ?_); exact HA.out; exact HR.out; rintro e w1 ⟨rfl, hb⟩; have HB := Lib.hid hb; clear hb; rw [hok])
    go_ret
    exact ⟨by rw [HF.out]; rfl, HB.out⟩
  have HF := Lib.hid (listT_yes hok)
  have hlen := codeOk_len hok
  go_enter Tryd.func56, Tryd.ntmps56
  go_wp2_with (go_at_call 24; (with_reducible refine (codeOk_calls A c xs _ ?_ ?_ hn).mono ?_); exact HA.out; exact HR.out; rintro e w1 ⟨rfl, hb⟩; have HB := Lib.hid hb; clear hb; rw [hok])
  have hB1 := HB.out.size
  go_loopw [11] (fun i wr => ∃ k : Nat, k ≤ xs.length ∧ i = .int .i64 k ∧ Hid (Lib.IsBuilder 130 5 w1.heap.size w1.heap.size (Lib.byteCells (listL (xs.take k))) wr) ∧ (listL (xs.take k)).length ≤ 80 * k ∧ Hid (Below w.heap.size w wr)) (fun i _ => xs.length - (intOf i).toNat)
  case atStart => exact ⟨0, Nat.zero_le _, rfl, Lib.hid (Lib.fresh_isBuilder _ _ _), by simp [listL], Lib.hid (bl_alloc HB.out _)⟩
  case round =>
    obtain ⟨k, hk, rfl, HI, hsz, HW⟩ := hrel
    by_cases hlt : k < xs.length
    · have hu : xs[k]? = some xs[k] := List.getElem?_eq_getElem hlt
      obtain ⟨ad, rfl, hc⟩ := (HR.out.keepB HW.out).el LIns.enc_len hu (by omega)
      have hc0 := hc 0 _ rfl
      have hc1 := hc 1 _ rfl
      rw [Nat.add_zero] at hc0
      rw [add_field _ _ _ (by omega)] at hc1
      have hxx := HX.out _ (List.getElem_mem hlt)
      have HS := Lib.hid (listL_snoc hu)
      clear hc hu
      generalize xs[k] = x at hc0 hc1 hxx HS
      obtain ⟨op, n⟩ := x
      obtain ⟨n0, n1⟩ := hxx
      simp only at n0 n1
      have i1 : (k : Int) < (xs.length : Int) := by omega
      have hds := decT_size (n := (k : Int)) (by omega) (by omega)
      have his := insText_size ⟨op, n⟩ n0 n1
      obtain ⟨D, hD⟩ : ∃ D, decT (k : Int) = D := ⟨_, rfl⟩
      obtain ⟨I, hI⟩ : ∃ I, insText ⟨op, n⟩ = I := ⟨_, rfl⟩
      rw [hD] at hds
      rw [hI] at his
      have HL : Hid (lineT k ⟨op, n⟩ = D ++ ⟨#[32]⟩ ++ I ++ ⟨#[10]⟩) := Lib.hid (by rw [lineT, hD, hI])
      have HDT := Lib.hid (fun w hP => decText_calls (k : Int) (by omega) (by omega) w hP)
      have HIT := Lib.hid (fun w hA hP => insText_calls op n w hA hP n0 n1)
      rw [hD] at HDT
      rw [hI] at HIT
      clear hD hI
      have m1 : ¬ 9223372036854775807 < D.size + 1 := by omega
      have m2 : ¬ 9223372036854775807 < D.size + 1 + I.size := by omega
      have m3 : ¬ 9223372036854775807 < D.size + 1 + I.size + 1 := by omega
      go_wp2_with fail
      obtain ⟨W5, hW5⟩ : ∃ W, wr.alloc (.cells #[.int .i64 op, .int .i64 n] 65) = W := ⟨_, rfl⟩
      have HK := Lib.hid (Bx.one wr #[.int .i64 op, .int .i64 n] 65)
      have HB5 := Lib.hid (bl_alloc HW.out (.cells #[.int .i64 op, .int .i64 n] 65))
      have HI5 := Lib.hid (isb_call HI.out (bl_alloc (Below.refl _ _) (.cells #[.int .i64 op, .int .i64 n] 65)))
      rw [hW5] at HK HB5 HI5 ⊢
      clear hW5 hc0 hc1
      obtain ⟨k0, -⟩ := HK.out
      have c0 := blk_cell k0
      have g0 := fun d os => cell_regrown (c0 0) d os
      have g1 := fun d os => cell_regrown (c0 1) d os
      have cD : ∀ d os, Calls Tryd.prog 100 #[.int .i64 (k : Int)] (grow (redrawn W5 d) os) fun e w'' => e = .returned (.string D) ∧ ∃ p : Regrown, w'' = grow (redrawn W5 p.d) p.os := fun d os => Calls.regrown_of (HDT.out _ ((HP.out.call HB5.out).call (below_regrown W5 d os)))
      have cI : ∀ d os, Calls Tryd.prog 49 #[.agg #[.int .i64 op, .int .i64 n]] (grow (redrawn W5 d) os) fun e w'' => e = .returned (.string I) ∧ ∃ p : Regrown, w'' = grow (redrawn W5 p.d) p.os := fun d os => Calls.regrown_of (HIT.out _ ((HA.out.call HB5.out).call (below_regrown W5 d os)) ((HP.out.call HB5.out).call (below_regrown W5 d os)))
      have TD := Lib.hid cD
      have TI := Lib.hid cI
      clear cD cI k0 c0
      refine wp_region_below_tail 7 (by kernel_rfl) (by kernel_rfl) ?_
      simp only [List.take_succ_cons, List.take_zero, List.drop_succ_cons, List.drop_zero]
      repeat (quiet_step (first | exact TD.out _ _ | exact TI.out _ _))
      refine wpQuiet_nil ?_
      intro w6 hw'
      obtain ⟨⟨dq, osq⟩, hw''⟩ := hw'
      have hb : Below W5.heap.size W5 w6 := by rw [hw'']; exact below_regrown W5 dq osq
      have HB6 := Lib.hid (bl_call HB5.out hb)
      have HI6 := Lib.hid (isb_call HI5.out hb)
      clear hw'' g0 g1 hb
      have HE : Hid (Lib.byteCells (listL (xs.take k)) ++ Lib.strCells (D ++ ⟨#[32]⟩ ++ I ++ ⟨#[10]⟩) = Lib.byteCells (listL (xs.take (k + 1)))) := Lib.hid (by
        rw [HS.out, HL.out]
        simp only [Lib.byteCells, Lib.strCells, List.map_append])
      have HZ : Hid ((listL (xs.take (k + 1))).length ≤ 80 * (k + 1)) := Lib.hid (by
        rw [HS.out, HL.out, List.length_append]
        have : (D ++ ⟨#[32]⟩ ++ I ++ ⟨#[10]⟩ : ByteArray).data.toList.length = (D ++ ⟨#[32]⟩ ++ I ++ ⟨#[10]⟩ : ByteArray).size := Array.length_toList
        rw [this, ByteArray.size_append, ByteArray.size_append, ByteArray.size_append, show (⟨#[32]⟩ : ByteArray).size = 1 from rfl, show (⟨#[10]⟩ : ByteArray).size = 1 from rfl]
        omega)
      have hL1 : (Lib.byteCells (listL (xs.take k))).length = (listL (xs.take k)).length := by simp [Lib.byteCells]
      have hL2 : (D ++ ⟨#[32]⟩ ++ I ++ ⟨#[10]⟩ : ByteArray).size ≤ 62 := by
        rw [ByteArray.size_append, ByteArray.size_append, ByteArray.size_append, show (⟨#[32]⟩ : ByteArray).size = 1 from rfl, show (⟨#[10]⟩ : ByteArray).size = 1 from rfl]
        omega
      go_wp2_with fail
      refine (writeString_calls w1.heap.size w1.heap.size _ _ _ HI6.out (by rw [hL1]; omega) (Nat.le_of_lt (isb_lt HI6.out))).mono ?_
      rintro e w7 ⟨rfl, hI7, hb⟩
      rw [HE.out] at hI7
      have HI7 := Lib.hid hI7
      have HB7 := Lib.hid (Below.tr' HB6.out hb hB1)
      clear hI7 hb
      go_wp2_with fail
      go_roundw
      case rel => exact ⟨k + 1, by omega, by go_num, HI7, HZ.out, HB7⟩
      case measure => simp [intOf]; omega
    · have : k = xs.length := by omega
      subst this
      rw [List.take_of_length_le (Nat.le_refl _)] at HI
      go_wp2_with fail
      refine (Tryd.Builder_String_any w1.heap.size w1.heap.size (listL xs) wr HI.out (Nat.le_of_lt (isb_lt HI.out))).mono ?_
      rintro e w7 ⟨rfl, hb⟩
      have HB7 := Lib.hid (Below.tr' HW.out hb hB1)
      clear hb
      go_wp2_with fail
      go_ret
      exact ⟨by rw [HF.out]; rfl, HB7.out⟩
theorem own_call {w w1 : World} {B : Nat} {e : TypeId} {v : Value} {n : Nat} {cs : List Value} (h : w.ownsRow B e 1 v n cs) (hb : Below w.heap.size w w1) : w1.ownsRow B e 1 v n cs := by
  refine ⟨h.1, ?_⟩
  rcases h.2 with h0 | ⟨g, cap, cur, hv, hg, hc, r⟩
  · exact .inl h0
  · exact .inr ⟨g, cap, cur, hv, hg, blk_call hc hb, r⟩
theorem own_text {w : World} {B : Nat} {l : List UInt8} {v : Value} (h : w.ownsRow B 5 1 v l.length (Lib.byteCells l)) (h0 : 0 < l.length) : (convert 22 9 v).run Tryd.prog w = .ok (.string ⟨l.toArray⟩) w := by
  rcases h.2 with ⟨_, h1⟩ | ⟨g, cap, cur, rfl, _, hc, _, _, _, ht⟩
  · omega
  · refine run_convert_bytes_back (P := Tryd.prog) w 22 9 5 ⟨g, 0, none⟩ cap l Tryd.underlying22 Tryd.underlying5 Tryd.underlying9 fun j hj => ?_
    rw [add_plain, blk_cell hc]
    have h2 : (Lib.byteCells l)[j]? = some (.int .u8 (l[j].toNat : Int)) := by simp [Lib.byteCells, hj]
    rw [← ht, List.getElem?_take] at h2
    split at h2
    · simpa using h2
    · cases h2
set_option maxRecDepth 100000 in
set_option maxHeartbeats 2000000 in
theorem specListing_calls (A : Option Addr) (c : Nat) (xs : List LIns) (w : World) (hr : Rd w A (xs.flatMap LIns.enc)) (hx : ∀ x ∈ xs, -9223372036854775808 ≤ x.n ∧ x.n ≤ 9223372036854775807) (hn : xs.length ≤ 140737488355328) :
    Calls Tryd.prog 55 #[.slice A xs.length c] w fun e w' => e = .returned (.string (listT xs)) ∧ Below w.heap.size w w' := by
  have HR := Lib.hid hr
  have HX := Lib.hid hx
  clear hr hx
  obtain ⟨i0, hi, hz0, hz1, hz2⟩ := info_parts info_u8
  cases hok : codeOk xs
  · have HF := Lib.hid (listT_no hok)
    go_enter Tryd.func55, Tryd.ntmps55
    go_wp2_with (go_at_call 22; (with_reducible refine (specCodeOk_calls A c xs _ ?_ hn).mono ?_); exact HR.out; rintro e w1 ⟨rfl, hb⟩; have HB := Lib.hid hb; clear hb; rw [hok])
    go_ret
    exact ⟨by rw [HF.out]; rfl, HB.out⟩
  have HF := Lib.hid (listT_yes hok)
  have hlen := codeOk_len hok
  go_enter Tryd.func55, Tryd.ntmps55
  go_wp2_with (go_at_call 22; (with_reducible refine (specCodeOk_calls A c xs _ ?_ hn).mono ?_); exact HR.out; rintro e w1 ⟨rfl, hb⟩; have HB := Lib.hid hb; clear hb; rw [hok])
  have hB1 := HB.out.size
  go_loopw [3, 4] (fun v i wr => ∃ (k n : Nat), k ≤ xs.length ∧ i = .int .i64 k ∧ Hid (wr.ownsRow w.heap.size 5 1 v n (Lib.byteCells (listL (xs.take k)))) ∧ n = (listL (xs.take k)).length ∧ k ≤ n ∧ n ≤ 80 * k ∧ Hid (Below w.heap.size w wr)) (fun _ i _ => xs.length - (intOf i).toNat)
  case atStart => exact ⟨0, 0, Nat.zero_le _, rfl, Lib.hid ⟨rfl, .inr ⟨w1.heap.size, 0, #[], rfl, hB1, blk_new _ _, Nat.le_refl _, Nat.zero_le _, rfl, rfl⟩⟩, by simp [listL], Nat.le_refl _, Nat.zero_le _, Lib.hid (bl_alloc HB.out _)⟩
  case round =>
    obtain ⟨k, m, hk, rfl, HI, hsz, hk0, hm80, HW⟩ := hrel
    by_cases hlt : k < xs.length
    · have hu : xs[k]? = some xs[k] := List.getElem?_eq_getElem hlt
      obtain ⟨ad, rfl, hc⟩ := (HR.out.keepB HW.out).el LIns.enc_len hu (by omega)
      have hc0 := hc 0 _ rfl
      have hc1 := hc 1 _ rfl
      rw [Nat.add_zero] at hc0
      rw [add_field _ _ _ (by omega)] at hc1
      have hxx := HX.out _ (List.getElem_mem hlt)
      have HS := Lib.hid (listL_snoc hu)
      clear hc hu
      generalize xs[k] = x at hc0 hc1 hxx HS
      obtain ⟨op, n⟩ := x
      obtain ⟨n0, n1⟩ := hxx
      simp only at n0 n1
      have i1 : (k : Int) < (xs.length : Int) := by omega
      have hds := decT_size (n := (k : Int)) (by omega) (by omega)
      have his := insText_size ⟨op, n⟩ n0 n1
      obtain ⟨D, hD⟩ : ∃ D, decT (k : Int) = D := ⟨_, rfl⟩
      obtain ⟨I, hI⟩ : ∃ I, insText ⟨op, n⟩ = I := ⟨_, rfl⟩
      rw [hD] at hds
      rw [hI] at his
      have HL : Hid (lineT k ⟨op, n⟩ = D ++ ⟨#[32]⟩ ++ I ++ ⟨#[10]⟩) := Lib.hid (by rw [lineT, hD, hI])
      have HDT := Lib.hid (fun w => specDecText_calls (k : Int) (by omega) (by omega) w)
      have HIT := Lib.hid (fun w => specInsText_calls op n w n0 n1)
      rw [hD] at HDT
      rw [hI] at HIT
      clear hD hI
      have m1 : ¬ 9223372036854775807 < D.size + 1 := by omega
      have m2 : ¬ 9223372036854775807 < D.size + 1 + I.size := by omega
      have m3 : ¬ 9223372036854775807 < D.size + 1 + I.size + 1 := by omega
      have i0' : (0 : Int) ≤ (k : Int) := by omega
      go_wp2_with fail
      have g0 := fun d os => cell_regrown hc0 d os
      have g1 := fun d os => cell_regrown hc1 d os
      have cD : ∀ d os, Calls Tryd.prog 99 #[.int .i64 (k : Int)] (grow (redrawn wr d) os) fun e w'' => e = .returned (.string D) ∧ ∃ p : Regrown, w'' = grow (redrawn wr p.d) p.os := fun d os => (HDT.out _).mono (fun e w' ⟨h1, h2⟩ => ⟨h1, ⟨⟨d, os⟩, h2⟩⟩)
      have cI : ∀ d os, Calls Tryd.prog 47 #[.agg #[.int .i64 op, .int .i64 n]] (grow (redrawn wr d) os) fun e w'' => e = .returned (.string I) ∧ ∃ p : Regrown, w'' = grow (redrawn wr p.d) p.os := fun d os => Calls.regrown_of (HIT.out _)
      have TD := Lib.hid cD
      have TI := Lib.hid cI
      clear cD cI hc0 hc1
      refine wp_region_below_tail 11 (by kernel_rfl) (by kernel_rfl) ?_
      simp only [List.take_succ_cons, List.take_zero, List.drop_succ_cons, List.drop_zero]
      repeat (quiet_step (first | exact TD.out _ _ | exact TI.out _ _))
      refine wpQuiet_nil ?_
      intro w6 hw'
      obtain ⟨⟨dq, osq⟩, hw''⟩ := hw'
      have hb : Below wr.heap.size wr w6 := by rw [hw'']; exact below_regrown wr dq osq
      have HB6 := Lib.hid (bl_call HW.out hb)
      have HI6 := Lib.hid (own_call HI.out hb)
      clear hw'' g0 g1 hb
      have HE : Hid (Lib.byteCells (listL (xs.take k)) ++ Lib.strCells (D ++ ⟨#[32]⟩ ++ I ++ ⟨#[10]⟩) = Lib.byteCells (listL (xs.take (k + 1)))) := Lib.hid (by
        rw [HS.out, HL.out]
        simp only [Lib.byteCells, Lib.strCells, List.map_append])
      have hL2 : (D ++ ⟨#[32]⟩ ++ I ++ ⟨#[10]⟩ : ByteArray).size ≤ 62 ∧ 1 ≤ (D ++ ⟨#[32]⟩ ++ I ++ ⟨#[10]⟩ : ByteArray).size := by
        rw [ByteArray.size_append, ByteArray.size_append, ByteArray.size_append, show (⟨#[32]⟩ : ByteArray).size = 1 from rfl, show (⟨#[10]⟩ : ByteArray).size = 1 from rfl]
        omega
      have HZ : Hid (m + (D ++ ⟨#[32]⟩ ++ I ++ ⟨#[10]⟩ : ByteArray).size = (listL (xs.take (k + 1))).length) := Lib.hid (by
        rw [HS.out, HL.out, List.length_append, hsz]
        congr 1)
      have hw6 := HB6.out.size
      generalize (D ++ ⟨#[32]⟩ ++ I ++ ⟨#[10]⟩ : ByteArray) = T at HE hL2 HZ ⊢
      go_wp2_with (at_builtin; refine Lib.wpList_append_own_string _ rfl _ _ 22 9 rfl w.heap.size 5 i0 Tryd.underlying22 Tryd.underlying9 hi hz0 hz1 hz2 _ _ _ rfl HI6.out T rfl ?c3 ?c4 ?c5 ?_)
      case c3 => unfold maxLen; omega
      case c4 => omega
      case c5 => exact hw6
      intro v' w7 hown' hgrow _
      rw [HE.out] at hown'
      have HI7 := Lib.hid hown'
      have HB7 := Lib.hid (Below.grown HB6.out hgrow hw6 (fun g hg => (HI6.out.lt g hg).1))
      clear hown' hgrow
      go_wp2_with fail
      go_roundw
      case rel => exact ⟨k + 1, _, by omega, by go_num, HI7, by rw [← hsz]; exact HZ.out, by omega, by omega, HB7⟩
      case measure => simp [intOf]; omega
    · have : k = xs.length := by omega
      subst this
      rw [List.take_of_length_le (Nat.le_refl _)] at HI hsz
      subst hsz
      have hcv := own_text HI.out (by omega)
      go_wp2
      go_ret
      exact ⟨by rw [HF.out]; rfl, HW.out⟩
end Go.Proofs.YtfmmfgjelaekhaaDoor

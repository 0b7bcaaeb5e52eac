/- Rows of strings; Known. -/
import Derived.Test.YtjciibhaifabjaaDoorWs
set_option linter.unusedVariables false
set_option linter.unusedSimpArgs false
namespace Go.Proofs.YtjciibhaifabjaaDoor
open Go.RowKit

theorem info_Str : (Tryd.prog.info? 9).map (fun i => (i.zero, i.size, i.bytes)) = some (some (.string ByteArray.empty), 1, 16) := by kernel_rfl
def memB (x : ByteArray) (xs : List ByteArray) : Bool := xs.any fun y => decide (y = x)
theorem memB_iff {x : ByteArray} {xs : List ByteArray} : memB x xs = true ↔ x ∈ xs := by
  unfold memB
  rw [List.any_eq_true]
  constructor
  · rintro ⟨y, hy, h⟩
    rw [decide_eq_true_eq] at h
    exact h ▸ hy
  · exact fun h => ⟨x, h, decide_eq_true rfl⟩
set_option maxRecDepth 100000 in
set_option maxHeartbeats 400000 in
theorem indexStr_calls (A : Option Addr) (c : Nat) (xs : List ByteArray) (x : ByteArray) (w : World) (hA : Rd w A (xs.map Value.string)) (hn : xs.length ≤ 140737488355328) :
    Calls Tryd.prog 108 #[.slice A xs.length c, .string x] w fun e w' => e = .returned (.int .i64 (ixL x xs 0)) ∧ w = w' := by
  go_enter Tryd.func108, Tryd.ntmps108
  go_wp2
  go_loop [8] (fun i => ∃ k : Nat, k ≤ xs.length ∧ i = .int .i64 k ∧ Hid (∀ y ∈ xs.take k, y ≠ x)) (fun i => xs.length - (intOf i).toNat)
  case atStart => exact ⟨0, Nat.zero_le _, rfl, Lib.hid (by simp)⟩
  case round =>
    obtain ⟨k, hk, rfl, HK⟩ := hrel
    by_cases hlt : k < xs.length
    · have hu : (xs.map Value.string)[k]? = some (.string xs[k]) := by simp [hlt]
      have hu' : xs[k]? = some xs[k] := List.getElem?_eq_getElem hlt
      obtain ⟨ad, rfl, hc⟩ := hA.at_ hu
      have HU := Lib.hid hu'
      clear hu hu'
      generalize xs[k] = y at hc HU
      have i1 : (k : Int) < (xs.length : Int) := by omega
      by_cases he : y = x
      · have HF := Lib.hid (ixL_at (k := 0) (HU.out.trans (by rw [he])) HK.out)
        subst he
        go_wp2
        go_ret
        exact ⟨ret_int (by rw [HF.out]; omega), rfl⟩
      · have hd : (x.toList == y.toList) = false := by
          rw [beq_eq_false_iff_ne]
          exact fun h => he (bytes_inj h).symm
        have HK2 := Lib.hid (take_all_snoc HK.out HU.out he)
        clear he
        go_wp2
        go_round
        case rel => exact ⟨k + 1, by omega, by go_num, HK2⟩
        case measure => simp [intOf]; omega
    · have : k = xs.length := by omega
      subst this
      rw [List.take_of_length_le (Nat.le_refl _)] at HK
      go_wp2
      go_ret
      exact ⟨ret_int (ixL_none (fun h => HK.out _ h rfl)).symm, rfl⟩
theorem containsStr_calls (A : Option Addr) (c : Nat) (xs : List ByteArray) (x : ByteArray) (w : World) (hA : Rd w A (xs.map Value.string)) (hn : xs.length ≤ 140737488355328) :
    Calls Tryd.prog 74 #[.slice A xs.length c, .string x] w fun e w' => e = .returned (.bool (memB x xs)) ∧ w = w' := by
  go_enter Tryd.func74, Tryd.ntmps74
  go_wp2_with (go_at_call 108; refine (indexStr_calls _ _ _ _ _ hA hn).mono ?_; rintro e w' ⟨rfl, rfl⟩)
  go_ret
  exact ⟨ret_bool (by rw [Bool.eq_iff_iff, decide_eq_true_iff, ixL_mem (Int.le_refl 0), memB_iff]), rfl⟩
set_option maxHeartbeats 400000 in
theorem eqStringS_calls (A B : Option Addr) (c d : Nat) (xs : List ByteArray) (w : World) (hA : Rd w A (xs.map Value.string)) (hB : Rd w B (xs.map Value.string)) (hn : xs.length ≤ 140737488355328) :
    Calls Tryd.prog 26 #[.slice A xs.length c, .slice B xs.length d] w fun e w' => e = .returned (.bool true) ∧ Below w.heap.size w w' := by
  go_enter Tryd.func26, Tryd.ntmps26
  go_wp2
  go_loopw [5] (fun i wr => ∃ k : Nat, k ≤ xs.length ∧ i = .int .i64 k ∧ ∃ q, wr = w.drewN q) (fun i _ => xs.length - (intOf i).toNat)
  case atStart => exact ⟨0, Nat.zero_le _, rfl, 0, rfl⟩
  case round =>
    obtain ⟨k, hk, rfl, q, rfl⟩ := hrel
    by_cases hlt : k < xs.length
    · have hu : (xs.map Value.string)[k]? = some (Value.string xs[k]) := by simp [hlt]
      obtain ⟨ad, rfl, hc⟩ := hA.at_ hu
      obtain ⟨bd, rfl, hd⟩ := hB.at_ hu
      have i0 : (0 : Int) ≤ (k : Int) := by omega
      have i1 : (k : Int) < (xs.length : Int) := by omega
      go_wp2
      go_quiet (fail)
      go_wp2
      go_roundw
      case rel => exact ⟨k + 1, by omega, by go_num, _, rfl⟩
      case measure => simp [intOf]; omega
    · have : k = xs.length := by omega
      subst this
      go_wp2
      go_ret
      exact ⟨rfl, bl_drewN (Below.refl _ _) _⟩
/-- The names of a dictionary, the last first, each once. -/
def addName (out : List ByteArray) (e : LEntry) : List ByteArray := if memB e.name out = true then out else out ++ [e.name]
def knownL (dict : List LEntry) : List ByteArray := dict.reverse.foldl addName []
def knownW (x : LW) : List ByteArray := if worldOk x = true then knownL x.dict else []
theorem addName_len (out : List ByteArray) (e : LEntry) : (addName out e).length ≤ out.length + 1 := by
  unfold addName
  split
  · omega
  · simp
theorem known_step {dict : List LEntry} {j : Nat} {z : LEntry} {out : List ByteArray} (h : dict[j]? = some z) (hk : (dict.take (j + 1)).reverse.foldl addName out = knownL dict) : (dict.take j).reverse.foldl addName (addName out z) = knownL dict := by
  rw [← hk, List.take_add_one, h]
  simp
set_option maxRecDepth 100000 in
set_option maxHeartbeats 2000000 in
theorem implKnown_calls (x : LW) (v : Value) (w : World) (hA : Asc w) (hv : WK w x v) (hs : x.low) :
    Calls Tryd.prog 25 #[v] w fun e w' => ∃ B d b, e = .returned (.slice B (knownW x).length d) ∧ Row w' 9 1 B (knownW x).length d ((knownW x).map Value.string) b ∧ (∀ g, b = some g → w.heap.size ≤ g) ∧ Below w.heap.size w w' := by
  obtain ⟨A, a, B, b, D0, d0, D1, d1, D3, d3, D4, d4, D5, d5, D6, d6, D7, d7, rfl⟩ := hv.form
  have HV := Lib.hid hv
  have h3 : Rd w B (x.dict.flatMap LEntry.enc) := by
    obtain ⟨A', a', B', b', F0, f0, F1, f1, F3, f3, F4, f4, F5, f5, F6, f6, F7, f7, he, -, -, q, -⟩ := hv
    simp only [Value.agg.injEq, Array.mk.injEq, List.cons.injEq, Value.slice.injEq, and_true, true_and] at he
    obtain ⟨-, ⟨rfl, -⟩, -⟩ := he
    exact q
  have H3 := Lib.hid h3
  have KA := Lib.hid (blk_new w (.cells #[.slice A x.defs.length a, .slice B x.dict.length b, .slice D0 x.st.data.length d0, .slice D1 x.st.ret.length d1, .int .i32 x.st.a, .slice D3 x.st.mem.length d3, .slice D4 x.st.cells.length d4, .slice D5 x.st.vars.length d5, .slice D6 x.st.out.length d6, .slice D7 x.st.inp.length d7, .int .i64 x.st.fault, .int .i64 x.st.fuel, .bool x.opn, .bool x.yel] 57))
  have HB := Lib.hid (bl_alloc (Below.refl _ w) (.cells #[.slice A x.defs.length a, .slice B x.dict.length b, .slice D0 x.st.data.length d0, .slice D1 x.st.ret.length d1, .int .i32 x.st.a, .slice D3 x.st.mem.length d3, .slice D4 x.st.cells.length d4, .slice D5 x.st.vars.length d5, .slice D6 x.st.out.length d6, .slice D7 x.st.inp.length d7, .int .i64 x.st.fault, .int .i64 x.st.fuel, .bool x.opn, .bool x.yel] 57))
  have HA := Lib.hid (hA.call HB.out)
  have hdl : x.dict.length ≤ 1048576 := by have := hs.dict; omega
  clear hv h3 hA
  cases hok : worldOk x
  · have HF : Hid (knownW x = []) := Lib.hid (by simp [knownW, hok])
    go_enter Tryd.func25, Tryd.ntmps25
    go_wp2_with (go_at_call 22; (with_reducible refine (implWorldOk_calls x _ _ HA.out (HV.out.keepB HB.out) hs).mono ?_); rintro e w1 ⟨rfl, hb⟩; rw [hok]; have HB1 := Lib.hid (bl_call HB.out hb); clear hb)
    go_ret
    rw [HF.out]
    exact ⟨none, 0, none, rfl, Row.nil _ _ _ _, (fun g e => by cases e), HB1.out⟩
  · have HF : Hid (knownW x = knownL x.dict) := Lib.hid (by simp [knownW, hok])
    go_enter Tryd.func25, Tryd.ntmps25
    go_wp2_with (go_at_call 22; (with_reducible refine (implWorldOk_calls x _ _ HA.out (HV.out.keepB HB.out) hs).mono ?_); rintro e w1 ⟨rfl, hb⟩; rw [hok]; replace HB := Lib.hid (bl_call HB.out hb); replace KA := Lib.hid (blk_call KA.out hb); clear hb; have cKA := blk_cell KA.out; have fKA := blk_frozen KA.out; have zKA := blk_lt KA.out)
    go_loopw [3, 4] (fun ov i wr => ∃ (m : Int) (out : List ByteArray) (R : Option Addr) (d : Nat) (q : Option Nat), -1 ≤ m ∧ m < x.dict.length ∧ i = .int .i64 m ∧ ov = .slice R out.length d ∧ (out.length : Int) + (m + 1) ≤ x.dict.length ∧ Hid (Row wr 9 1 R out.length d (out.map Value.string) q) ∧ Hid (∀ g, q = some g → w.heap.size < g) ∧ Hid (Below w.heap.size w wr) ∧ Hid (wr.heap[w.heap.size]? = some (.cells #[.slice A x.defs.length a, .slice B x.dict.length b, .slice D0 x.st.data.length d0, .slice D1 x.st.ret.length d1, .int .i32 x.st.a, .slice D3 x.st.mem.length d3, .slice D4 x.st.cells.length d4, .slice D5 x.st.vars.length d5, .slice D6 x.st.out.length d6, .slice D7 x.st.inp.length d7, .int .i64 x.st.fault, .int .i64 x.st.fuel, .bool x.opn, .bool x.yel] 57 (0, 0))) ∧ Hid ((x.dict.take (m + 1).toNat).reverse.foldl addName out = knownL x.dict)) (fun _ i _ => (intOf i + 1).toNat)
    case atStart => exact ⟨(x.dict.length : Int) - 1, [], some ⟨w1.heap.size, 0, none⟩, 0, some w1.heap.size, by omega, by omega, rfl, rfl, by simp, Lib.hid (Row.madeS rfl 9 1), Lib.hid (fun g e => by cases e; exact zKA), Lib.hid (bl_alloc HB.out _), Lib.hid (blk_alloc KA.out _), Lib.hid (by rw [List.take_of_length_le (by omega)]; rfl)⟩
    case round =>
      obtain ⟨m, out, R, d, b', hm1, hm2, rfl, rfl, hlen, HR, HLo, HW, HKR, HI⟩ := hrel
      have cKR := blk_cell HKR.out
      have fKR := blk_frozen HKR.out
      have zKR := blk_lt HKR.out
      by_cases h0 : 0 ≤ m
      · obtain ⟨j, rfl⟩ : ∃ j : Nat, m = j := ⟨m.toNat, by omega⟩
        have hlt : j < x.dict.length := by omega
        have hu : x.dict[j]? = some x.dict[j] := List.getElem?_eq_getElem hlt
        have HU := Lib.hid hu
        obtain ⟨bd, hB2, hc⟩ := (H3.out.keepB HW.out).el LEntry.enc_len hu (by omega)
        have hc0 := hc 0 _ rfl
        rw [Nat.add_zero] at hc0
        simp only [hB2] at cKR
        have HI2 : Hid ((x.dict.take (j + 1)).reverse.foldl addName out = knownL x.dict) := Lib.hid (by have := HI.out; rwa [show ((j : Int) + 1).toNat = j + 1 by omega] at this)
        have HB2 := Lib.hid hB2
        clear hc hu HI hB2
        generalize x.dict[j] = z at hc0 HU
        have HS := Lib.hid (known_step HU.out HI2.out)
        have i1 : (j : Int) < (x.dict.length : Int) := by omega
        cases hmem : memB z.name out
        · have HA2 : Hid (addName out z = out ++ [z.name]) := Lib.hid (by simp [addName, hmem])
          go_wp2_with (first | (go_at_call 74; (with_reducible refine (containsStr_calls R d out z.name _ ?_ ?_).mono ?_); exact HR.out.rd; omega; rintro e w2 ⟨rfl, rfl⟩; rw [hmem]) | (at_builtin; refine wp_append1s _ (m := wr.heap.size) rfl rfl _ _ 61 rfl 9 (.string ByteArray.empty) 1 16 Tryd.underlying61 info_Str rfl (by decide) rfl HR.out rfl rfl ?_ ?_ ?_ ?_; (intro u hu; simp at hu; subst hu; rfl); (unfold maxLen; omega); omega; intro R2 d2 w2 b2 hR hg hb; have HR2 := Lib.hid hR; have HG2 := Lib.hid hg; have HBB := Lib.hid hb; clear hR hg hb))
          go_roundw
          case rel =>
            refine ⟨(j : Int) - 1, out ++ [z.name], R2, d2, b2, by omega, by omega, rfl, by simp, by simp; omega, Lib.hid (by simpa using HR2.out), Lib.hid (fun g e => ?_), Lib.hid (HW.out.trans ⟨HG2.out.os, HG2.out.tape, HG2.out.output, HG2.out.size, fun k hk => HG2.out.block k (Nat.lt_of_lt_of_le hk HW.out.size) (fun e => by have := HLo.out _ e.symm; omega)⟩), Lib.hid ((HG2.out.block _ zKR (fun e => by have := HLo.out _ e.symm; omega)).trans HKR.out), Lib.hid (by rw [show ((j : Int) - 1 + 1).toNat = j by omega, ← HA2.out]; exact HS.out)⟩
            rcases HBB.out with h | ⟨y, h, hy⟩
            · exact HLo.out _ (h.symm.trans e)
            · rw [h] at e; cases e; omega
          case measure => first | (simp [intOf]; done) | (simp [intOf]; omega)
        · have HA2 : Hid (addName out z = out) := Lib.hid (by simp [addName, hmem])
          go_wp2_with (go_at_call 74; (with_reducible refine (containsStr_calls R d out z.name _ ?_ ?_).mono ?_); exact HR.out.rd; omega; rintro e w2 ⟨rfl, rfl⟩; rw [hmem])
          go_roundw
          case rel => exact ⟨(j : Int) - 1, out, R, d, b', by omega, by omega, rfl, rfl, by omega, HR, HLo, HW, HKR, Lib.hid (by have := HS.out; rw [HA2.out] at this; rw [show ((j : Int) - 1 + 1).toNat = j by omega]; exact this)⟩
          case measure => first | (simp [intOf]; done) | (simp [intOf]; omega)
      · obtain rfl : m = -1 := by omega
        have hout : out = knownL x.dict := by simpa using HI.out
        have HO := Lib.hid hout
        clear HI hout
        go_wp2
        go_ret
        rw [HF.out, ← HO.out]
        exact ⟨R, d, rfl, b', HR.out, (fun g e => Nat.le_of_lt (HLo.out g e)), HW.out⟩
end Go.Proofs.YtjciibhaifabjaaDoor

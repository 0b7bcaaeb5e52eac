/- The reference's Known. -/
import Derived.Test.YtjciibhaifabjaaDoorKn
set_option linter.unusedVariables false
set_option linter.unusedSimpArgs false
namespace Go.Proofs.YtjciibhaifabjaaDoor
open Go.RowKit

theorem memB_snoc {x y : ByteArray} {xs : List ByteArray} {q : Nat} (h : xs[q]? = some y) : memB x (xs.take (q + 1)) = (memB x (xs.take q) || decide (y = x)) := by
  unfold memB
  rw [List.take_add_one, h]
  simp
set_option maxRecDepth 100000 in
set_option maxHeartbeats 2000000 in
theorem specKnown_calls (x : LW) (v : Value) (w : World) (hv : WK w x v) (hs : x.low) :
    Calls Tryd.prog 24 #[v] w fun e w' => ∃ B d b, e = .returned (.slice B (knownW x).length d) ∧ Row w' 9 1 B (knownW x).length d ((knownW x).map Value.string) b ∧ (∀ g, b = some g → w.heap.size ≤ g) ∧ Below w.heap.size w w' := by
  obtain ⟨A, a, B, b, D0, d0, D1, d1, D3, d3, D4, d4, D5, d5, D6, d6, D7, d7, rfl⟩ := hv.form
  have HV := Lib.hid hv
  have h3 : Rd w B (x.dict.flatMap LEntry.enc) := by
    obtain ⟨A', a', B', b', F0, f0, F1, f1, F3, f3, F4, f4, F5, f5, F6, f6, F7, f7, he, -, -, q, -⟩ := hv
    simp only [Value.agg.injEq, Array.mk.injEq, List.cons.injEq, Value.slice.injEq, and_true, true_and] at he
    obtain ⟨-, ⟨rfl, -⟩, -⟩ := he
    exact q
  have H3 := Lib.hid h3
  have KA := Lib.hid (blk_alloc (blk_new w (.cells #[.slice A x.defs.length a, .slice B x.dict.length b, .slice D0 x.st.data.length d0, .slice D1 x.st.ret.length d1, .int .i32 x.st.a, .slice D3 x.st.mem.length d3, .slice D4 x.st.cells.length d4, .slice D5 x.st.vars.length d5, .slice D6 x.st.out.length d6, .slice D7 x.st.inp.length d7, .int .i64 x.st.fault, .int .i64 x.st.fuel, .bool x.opn, .bool x.yel] 57)) (.cells #[] 9))
  have HB := Lib.hid (bl_alloc (bl_alloc (Below.refl _ w) (.cells #[.slice A x.defs.length a, .slice B x.dict.length b, .slice D0 x.st.data.length d0, .slice D1 x.st.ret.length d1, .int .i32 x.st.a, .slice D3 x.st.mem.length d3, .slice D4 x.st.cells.length d4, .slice D5 x.st.vars.length d5, .slice D6 x.st.out.length d6, .slice D7 x.st.inp.length d7, .int .i64 x.st.fault, .int .i64 x.st.fuel, .bool x.opn, .bool x.yel] 57)) (.cells #[] 9))
  have HR1 := Lib.hid (show Row ((w.alloc (.cells #[.slice A x.defs.length a, .slice B x.dict.length b, .slice D0 x.st.data.length d0, .slice D1 x.st.ret.length d1, .int .i32 x.st.a, .slice D3 x.st.mem.length d3, .slice D4 x.st.cells.length d4, .slice D5 x.st.vars.length d5, .slice D6 x.st.out.length d6, .slice D7 x.st.inp.length d7, .int .i64 x.st.fault, .int .i64 x.st.fuel, .bool x.opn, .bool x.yel] 57)).alloc (.cells #[] 9)) 9 1 (some ⟨w.heap.size + 1, 0, none⟩) 0 0 [] (some (w.heap.size + 1)) from Row.madeS (by simp) 9 1)
  have hdl : x.dict.length ≤ 1048576 := by have := hs.dict; omega
  clear hv h3
  cases hok : worldOk x
  · have HF : Hid (knownW x = []) := Lib.hid (by simp [knownW, hok])
    go_enter Tryd.func24, Tryd.ntmps24
    go_wp2_with (go_at_call 20; (with_reducible refine (specWorldOk_calls x _ _ (HV.out.keepB HB.out) hs).mono ?_); rintro e w1 ⟨rfl, hb⟩; rw [hok]; have HB1 := Lib.hid (bl_call HB.out hb); have HR2 := Lib.hid (HR1.out.call hb); clear hb)
    go_ret
    rw [HF.out]
    exact ⟨some ⟨w.heap.size + 1, 0, none⟩, 0, some (w.heap.size + 1), rfl, HR2.out, (fun g e => by injection e with e; omega), HB1.out⟩
  · have HF : Hid (knownW x = knownL x.dict) := Lib.hid (by simp [knownW, hok])
    go_enter Tryd.func24, Tryd.ntmps24
    go_wp2_with (go_at_call 20; (with_reducible refine (specWorldOk_calls x _ _ (HV.out.keepB HB.out) hs).mono ?_); rintro e w1 ⟨rfl, hb⟩; rw [hok]; replace HB := Lib.hid (bl_call HB.out hb); replace KA := Lib.hid (blk_call KA.out hb); replace HR1 := Lib.hid (HR1.out.call hb); clear hb; have cKA := blk_cell KA.out; have fKA := blk_frozen KA.out; have zKA := blk_lt KA.out)
    go_loopw [3, 4] (fun ov i wr => ∃ (m : Int) (out : List ByteArray) (R : Option Addr) (d : Nat) (q : Option Nat), -1 ≤ m ∧ m < x.dict.length ∧ i = .int .i64 m ∧ ov = .slice R out.length d ∧ (out.length : Int) + (m + 1) ≤ x.dict.length ∧ Hid (Row wr 9 1 R out.length d (out.map Value.string) q) ∧ Hid (∀ g, q = some g → w.heap.size < g) ∧ Hid (Below w.heap.size w wr) ∧ Hid (wr.heap[w.heap.size]? = some (.cells #[.slice A x.defs.length a, .slice B x.dict.length b, .slice D0 x.st.data.length d0, .slice D1 x.st.ret.length d1, .int .i32 x.st.a, .slice D3 x.st.mem.length d3, .slice D4 x.st.cells.length d4, .slice D5 x.st.vars.length d5, .slice D6 x.st.out.length d6, .slice D7 x.st.inp.length d7, .int .i64 x.st.fault, .int .i64 x.st.fuel, .bool x.opn, .bool x.yel] 57 (0, 0))) ∧ Hid ((x.dict.take (m + 1).toNat).reverse.foldl addName out = knownL x.dict)) (fun _ i _ => (intOf i + 1).toNat)
    case atStart => exact ⟨(x.dict.length : Int) - 1, [], some ⟨w.heap.size + 1, 0, none⟩, 0, some (w.heap.size + 1), by omega, by omega, rfl, rfl, by simp, HR1, Lib.hid (fun g e => by cases e; omega), HB, KA, Lib.hid (by rw [List.take_of_length_le (by omega)]; rfl)⟩
    case round =>
      obtain ⟨m, out, R, d, b', hm1, hm2, rfl, rfl, hlen, HR, HLo, HW, HKR, HI⟩ := hrel
      have cKR := blk_cell HKR.out
      have fKR := blk_frozen HKR.out
      have zKR := blk_lt HKR.out
      by_cases h0 : 0 ≤ m
      · obtain ⟨j, rfl⟩ : ∃ j : Nat, m = j := ⟨m.toNat, by omega⟩
        have hlt : j < x.dict.length := by omega
        have hu : x.dict[j]? = some x.dict[j] := List.getElem?_eq_getElem hlt
        have HU := Lib.hid hu
        obtain ⟨bd, hB2, hc⟩ := (H3.out.keepB HW.out).el LEntry.enc_len hu (by omega)
        have hc0 := hc 0 _ rfl
        rw [Nat.add_zero] at hc0
        simp only [hB2] at cKR
        have HI2 : Hid ((x.dict.take (j + 1)).reverse.foldl addName out = knownL x.dict) := Lib.hid (by have := HI.out; rwa [show ((j : Int) + 1).toNat = j + 1 by omega] at this)
        have HB2 := Lib.hid hB2
        clear hc hu HI hB2
        generalize x.dict[j] = z at hc0 HU
        have HS := Lib.hid (known_step HU.out HI2.out)
        have i1 : (j : Int) < (x.dict.length : Int) := by omega
        go_wp2
        go_loopw [5, 6] (fun tv kv wj => ∃ (q p : Nat), q ≤ out.length ∧ kv = .int .i64 q ∧ tv = .bool (memB z.name (out.take q)) ∧ wj = wr.drewN p) (fun _ kv _ => out.length - (intOf kv).toNat)
        case atStart => exact ⟨0, 0, Nat.zero_le _, rfl, rfl, rfl⟩
        case round =>
          obtain ⟨q, p, hq, rfl, rfl, rfl⟩ := hrel
          by_cases hql : q < out.length
          · have hv2 : out[q]? = some out[q] := List.getElem?_eq_getElem hql
            obtain ⟨rd, hR2, hcq⟩ := HR.out.rd.at_ (j := q) (u := .string out[q]) (by rw [List.getElem?_map, hv2]; rfl)
            have HV2 := Lib.hid hv2
            clear hv2
            generalize out[q] = y at hcq HV2
            have HSN := Lib.hid (memB_snoc (x := z.name) HV2.out)
            subst hR2
            have q1 : (q : Int) < (out.length : Int) := by omega
            cases hm : memB z.name (out.take q)
            · by_cases he : y = z.name
              · have hd : (y.toList == z.name.toList) = true := by rw [he]; simp
                have HT : Hid (memB z.name (out.take (q + 1)) = true) := Lib.hid (by rw [HSN.out, hm, decide_eq_true he]; rfl)
                go_wp2
                go_quiet (fail)
                go_wp2
                go_roundw
                case rel => exact ⟨q + 1, _, by omega, by go_num, by rw [HT.out], rfl⟩
                case measure => simp [intOf]; omega
              · have hd : (y.toList == z.name.toList) = false := by
                  rw [beq_eq_false_iff_ne]
                  exact fun h => he (bytes_inj h)
                have HT : Hid (memB z.name (out.take (q + 1)) = false) := Lib.hid (by rw [HSN.out, hm, decide_eq_false he]; rfl)
                go_wp2
                go_quiet (fail)
                go_wp2
                go_roundw
                case rel => exact ⟨q + 1, _, by omega, by go_num, by rw [HT.out], rfl⟩
                case measure => simp [intOf]; omega
            · have HT : Hid (memB z.name (out.take (q + 1)) = true) := Lib.hid (by rw [HSN.out, hm]; rfl)
              go_wp2
              go_quiet (fail)
              go_wp2
              go_roundw
              case rel => exact ⟨q + 1, _, by omega, by go_num, by rw [HT.out], rfl⟩
              case measure => simp [intOf]; omega
          · obtain rfl : q = out.length := by omega
            rw [List.take_of_length_le (Nat.le_refl _)]
            have HRJ := Lib.hid (HR.out.keep (w1 := wr.drewN p) fun _ _ => rfl)
            have HWJ := Lib.hid (bl_drewN HW.out p)
            cases hmem : memB z.name out
            · have HA2 : Hid (addName out z = out ++ [z.name]) := Lib.hid (by simp [addName, hmem])
              go_wp2_with (at_builtin; refine wp_append1s (wr.drewN p) (m := wr.heap.size) rfl rfl _ _ 61 rfl 9 (.string ByteArray.empty) 1 16 Tryd.underlying61 info_Str rfl (by decide) rfl HRJ.out rfl rfl ?_ ?_ ?_ ?_; (intro u hu; simp at hu; subst hu; rfl); (unfold maxLen; omega); omega; intro R2 d2 w2 b2 hR hg hb; have HR2 := Lib.hid hR; have HG2 := Lib.hid hg; have HBB := Lib.hid hb; clear hR hg hb)
              go_roundw
              case rel =>
                refine ⟨(j : Int) - 1, out ++ [z.name], R2, d2, b2, by omega, by omega, rfl, by simp, by simp; omega, Lib.hid (by simpa using HR2.out), Lib.hid (fun g e => ?_), Lib.hid (HWJ.out.trans ⟨HG2.out.os, HG2.out.tape, HG2.out.output, HG2.out.size, fun k hk => HG2.out.block k (Nat.lt_of_lt_of_le hk HWJ.out.size) (fun e => by have := HLo.out _ e.symm; omega)⟩), Lib.hid ((HG2.out.block _ zKR (fun e => by have := HLo.out _ e.symm; omega)).trans HKR.out), Lib.hid (by rw [show ((j : Int) - 1 + 1).toNat = j by omega, ← HA2.out]; exact HS.out)⟩
                rcases HBB.out with h | ⟨y, h, hy⟩
                · exact HLo.out _ (h.symm.trans e)
                · rw [h] at e; cases e; omega
              case measure => first | (simp [intOf]; done) | (simp [intOf]; omega)
            · have HA2 : Hid (addName out z = out) := Lib.hid (by simp [addName, hmem])
              go_wp2
              go_roundw
              case rel => exact ⟨(j : Int) - 1, out, R, d, b', by omega, by omega, rfl, rfl, by omega, HRJ, HLo, HWJ, Lib.hid (blk_drewN HKR.out p), Lib.hid (by have := HS.out; rw [HA2.out] at this; rw [show ((j : Int) - 1 + 1).toNat = j by omega]; exact this)⟩
              case measure => first | (simp [intOf]; done) | (simp [intOf]; omega)
      · obtain rfl : m = -1 := by omega
        have hout : out = knownL x.dict := by simpa using HI.out
        have HO := Lib.hid hout
        clear HI hout
        go_wp2
        go_ret
        rw [HF.out, ← HO.out]
        exact ⟨R, d, rfl, b', HR.out, (fun g e => Nat.le_of_lt (HLo.out g e)), HW.out⟩
end Go.Proofs.YtjciibhaifabjaaDoor

/- Look: contracts of the program's and the reference's. -/
import Derived.Test.YtkfjkfmceeigpaaWd
set_option linter.unusedVariables false
set_option linter.unusedSimpArgs false
namespace Go.Proofs.Ytkfjkfmceeigpaa
open Go.RowKit

/-- The last entry with a name, and whether there is one. -/
def lookL (dict : List LEntry) (nm : ByteArray) : LEntry × Bool :=
  match dict.reverse.find? (fun e => decide (e.name = nm)) with
  | some e => (e, true)
  | none => (⟨ByteArray.empty, false, 0⟩, false)
theorem look_hit {dict : List LEntry} {nm : ByteArray} {j : Nat} {z : LEntry} (h : dict[j]? = some z) (hz : z.name = nm) (hd : ∀ y ∈ dict.drop (j + 1), y.name ≠ nm) : lookL dict nm = (z, true) := by
  obtain ⟨hj, rfl⟩ := List.getElem?_eq_some_iff.1 h
  have e : dict.reverse = (dict.drop (j + 1)).reverse ++ dict[j] :: (dict.take j).reverse := by
    rw [← List.reverse_concat, ← List.reverse_append]
    congr 1
    have h2 := List.take_append_drop j dict
    rw [List.drop_eq_getElem_cons hj] at h2
    simp
  have f : (dict.drop (j + 1)).reverse.find? (fun e => decide (e.name = nm)) = none := by
    rw [List.find?_eq_none]
    intro y hy
    simpa using hd y (by simpa using hy)
  unfold lookL
  rw [e, List.find?_append, f]
  simp [hz]
theorem look_none {dict : List LEntry} {nm : ByteArray} (hd : ∀ y ∈ dict, y.name ≠ nm) : lookL dict nm = (⟨ByteArray.empty, false, 0⟩, false) := by
  have f : dict.reverse.find? (fun e => decide (e.name = nm)) = none := by
    rw [List.find?_eq_none]
    intro y hy
    simpa using hd y (by simpa using hy)
  unfold lookL
  rw [f]
theorem look_next {dict : List LEntry} {nm : ByteArray} {j : Nat} {z : LEntry} (h : dict[j]? = some z) (hz : ¬ z.name = nm) (hd : ∀ y ∈ dict.drop (j + 1), y.name ≠ nm) : ∀ y ∈ dict.drop j, y.name ≠ nm := by
  obtain ⟨hj, rfl⟩ := List.getElem?_eq_some_iff.1 h
  rw [List.drop_eq_getElem_cons hj]
  intro y hy
  rcases List.mem_cons.1 hy with rfl | hy
  · exact hz
  · exact hd y hy
set_option maxRecDepth 100000 in
set_option maxHeartbeats 1000000 in
theorem look_calls (x : LW) (v : Value) (nm : ByteArray) (w : World) (hv : WK w x v) (hn : x.dict.length ≤ 140737488355328) :
    Calls Try.prog 60 #[v, .string nm] w fun e w' => e = .returned (.tuple #[.agg #[.string (lookL x.dict nm).1.name, .bool (lookL x.dict nm).1.var, .int .i64 (lookL x.dict nm).1.n], .bool (lookL x.dict nm).2]) ∧ Below w.heap.size w w' := by
  obtain ⟨A, a, B, b, D0, d0, D1, d1, D3, d3, D4, d4, D5, d5, D6, d6, D7, d7, rfl, -, -, h3, -, -⟩ := hv
  have H3 := Lib.hid h3
  have HB := Lib.hid (bl_alloc (bl_alloc (Below.refl _ w) (.cells #[.slice A x.defs.length a, .slice B x.dict.length b, .slice D0 x.st.data.length d0, .slice D1 x.st.ret.length d1, .int .i32 x.st.a, .slice D3 x.st.mem.length d3, .slice D4 x.st.cells.length d4, .slice D5 x.st.vars.length d5, .slice D6 x.st.out.length d6, .slice D7 x.st.inp.length d7, .int .i64 x.st.fault, .int .i64 x.st.fuel, .bool x.opn, .bool x.yel] 58)) (.cells #[.string ByteArray.empty, .bool false, .int .i64 0] 52))
  clear h3
  go_enter Try.func60, Try.ntmps60
  go_wp2
  go_loopw [6] (fun i wr => ∃ m : Int, -1 ≤ m ∧ m < x.dict.length ∧ i = .int .i64 m ∧ wr = (w.alloc (.cells #[.slice A x.defs.length a, .slice B x.dict.length b, .slice D0 x.st.data.length d0, .slice D1 x.st.ret.length d1, .int .i32 x.st.a, .slice D3 x.st.mem.length d3, .slice D4 x.st.cells.length d4, .slice D5 x.st.vars.length d5, .slice D6 x.st.out.length d6, .slice D7 x.st.inp.length d7, .int .i64 x.st.fault, .int .i64 x.st.fuel, .bool x.opn, .bool x.yel] 58)).alloc (.cells #[.string ByteArray.empty, .bool false, .int .i64 0] 52) ∧ Hid (∀ z ∈ x.dict.drop (m + 1).toNat, z.name ≠ nm)) (fun i _ => (intOf i + 1).toNat)
  case atStart => exact ⟨(x.dict.length : Int) - 1, by omega, by omega, rfl, rfl, Lib.hid (by rw [List.drop_of_length_le (by omega)]; intro z hz; cases hz)⟩
  case round =>
    obtain ⟨m, hm1, hm2, rfl, rfl, HD⟩ := hrel
    by_cases h0 : 0 ≤ m
    · obtain ⟨j, rfl⟩ : ∃ j : Nat, m = j := ⟨m.toNat, by omega⟩
      have hlt : j < x.dict.length := by omega
      have hu : x.dict[j]? = some x.dict[j] := List.getElem?_eq_getElem hlt
      have HU := Lib.hid hu
      obtain ⟨bd, rfl, hc⟩ := (H3.out.keepB HB.out).el LEntry.enc_len hu (by omega)
      have hc0 := hc 0 _ rfl
      have hc1 := hc 1 _ rfl
      have hc2 := hc 2 _ rfl
      rw [Nat.add_zero] at hc0
      rw [add_field _ _ _ (by omega)] at hc1
      rw [add_field _ _ _ (by omega)] at hc2
      have HD2 : Hid (∀ z ∈ x.dict.drop (j + 1), z.name ≠ nm) := Lib.hid (by have := HD.out; rwa [show ((j : Int) + 1).toNat = j + 1 by omega] at this)
      clear hc hu HD
      generalize x.dict[j] = z at hc0 hc1 hc2 HU
      have i1 : (j : Int) < (x.dict.length : Int) := by omega
      by_cases hz : z.name = nm
      · have HL := Lib.hid (look_hit HU.out hz HD2.out)
        subst hz
        go_wp2_with fail
        refine bodyPost_ret (v := .tuple #[.agg #[.string z.name, .bool z.var, .int .i64 z.n], .bool true]) (by simp [results, Try.results60, go_sem]) rfl ⟨?_, ?_⟩
        · rw [HL.out]
        · with_reducible repeat (first | exact HB.out | exact Below.refl _ _ | apply bl_set1 | apply bl_alloc)
      · have hz' : (z.name.toList == nm.toList) = false := by
          rw [beq_eq_false_iff_ne]
          exact fun h => hz (bytes_inj h)
        have HDN : Hid (∀ y ∈ x.dict.drop j, y.name ≠ nm) := Lib.hid (look_next HU.out hz HD2.out)
        clear hz HD2 HU
        go_wp2_with fail
        go_roundw
        case rel => exact ⟨(j : Int) - 1, by omega, by omega, rfl, trivial, by rw [show ((j : Int) - 1 + 1).toNat = j by omega]; exact HDN⟩
        case measure => first | (simp [intOf]; done) | (simp [intOf]; omega)
    · obtain rfl : m = -1 := by omega
      have HL : Hid (lookL x.dict nm = (⟨ByteArray.empty, false, 0⟩, false)) := Lib.hid (look_none (by simpa using HD.out))
      clear HD
      go_wp2_with fail
      refine bodyPost_ret (v := .tuple #[.agg #[.string ByteArray.empty, .bool false, .int .i64 0], .bool false]) (by simp [results, Try.results60, go_sem] <;> rfl) rfl ⟨?_, ?_⟩
      · rw [HL.out]
      · with_reducible repeat (first | exact HB.out | exact Below.refl _ _ | apply bl_set1 | apply bl_alloc)
set_option maxRecDepth 100000 in
set_option maxHeartbeats 1000000 in
theorem specLook_calls (x : LW) (v : Value) (nm : ByteArray) (w : World) (hv : WK w x v) (hn : x.dict.length ≤ 140737488355328) :
    Calls Try.prog 21 #[v, .string nm] w fun e w' => e = .returned (.tuple #[.agg #[.string (lookL x.dict nm).1.name, .bool (lookL x.dict nm).1.var, .int .i64 (lookL x.dict nm).1.n], .bool (lookL x.dict nm).2]) ∧ Below w.heap.size w w' := by
  obtain ⟨A, a, B, b, D0, d0, D1, d1, D3, d3, D4, d4, D5, d5, D6, d6, D7, d7, rfl, -, -, h3, -, -⟩ := hv
  have H3 := Lib.hid h3
  have HB := Lib.hid (bl_alloc (bl_alloc (Below.refl _ w) (.cells #[.slice A x.defs.length a, .slice B x.dict.length b, .slice D0 x.st.data.length d0, .slice D1 x.st.ret.length d1, .int .i32 x.st.a, .slice D3 x.st.mem.length d3, .slice D4 x.st.cells.length d4, .slice D5 x.st.vars.length d5, .slice D6 x.st.out.length d6, .slice D7 x.st.inp.length d7, .int .i64 x.st.fault, .int .i64 x.st.fuel, .bool x.opn, .bool x.yel] 58)) (.cells #[.string ByteArray.empty, .bool false, .int .i64 0] 52))
  clear h3
  go_enter Try.func21, Try.ntmps21
  go_wp2
  go_loopw [6] (fun i wr => ∃ m : Int, -1 ≤ m ∧ m < x.dict.length ∧ i = .int .i64 m ∧ wr = (w.alloc (.cells #[.slice A x.defs.length a, .slice B x.dict.length b, .slice D0 x.st.data.length d0, .slice D1 x.st.ret.length d1, .int .i32 x.st.a, .slice D3 x.st.mem.length d3, .slice D4 x.st.cells.length d4, .slice D5 x.st.vars.length d5, .slice D6 x.st.out.length d6, .slice D7 x.st.inp.length d7, .int .i64 x.st.fault, .int .i64 x.st.fuel, .bool x.opn, .bool x.yel] 58)).alloc (.cells #[.string ByteArray.empty, .bool false, .int .i64 0] 52) ∧ Hid (∀ z ∈ x.dict.drop (m + 1).toNat, z.name ≠ nm)) (fun i _ => (intOf i + 1).toNat)
  case atStart => exact ⟨(x.dict.length : Int) - 1, by omega, by omega, rfl, rfl, Lib.hid (by rw [List.drop_of_length_le (by omega)]; intro z hz; cases hz)⟩
  case round =>
    obtain ⟨m, hm1, hm2, rfl, rfl, HD⟩ := hrel
    by_cases h0 : 0 ≤ m
    · obtain ⟨j, rfl⟩ : ∃ j : Nat, m = j := ⟨m.toNat, by omega⟩
      have hlt : j < x.dict.length := by omega
      have hu : x.dict[j]? = some x.dict[j] := List.getElem?_eq_getElem hlt
      have HU := Lib.hid hu
      obtain ⟨bd, rfl, hc⟩ := (H3.out.keepB HB.out).el LEntry.enc_len hu (by omega)
      have hc0 := hc 0 _ rfl
      have hc1 := hc 1 _ rfl
      have hc2 := hc 2 _ rfl
      rw [Nat.add_zero] at hc0
      rw [add_field _ _ _ (by omega)] at hc1
      rw [add_field _ _ _ (by omega)] at hc2
      have HD2 : Hid (∀ z ∈ x.dict.drop (j + 1), z.name ≠ nm) := Lib.hid (by have := HD.out; rwa [show ((j : Int) + 1).toNat = j + 1 by omega] at this)
      clear hc hu HD
      generalize x.dict[j] = z at hc0 hc1 hc2 HU
      have i1 : (j : Int) < (x.dict.length : Int) := by omega
      by_cases hz : z.name = nm
      · have HL := Lib.hid (look_hit HU.out hz HD2.out)
        subst hz
        go_wp2_with fail
        refine bodyPost_ret (v := .tuple #[.agg #[.string z.name, .bool z.var, .int .i64 z.n], .bool true]) (by simp [results, Try.results21, go_sem]) rfl ⟨?_, ?_⟩
        · rw [HL.out]
        · with_reducible repeat (first | exact HB.out | exact Below.refl _ _ | apply bl_set1 | apply bl_alloc)
      · have hz' : (z.name.toList == nm.toList) = false := by
          rw [beq_eq_false_iff_ne]
          exact fun h => hz (bytes_inj h)
        have HDN : Hid (∀ y ∈ x.dict.drop j, y.name ≠ nm) := Lib.hid (look_next HU.out hz HD2.out)
        clear hz HD2 HU
        go_wp2_with fail
        go_roundw
        case rel => exact ⟨(j : Int) - 1, by omega, by omega, rfl, trivial, by rw [show ((j : Int) - 1 + 1).toNat = j by omega]; exact HDN⟩
        case measure => first | (simp [intOf]; done) | (simp [intOf]; omega)
    · obtain rfl : m = -1 := by omega
      have HL : Hid (lookL x.dict nm = (⟨ByteArray.empty, false, 0⟩, false)) := Lib.hid (look_none (by simpa using HD.out))
      clear HD
      go_wp2_with fail
      refine bodyPost_ret (v := .tuple #[.agg #[.string ByteArray.empty, .bool false, .int .i64 0], .bool false]) (by simp [results, Try.results21, go_sem] <;> rfl) rfl ⟨?_, ?_⟩
      · rw [HL.out]
      · with_reducible repeat (first | exact HB.out | exact Below.refl _ _ | apply bl_set1 | apply bl_alloc)
set_option maxRecDepth 100000 in
theorem Look_calls (x : LW) (v : Value) (nm : ByteArray) (w : World) (hv : WK w x v) (hn : x.dict.length ≤ 140737488355328) :
    Calls Try.prog 23 #[v, .string nm] w fun e w' => e = .returned (.tuple #[.agg #[.string (lookL x.dict nm).1.name, .bool (lookL x.dict nm).1.var, .int .i64 (lookL x.dict nm).1.n], .bool (lookL x.dict nm).2]) ∧ Below w.heap.size w w' := by
  obtain ⟨A, a, B, b, D0, d0, D1, d1, D3, d3, D4, d4, D5, d5, D6, d6, D7, d7, rfl⟩ := hv.form
  have HV := Lib.hid hv
  have HB := Lib.hid (bl_alloc (bl_alloc (Below.refl _ w) (.cells #[.slice A x.defs.length a, .slice B x.dict.length b, .slice D0 x.st.data.length d0, .slice D1 x.st.ret.length d1, .int .i32 x.st.a, .slice D3 x.st.mem.length d3, .slice D4 x.st.cells.length d4, .slice D5 x.st.vars.length d5, .slice D6 x.st.out.length d6, .slice D7 x.st.inp.length d7, .int .i64 x.st.fault, .int .i64 x.st.fuel, .bool x.opn, .bool x.yel] 58)) (.cells #[.string ByteArray.empty, .bool false, .int .i64 0] 52))
  obtain ⟨k0, k1, -⟩ := Bx.two w #[.slice A x.defs.length a, .slice B x.dict.length b, .slice D0 x.st.data.length d0, .slice D1 x.st.ret.length d1, .int .i32 x.st.a, .slice D3 x.st.mem.length d3, .slice D4 x.st.cells.length d4, .slice D5 x.st.vars.length d5, .slice D6 x.st.out.length d6, .slice D7 x.st.inp.length d7, .int .i64 x.st.fault, .int .i64 x.st.fuel, .bool x.opn, .bool x.yel] #[.string ByteArray.empty, .bool false, .int .i64 0] 58 52
  have K1 := Lib.hid k1
  clear hv k0 k1
  go_enter Try.func23, Try.ntmps23
  go_wp2_with fail
  refine (look_calls x _ nm _ (HV.out.keepB HB.out) hn).mono ?_
  rintro e w1 ⟨rfl, hb⟩
  replace K1 := Lib.hid (blk_call K1.out hb)
  replace HB := Lib.hid (bl_call HB.out hb)
  clear hb
  obtain ⟨z, t, hz⟩ : ∃ z t, lookL x.dict nm = (z, t) := ⟨_, _, rfl⟩
  have HZ := Lib.hid hz
  rw [hz]
  clear hz
  have cK1 := blk_cell K1.out
  have fK1 := blk_frozen K1.out
  have zK1 := blk_lt K1.out
  go_wp2_with fail
  refine bodyPost_ret (v := .tuple #[.agg #[.string z.name, .bool z.var, .int .i64 z.n], .bool t]) (by simp [results, Try.results23, go_sem, cK1, zK1]) rfl ⟨by rw [HZ.out], ?_⟩
  with_reducible repeat (first | exact HB.out | exact Below.refl _ _ | apply bl_set1 | apply bl_alloc)
end Go.Proofs.Ytkfjkfmceeigpaa

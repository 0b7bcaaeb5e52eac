/- Worlds without definitions and entries: NewWorld. -/
import Derived.Test.YtkfjkfmceeigpaaWd
import Derived.Test.YtkfjkfmceeigpaaNy
set_option linter.unusedVariables false
set_option linter.unusedSimpArgs false
namespace Go.Proofs.Ytkfjkfmceeigpaa
open Go.RowKit

/-- A world without definitions and entries that is read. -/
def W0K (w : World) (s : LSt) (v : Value) : Prop := ∃ D0 d0 D1 d1 D3 d3 D4 d4 D5 d5 D6 d6 D7 d7, v = .agg #[.slice none 0 0, .slice none 0 0, .slice D0 s.data.length d0, .slice D1 s.ret.length d1, .int .i32 s.a, .slice D3 s.mem.length d3, .slice D4 s.cells.length d4, .slice D5 s.vars.length d5, .slice D6 s.out.length d6, .slice D7 s.inp.length d7, .int .i64 s.fault, .int .i64 s.fuel, .bool false, .bool false] ∧ StK w s (.agg #[.slice D0 s.data.length d0, .slice D1 s.ret.length d1, .int .i32 s.a, .slice D3 s.mem.length d3, .slice D4 s.cells.length d4, .slice D5 s.vars.length d5, .slice D6 s.out.length d6, .slice D7 s.inp.length d7, .int .i64 s.fault, .int .i64 s.fuel])
/-- .. of the call's own -/
def W0O (w : World) (lo : Nat) (s : LSt) (v : Value) : Prop := ∃ D0 d0 D1 d1 D3 d3 D4 d4 D5 d5 D6 d6 D7 d7, v = .agg #[.slice none 0 0, .slice none 0 0, .slice D0 s.data.length d0, .slice D1 s.ret.length d1, .int .i32 s.a, .slice D3 s.mem.length d3, .slice D4 s.cells.length d4, .slice D5 s.vars.length d5, .slice D6 s.out.length d6, .slice D7 s.inp.length d7, .int .i64 s.fault, .int .i64 s.fuel, .bool false, .bool false] ∧ StO w lo s (.agg #[.slice D0 s.data.length d0, .slice D1 s.ret.length d1, .int .i32 s.a, .slice D3 s.mem.length d3, .slice D4 s.cells.length d4, .slice D5 s.vars.length d5, .slice D6 s.out.length d6, .slice D7 s.inp.length d7, .int .i64 s.fault, .int .i64 s.fuel])
/-- .. below hi -/
def W0I (w : World) (lo hi : Nat) (s : LSt) (v : Value) : Prop := ∃ D0 d0 D1 d1 D3 d3 D4 d4 D5 d5 D6 d6 D7 d7, v = .agg #[.slice none 0 0, .slice none 0 0, .slice D0 s.data.length d0, .slice D1 s.ret.length d1, .int .i32 s.a, .slice D3 s.mem.length d3, .slice D4 s.cells.length d4, .slice D5 s.vars.length d5, .slice D6 s.out.length d6, .slice D7 s.inp.length d7, .int .i64 s.fault, .int .i64 s.fuel, .bool false, .bool false] ∧ StI w lo hi s (.agg #[.slice D0 s.data.length d0, .slice D1 s.ret.length d1, .int .i32 s.a, .slice D3 s.mem.length d3, .slice D4 s.cells.length d4, .slice D5 s.vars.length d5, .slice D6 s.out.length d6, .slice D7 s.inp.length d7, .int .i64 s.fault, .int .i64 s.fuel])
theorem W0O.i {w : World} {lo : Nat} {s : LSt} {v : Value} (h : W0O w lo s v) : W0I w lo w.heap.size s v := by
  obtain ⟨D0, d0, D1, d1, D3, d3, D4, d4, D5, d5, D6, d6, D7, d7, rfl, k⟩ := h
  exact ⟨D0, d0, D1, d1, D3, d3, D4, d4, D5, d5, D6, d6, D7, d7, rfl, k.i⟩
theorem W0O.k {w : World} {lo : Nat} {s : LSt} {v : Value} (h : W0O w lo s v) : W0K w s v := by
  obtain ⟨D0, d0, D1, d1, D3, d3, D4, d4, D5, d5, D6, d6, D7, d7, rfl, k⟩ := h
  exact ⟨D0, d0, D1, d1, D3, d3, D4, d4, D5, d5, D6, d6, D7, d7, rfl, k.k⟩
theorem W0I.o {w : World} {lo hi : Nat} {s : LSt} {v : Value} (h : W0I w lo hi s v) : W0O w lo s v := by
  obtain ⟨D0, d0, D1, d1, D3, d3, D4, d4, D5, d5, D6, d6, D7, d7, rfl, k⟩ := h
  exact ⟨D0, d0, D1, d1, D3, d3, D4, d4, D5, d5, D6, d6, D7, d7, rfl, k.o⟩
theorem W0I.call {w : World} {lo hi : Nat} {s : LSt} {v : Value} (h : W0I w lo hi s v) {w1 : World} (hb : Below w.heap.size w w1) : W0I w1 lo hi s v := by
  obtain ⟨D0, d0, D1, d1, D3, d3, D4, d4, D5, d5, D6, d6, D7, d7, rfl, k⟩ := h
  exact ⟨D0, d0, D1, d1, D3, d3, D4, d4, D5, d5, D6, d6, D7, d7, rfl, k.call hb⟩
theorem W0I.frame {w : World} {lo hi : Nat} {s : LSt} {v : Value} (h : W0I w lo hi s v) {w1 : World} {l1 h1 : Nat} (hf : Fr l1 h1 w w1) (hd : hi ≤ l1 ∨ h1 ≤ lo) : W0I w1 lo hi s v := by
  obtain ⟨D0, d0, D1, d1, D3, d3, D4, d4, D5, d5, D6, d6, D7, d7, rfl, k⟩ := h
  exact ⟨D0, d0, D1, d1, D3, d3, D4, d4, D5, d5, D6, d6, D7, d7, rfl, k.frame hf hd⟩
theorem W0K.form {w : World} {s : LSt} {v : Value} (h : W0K w s v) : ∃ D0 d0 D1 d1 D3 d3 D4 d4 D5 d5 D6 d6 D7 d7, v = .agg #[.slice none 0 0, .slice none 0 0, .slice D0 s.data.length d0, .slice D1 s.ret.length d1, .int .i32 s.a, .slice D3 s.mem.length d3, .slice D4 s.cells.length d4, .slice D5 s.vars.length d5, .slice D6 s.out.length d6, .slice D7 s.inp.length d7, .int .i64 s.fault, .int .i64 s.fuel, .bool false, .bool false] := by
  obtain ⟨D0, d0, D1, d1, D3, d3, D4, d4, D5, d5, D6, d6, D7, d7, rfl, k⟩ := h
  exact ⟨D0, d0, D1, d1, D3, d3, D4, d4, D5, d5, D6, d6, D7, d7, rfl⟩
theorem W0K.wk {w : World} {s : LSt} {v : Value} (h : W0K w s v) : WK w ⟨[], [], s, false, false⟩ v := by
  obtain ⟨D0, d0, D1, d1, D3, d3, D4, d4, D5, d5, D6, d6, D7, d7, rfl, k⟩ := h
  exact ⟨none, 0, none, 0, D0, d0, D1, d1, D3, d3, D4, d4, D5, d5, D6, d6, D7, d7, rfl, Rd.nil _ _, (fun z hz => by cases hz), Rd.nil _ _, (fun z hz => by cases hz), k⟩
theorem Fr.trans {lo hi : Nat} {a b c : World} (h : Fr lo hi a b) (k : Fr lo hi b c) : Fr lo hi a c :=
  ⟨k.os.trans h.os, k.tape.trans h.tape, k.output.trans h.output, Nat.le_trans h.size k.size, fun g hg hn => (k.block g (Nat.lt_of_lt_of_le hg h.size) hn).trans (h.block g hg hn)⟩
theorem eqWorld0_calls (s : LSt) (v v' : Value) (w : World) (hv : W0K w s v) (hv' : W0K w s v') (hs : s.small 140737488355328) :
    Calls Try.prog 25 #[v, v'] w fun e w' => e = .returned (.bool true) ∧ Below w.heap.size w w' :=
  eqWorld_calls ⟨[], [], s, false, false⟩ [] v v' w hv.wk hv'.wk rfl ⟨by simp, by simp, hs⟩
theorem markDefS0_calls (k : Int) (w : World) : Calls Try.prog 77 #[.slice none 0 0, .int .i64 k] w fun e w' => e = .returned (.int .i64 k) ∧ w' = w := by
  go_enter Try.func77, Try.ntmps77
  go_wp2
  go_loopw [1, 5] (fun kv i wr => kv = .int .i64 k ∧ i = .int .i64 0 ∧ wr = w) (fun _ _ _ => 0)
  case atStart => exact ⟨rfl, rfl, rfl⟩
  case round =>
    obtain ⟨rfl, rfl, rfl⟩ := hrel
    go_wp2
    go_ret
    exact ⟨rfl, rfl⟩
theorem heldDefS0_calls (k : Int) (w : World) : Calls Try.prog 79 #[.slice none 0 0, .int .i64 k] w fun e w' => e = .returned (.int .i64 k) ∧ w' = w := by
  go_enter Try.func79, Try.ntmps79
  go_wp2
  go_loopw [1, 5] (fun kv i wr => kv = .int .i64 k ∧ i = .int .i64 0 ∧ wr = w) (fun _ _ _ => 0)
  case atStart => exact ⟨rfl, rfl, rfl⟩
  case round =>
    obtain ⟨rfl, rfl, rfl⟩ := hrel
    go_wp2
    go_ret
    exact ⟨rfl, rfl⟩
theorem markEntryS0_calls (k : Int) (w : World) : Calls Try.prog 78 #[.slice none 0 0, .int .i64 k] w fun e w' => e = .returned (.int .i64 k) ∧ w' = w := by
  go_enter Try.func78, Try.ntmps78
  go_wp2
  go_loopw [1, 5] (fun kv i wr => kv = .int .i64 k ∧ i = .int .i64 0 ∧ wr = w) (fun _ _ _ => 0)
  case atStart => exact ⟨rfl, rfl, rfl⟩
  case round =>
    obtain ⟨rfl, rfl, rfl⟩ := hrel
    go_wp2
    go_ret
    exact ⟨rfl, rfl⟩
theorem heldEntryS0_calls (k : Int) (w : World) : Calls Try.prog 80 #[.slice none 0 0, .int .i64 k] w fun e w' => e = .returned (.int .i64 k) ∧ w' = w := by
  go_enter Try.func80, Try.ntmps80
  go_wp2
  go_loopw [1, 5] (fun kv i wr => kv = .int .i64 k ∧ i = .int .i64 0 ∧ wr = w) (fun _ _ _ => 0)
  case atStart => exact ⟨rfl, rfl, rfl⟩
  case round =>
    obtain ⟨rfl, rfl, rfl⟩ := hrel
    go_wp2
    go_ret
    exact ⟨rfl, rfl⟩
set_option maxRecDepth 100000 in
set_option maxHeartbeats 1000000 in
theorem markWorld0_calls (k0 : Int) (s : LSt) (v : Value) (lo hi : Nat) (w : World) (hv : W0I w lo hi s v) (hs : s.small 140737488355328) (hlo : lo ≤ w.heap.size) (hi0 : hi ≤ w.heap.size) (hk0 : 0 ≤ k0) (hk1 : k0 ≤ 576460752303423488) :
    Calls Try.prog 34 #[v, .int .i64 k0] w fun e w' => e = .returned (.int .i64 (mkStN k0 s)) ∧ W0I w' lo hi (mkSt k0 s) v ∧ Fr lo hi w w' := by
  obtain ⟨D0, d0, D1, d1, D3, d3, D4, d4, D5, d5, D6, d6, D7, d7, rfl, k⟩ := hv
  have HK := Lib.hid (k.call (bl_alloc (Below.refl _ w) (.cells #[.slice none 0 0, .slice none 0 0, .slice D0 s.data.length d0, .slice D1 s.ret.length d1, .int .i32 s.a, .slice D3 s.mem.length d3, .slice D4 s.cells.length d4, .slice D5 s.vars.length d5, .slice D6 s.out.length d6, .slice D7 s.inp.length d7, .int .i64 s.fault, .int .i64 s.fuel, .bool false, .bool false] 58)))
  have KA := Lib.hid (blk_new w (.cells #[.slice none 0 0, .slice none 0 0, .slice D0 s.data.length d0, .slice D1 s.ret.length d1, .int .i32 s.a, .slice D3 s.mem.length d3, .slice D4 s.cells.length d4, .slice D5 s.vars.length d5, .slice D6 s.out.length d6, .slice D7 s.inp.length d7, .int .i64 s.fault, .int .i64 s.fuel, .bool false, .bool false] 58))
  have HF := Lib.hid (Fr.alloc (Fr.refl lo hi w) hi0 (.cells #[.slice none 0 0, .slice none 0 0, .slice D0 s.data.length d0, .slice D1 s.ret.length d1, .int .i32 s.a, .slice D3 s.mem.length d3, .slice D4 s.cells.length d4, .slice D5 s.vars.length d5, .slice D6 s.out.length d6, .slice D7 s.inp.length d7, .int .i64 s.fault, .int .i64 s.fuel, .bool false, .bool false] 58))
  clear k
  go_enter Try.func34, Try.ntmps34
  go_wp2_with (first
    | (go_at_call 77; refine (markDefS0_calls k0 _).mono ?_; rintro e w1 ⟨rfl, rfl⟩)
    | (go_at_call 78; refine (markEntryS0_calls k0 _).mono ?_; rintro e w1 ⟨rfl, rfl⟩)
    | (go_at_call 18; refine (markSt_calls k0 s _ lo hi _ HK.out hs (by simp; omega) (by simp; omega) hk0 hk1).mono ?_; rintro e w1 ⟨rfl, M, hf⟩; have HM := Lib.hid M; have HG := Lib.hid (HF.out.trans hf); clear M hf))
  go_ret
  have e0 : (mkSt k0 s).data.length = s.data.length := mkInt32_length _ _
  have e1 : (mkSt k0 s).ret.length = s.ret.length := mkSlot_length _ _
  have e3 : (mkSt k0 s).mem.length = s.mem.length := mkInt32_length _ _
  have e4 : (mkSt k0 s).cells.length = s.cells.length := mkUint32_length _ _
  have e5 : (mkSt k0 s).vars.length = s.vars.length := mkInt_length _ _
  have e6 : (mkSt k0 s).out.length = s.out.length := mkByte_length _ _
  have e7 : (mkSt k0 s).inp.length = s.inp.length := mkByte_length _ _
  refine ⟨rfl, ⟨D0, d0, D1, d1, D3, d3, D4, d4, D5, d5, D6, d6, D7, d7, ?_, ?_⟩, HG.out⟩
  · rw [e0, e1, e3, e4, e5, e6, e7]
    rfl
  · rw [e0, e1, e3, e4, e5, e6, e7]
    exact HM.out
set_option maxRecDepth 100000 in
set_option maxHeartbeats 1000000 in
theorem heldWorld0_calls (k0 : Int) (s : LSt) (v : Value) (w : World) (hv : W0K w (mkSt k0 s) v) (hs : s.small 140737488355328) (hk0 : 0 ≤ k0) (hk1 : k0 ≤ 576460752303423488) :
    Calls Try.prog 35 #[v, .int .i64 k0] w fun e w' => e = .returned (.int .i64 (mkStN k0 s)) ∧ Below w.heap.size w w' := by
  obtain ⟨D0, d0, D1, d1, D3, d3, D4, d4, D5, d5, D6, d6, D7, d7, rfl, k⟩ := hv
  have HK := Lib.hid k
  have hnn : ¬ (mkStN k0 s < 0) := by unfold mkStN; omega
  have hkk : ¬ (k0 < 0) := by omega
  have HB := Lib.hid (bl_alloc (Below.refl _ w) (.cells #[.slice none 0 0, .slice none 0 0, .slice D0 (mkSt k0 s).data.length d0, .slice D1 (mkSt k0 s).ret.length d1, .int .i32 (mkSt k0 s).a, .slice D3 (mkSt k0 s).mem.length d3, .slice D4 (mkSt k0 s).cells.length d4, .slice D5 (mkSt k0 s).vars.length d5, .slice D6 (mkSt k0 s).out.length d6, .slice D7 (mkSt k0 s).inp.length d7, .int .i64 (mkSt k0 s).fault, .int .i64 (mkSt k0 s).fuel, .bool false, .bool false] 58))
  clear k
  go_enter Try.func35, Try.ntmps35
  go_wp2_with (first
    | (go_at_call 79; refine (heldDefS0_calls k0 _).mono ?_; rintro e w1 ⟨rfl, rfl⟩)
    | (go_at_call 80; refine (heldEntryS0_calls k0 _).mono ?_; rintro e w1 ⟨rfl, rfl⟩)
    | (go_at_call 19; refine (heldSt_calls k0 s _ _ (HK.out.keepB HB.out) hs hk0 hk1).mono ?_; rintro e w1 ⟨rfl, hb⟩; replace HB := Lib.hid (bl_call HB.out hb); clear hb))
  go_ret
  exact ⟨rfl, HB.out⟩
set_option maxRecDepth 100000 in
set_option maxHeartbeats 1000000 in
theorem NewWorld_calls (A : Option Addr) (c : Nat) (cells : List Int) (B : Option Addr) (d : Nat) (inp : List Int) (fuel : Int) (w : World) (hr : Rd w A (cells.map (Value.int .u32))) (hi : Rd w B (inp.map (Value.int .u8))) (hn : cells.length ≤ 1048576) (hm : inp.length ≤ 1048576) :
    Calls Try.prog 33 #[.agg #[.slice A cells.length c], .slice B inp.length d, .int .i64 fuel] w fun e w' => ∃ v', e = .returned v' ∧ W0O w' w.heap.size (newSt cells inp fuel) v' ∧ Below w.heap.size w w' := by
  have HR := Lib.hid hr
  have HI := Lib.hid hi
  have HB := Lib.hid (bl_alloc (bl_alloc (Below.refl _ w) (.cells #[.slice A cells.length c] 33)) (.cells #[.slice none 0 0, .slice none 0 0, .slice none 0 0, .slice none 0 0, .int .i32 0, .slice none 0 0, .slice none 0 0, .slice none 0 0, .slice none 0 0, .slice none 0 0, .int .i64 0, .int .i64 0, .bool false, .bool false] 58))
  obtain ⟨k0, k1, -⟩ := Bx.two w #[.slice A cells.length c] #[.slice none 0 0, .slice none 0 0, .slice none 0 0, .slice none 0 0, .int .i32 0, .slice none 0 0, .slice none 0 0, .slice none 0 0, .slice none 0 0, .slice none 0 0, .int .i64 0, .int .i64 0, .bool false, .bool false] 33 58
  have K1 := Lib.hid k1
  clear hr hi k0 k1
  go_enter Try.func33, Try.ntmps33
  go_wp2_with fail
  refine (NewSt_calls A c cells B d inp fuel _ (HR.out.keepB HB.out) (HI.out.keepB HB.out) hn hm).mono ?_
  rintro e w1 ⟨v, rfl, O, hb⟩
  replace K1 := Lib.hid (blk_call K1.out hb)
  replace HB := Lib.hid (bl_call HB.out hb)
  obtain ⟨E0, e0, E1, e1, E3, e3, E4, e4, E5, e5, E6, e6, E7, e7, rfl⟩ := O.k.form
  have HO := Lib.hid (O.low (lo' := w.heap.size + 1 + 1) (by simp))
  clear O hb
  have cK1 := blk_cell K1.out
  have fK1 := blk_frozen K1.out
  have zK1 := blk_lt K1.out
  go_wp2_with fail
  refine bodyPost_ret (v := .agg #[.slice none 0 0, .slice none 0 0, .slice E0 (newSt cells inp fuel).data.length e0, .slice E1 (newSt cells inp fuel).ret.length e1, .int .i32 (newSt cells inp fuel).a, .slice E3 (newSt cells inp fuel).mem.length e3, .slice E4 (newSt cells inp fuel).cells.length e4, .slice E5 (newSt cells inp fuel).vars.length e5, .slice E6 (newSt cells inp fuel).out.length e6, .slice E7 (newSt cells inp fuel).inp.length e7, .int .i64 (newSt cells inp fuel).fault, .int .i64 (newSt cells inp fuel).fuel, .bool false, .bool false]) (by simp [results, Try.results33, go_sem, cK1, zK1]) rfl ⟨_, rfl, ⟨E0, e0, E1, e1, E3, e3, E4, e4, E5, e5, E6, e6, E7, e7, rfl, ?_⟩, ?_⟩
  · refine StO.low (lo := w.heap.size + 1 + 1) ?_ (by omega)
    have l1 : w.heap.size + 1 < w.heap.size + 1 + 1 := by omega
    with_reducible repeat (first | refine StO.far ?_ l1 _ | exact HO.out)
  · with_reducible repeat (first | apply bl_set1 | exact HB.out)
set_option maxRecDepth 100000 in
set_option maxHeartbeats 1000000 in
theorem specNewWorld_calls (A : Option Addr) (c : Nat) (cells : List Int) (B : Option Addr) (d : Nat) (inp : List Int) (fuel : Int) (w : World) (hr : Rd w A (cells.map (Value.int .u32))) (hi : Rd w B (inp.map (Value.int .u8))) (hn : cells.length ≤ 1048576) (hm : inp.length ≤ 1048576) :
    Calls Try.prog 32 #[.agg #[.slice A cells.length c], .slice B inp.length d, .int .i64 fuel] w fun e w' => ∃ v', e = .returned v' ∧ W0O w' w.heap.size (newSt cells inp fuel) v' ∧ Below w.heap.size w w' := by
  have HR := Lib.hid hr
  have HI := Lib.hid hi
  have HB := Lib.hid (bl_alloc (bl_alloc (Below.refl _ w) (.cells #[.slice A cells.length c] 33)) (.cells #[.slice none 0 0, .slice none 0 0, .slice none 0 0, .slice none 0 0, .int .i32 0, .slice none 0 0, .slice none 0 0, .slice none 0 0, .slice none 0 0, .slice none 0 0, .int .i64 0, .int .i64 0, .bool false, .bool false] 58))
  obtain ⟨k0, k1, -⟩ := Bx.two w #[.slice A cells.length c] #[.slice none 0 0, .slice none 0 0, .slice none 0 0, .slice none 0 0, .int .i32 0, .slice none 0 0, .slice none 0 0, .slice none 0 0, .slice none 0 0, .slice none 0 0, .int .i64 0, .int .i64 0, .bool false, .bool false] 33 58
  have K1 := Lib.hid k1
  clear hr hi k0 k1
  go_enter Try.func32, Try.ntmps32
  go_wp2_with fail
  refine (specNewSt_calls A c cells B d inp fuel _ (HR.out.keepB HB.out) (HI.out.keepB HB.out) hn hm).mono ?_
  rintro e w1 ⟨v, rfl, O, hb⟩
  replace K1 := Lib.hid (blk_call K1.out hb)
  replace HB := Lib.hid (bl_call HB.out hb)
  obtain ⟨E0, e0, E1, e1, E3, e3, E4, e4, E5, e5, E6, e6, E7, e7, rfl⟩ := O.k.form
  have HO := Lib.hid (O.low (lo' := w.heap.size + 1 + 1) (by simp))
  clear O hb
  have cK1 := blk_cell K1.out
  have fK1 := blk_frozen K1.out
  have zK1 := blk_lt K1.out
  go_wp2_with fail
  refine bodyPost_ret (v := .agg #[.slice none 0 0, .slice none 0 0, .slice E0 (newSt cells inp fuel).data.length e0, .slice E1 (newSt cells inp fuel).ret.length e1, .int .i32 (newSt cells inp fuel).a, .slice E3 (newSt cells inp fuel).mem.length e3, .slice E4 (newSt cells inp fuel).cells.length e4, .slice E5 (newSt cells inp fuel).vars.length e5, .slice E6 (newSt cells inp fuel).out.length e6, .slice E7 (newSt cells inp fuel).inp.length e7, .int .i64 (newSt cells inp fuel).fault, .int .i64 (newSt cells inp fuel).fuel, .bool false, .bool false]) (by simp [results, Try.results32, go_sem, cK1, zK1]) rfl ⟨_, rfl, ⟨E0, e0, E1, e1, E3, e3, E4, e4, E5, e5, E6, e6, E7, e7, rfl, ?_⟩, ?_⟩
  · refine StO.low (lo := w.heap.size + 1 + 1) ?_ (by omega)
    have l1 : w.heap.size + 1 < w.heap.size + 1 + 1 := by omega
    with_reducible repeat (first | refine StO.far ?_ l1 _ | exact HO.out)
  · with_reducible repeat (first | apply bl_set1 | exact HB.out)
end Go.Proofs.Ytkfjkfmceeigpaa

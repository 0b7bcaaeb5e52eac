/- The reference's word . -/
import Derived.Test.YtgljbcdlldhlfaaDoorSg
set_option linter.unusedVariables false
set_option linter.unusedSimpArgs false
namespace Go.Proofs.YtgljbcdlldhlfaaDoor
open Go.RowKit

theorem bw_below (w : World) (e : TypeId) (t : ByteArray) : Below w.heap.size w (Lib.bytesWorld w e t) := ⟨rfl, rfl, rfl, by have := Lib.bytesWorld_size w e t; omega, fun j hj => Lib.bytesWorld_at_old w e t j hj⟩
theorem bw_rd (w : World) (e : TypeId) (t : ByteArray) : Rd (Lib.bytesWorld w e t) (some ⟨w.heap.size, 0, none⟩) ((bytesI t).map (Value.int .u8)) := by
  intro j u hu
  refine ⟨_, rfl, ?_⟩
  have hj : j < (bytesI t).length := by have := (List.getElem?_eq_some_iff.1 hu).1; simpa using this
  rw [bytesI_length] at hj
  have hj2 : t.data[j]? = some t.data[j] := Array.getElem?_eq_getElem hj
  rw [add_plain, Lib.bytesWorld_cell w e t j hj, ← hu]
  simp [bytesI, List.getD, hj2]
set_option maxRecDepth 100000 in
set_option maxHeartbeats 4000000 in
theorem other_22 (s z : LSt) (v : Value) (w : World) (hv : StK w s v) (hs : s.small 1048576) (x y : Int) (hyw : (Lit.int .i32 y).wf = true) (hC : ∀ W u A c, StK W s u → Rd W A ((dotT y).map (Value.int .u8)) → Calls Tryd.prog 73 #[u, .slice A (dotT y).length c] W fun e w' => OtherE W z e w') (hz : True) :
    Calls Tryd.prog 33 #[v, .string ⟨#[46]⟩, .int .i32 x, .int .i32 y] w fun e w' => OtherE w z e w' := by
  obtain ⟨A0, c0, A1, c1, A3, c3, A4, c4, A5, c5, A6, c6, A7, c7, rfl⟩ := hv.form
  have HV := Lib.hid hv
  have HS := Lib.hid hs
  have HZ := Lib.hid hz
  obtain ⟨w1, hW1⟩ : ∃ W, (w.alloc (.cells #[.slice A0 s.data.length c0, .slice A1 s.ret.length c1, .int .i32 s.a, .slice A3 s.mem.length c3, .slice A4 s.cells.length c4, .slice A5 s.vars.length c5, .slice A6 s.out.length c6, .slice A7 s.inp.length c7, .int .i64 s.fault, .int .i64 s.fuel] 32)).alloc (.cells #[.slice none 0 0, .slice none 0 0, .int .i32 0, .slice none 0 0, .slice none 0 0, .slice none 0 0, .slice none 0 0, .slice none 0 0, .int .i64 0, .int .i64 0] 32) = W := ⟨_, rfl⟩
  have HB1 : Hid (Below w.heap.size w w1) := Lib.hid (hW1 ▸ bl_alloc (bl_alloc (Below.refl _ _) _) _)
  have HK1 : Hid (Bx w1 w.heap.size [(#[.slice A0 s.data.length c0, .slice A1 s.ret.length c1, .int .i32 s.a, .slice A3 s.mem.length c3, .slice A4 s.cells.length c4, .slice A5 s.vars.length c5, .slice A6 s.out.length c6, .slice A7 s.inp.length c7, .int .i64 s.fault, .int .i64 s.fuel], 32), (#[.slice none 0 0, .slice none 0 0, .int .i32 0, .slice none 0 0, .slice none 0 0, .slice none 0 0, .slice none 0 0, .slice none 0 0, .int .i64 0, .int .i64 0], 32)]) := Lib.hid (hW1 ▸ (Bx.two w #[.slice A0 s.data.length c0, .slice A1 s.ret.length c1, .int .i32 s.a, .slice A3 s.mem.length c3, .slice A4 s.cells.length c4, .slice A5 s.vars.length c5, .slice A6 s.out.length c6, .slice A7 s.inp.length c7, .int .i64 s.fault, .int .i64 s.fuel] #[.slice none 0 0, .slice none 0 0, .int .i32 0, .slice none 0 0, .slice none 0 0, .slice none 0 0, .slice none 0 0, .slice none 0 0, .int .i64 0, .int .i64 0] 32 32))
  have b0 := blk_cell HK1.out.1
  have y0 := blk_lt HK1.out.1
  have b1 := blk_cell HK1.out.2.1
  have g1 := blk_frozen HK1.out.2.1
  have y1 := blk_lt HK1.out.2.1
  have hlo1 : w.heap.size + 2 ≤ w1.heap.size := by omega
  have HCC := Lib.hid hC
  have w64 := wrap64_i32 hyw
  have hr := i32_range hyw
  have hsz : (decT y).size ≤ 20 := decT_size (by omega) (by omega)
  have hcat : (decT y ++ (⟨#[32]⟩ : ByteArray)).size = (decT y).size + 1 := by rw [ByteArray.size_append]; rfl
  have iw64 : IntKind.wrap .i64 y = y := by simp [IntKind.wrap, IntKind.signed, IntKind.bits]; split <;> omega
  have HD : Hid (∀ W, Calls Tryd.prog 74 #[.int .i64 y] W fun e w' => e = .returned (.string (decT y)) ∧ W = w') := Lib.hid fun W => (specDecText_calls y (by omega) (by omega) W).mono (fun e w' ⟨h1, h2⟩ => ⟨h1, h2.symm⟩)
  have kb := fun (W : World) (t : ByteArray) => Lib.run_convert_string_bytes (P := Tryd.prog) W 9 26 5 t Tryd.underlying9 Tryd.underlying26 Tryd.underlying5
  have hdl : (dotT y).length = (decT y ++ (⟨#[32]⟩ : ByteArray)).size := bytesI_length _
  have HDL := Lib.hid (hdl.trans hcat)
  clear hC hdl
  clear hv hz
  go_enter Tryd.func33, Tryd.ntmps33
  go_wp2_with fail
  have HPT0 := HCC.out (Lib.bytesWorld w1.drew 5 (decT y ++ (⟨#[32]⟩ : ByteArray))) _ (some ⟨w1.heap.size, 0, none⟩) (grownCap w1.drew ((decT y).size + 1) 0 5) (HV.out.keepB (bl_call (bl_drew HB1.out) (bw_below w1.drew 5 (decT y ++ (⟨#[32]⟩ : ByteArray))))) (bw_rd w1.drew 5 (decT y ++ (⟨#[32]⟩ : ByteArray)))
  rw [HDL.out] at HPT0
  have hbw : (Lib.bytesWorld w1.drew 5 (decT y ++ (⟨#[32]⟩ : ByteArray))).heap.size = w1.heap.size + 1 := Lib.bytesWorld_size w1.drew 5 (decT y ++ (⟨#[32]⟩ : ByteArray))
  have b0w := blk_cell ((HK1.out.drew).call (bw_below w1.drew 5 (decT y ++ (⟨#[32]⟩ : ByteArray)))).1
  have HPT := Lib.hid HPT0
  clear HPT0
  go_region_with (first | (go_at_call 74; (with_reducible refine (HD.out _).mono ?_); rintro e wq ⟨rfl, rfl⟩) | (go_at_call 73; refine (HPT.out).mono ?_; rintro e w9 ⟨v9, rfl, hO, hb⟩; obtain ⟨F0, f0, F1, f1, F3, f3, F4, f4, F5, f5, F6, f6, F7, f7, rfl⟩ := hO.k.form; have HO := Lib.hid hO; have HB9 := Lib.hid (bl_call (bl_call (bl_drew HB1.out) (bw_below w1.drew 5 (decT y ++ (⟨#[32]⟩ : ByteArray)))) hb); have HK9 := Lib.hid (((HK1.out.drew).call (bw_below w1.drew 5 (decT y ++ (⟨#[32]⟩ : ByteArray)))).call hb); have hl9 : w.heap.size + 2 ≤ (Lib.bytesWorld w1.drew 5 (decT y ++ (⟨#[32]⟩ : ByteArray))).heap.size := (by first | omega | (simp; omega)); have hw9 := hb.size; clear hO hb b0 y0 b1 g1 y1; have b0 := blk_cell HK9.out.1; have y0 := blk_lt HK9.out.1; have b1 := blk_cell HK9.out.2.1; have g1 := blk_frozen HK9.out.2.1; have y1 := blk_lt HK9.out.2.1))
  all_goals
    go_wp2_with fail
    refine bodyPost_ret (v := .agg #[.slice F0 z.data.length f0, .slice F1 z.ret.length f1, .int .i32 z.a, .slice F3 z.mem.length f3, .slice F4 z.cells.length f4, .slice F5 z.vars.length f5, .slice F6 z.out.length f6, .slice F7 z.inp.length f7, .int .i64 z.fault, .int .i64 z.fuel]) (by simp [results, Tryd.results33, go_sem, b1, y1]) rfl ⟨_, rfl, ?_, ?_⟩
    · have h0 := HO.out.low (lo' := w.heap.size + 2) hl9
      have h1 : w.heap.size + 1 < w.heap.size + 2 := by omega
      have hz9 : ∀ (W : World) (u : Value), StV W (w.heap.size + 2) w9.heap.size z u → w9.heap.size = W.heap.size → StV W w.heap.size W.heap.size z u := fun W u h e => (h.low (by omega)).top (by omega) (Nat.le_refl _)
      refine hz9 _ _ ?_ (by simp)
      with_reducible repeat (first | exact h0 | refine StV.far ?_ h1 _)
    · have h0 := HB9.out
      with_reducible repeat (first | exact h0 | apply bl_set1)
end Go.Proofs.YtgljbcdlldhlfaaDoor

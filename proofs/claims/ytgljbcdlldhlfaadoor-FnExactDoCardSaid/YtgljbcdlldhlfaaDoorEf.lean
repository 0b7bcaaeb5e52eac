/- What a built-in word does: contracts of wants, written, effect. -/
import Derived.Test.YtgljbcdlldhlfaaDoorPl
import Derived.Test.YtgljbcdlldhlfaaDoorAs
import Derived.Test.YtgljbcdlldhlfaaDoorIx
import Derived.Lib.SlBytesRow
set_option linter.unusedVariables false
set_option linter.unusedSimpArgs false
namespace Go.Proofs.YtgljbcdlldhlfaaDoor
open Go.RowKit

theorem FrG.ofBelow {g lo : Nat} {w w1 : World} (h : Below w.heap.size w w1) : FrG g lo w w1 := ⟨h.os, h.tape, h.output, h.size, fun x h1 _ _ => h.block x h1⟩
def bytesI (t : ByteArray) : List Int := t.data.toList.map fun b => (b.toNat : Int)
theorem bytesI_cells (t : ByteArray) : Lib.strCells t = (bytesI t).map (Value.int .u8) := by
  unfold Lib.strCells bytesI
  rw [List.map_map]
  rfl
theorem bytesI_length (t : ByteArray) : (bytesI t).length = t.size := by
  rw [bytesI, List.length_map, Array.length_toList]
  rfl
set_option maxRecDepth 100000 in
theorem wants_calls (k : Int) (w : World) (hA : Asc w) : Calls Tryd.prog 84 #[.int .i64 k] w fun e w' => e = .returned (.int .i64 (primEff k).need) ∧ Below w.heap.size w w' := by
  have HA := Lib.hid hA
  clear hA
  go_enter Tryd.func84, Tryd.ntmps84
  go_wp2_with fail
  refine (primEffect_calls k w HA.out).mono ?_
  rintro e w1 ⟨rfl, hb⟩
  have HB := Lib.hid hb
  clear hb
  have hfd : ∀ w, (Instr.field 48 (.agg #[.bool (primEff k).ok, .int .i64 (primEff k).need, .int .i64 (primEff k).most, .int .i64 (primEff k).gain]) 1).run Tryd.prog w = .ok (.int .i64 (primEff k).need) w := fun _ => by kernel_rfl
  go_wp2
  go_ret
  exact ⟨rfl, HB.out⟩
theorem info_u8b : (Tryd.prog.info? 5).map (fun i => (i.zero, i.size, i.bytes)) = some (some (.int .u8 0), 1, 1) := by kernel_rfl
set_option maxRecDepth 100000 in
set_option maxHeartbeats 1000000 in
theorem written_no (s : LSt) (g lo : Nat) (t : ByteArray) (w : World) (hG : StX w g lo s) (ho : s.out.length ≤ 1048576) (ht : t.size ≤ 1048576) (hn : 400 < s.out.length + t.size) :
    Calls Tryd.prog 97 #[.pointer (some ⟨g, 0, none⟩), .string t] w fun e w' => e = .returned (.int .i64 13) ∧ w = w' := by
  obtain ⟨D0, d0, D1, d1, D3, d3, D4, d4, D5, d5, D6, d6, D7, d7, hg, -⟩ := hG.cells
  have cc := blk_cell hg
  have h4 : (400 : Int) < (s.out.length : Int) + t.size := by omega
  clear hG hg
  go_enter Tryd.func97, Tryd.ntmps97
  go_wp2
  go_ret
  exact ⟨rfl, rfl⟩
set_option maxRecDepth 100000 in
set_option maxHeartbeats 1000000 in
theorem written_ok (s : LSt) (g lo : Nat) (t : ByteArray) (w : World) (hG : StX w g lo s) (hlo : lo ≤ w.heap.size) (hn : s.out.length + t.size ≤ 400) :
    Calls Tryd.prog 97 #[.pointer (some ⟨g, 0, none⟩), .string t] w fun e w' => e = .returned (.int .i64 0) ∧ StX w' g lo { s with out := s.out ++ bytesI t } ∧ FrG g lo w w' := by
  obtain ⟨D0, d0, D1, d1, D3, d3, D4, d4, D5, d5, D6, d6, D7, d7, b6, hg, r6, L6, hK⟩ := hG.rep6 hlo
  have cc := blk_cell hg
  have ff := blk_frozen hg
  have zz := blk_lt hg
  have H6 := Lib.hid r6
  have HL := Lib.hid L6
  have HK := Lib.hid hK
  have HG := Lib.hid hg
  have h4 : ¬ ((400 : Int) < (s.out.length : Int) + t.size) := by omega
  clear hG hg r6 L6 hK
  go_enter Tryd.func97, Tryd.ntmps97
  go_wp2_with (at_builtin; refine wp_append_string rfl _ _ 26 9 rfl 5 Tryd.underlying26 Tryd.underlying9 info_u8b rfl H6.out t rfl ?_ ?_ ?_; (unfold maxLen; omega); omega; intro B d w5 b hR hg5 hb5; have HR := Lib.hid hR; have HG5 := Lib.hid hg5; have HB5 := Lib.hid hb5; have K5 := Lib.hid ((hg5.block g zz (fun e => (HL.out g e.symm).2 rfl)).trans HG.out); have cq5 := blk_cell K5.out; have fq5 := blk_frozen K5.out; have zq5 := blk_lt K5.out; clear hR hg5 hb5)
  go_ret
  have hl : (s.out ++ bytesI t).length = s.out.length + t.size := by rw [List.length_append, bytesI_length]
  have hh := HK.out (s.out ++ bytesI t) B d w5 b (by rw [hl, List.map_append, ← bytesI_cells]; exact HR.out) HG5.out HB5.out
  rw [hl] at hh
  exact ⟨rfl, hh.1, hh.2⟩
/-- What effect gives back. -/
def EffE (w : World) (g lo : Nat) (r : LSt × List Int × Int) (e : Ending) (w' : World) : Prop :=
  ∃ A c, e = .returned (.tuple #[.slice A r.2.1.length c, .int .i64 r.2.2]) ∧ StX w' g lo r.1 ∧ FrG g lo w w' ∧ Rd w' A (r.2.1.map (Value.int .i32))
set_option maxRecDepth 100000 in
set_option maxHeartbeats 2000000 in
theorem effect_0 (s : LSt) (g lo : Nat) (x y : Int) (w : World) (hG : StX w g lo s) (hlo : lo ≤ w.heap.size) (hs : s.small 1048576) (hx : (Lit.int .i32 x).wf = true) (hy : (Lit.int .i32 y).wf = true) :
    Calls Tryd.prog 85 #[.pointer (some ⟨g, 0, none⟩), .string ⟨#[100, 117, 112]⟩, .int .i32 x, .int .i32 y] w fun e w' => EffE w g lo (eff 0 s x y) e w' := by
  go_enter Tryd.func85, Tryd.ntmps85
  go_wp2_with fail
  refine (result_0 s x y w).mono ?_
  rintro e w1 ⟨A, c, rfl, hR, hb⟩
  have HR := Lib.hid hR
  have HB := Lib.hid hb
  clear hR hb
  go_wp2
  refine bodyPost_ret (v := .tuple #[.slice A (eff 0 s x y).2.1.length c, .int .i64 (eff 0 s x y).2.2]) (by simp [results, Tryd.results85, go_sem]) rfl ⟨_, _, rfl, hG.call HB.out, FrG.ofBelow HB.out, HR.out⟩
set_option maxRecDepth 100000 in
set_option maxHeartbeats 2000000 in
theorem effect_1 (s : LSt) (g lo : Nat) (x y : Int) (w : World) (hG : StX w g lo s) (hlo : lo ≤ w.heap.size) (hs : s.small 1048576) (hx : (Lit.int .i32 x).wf = true) (hy : (Lit.int .i32 y).wf = true) :
    Calls Tryd.prog 85 #[.pointer (some ⟨g, 0, none⟩), .string ⟨#[100, 114, 111, 112]⟩, .int .i32 x, .int .i32 y] w fun e w' => EffE w g lo (eff 1 s x y) e w' := by
  go_enter Tryd.func85, Tryd.ntmps85
  go_wp2_with fail
  refine (result_1 s x y w).mono ?_
  rintro e w1 ⟨A, c, rfl, hR, hb⟩
  have HR := Lib.hid hR
  have HB := Lib.hid hb
  clear hR hb
  go_wp2
  refine bodyPost_ret (v := .tuple #[.slice A (eff 1 s x y).2.1.length c, .int .i64 (eff 1 s x y).2.2]) (by simp [results, Tryd.results85, go_sem]) rfl ⟨_, _, rfl, hG.call HB.out, FrG.ofBelow HB.out, HR.out⟩
set_option maxRecDepth 100000 in
set_option maxHeartbeats 2000000 in
theorem effect_2 (s : LSt) (g lo : Nat) (x y : Int) (w : World) (hG : StX w g lo s) (hlo : lo ≤ w.heap.size) (hs : s.small 1048576) (hx : (Lit.int .i32 x).wf = true) (hy : (Lit.int .i32 y).wf = true) :
    Calls Tryd.prog 85 #[.pointer (some ⟨g, 0, none⟩), .string ⟨#[111, 118, 101, 114]⟩, .int .i32 x, .int .i32 y] w fun e w' => EffE w g lo (eff 2 s x y) e w' := by
  go_enter Tryd.func85, Tryd.ntmps85
  go_wp2_with fail
  refine (result_2 s x y w).mono ?_
  rintro e w1 ⟨A, c, rfl, hR, hb⟩
  have HR := Lib.hid hR
  have HB := Lib.hid hb
  clear hR hb
  go_wp2
  refine bodyPost_ret (v := .tuple #[.slice A (eff 2 s x y).2.1.length c, .int .i64 (eff 2 s x y).2.2]) (by simp [results, Tryd.results85, go_sem]) rfl ⟨_, _, rfl, hG.call HB.out, FrG.ofBelow HB.out, HR.out⟩
set_option maxRecDepth 100000 in
set_option maxHeartbeats 2000000 in
theorem effect_3 (s : LSt) (g lo : Nat) (x y : Int) (w : World) (hG : StX w g lo s) (hlo : lo ≤ w.heap.size) (hs : s.small 1048576) (hx : (Lit.int .i32 x).wf = true) (hy : (Lit.int .i32 y).wf = true) :
    Calls Tryd.prog 85 #[.pointer (some ⟨g, 0, none⟩), .string ⟨#[110, 105, 112]⟩, .int .i32 x, .int .i32 y] w fun e w' => EffE w g lo (eff 3 s x y) e w' := by
  go_enter Tryd.func85, Tryd.ntmps85
  go_wp2_with fail
  refine (result_3 s x y w).mono ?_
  rintro e w1 ⟨A, c, rfl, hR, hb⟩
  have HR := Lib.hid hR
  have HB := Lib.hid hb
  clear hR hb
  go_wp2
  refine bodyPost_ret (v := .tuple #[.slice A (eff 3 s x y).2.1.length c, .int .i64 (eff 3 s x y).2.2]) (by simp [results, Tryd.results85, go_sem]) rfl ⟨_, _, rfl, hG.call HB.out, FrG.ofBelow HB.out, HR.out⟩
set_option maxRecDepth 100000 in
set_option maxHeartbeats 2000000 in
theorem effect_4 (s : LSt) (g lo : Nat) (x y : Int) (w : World) (hG : StX w g lo s) (hlo : lo ≤ w.heap.size) (hs : s.small 1048576) (hx : (Lit.int .i32 x).wf = true) (hy : (Lit.int .i32 y).wf = true) :
    Calls Tryd.prog 85 #[.pointer (some ⟨g, 0, none⟩), .string ⟨#[115, 119, 97, 112]⟩, .int .i32 x, .int .i32 y] w fun e w' => EffE w g lo (eff 4 s x y) e w' := by
  go_enter Tryd.func85, Tryd.ntmps85
  go_wp2_with fail
  refine (result_4 s x y w).mono ?_
  rintro e w1 ⟨A, c, rfl, hR, hb⟩
  have HR := Lib.hid hR
  have HB := Lib.hid hb
  clear hR hb
  go_wp2
  refine bodyPost_ret (v := .tuple #[.slice A (eff 4 s x y).2.1.length c, .int .i64 (eff 4 s x y).2.2]) (by simp [results, Tryd.results85, go_sem]) rfl ⟨_, _, rfl, hG.call HB.out, FrG.ofBelow HB.out, HR.out⟩
set_option maxRecDepth 100000 in
set_option maxHeartbeats 2000000 in
theorem effect_5 (s : LSt) (g lo : Nat) (x y : Int) (w : World) (hG : StX w g lo s) (hlo : lo ≤ w.heap.size) (hs : s.small 1048576) (hx : (Lit.int .i32 x).wf = true) (hy : (Lit.int .i32 y).wf = true) :
    Calls Tryd.prog 85 #[.pointer (some ⟨g, 0, none⟩), .string ⟨#[43]⟩, .int .i32 x, .int .i32 y] w fun e w' => EffE w g lo (eff 5 s x y) e w' := by
  go_enter Tryd.func85, Tryd.ntmps85
  go_wp2_with fail
  refine (result_5 s x y w).mono ?_
  rintro e w1 ⟨A, c, rfl, hR, hb⟩
  have HR := Lib.hid hR
  have HB := Lib.hid hb
  clear hR hb
  go_wp2
  refine bodyPost_ret (v := .tuple #[.slice A (eff 5 s x y).2.1.length c, .int .i64 (eff 5 s x y).2.2]) (by simp [results, Tryd.results85, go_sem]) rfl ⟨_, _, rfl, hG.call HB.out, FrG.ofBelow HB.out, HR.out⟩
set_option maxRecDepth 100000 in
set_option maxHeartbeats 2000000 in
theorem effect_6 (s : LSt) (g lo : Nat) (x y : Int) (w : World) (hG : StX w g lo s) (hlo : lo ≤ w.heap.size) (hs : s.small 1048576) (hx : (Lit.int .i32 x).wf = true) (hy : (Lit.int .i32 y).wf = true) :
    Calls Tryd.prog 85 #[.pointer (some ⟨g, 0, none⟩), .string ⟨#[45]⟩, .int .i32 x, .int .i32 y] w fun e w' => EffE w g lo (eff 6 s x y) e w' := by
  go_enter Tryd.func85, Tryd.ntmps85
  go_wp2_with fail
  refine (result_6 s x y w).mono ?_
  rintro e w1 ⟨A, c, rfl, hR, hb⟩
  have HR := Lib.hid hR
  have HB := Lib.hid hb
  clear hR hb
  go_wp2
  refine bodyPost_ret (v := .tuple #[.slice A (eff 6 s x y).2.1.length c, .int .i64 (eff 6 s x y).2.2]) (by simp [results, Tryd.results85, go_sem]) rfl ⟨_, _, rfl, hG.call HB.out, FrG.ofBelow HB.out, HR.out⟩
set_option maxRecDepth 100000 in
set_option maxHeartbeats 2000000 in
theorem effect_7 (s : LSt) (g lo : Nat) (x y : Int) (w : World) (hG : StX w g lo s) (hlo : lo ≤ w.heap.size) (hs : s.small 1048576) (hx : (Lit.int .i32 x).wf = true) (hy : (Lit.int .i32 y).wf = true) :
    Calls Tryd.prog 85 #[.pointer (some ⟨g, 0, none⟩), .string ⟨#[42]⟩, .int .i32 x, .int .i32 y] w fun e w' => EffE w g lo (eff 7 s x y) e w' := by
  go_enter Tryd.func85, Tryd.ntmps85
  go_wp2_with fail
  refine (result_7 s x y w).mono ?_
  rintro e w1 ⟨A, c, rfl, hR, hb⟩
  have HR := Lib.hid hR
  have HB := Lib.hid hb
  clear hR hb
  go_wp2
  refine bodyPost_ret (v := .tuple #[.slice A (eff 7 s x y).2.1.length c, .int .i64 (eff 7 s x y).2.2]) (by simp [results, Tryd.results85, go_sem]) rfl ⟨_, _, rfl, hG.call HB.out, FrG.ofBelow HB.out, HR.out⟩
set_option maxRecDepth 100000 in
set_option maxHeartbeats 2000000 in
theorem effect_8 (s : LSt) (g lo : Nat) (x y : Int) (w : World) (hG : StX w g lo s) (hlo : lo ≤ w.heap.size) (hs : s.small 1048576) (hx : (Lit.int .i32 x).wf = true) (hy : (Lit.int .i32 y).wf = true) :
    Calls Tryd.prog 85 #[.pointer (some ⟨g, 0, none⟩), .string ⟨#[97, 110, 100]⟩, .int .i32 x, .int .i32 y] w fun e w' => EffE w g lo (eff 8 s x y) e w' := by
  go_enter Tryd.func85, Tryd.ntmps85
  go_wp2_with fail
  refine (result_8 s x y w).mono ?_
  rintro e w1 ⟨A, c, rfl, hR, hb⟩
  have HR := Lib.hid hR
  have HB := Lib.hid hb
  clear hR hb
  go_wp2
  refine bodyPost_ret (v := .tuple #[.slice A (eff 8 s x y).2.1.length c, .int .i64 (eff 8 s x y).2.2]) (by simp [results, Tryd.results85, go_sem]) rfl ⟨_, _, rfl, hG.call HB.out, FrG.ofBelow HB.out, HR.out⟩
set_option maxRecDepth 100000 in
set_option maxHeartbeats 2000000 in
theorem effect_9 (s : LSt) (g lo : Nat) (x y : Int) (w : World) (hG : StX w g lo s) (hlo : lo ≤ w.heap.size) (hs : s.small 1048576) (hx : (Lit.int .i32 x).wf = true) (hy : (Lit.int .i32 y).wf = true) :
    Calls Tryd.prog 85 #[.pointer (some ⟨g, 0, none⟩), .string ⟨#[111, 114]⟩, .int .i32 x, .int .i32 y] w fun e w' => EffE w g lo (eff 9 s x y) e w' := by
  go_enter Tryd.func85, Tryd.ntmps85
  go_wp2_with fail
  refine (result_9 s x y w).mono ?_
  rintro e w1 ⟨A, c, rfl, hR, hb⟩
  have HR := Lib.hid hR
  have HB := Lib.hid hb
  clear hR hb
  go_wp2
  refine bodyPost_ret (v := .tuple #[.slice A (eff 9 s x y).2.1.length c, .int .i64 (eff 9 s x y).2.2]) (by simp [results, Tryd.results85, go_sem]) rfl ⟨_, _, rfl, hG.call HB.out, FrG.ofBelow HB.out, HR.out⟩
set_option maxRecDepth 100000 in
set_option maxHeartbeats 2000000 in
theorem effect_10 (s : LSt) (g lo : Nat) (x y : Int) (w : World) (hG : StX w g lo s) (hlo : lo ≤ w.heap.size) (hs : s.small 1048576) (hx : (Lit.int .i32 x).wf = true) (hy : (Lit.int .i32 y).wf = true) :
    Calls Tryd.prog 85 #[.pointer (some ⟨g, 0, none⟩), .string ⟨#[50, 42]⟩, .int .i32 x, .int .i32 y] w fun e w' => EffE w g lo (eff 10 s x y) e w' := by
  go_enter Tryd.func85, Tryd.ntmps85
  go_wp2_with fail
  refine (result_10 s x y w).mono ?_
  rintro e w1 ⟨A, c, rfl, hR, hb⟩
  have HR := Lib.hid hR
  have HB := Lib.hid hb
  clear hR hb
  go_wp2
  refine bodyPost_ret (v := .tuple #[.slice A (eff 10 s x y).2.1.length c, .int .i64 (eff 10 s x y).2.2]) (by simp [results, Tryd.results85, go_sem]) rfl ⟨_, _, rfl, hG.call HB.out, FrG.ofBelow HB.out, HR.out⟩
set_option maxRecDepth 100000 in
set_option maxHeartbeats 2000000 in
theorem effect_11 (s : LSt) (g lo : Nat) (x y : Int) (w : World) (hG : StX w g lo s) (hlo : lo ≤ w.heap.size) (hs : s.small 1048576) (hx : (Lit.int .i32 x).wf = true) (hy : (Lit.int .i32 y).wf = true) :
    Calls Tryd.prog 85 #[.pointer (some ⟨g, 0, none⟩), .string ⟨#[50, 47]⟩, .int .i32 x, .int .i32 y] w fun e w' => EffE w g lo (eff 11 s x y) e w' := by
  go_enter Tryd.func85, Tryd.ntmps85
  go_wp2_with fail
  refine (result_11 s x y w).mono ?_
  rintro e w1 ⟨A, c, rfl, hR, hb⟩
  have HR := Lib.hid hR
  have HB := Lib.hid hb
  clear hR hb
  go_wp2
  refine bodyPost_ret (v := .tuple #[.slice A (eff 11 s x y).2.1.length c, .int .i64 (eff 11 s x y).2.2]) (by simp [results, Tryd.results85, go_sem]) rfl ⟨_, _, rfl, hG.call HB.out, FrG.ofBelow HB.out, HR.out⟩
set_option maxRecDepth 100000 in
set_option maxHeartbeats 2000000 in
theorem effect_12_zero (s : LSt) (g lo : Nat) (x y : Int) (w : World) (hG : StX w g lo s) (hlo : lo ≤ w.heap.size) (hs : s.small 1048576) (hx : (Lit.int .i32 x).wf = true) (hy : (Lit.int .i32 y).wf = true) (h0 : y = 0) :
    Calls Tryd.prog 85 #[.pointer (some ⟨g, 0, none⟩), .string ⟨#[47, 109, 111, 100]⟩, .int .i32 x, .int .i32 y] w fun e w' => EffE w g lo (eff 12 s x y) e w' := by
  have hst : (eff 12 s x y).1 = s := by simp [eff, h0]
  have HC : ∀ w, _ := fun w => result_12_zero s x y w h0
  revert hst HC
  generalize eff 12 s x y = r
  intro hst HC
  have HS := Lib.hid hst
  have HCC := Lib.hid HC
  clear hst HC h0
  go_enter Tryd.func85, Tryd.ntmps85
  go_wp2_with fail
  refine (HCC.out _).mono ?_
  rintro e w1 ⟨A, c, rfl, hR, hb⟩
  have HR := Lib.hid hR
  have HB := Lib.hid hb
  clear hR hb
  go_wp2
  refine bodyPost_ret (v := .tuple #[.slice A r.2.1.length c, .int .i64 r.2.2]) (by simp [results, Tryd.results85, go_sem]) rfl ⟨_, _, rfl, by rw [HS.out]; exact hG.call HB.out, FrG.ofBelow HB.out, HR.out⟩
set_option maxRecDepth 100000 in
set_option maxHeartbeats 2000000 in
theorem effect_12_div (s : LSt) (g lo : Nat) (x y : Int) (w : World) (hG : StX w g lo s) (hlo : lo ≤ w.heap.size) (hs : s.small 1048576) (hx : (Lit.int .i32 x).wf = true) (hy : (Lit.int .i32 y).wf = true) (h0 : y ≠ 0) :
    Calls Tryd.prog 85 #[.pointer (some ⟨g, 0, none⟩), .string ⟨#[47, 109, 111, 100]⟩, .int .i32 x, .int .i32 y] w fun e w' => EffE w g lo (eff 12 s x y) e w' := by
  have hst : (eff 12 s x y).1 = s := by simp [eff, h0]
  have HC : ∀ w, _ := fun w => result_12_div s x y w hx hy h0
  revert hst HC
  generalize eff 12 s x y = r
  intro hst HC
  have HS := Lib.hid hst
  have HCC := Lib.hid HC
  clear hst HC h0
  go_enter Tryd.func85, Tryd.ntmps85
  go_wp2_with fail
  refine (HCC.out _).mono ?_
  rintro e w1 ⟨A, c, rfl, hR, hb⟩
  have HR := Lib.hid hR
  have HB := Lib.hid hb
  clear hR hb
  go_wp2
  refine bodyPost_ret (v := .tuple #[.slice A r.2.1.length c, .int .i64 r.2.2]) (by simp [results, Tryd.results85, go_sem]) rfl ⟨_, _, rfl, by rw [HS.out]; exact hG.call HB.out, FrG.ofBelow HB.out, HR.out⟩
set_option maxRecDepth 100000 in
set_option maxHeartbeats 2000000 in
theorem effect_23 (s : LSt) (g lo : Nat) (x y : Int) (w : World) (hG : StX w g lo s) (hlo : lo ≤ w.heap.size) (hs : s.small 1048576) (hx : (Lit.int .i32 x).wf = true) (hy : (Lit.int .i32 y).wf = true) :
    Calls Tryd.prog 85 #[.pointer (some ⟨g, 0, none⟩), .string ⟨#[110, 111, 112]⟩, .int .i32 x, .int .i32 y] w fun e w' => EffE w g lo (eff 23 s x y) e w' := by
  go_enter Tryd.func85, Tryd.ntmps85
  go_wp2_with fail
  refine (result_23 s x y w).mono ?_
  rintro e w1 ⟨A, c, rfl, hR, hb⟩
  have HR := Lib.hid hR
  have HB := Lib.hid hb
  clear hR hb
  go_wp2
  refine bodyPost_ret (v := .tuple #[.slice A (eff 23 s x y).2.1.length c, .int .i64 (eff 23 s x y).2.2]) (by simp [results, Tryd.results85, go_sem]) rfl ⟨_, _, rfl, hG.call HB.out, FrG.ofBelow HB.out, HR.out⟩
end Go.Proofs.YtgljbcdlldhlfaaDoor

/- What a built-in word does: contracts of effect: emit, key, push, pop, i, . -/
import Derived.Test.YtgljbcdlldhlfaaDoorEf
import Derived.Test.YtgljbcdlldhlfaaDoorPh
set_option linter.unusedVariables false
set_option linter.unusedSimpArgs false
namespace Go.Proofs.YtgljbcdlldhlfaaDoor
open Go.RowKit

theorem Rd.made1 {w : World} {m : Nat} (hm : w.heap.size = m) (v : Value) (t : TypeId) : Rd (w.alloc (.cells #[v] t)) (some ⟨m, 0, none⟩) [v] := by
  subst hm
  exact (Row.made w #[v] t 1 1 (by decide) rfl).rd
theorem info_SlotE : (Tryd.prog.info? 77).map (fun i => (i.zero, i.size, i.bytes)) = some (some (.agg #[.int .i64 0, .int .i32 0]), 2, 16) := by kernel_rfl
theorem bytesI_one {z : Int} (h0 : 0 ≤ z) (h1 : z ≤ 255) : bytesI (strOfNums [z]) = [z] := by
  unfold bytesI
  rw [strOfNums_data]
  have : (UInt8.ofNat z.toNat).toNat = z.toNat := by simp; omega
  simp [this]
  omega
theorem List.flatMap_take_two (xs : List LSlot) : ∀ k : Nat, (xs.take k).flatMap LSlot.enc = (xs.flatMap LSlot.enc).take (k * 2) := by
  induction xs with
  | nil => intro k; simp
  | cons x xs ih =>
    intro k
    cases k with
    | zero => simp
    | succ k =>
      rw [List.take_succ_cons, List.flatMap_cons, List.flatMap_cons, ih k, show (k + 1) * 2 = k * 2 + 1 + 1 by omega]
      rfl
theorem u8_range (y : Int) : 0 ≤ IntKind.wrap .u8 y ∧ IntKind.wrap .u8 y ≤ 255 := by
  have h : IntKind.wrap .u8 y = y % 256 := by simp [IntKind.wrap, IntKind.signed, IntKind.bits]
  omega
theorem convB (W : World) (z : Int) : (convert 26 9 (.slice (some ⟨W.heap.size, 0, none⟩) 1 1)).run Tryd.prog (W.alloc (.cells #[.int .u8 z] 5)) = .ok (.string (strOfNums [z])) (W.alloc (.cells #[.int .u8 z] 5)) :=
  run_convert_bytes_arg (P := Tryd.prog) _ 26 5 Tryd.underlying26 Tryd.underlying5 W.heap.size 0 1 1 [z] rfl (fun i hi => by
    obtain rfl : i = 0 := by omega
    simp) 9 Tryd.underlying9
set_option maxRecDepth 100000 in
set_option maxHeartbeats 2000000 in
theorem effect_17_no (s : LSt) (g lo : Nat) (x y : Int) (w : World) (hG : StX w g lo s) (hlo : lo ≤ w.heap.size) (hs : s.small 1048576) (hx : (Lit.int .i32 x).wf = true) (hy : (Lit.int .i32 y).wf = true) (hn : 400 < s.out.length + 1) :
    Calls Tryd.prog 85 #[.pointer (some ⟨g, 0, none⟩), .string ⟨#[101, 109, 105, 116]⟩, .int .i32 x, .int .i32 y] w fun e w' => EffE w g lo (eff 17 s x y) e w' := by
  have HE : Hid (eff 17 s x y = (s, [], 13)) := Lib.hid (by simp only [eff, if_pos hn])
  have kc := convB
  have HN := Lib.hid hn
  have HG := Lib.hid hG
  clear hn hG
  go_enter Tryd.func85, Tryd.ntmps85
  go_wp2_with fail
  refine (written_no s g lo (strOfNums [(IntKind.wrap .u8 y)]) _ (HG.out.alloc _) hs.2.2.2.2.2.1 (by rw [strOfNums_size]; simp) (by rw [strOfNums_size]; exact HN.out)).mono ?_
  rintro e w1 ⟨rfl, rfl⟩
  go_wp2
  refine bodyPost_ret (v := .tuple #[.slice none 0 0, .int .i64 13]) (by simp [results, Tryd.results85, go_sem]) rfl ⟨none, 0, ?_, ?_, ?_, ?_⟩
  · rw [HE.out]; rfl
  · rw [HE.out]; exact HG.out.alloc _
  · exact FrG.ofBelow (bl_alloc (Below.refl _ _) _)
  · rw [HE.out]; exact Rd.nil _ _
set_option maxRecDepth 100000 in
set_option maxHeartbeats 2000000 in
theorem effect_17_ok (s : LSt) (g lo : Nat) (x y : Int) (w : World) (hG : StX w g lo s) (hlo : lo ≤ w.heap.size) (hs : s.small 1048576) (hx : (Lit.int .i32 x).wf = true) (hy : (Lit.int .i32 y).wf = true) (hn : s.out.length + 1 ≤ 400) :
    Calls Tryd.prog 85 #[.pointer (some ⟨g, 0, none⟩), .string ⟨#[101, 109, 105, 116]⟩, .int .i32 x, .int .i32 y] w fun e w' => EffE w g lo (eff 17 s x y) e w' := by
  have HE : Hid (eff 17 s x y = ({ s with out := s.out ++ [(IntKind.wrap .u8 y)] }, [], 0)) := Lib.hid (by simp only [eff, if_neg (show ¬ 400 < s.out.length + 1 by omega)])
  have kc := convB
  have HN := Lib.hid hn
  have HG := Lib.hid hG
  clear hn hG
  go_enter Tryd.func85, Tryd.ntmps85
  go_wp2_with fail
  refine (written_ok s g lo (strOfNums [(IntKind.wrap .u8 y)]) _ (HG.out.alloc _) (by simp; omega) (by rw [strOfNums_size]; exact HN.out)).mono ?_
  rintro e w1 ⟨rfl, hS, hF⟩
  have HS := Lib.hid hS
  have HF := Lib.hid hF
  clear hS hF
  go_wp2
  refine bodyPost_ret (v := .tuple #[.slice none 0 0, .int .i64 0]) (by simp [results, Tryd.results85, go_sem]) rfl ⟨none, 0, ?_, ?_, ?_, ?_⟩
  · rw [HE.out]; rfl
  · rw [HE.out]; exact (by have := HS.out; rwa [bytesI_one (u8_range y).1 (u8_range y).2] at this)
  · exact FrG.trans (FrG.ofBelow (bl_alloc (Below.refl _ _) _)) HF.out
  · rw [HE.out]; exact Rd.nil _ _
set_option maxRecDepth 100000 in
set_option maxHeartbeats 2000000 in
theorem effect_22_no (s : LSt) (g lo : Nat) (x y : Int) (w : World) (hG : StX w g lo s) (hlo : lo ≤ w.heap.size) (hs : s.small 1048576) (hx : (Lit.int .i32 x).wf = true) (hy : (Lit.int .i32 y).wf = true) (hP : Pow w) (hn : 400 < s.out.length + (dotT y).length) :
    Calls Tryd.prog 85 #[.pointer (some ⟨g, 0, none⟩), .string ⟨#[46]⟩, .int .i32 x, .int .i32 y] w fun e w' => EffE w g lo (eff 22 s x y) e w' := by
  have hr := i32_range hy
  have hsz : (decT y).size ≤ 20 := decT_size (by omega) (by omega)
  have hcat : (decT y ++ (⟨#[32]⟩ : ByteArray)).size = (decT y).size + 1 := by rw [ByteArray.size_append]; rfl
  have hdl : (dotT y).length = (decT y ++ (⟨#[32]⟩ : ByteArray)).size := bytesI_length _
  have w64 := wrap64_i32 hy
  have HD : Hid (∀ W, Below w.heap.size w W → Calls Tryd.prog 98 #[.int .i64 y] W fun e w' => e = .returned (.string (decT y)) ∧ Below W.heap.size W w') := Lib.hid fun W hb => decText_calls y (by omega) (by omega) W (hP.call hb)
  have HE : Hid (eff 22 s x y = (s, [], 13)) := Lib.hid (by simp only [eff, if_pos hn])
  have HN : Hid (400 < s.out.length + (decT y ++ (⟨#[32]⟩ : ByteArray)).size) := Lib.hid (by rw [← hdl]; exact hn)
  have HG := Lib.hid hG
  have HC := Lib.hid hcat
  clear hn hG hcat hdl
  go_enter Tryd.func85, Tryd.ntmps85
  go_wp2_with fail
  refine (HD.out _ (Below.refl _ _)).mono ?_
  rintro e w1 ⟨rfl, hb⟩
  have HB := Lib.hid hb
  have hz := hb.size
  clear hb
  go_wp2_with fail
  refine (written_no s g lo (decT y ++ (⟨#[32]⟩ : ByteArray)) _ (HG.out.call HB.out) hs.2.2.2.2.2.1 (by have := HC.out; omega) HN.out).mono ?_
  rintro e w2 ⟨rfl, rfl⟩
  go_wp2
  refine bodyPost_ret (v := .tuple #[.slice none 0 0, .int .i64 13]) (by simp [results, Tryd.results85, go_sem]) rfl ⟨none, 0, ?_, ?_, ?_, ?_⟩
  · rw [HE.out]; rfl
  · rw [HE.out]; exact HG.out.call HB.out
  · exact FrG.ofBelow HB.out
  · rw [HE.out]; exact Rd.nil _ _
set_option maxRecDepth 100000 in
set_option maxHeartbeats 2000000 in
theorem effect_22_ok (s : LSt) (g lo : Nat) (x y : Int) (w : World) (hG : StX w g lo s) (hlo : lo ≤ w.heap.size) (hs : s.small 1048576) (hx : (Lit.int .i32 x).wf = true) (hy : (Lit.int .i32 y).wf = true) (hP : Pow w) (hn : s.out.length + (dotT y).length ≤ 400) :
    Calls Tryd.prog 85 #[.pointer (some ⟨g, 0, none⟩), .string ⟨#[46]⟩, .int .i32 x, .int .i32 y] w fun e w' => EffE w g lo (eff 22 s x y) e w' := by
  have hr := i32_range hy
  have hsz : (decT y).size ≤ 20 := decT_size (by omega) (by omega)
  have hcat : (decT y ++ (⟨#[32]⟩ : ByteArray)).size = (decT y).size + 1 := by rw [ByteArray.size_append]; rfl
  have hdl : (dotT y).length = (decT y ++ (⟨#[32]⟩ : ByteArray)).size := bytesI_length _
  have w64 := wrap64_i32 hy
  have HD : Hid (∀ W, Below w.heap.size w W → Calls Tryd.prog 98 #[.int .i64 y] W fun e w' => e = .returned (.string (decT y)) ∧ Below W.heap.size W w') := Lib.hid fun W hb => decText_calls y (by omega) (by omega) W (hP.call hb)
  have HE : Hid (eff 22 s x y = ({ s with out := s.out ++ dotT y }, [], 0)) := Lib.hid (by simp only [eff, if_neg (show ¬ 400 < s.out.length + (dotT y).length by omega)])
  have HN : Hid (s.out.length + (decT y ++ (⟨#[32]⟩ : ByteArray)).size ≤ 400) := Lib.hid (by rw [← hdl]; exact hn)
  have HG := Lib.hid hG
  clear hn hG hcat hdl
  go_enter Tryd.func85, Tryd.ntmps85
  go_wp2_with fail
  refine (HD.out _ (Below.refl _ _)).mono ?_
  rintro e w1 ⟨rfl, hb⟩
  have HB := Lib.hid hb
  have hz := hb.size
  clear hb
  go_wp2_with fail
  refine (written_ok s g lo (decT y ++ (⟨#[32]⟩ : ByteArray)) _ (HG.out.call HB.out) (by omega) HN.out).mono ?_
  rintro e w2 ⟨rfl, hS, hF⟩
  have HS := Lib.hid hS
  have HF := Lib.hid hF
  clear hS hF
  go_wp2
  refine bodyPost_ret (v := .tuple #[.slice none 0 0, .int .i64 0]) (by simp [results, Tryd.results85, go_sem]) rfl ⟨none, 0, ?_, ?_, ?_, ?_⟩
  · rw [HE.out]; rfl
  · rw [HE.out]; exact HS.out
  · exact FrG.trans (FrG.ofBelow HB.out) HF.out
  · rw [HE.out]; exact Rd.nil _ _
set_option maxRecDepth 100000 in
set_option maxHeartbeats 2000000 in
theorem effect_18_none (s : LSt) (g lo : Nat) (x y : Int) (w : World) (hG : StX w g lo s) (hlo : lo ≤ w.heap.size) (hs : s.small 1048576) (hx : (Lit.int .i32 x).wf = true) (hy : (Lit.int .i32 y).wf = true) (hn : s.inp = []) :
    Calls Tryd.prog 85 #[.pointer (some ⟨g, 0, none⟩), .string ⟨#[107, 101, 121]⟩, .int .i32 x, .int .i32 y] w fun e w' => EffE w g lo (eff 18 s x y) e w' := by
  have HE : Hid (eff 18 s x y = (s, [-1], 0)) := Lib.hid (by simp only [eff, hn])
  have e0 : s.inp.length = 0 := by rw [hn]; rfl
  obtain ⟨D0, d0, D1, d1, D3, d3, D4, d4, D5, d5, D6, d6, D7, d7, hg, R0, R1, R3, R4, R5, R6, R7, hc7⟩ := hG.cells
  have cc := blk_cell hg
  have ff := blk_frozen hg
  have zz := blk_lt hg
  have HG := Lib.hid hG
  clear hG hg R0 R1 R3 R4 R5 R6 R7
  clear hn
  go_enter Tryd.func85, Tryd.ntmps85
  go_wp2
  refine bodyPost_ret (v := .tuple #[.slice (some ⟨w.heap.size, 0, none⟩) 1 1, .int .i64 0]) (by simp [results, Tryd.results85, go_sem]) rfl ⟨(some ⟨w.heap.size, 0, none⟩), 1, ?_, ?_, ?_, ?_⟩
  · rw [HE.out]; rfl
  · rw [HE.out]; exact HG.out.alloc _
  · exact FrG.ofBelow (bl_alloc (Below.refl _ _) _)
  · rw [HE.out]; exact (Row.made w _ 21 1 1 (by decide) (by rfl)).rd
set_option maxRecDepth 100000 in
set_option maxHeartbeats 2000000 in
theorem effect_18_some (s : LSt) (g lo : Nat) (x y : Int) (w : World) (hG : StX w g lo s) (hlo : lo ≤ w.heap.size) (hs : s.small 1048576) (hx : (Lit.int .i32 x).wf = true) (hy : (Lit.int .i32 y).wf = true) (b : Int) (r : List Int) (hn : s.inp = b :: r) :
    Calls Tryd.prog 85 #[.pointer (some ⟨g, 0, none⟩), .string ⟨#[107, 101, 121]⟩, .int .i32 x, .int .i32 y] w fun e w' => EffE w g lo (eff 18 s x y) e w' := by
  have e1 : s.inp.length = r.length + 1 := by rw [hn]; rfl
  obtain ⟨D0, d0, D1, d1, D3, d3, D4, d4, D5, d5, D6, d6, D7, d7, hg, R7, hc7, hK⟩ := hG.in7
  have HE : Hid (eff 18 s x y = ({ s with inp := r }, [w32 b], 0)) := Lib.hid (by simp only [eff, hn])
  rw [hn] at R7 hK
  rw [e1] at hg hc7
  obtain ⟨ad, rfl, hcell⟩ := R7.at_ (j := 0) (u := .int .u8 b) rfl
  have hcell1 : w.cell? ad = some (.int .u8 b) := by rw [← Addr.add_zero' ad]; exact hcell
  have hrl : r.length ≤ 1048576 := by have := hs.2.2.2.2.2.2; omega
  have cc := blk_cell hg
  have ff := blk_frozen hg
  have zz := blk_lt hg
  have HG := Lib.hid hg
  clear hG hg R7 hn e1
  have hd : d7 = 1 ∨ ∃ m, d7 = m + 2 := by
    rcases Nat.lt_or_ge d7 2 with h | h
    · exact .inl (by omega)
    · exact .inr ⟨d7 - 2, by omega⟩
  rcases hd with rfl | ⟨m, rfl⟩
  · obtain rfl : r = [] := List.eq_nil_of_length_eq_zero (by omega)
    have HK := Lib.hid (hK [] (some ad) 0 (by simp) (fun w1 h => Rd.nil _ _))
    clear hK
    go_enter Tryd.func85, Tryd.ntmps85
    go_wp2
    refine bodyPost_ret (v := .tuple #[.slice (some ⟨w.heap.size, 0, none⟩) 1 1, .int .i64 0]) (by simp [results, Tryd.results85, go_sem]) rfl ⟨(some ⟨w.heap.size, 0, none⟩), 1, ?_, ?_, ?_, ?_⟩
    · rw [HE.out]; rfl
    · rw [HE.out]; exact HK.out.1.alloc _
    · exact FrG.trans HK.out.2 (FrG.ofBelow (bl_alloc (Below.refl _ _) _))
    · rw [HE.out]; exact Rd.made1 (by simp) _ _
  · skip
    have HK := Lib.hid (hK r (some ⟨ad.block, ad.off + 1, none⟩) (m + 1) (by omega) (fun w1 h => by have := h.drop 1; rw [show (1 : Nat) = 0 + 1 from rfl, add_field ad 0 1 (by omega), Addr.add_zero'] at this; simpa using this))
    clear hK
    go_enter Tryd.func85, Tryd.ntmps85
    go_wp2
    refine bodyPost_ret (v := .tuple #[.slice (some ⟨w.heap.size, 0, none⟩) 1 1, .int .i64 0]) (by simp [results, Tryd.results85, go_sem]) rfl ⟨(some ⟨w.heap.size, 0, none⟩), 1, ?_, ?_, ?_, ?_⟩
    · rw [HE.out]; rfl
    · rw [HE.out]; exact HK.out.1.alloc _
    · exact FrG.trans HK.out.2 (FrG.ofBelow (bl_alloc (Below.refl _ _) _))
    · rw [HE.out]; exact Rd.made1 (by simp) _ _
set_option maxRecDepth 100000 in
set_option maxHeartbeats 2000000 in
theorem effect_19_no (s : LSt) (g lo : Nat) (x y : Int) (w : World) (hG : StX w g lo s) (hlo : lo ≤ w.heap.size) (hs : s.small 1048576) (hx : (Lit.int .i32 x).wf = true) (hy : (Lit.int .i32 y).wf = true) (hn : s.ret.length = 24) :
    Calls Tryd.prog 85 #[.pointer (some ⟨g, 0, none⟩), .string ⟨#[112, 117, 115, 104]⟩, .int .i32 x, .int .i32 y] w fun e w' => EffE w g lo (eff 19 s x y) e w' := by
  have HE : Hid (eff 19 s x y = (s, [], 3)) := Lib.hid (by simp only [eff, if_pos hn])
  have e24 : ((s.ret.length : Int) == 24) = true := by simp; omega
  obtain ⟨D0, d0, D1, d1, D3, d3, D4, d4, D5, d5, D6, d6, D7, d7, hg, R0, R1, R3, R4, R5, R6, R7, hc7⟩ := hG.cells
  have cc := blk_cell hg
  have ff := blk_frozen hg
  have zz := blk_lt hg
  have HG := Lib.hid hG
  clear hG hg R0 R1 R3 R4 R5 R6 R7
  clear hn
  go_enter Tryd.func85, Tryd.ntmps85
  go_wp2
  refine bodyPost_ret (v := .tuple #[.slice none 0 0, .int .i64 3]) (by simp [results, Tryd.results85, go_sem]) rfl ⟨none, 0, ?_, ?_, ?_, ?_⟩
  · rw [HE.out]; rfl
  · rw [HE.out]; exact HG.out
  · exact FrG.refl _ _ _
  · rw [HE.out]; exact Rd.nil _ _
set_option maxRecDepth 100000 in
set_option maxHeartbeats 2000000 in
theorem effect_19_ok (s : LSt) (g lo : Nat) (x y : Int) (w : World) (hG : StX w g lo s) (hlo : lo ≤ w.heap.size) (hs : s.small 1048576) (hx : (Lit.int .i32 x).wf = true) (hy : (Lit.int .i32 y).wf = true) (hn : s.ret.length ≠ 24) :
    Calls Tryd.prog 85 #[.pointer (some ⟨g, 0, none⟩), .string ⟨#[112, 117, 115, 104]⟩, .int .i32 x, .int .i32 y] w fun e w' => EffE w g lo (eff 19 s x y) e w' := by
  have HE : Hid (eff 19 s x y = ({ s with ret := s.ret ++ [⟨0, y⟩] }, [], 0)) := Lib.hid (by simp only [eff, if_neg hn])
  have e24 : ((s.ret.length : Int) == 24) = false := by simp; omega
  obtain ⟨D0, d0, D1, d1, D3, d3, D4, d4, D5, d5, D6, d6, D7, d7, b1, hg, r1, L1, hK⟩ := hG.rep1 hlo
  have cc := blk_cell hg
  have ff := blk_frozen hg
  have zz := blk_lt hg
  have H1 := Lib.hid r1
  have HL := Lib.hid L1
  have HK := Lib.hid hK
  have HG := Lib.hid hg
  have hrl : s.ret.length ≤ 1048576 := hs.2.1
  clear hG hg r1 L1 hK hn
  go_enter Tryd.func85, Tryd.ntmps85
  go_wp2_with (at_builtin; refine wp_append1s _ (m := w.heap.size) (by first | rfl | simp) rfl _ _ 30 rfl 77 (.agg #[.int .i64 0, .int .i32 0]) 2 16 Tryd.underlying30 info_SlotE rfl (by decide) rfl H1.out rfl rfl ?_ ?_ ?_ ?_; (intro u hu; simp at hu; rcases hu with rfl | rfl <;> rfl); (unfold maxLen; omega); omega; intro B d w5 b hR hg5 hb5; have HR := Lib.hid hR; have HG5 := Lib.hid hg5; have HB5 := Lib.hid hb5; have K5 := Lib.hid ((hg5.block g zz (fun e => (HL.out g e.symm).2 rfl)).trans HG.out); have cq5 := blk_cell K5.out; have fq5 := blk_frozen K5.out; have zq5 := blk_lt K5.out; clear hR hg5 hb5)
  have hh := HK.out (s.ret ++ [⟨0, y⟩]) B d w5 b (by simpa [LSlot.enc] using HR.out) HG5.out HB5.out
  simp only [List.length_append, List.length_cons, List.length_nil, Nat.zero_add] at hh
  refine bodyPost_ret (v := .tuple #[.slice none 0 0, .int .i64 0]) (by simp [results, Tryd.results85, go_sem]) rfl ⟨none, 0, ?_, ?_, ?_, ?_⟩
  · rw [HE.out]; rfl
  · rw [HE.out]; exact hh.1
  · exact hh.2
  · rw [HE.out]; exact Rd.nil _ _
set_option maxRecDepth 100000 in
set_option maxHeartbeats 2000000 in
theorem effect_20_none (s : LSt) (g lo : Nat) (x y : Int) (w : World) (hG : StX w g lo s) (hlo : lo ≤ w.heap.size) (hs : s.small 1048576) (hx : (Lit.int .i32 x).wf = true) (hy : (Lit.int .i32 y).wf = true) (hn : s.ret.length = 0) :
    Calls Tryd.prog 85 #[.pointer (some ⟨g, 0, none⟩), .string ⟨#[112, 111, 112]⟩, .int .i32 x, .int .i32 y] w fun e w' => EffE w g lo (eff 20 s x y) e w' := by
  have HE : Hid (eff 20 s x y = (s, [], 3)) := Lib.hid (by simp only [eff, if_pos hn])
  have e0 : s.ret.length = 0 := hn
  obtain ⟨D0, d0, D1, d1, D3, d3, D4, d4, D5, d5, D6, d6, D7, d7, hg, R0, R1, R3, R4, R5, R6, R7, hc7⟩ := hG.cells
  have cc := blk_cell hg
  have ff := blk_frozen hg
  have zz := blk_lt hg
  have HG := Lib.hid hG
  clear hG hg R0 R1 R3 R4 R5 R6 R7
  clear hn
  go_enter Tryd.func85, Tryd.ntmps85
  go_wp2
  refine bodyPost_ret (v := .tuple #[.slice none 0 0, .int .i64 3]) (by simp [results, Tryd.results85, go_sem]) rfl ⟨none, 0, ?_, ?_, ?_, ?_⟩
  · rw [HE.out]; rfl
  · rw [HE.out]; exact HG.out
  · exact FrG.refl _ _ _
  · rw [HE.out]; exact Rd.nil _ _
set_option maxRecDepth 100000 in
set_option maxHeartbeats 2000000 in
theorem effect_20_bad (s : LSt) (g lo : Nat) (x y : Int) (w : World) (hG : StX w g lo s) (hlo : lo ≤ w.heap.size) (hs : s.small 1048576) (hx : (Lit.int .i32 x).wf = true) (hy : (Lit.int .i32 y).wf = true) (k : Nat) (t : LSlot) (hn : s.ret.length = k + 1) (ht : s.ret[k]? = some t) (hb : t.kind ≠ 0) :
    Calls Tryd.prog 85 #[.pointer (some ⟨g, 0, none⟩), .string ⟨#[112, 111, 112]⟩, .int .i32 x, .int .i32 y] w fun e w' => EffE w g lo (eff 20 s x y) e w' := by
  have hlast : lastR s = t := by unfold lastR; rw [hn, Nat.add_sub_cancel]; simp [List.getD, ht]
  have hn0 : ¬ s.ret.length = 0 := by omega
  have HE : Hid (eff 20 s x y = (s, [], 11)) := Lib.hid (by simp only [eff, if_neg hn0, hlast]; rw [if_pos hb])
  have e1 : (t.kind != 0) = true := by simpa using hb
  obtain ⟨D0, d0, D1, d1, D3, d3, D4, d4, D5, d5, D6, d6, D7, d7, b1, hg, r1, L1, hK⟩ := hG.rep1 hlo
  obtain ⟨g1, rfl, rfl⟩ := r1.pos (by omega)
  have c0 : w.cell? ⟨g1, k * 2, none⟩ = some (.int .i64 t.kind) := (r1.cell (by omega)).trans (by rw [show k * 2 = k * 2 + 0 from rfl, flat_get LSlot.enc_len s.ret k t ht 0 (by omega)]; rfl)
  have c1 : w.cell? ⟨g1, k * 2 + 1, none⟩ = some (.int .i32 t.n) := (r1.cell (by omega)).trans (by rw [flat_get LSlot.enc_len s.ret k t ht 1 (by omega)]; rfl)
  have hkd : k ≤ d1 := by have := r1.le; omega
  have hkdi : (k : Int) ≤ (d1 : Int) := by omega
  have HSH := Lib.hid (r1.shorter (m := k) (by omega))
  have HG := Lib.hid hG
  have HK := Lib.hid hK
  rw [hn] at hg
  have cc := blk_cell hg
  have ff := blk_frozen hg
  have zz := blk_lt hg
  have hk : k ≤ 1048576 := by have := hs.2.1; omega
  clear hG hg r1 L1 hK hlast hn0
  clear hn ht hb
  go_enter Tryd.func85, Tryd.ntmps85
  go_wp2
  refine bodyPost_ret (v := .tuple #[.slice none 0 0, .int .i64 11]) (by simp [results, Tryd.results85, go_sem]) rfl ⟨none, 0, ?_, ?_, ?_, ?_⟩
  · rw [HE.out]; rfl
  · rw [HE.out]; exact HG.out
  · exact FrG.refl _ _ _
  · rw [HE.out]; exact Rd.nil _ _
set_option maxRecDepth 100000 in
set_option maxHeartbeats 2000000 in
theorem effect_20_ok (s : LSt) (g lo : Nat) (x y : Int) (w : World) (hG : StX w g lo s) (hlo : lo ≤ w.heap.size) (hs : s.small 1048576) (hx : (Lit.int .i32 x).wf = true) (hy : (Lit.int .i32 y).wf = true) (k : Nat) (t : LSlot) (hn : s.ret.length = k + 1) (ht : s.ret[k]? = some t) (hb : t.kind = 0) :
    Calls Tryd.prog 85 #[.pointer (some ⟨g, 0, none⟩), .string ⟨#[112, 111, 112]⟩, .int .i32 x, .int .i32 y] w fun e w' => EffE w g lo (eff 20 s x y) e w' := by
  have hlast : lastR s = t := by unfold lastR; rw [hn, Nat.add_sub_cancel]; simp [List.getD, ht]
  have hn0 : ¬ s.ret.length = 0 := by omega
  have HE : Hid (eff 20 s x y = ({ s with ret := s.ret.take k }, [t.n], 0)) := Lib.hid (by simp only [eff, if_neg hn0, hlast]; rw [if_neg (by simpa using hb), hn, Nat.add_sub_cancel])
  have e1 : (t.kind != 0) = false := by simpa using hb
  have e2 : (t.kind == 2) = false := by rw [hb]; rfl
  obtain ⟨D0, d0, D1, d1, D3, d3, D4, d4, D5, d5, D6, d6, D7, d7, b1, hg, r1, L1, hK⟩ := hG.rep1 hlo
  obtain ⟨g1, rfl, rfl⟩ := r1.pos (by omega)
  have c0 : w.cell? ⟨g1, k * 2, none⟩ = some (.int .i64 t.kind) := (r1.cell (by omega)).trans (by rw [show k * 2 = k * 2 + 0 from rfl, flat_get LSlot.enc_len s.ret k t ht 0 (by omega)]; rfl)
  have c1 : w.cell? ⟨g1, k * 2 + 1, none⟩ = some (.int .i32 t.n) := (r1.cell (by omega)).trans (by rw [flat_get LSlot.enc_len s.ret k t ht 1 (by omega)]; rfl)
  have hkd : k ≤ d1 := by have := r1.le; omega
  have hkdi : (k : Int) ≤ (d1 : Int) := by omega
  have HSH := Lib.hid (r1.shorter (m := k) (by omega))
  have HG := Lib.hid hG
  have HK := Lib.hid hK
  rw [hn] at hg
  have cc := blk_cell hg
  have ff := blk_frozen hg
  have zz := blk_lt hg
  have hk : k ≤ 1048576 := by have := hs.2.1; omega
  clear hG hg r1 L1 hK hlast hn0
  have HTK : Hid ((s.ret.take k).length = k) := Lib.hid (by rw [List.length_take]; omega)
  clear hn ht hb
  go_enter Tryd.func85, Tryd.ntmps85
  go_wp2
  have hh := HK.out (s.ret.take k) (some ⟨g1, 0, none⟩) d1 w (some g1) (by rw [HTK.out, List.flatMap_take_two]; exact HSH.out) (grownBy_refl _ _) (.inl rfl)
  rw [HTK.out] at hh
  refine bodyPost_ret (v := .tuple #[.slice (some ⟨w.heap.size, 0, none⟩) 1 1, .int .i64 0]) (by simp [results, Tryd.results85, go_sem]) rfl ⟨(some ⟨w.heap.size, 0, none⟩), 1, ?_, ?_, ?_, ?_⟩
  · rw [HE.out]; rfl
  · rw [HE.out]; exact hh.1.alloc _
  · exact FrG.trans hh.2 (FrG.ofBelow (bl_alloc (Below.refl _ _) _))
  · rw [HE.out]; exact Rd.made1 (by simp) _ _
set_option maxRecDepth 100000 in
set_option maxHeartbeats 2000000 in
theorem effect_21_none (s : LSt) (g lo : Nat) (x y : Int) (w : World) (hG : StX w g lo s) (hlo : lo ≤ w.heap.size) (hs : s.small 1048576) (hx : (Lit.int .i32 x).wf = true) (hy : (Lit.int .i32 y).wf = true) (hn : s.ret.length = 0) :
    Calls Tryd.prog 85 #[.pointer (some ⟨g, 0, none⟩), .string ⟨#[105]⟩, .int .i32 x, .int .i32 y] w fun e w' => EffE w g lo (eff 21 s x y) e w' := by
  have HE : Hid (eff 21 s x y = (s, [], 3)) := Lib.hid (by simp only [eff, if_pos hn])
  have e0 : s.ret.length = 0 := hn
  obtain ⟨D0, d0, D1, d1, D3, d3, D4, d4, D5, d5, D6, d6, D7, d7, hg, R0, R1, R3, R4, R5, R6, R7, hc7⟩ := hG.cells
  have cc := blk_cell hg
  have ff := blk_frozen hg
  have zz := blk_lt hg
  have HG := Lib.hid hG
  clear hG hg R0 R1 R3 R4 R5 R6 R7
  clear hn
  go_enter Tryd.func85, Tryd.ntmps85
  go_wp2
  refine bodyPost_ret (v := .tuple #[.slice none 0 0, .int .i64 3]) (by simp [results, Tryd.results85, go_sem]) rfl ⟨none, 0, ?_, ?_, ?_, ?_⟩
  · rw [HE.out]; rfl
  · rw [HE.out]; exact HG.out
  · exact FrG.refl _ _ _
  · rw [HE.out]; exact Rd.nil _ _
set_option maxRecDepth 100000 in
set_option maxHeartbeats 2000000 in
theorem effect_21_bad (s : LSt) (g lo : Nat) (x y : Int) (w : World) (hG : StX w g lo s) (hlo : lo ≤ w.heap.size) (hs : s.small 1048576) (hx : (Lit.int .i32 x).wf = true) (hy : (Lit.int .i32 y).wf = true) (k : Nat) (t : LSlot) (hn : s.ret.length = k + 1) (ht : s.ret[k]? = some t) (hb : t.kind = 2) :
    Calls Tryd.prog 85 #[.pointer (some ⟨g, 0, none⟩), .string ⟨#[105]⟩, .int .i32 x, .int .i32 y] w fun e w' => EffE w g lo (eff 21 s x y) e w' := by
  have hlast : lastR s = t := by unfold lastR; rw [hn, Nat.add_sub_cancel]; simp [List.getD, ht]
  have hn0 : ¬ s.ret.length = 0 := by omega
  have HE : Hid (eff 21 s x y = (s, [], 11)) := Lib.hid (by simp only [eff, if_neg hn0, hlast]; rw [if_pos hb])
  have e1 : (t.kind == 2) = true := by simpa using hb
  obtain ⟨D0, d0, D1, d1, D3, d3, D4, d4, D5, d5, D6, d6, D7, d7, b1, hg, r1, L1, hK⟩ := hG.rep1 hlo
  obtain ⟨g1, rfl, rfl⟩ := r1.pos (by omega)
  have c0 : w.cell? ⟨g1, k * 2, none⟩ = some (.int .i64 t.kind) := (r1.cell (by omega)).trans (by rw [show k * 2 = k * 2 + 0 from rfl, flat_get LSlot.enc_len s.ret k t ht 0 (by omega)]; rfl)
  have c1 : w.cell? ⟨g1, k * 2 + 1, none⟩ = some (.int .i32 t.n) := (r1.cell (by omega)).trans (by rw [flat_get LSlot.enc_len s.ret k t ht 1 (by omega)]; rfl)
  have hkd : k ≤ d1 := by have := r1.le; omega
  have hkdi : (k : Int) ≤ (d1 : Int) := by omega
  have HSH := Lib.hid (r1.shorter (m := k) (by omega))
  have HG := Lib.hid hG
  have HK := Lib.hid hK
  rw [hn] at hg
  have cc := blk_cell hg
  have ff := blk_frozen hg
  have zz := blk_lt hg
  have hk : k ≤ 1048576 := by have := hs.2.1; omega
  clear hG hg r1 L1 hK hlast hn0
  clear hn ht hb
  go_enter Tryd.func85, Tryd.ntmps85
  go_wp2
  refine bodyPost_ret (v := .tuple #[.slice none 0 0, .int .i64 11]) (by simp [results, Tryd.results85, go_sem]) rfl ⟨none, 0, ?_, ?_, ?_, ?_⟩
  · rw [HE.out]; rfl
  · rw [HE.out]; exact HG.out
  · exact FrG.refl _ _ _
  · rw [HE.out]; exact Rd.nil _ _
set_option maxRecDepth 100000 in
set_option maxHeartbeats 2000000 in
theorem effect_21_ok (s : LSt) (g lo : Nat) (x y : Int) (w : World) (hG : StX w g lo s) (hlo : lo ≤ w.heap.size) (hs : s.small 1048576) (hx : (Lit.int .i32 x).wf = true) (hy : (Lit.int .i32 y).wf = true) (k : Nat) (t : LSlot) (hn : s.ret.length = k + 1) (ht : s.ret[k]? = some t) (hb : t.kind ≠ 2) :
    Calls Tryd.prog 85 #[.pointer (some ⟨g, 0, none⟩), .string ⟨#[105]⟩, .int .i32 x, .int .i32 y] w fun e w' => EffE w g lo (eff 21 s x y) e w' := by
  have hlast : lastR s = t := by unfold lastR; rw [hn, Nat.add_sub_cancel]; simp [List.getD, ht]
  have hn0 : ¬ s.ret.length = 0 := by omega
  have HE : Hid (eff 21 s x y = (s, [t.n], 0)) := Lib.hid (by simp only [eff, if_neg hn0, hlast]; rw [if_neg hb])
  have e1 : (t.kind == 2) = false := by simpa using hb
  obtain ⟨D0, d0, D1, d1, D3, d3, D4, d4, D5, d5, D6, d6, D7, d7, b1, hg, r1, L1, hK⟩ := hG.rep1 hlo
  obtain ⟨g1, rfl, rfl⟩ := r1.pos (by omega)
  have c0 : w.cell? ⟨g1, k * 2, none⟩ = some (.int .i64 t.kind) := (r1.cell (by omega)).trans (by rw [show k * 2 = k * 2 + 0 from rfl, flat_get LSlot.enc_len s.ret k t ht 0 (by omega)]; rfl)
  have c1 : w.cell? ⟨g1, k * 2 + 1, none⟩ = some (.int .i32 t.n) := (r1.cell (by omega)).trans (by rw [flat_get LSlot.enc_len s.ret k t ht 1 (by omega)]; rfl)
  have hkd : k ≤ d1 := by have := r1.le; omega
  have hkdi : (k : Int) ≤ (d1 : Int) := by omega
  have HSH := Lib.hid (r1.shorter (m := k) (by omega))
  have HG := Lib.hid hG
  have HK := Lib.hid hK
  rw [hn] at hg
  have cc := blk_cell hg
  have ff := blk_frozen hg
  have zz := blk_lt hg
  have hk : k ≤ 1048576 := by have := hs.2.1; omega
  clear hG hg r1 L1 hK hlast hn0
  clear hn ht hb
  go_enter Tryd.func85, Tryd.ntmps85
  go_wp2
  refine bodyPost_ret (v := .tuple #[.slice (some ⟨w.heap.size, 0, none⟩) 1 1, .int .i64 0]) (by simp [results, Tryd.results85, go_sem]) rfl ⟨(some ⟨w.heap.size, 0, none⟩), 1, ?_, ?_, ?_, ?_⟩
  · rw [HE.out]; rfl
  · rw [HE.out]; exact HG.out.alloc _
  · exact FrG.ofBelow (bl_alloc (Below.refl _ _) _)
  · rw [HE.out]; exact (Row.made w _ 21 1 1 (by decide) (by rfl)).rd
end Go.Proofs.YtgljbcdlldhlfaaDoor

/- The reference's Do. -/
import Derived.Test.YtgljbcdlldhlfaaDoorSi
import Derived.Test.YtgljbcdlldhlfaaDoorSj
set_option linter.unusedVariables false
set_option linter.unusedSimpArgs false
namespace Go.Proofs.YtgljbcdlldhlfaaDoor
open Go.RowKit

theorem eff_x {k : Nat} (hk : k ≤ 23) (h : needN k ≤ 1) (s : LSt) (x x' y : Int) : eff k s x y = eff k s x' y := by
  have hc : k = 0 ∨ k = 1 ∨ k = 2 ∨ k = 3 ∨ k = 4 ∨ k = 5 ∨ k = 6 ∨ k = 7 ∨ k = 8 ∨ k = 9 ∨ k = 10 ∨ k = 11 ∨ k = 12 ∨ k = 13 ∨ k = 14 ∨ k = 15 ∨ k = 16 ∨ k = 17 ∨ k = 18 ∨ k = 19 ∨ k = 20 ∨ k = 21 ∨ k = 22 ∨ k = 23 := by omega
  rcases hc with rfl | rfl | rfl | rfl | rfl | rfl | rfl | rfl | rfl | rfl | rfl | rfl | rfl | rfl | rfl | rfl | rfl | rfl | rfl | rfl | rfl | rfl | rfl | rfl <;> first | (exact absurd h (by decide +kernel)) | (simp only [eff])
theorem eff_y {k : Nat} (hk : k ≤ 23) (h : needN k = 0) (s : LSt) (x x' y y' : Int) : eff k s x y = eff k s x' y' := by
  have hc : k = 0 ∨ k = 1 ∨ k = 2 ∨ k = 3 ∨ k = 4 ∨ k = 5 ∨ k = 6 ∨ k = 7 ∨ k = 8 ∨ k = 9 ∨ k = 10 ∨ k = 11 ∨ k = 12 ∨ k = 13 ∨ k = 14 ∨ k = 15 ∨ k = 16 ∨ k = 17 ∨ k = 18 ∨ k = 19 ∨ k = 20 ∨ k = 21 ∨ k = 22 ∨ k = 23 := by omega
  rcases hc with rfl | rfl | rfl | rfl | rfl | rfl | rfl | rfl | rfl | rfl | rfl | rfl | rfl | rfl | rfl | rfl | rfl | rfl | rfl | rfl | rfl | rfl | rfl | rfl <;> first | (exact absurd h (by decide +kernel)) | (simp only [eff])
theorem need18 : needN 18 = 0 := by decide +kernel
theorem need20 : needN 20 = 0 := by decide +kernel
theorem need_le {k : Nat} (hk : k ≤ 23) : needN k ≤ 2 := by
  have hc : k = 0 ∨ k = 1 ∨ k = 2 ∨ k = 3 ∨ k = 4 ∨ k = 5 ∨ k = 6 ∨ k = 7 ∨ k = 8 ∨ k = 9 ∨ k = 10 ∨ k = 11 ∨ k = 12 ∨ k = 13 ∨ k = 14 ∨ k = 15 ∨ k = 16 ∨ k = 17 ∨ k = 18 ∨ k = 19 ∨ k = 20 ∨ k = 21 ∨ k = 22 ∨ k = 23 := by omega
  rcases hc with rfl | rfl | rfl | rfl | rfl | rfl | rfl | rfl | rfl | rfl | rfl | rfl | rfl | rfl | rfl | rfl | rfl | rfl | rfl | rfl | rfl | rfl | rfl | rfl <;> decide +kernel
def isPure (k : Nat) : Bool := decide (k ≤ 11 ∨ k = 23)
theorem pure_calls (k : Nat) (hk : k ≤ 23) (h : isPure k = true) (s : LSt) (x y : Int) (hy : (Lit.int .i32 y).wf = true) (w : World) : Calls Tryd.prog 31 #[.string (primName k), .int .i32 x, .int .i32 y] w fun e w' => ∃ A c, e = .returned (.tuple #[.slice A (eff k s x y).2.1.length c, .bool true]) ∧ Rd w' A ((eff k s x y).2.1.map (Value.int .i32)) ∧ Below w.heap.size w w' := by
  have hc : k = 0 ∨ k = 1 ∨ k = 2 ∨ k = 3 ∨ k = 4 ∨ k = 5 ∨ k = 6 ∨ k = 7 ∨ k = 8 ∨ k = 9 ∨ k = 10 ∨ k = 11 ∨ k = 12 ∨ k = 13 ∨ k = 14 ∨ k = 15 ∨ k = 16 ∨ k = 17 ∨ k = 18 ∨ k = 19 ∨ k = 20 ∨ k = 21 ∨ k = 22 ∨ k = 23 := by omega
  rcases hc with rfl | rfl | rfl | rfl | rfl | rfl | rfl | rfl | rfl | rfl | rfl | rfl | rfl | rfl | rfl | rfl | rfl | rfl | rfl | rfl | rfl | rfl | rfl | rfl
  · exact pure_0 s x y hy w
  · exact pure_1 s x y hy w
  · exact pure_2 s x y hy w
  · exact pure_3 s x y hy w
  · exact pure_4 s x y hy w
  · exact pure_5 s x y hy w
  · exact pure_6 s x y hy w
  · exact pure_7 s x y hy w
  · exact pure_8 s x y hy w
  · exact pure_9 s x y hy w
  · exact pure_10 s x y hy w
  · exact pure_11 s x y hy w
  · exact absurd h (by decide)
  · exact absurd h (by decide)
  · exact absurd h (by decide)
  · exact absurd h (by decide)
  · exact absurd h (by decide)
  · exact absurd h (by decide)
  · exact absurd h (by decide)
  · exact absurd h (by decide)
  · exact absurd h (by decide)
  · exact absurd h (by decide)
  · exact absurd h (by decide)
  · exact pure_23 s x y hy w
theorem notPure_calls (k : Nat) (hk : k ≤ 23) (h : isPure k = false) (s : LSt) (x y : Int) (hy : (Lit.int .i32 y).wf = true) (w : World) : Calls Tryd.prog 31 #[.string (primName k), .int .i32 x, .int .i32 y] w fun e w' => e = .returned (.tuple #[.slice none 0 0, .bool false]) ∧ w = w' := by
  have hc : k = 0 ∨ k = 1 ∨ k = 2 ∨ k = 3 ∨ k = 4 ∨ k = 5 ∨ k = 6 ∨ k = 7 ∨ k = 8 ∨ k = 9 ∨ k = 10 ∨ k = 11 ∨ k = 12 ∨ k = 13 ∨ k = 14 ∨ k = 15 ∨ k = 16 ∨ k = 17 ∨ k = 18 ∨ k = 19 ∨ k = 20 ∨ k = 21 ∨ k = 22 ∨ k = 23 := by omega
  rcases hc with rfl | rfl | rfl | rfl | rfl | rfl | rfl | rfl | rfl | rfl | rfl | rfl | rfl | rfl | rfl | rfl | rfl | rfl | rfl | rfl | rfl | rfl | rfl | rfl
  · exact absurd h (by decide)
  · exact absurd h (by decide)
  · exact absurd h (by decide)
  · exact absurd h (by decide)
  · exact absurd h (by decide)
  · exact absurd h (by decide)
  · exact absurd h (by decide)
  · exact absurd h (by decide)
  · exact absurd h (by decide)
  · exact absurd h (by decide)
  · exact absurd h (by decide)
  · exact absurd h (by decide)
  · exact pure_12 s x y hy w
  · exact pure_13 s x y hy w
  · exact pure_14 s x y hy w
  · exact pure_15 s x y hy w
  · exact pure_16 s x y hy w
  · exact pure_17 s x y hy w
  · exact pure_18 s x y hy w
  · exact pure_19 s x y hy w
  · exact pure_20 s x y hy w
  · exact pure_21 s x y hy w
  · exact pure_22 s x y hy w
  · exact absurd h (by decide)
theorem pure_eff (k : Nat) (hk : k ≤ 23) (h : isPure k = true) (s : LSt) (x y : Int) : eff k s x y = (s, (eff k s x y).2.1, 0) := by
  have hc : k = 0 ∨ k = 1 ∨ k = 2 ∨ k = 3 ∨ k = 4 ∨ k = 5 ∨ k = 6 ∨ k = 7 ∨ k = 8 ∨ k = 9 ∨ k = 10 ∨ k = 11 ∨ k = 12 ∨ k = 13 ∨ k = 14 ∨ k = 15 ∨ k = 16 ∨ k = 17 ∨ k = 18 ∨ k = 19 ∨ k = 20 ∨ k = 21 ∨ k = 22 ∨ k = 23 := by omega
  rcases hc with rfl | rfl | rfl | rfl | rfl | rfl | rfl | rfl | rfl | rfl | rfl | rfl | rfl | rfl | rfl | rfl | rfl | rfl | rfl | rfl | rfl | rfl | rfl | rfl <;> first | rfl | (exact absurd h (by decide))
theorem other_calls (k : Nat) (hk : k ≤ 23) (h : isPure k = false) (s : LSt) (hp : StOkP s) (hf : s.fault = 0) (hge : needN k ≤ s.data.length) (x y : Int) (hx : (Lit.int .i32 x).wf = true) (hy : (Lit.int .i32 y).wf = true) (w : World) (v : Value) (hv : StK w s v) :
    Calls Tryd.prog 33 #[v, .string (primName k), .int .i32 x, .int .i32 y] w fun e w' => OtherE w (resK s (needN k) (eff k s x y)) e w' := by
  have hs := small_le (stOk_true hp)
  have hd := hp.data
  have hc : k = 0 ∨ k = 1 ∨ k = 2 ∨ k = 3 ∨ k = 4 ∨ k = 5 ∨ k = 6 ∨ k = 7 ∨ k = 8 ∨ k = 9 ∨ k = 10 ∨ k = 11 ∨ k = 12 ∨ k = 13 ∨ k = 14 ∨ k = 15 ∨ k = 16 ∨ k = 17 ∨ k = 18 ∨ k = 19 ∨ k = 20 ∨ k = 21 ∨ k = 22 ∨ k = 23 := by omega
  rcases hc with rfl | rfl | rfl | rfl | rfl | rfl | rfl | rfl | rfl | rfl | rfl | rfl | rfl | rfl | rfl | rfl | rfl | rfl | rfl | rfl | rfl | rfl | rfl | rfl
  · exact absurd h (by decide)
  · exact absurd h (by decide)
  · exact absurd h (by decide)
  · exact absurd h (by decide)
  · exact absurd h (by decide)
  · exact absurd h (by decide)
  · exact absurd h (by decide)
  · exact absurd h (by decide)
  · exact absurd h (by decide)
  · exact absurd h (by decide)
  · exact absurd h (by decide)
  · exact absurd h (by decide)
  · refine other_12 s _ v w hv hs x y (fun W u hu => ?_) trivial
    by_cases h0 : y = 0
    · subst h0
      exact divide_zero s _ u W hu hs x (by rw [show eff 12 s x 0 = (s, [], 5) from by simp [eff]]; exact resK_fault (by omega))
    · exact divide_ok s _ u W hu hs x y hx hy h0 hge (by rw [show eff 12 s x y = (s, [w32 (x.tmod y), w32 (x.tdiv y)], 0) from by simp [eff, h0]]; exact resK_put)
  · refine other_13 s _ v w hv hs x y (fun W u hu => ?_) trivial
    by_cases h1 : 0 ≤ y ∧ y ≤ 31
    · obtain ⟨n, rfl⟩ := Int.eq_ofNat_of_zero_le h1.1
      have hnl : n < s.mem.length := by rw [hp.mem]; omega
      exact fetch_mem s _ u W hu hs n s.mem[n] hy (List.getElem?_eq_getElem hnl) (by rw [placeI, if_pos h1]) (by omega) hge (by rw [show eff 13 s x n = (s, [s.mem[n]], 0) from by simp only [eff, if_pos h1]; simp [List.getD, List.getElem?_eq_getElem hnl]]; exact resK_put)
    · by_cases h2 : 0 ≤ y - 1024 ∧ y - 1024 ≤ (s.cells.length : Int) - 1
      · have hq : 1024 ≤ y ∧ y ≤ 1024 + (s.cells.length : Int) - 1 := by omega
        have hpl : placeI s y = 32 + y - 1024 := by rw [placeI, if_neg h1, if_pos hq]
        obtain ⟨n, hn⟩ := Int.eq_ofNat_of_zero_le h2.1
        have hnl : n < s.cells.length := by omega
        exact fetch_cell s _ u W hu hs y _ n s.cells[n] hy (List.getElem?_eq_getElem hnl) hpl (by omega) hge (by rw [show eff 13 s x y = (s, [w32 s.cells[n]], 0) from by rw [eff, if_neg h1, if_pos h2, hn]; simp [List.getD, List.getElem?_eq_getElem hnl]]; exact resK_put)
      · have hpl : placeI s y = -1 := by rw [placeI, if_neg h1, if_neg (by omega)]
        exact fetch_bad s _ u W hu hs y hy hpl (by rw [show eff 13 s x y = (s, [], 4) from by simp only [eff, if_neg h1, if_neg h2]]; exact resK_fault (by omega))
  · refine other_14 s _ v w hv hs x y (fun W u hu => ?_) trivial
    by_cases h1 : 0 ≤ y ∧ y ≤ 31
    · obtain ⟨n, rfl⟩ := Int.eq_ofNat_of_zero_le h1.1
      exact store_mem s _ u W hu hs x n hy hge hd (by omega) hp.mem (by rw [placeI, if_pos h1]) (by rw [show eff 14 s x n = ({ s with mem := s.mem.set n x }, [], 0) from by simp only [eff, if_pos h1, Int.toNat_natCast]]; rw [resK_ok (by simp; omega), putSt_nil hd, List.append_nil]; rfl)
    · by_cases h2 : 0 ≤ y - 1024 ∧ y - 1024 ≤ (s.cells.length : Int) - 1
      · have hq : 1024 ≤ y ∧ y ≤ 1024 + (s.cells.length : Int) - 1 := by omega
        have hpl : placeI s y = 32 + y - 1024 := by rw [placeI, if_neg h1, if_pos hq]
        obtain ⟨n, hn⟩ := Int.eq_ofNat_of_zero_le h2.1
        have hnl : n < s.cells.length := by omega
        have hcm := hp.cmax
        by_cases h3 : y - 1024 ∈ s.vars
        · exact store_cell s _ u W hu hs x y hy hge hd _ (y - 1024) n hn hpl (by omega) hnl h3 (by rw [show eff 14 s x y = ({ s with cells := s.cells.set n (IntKind.wrap .u32 x) }, [], 0) from by rw [eff, if_neg h1, if_pos ⟨h2, h3⟩, hn]; rfl]; rw [resK_ok (by simp; omega), putSt_nil hd, List.append_nil]; rfl)
        · exact store_no s _ u W hu hs x y hy hge hd _ (y - 1024) hpl (by omega) h2.1 (by omega) h3 (by rw [show eff 14 s x y = (s, [], 4) from by simp only [eff, if_neg h1, h3, and_false, if_false]]; exact resK_fault (by omega))
      · have hpl : placeI s y = -1 := by rw [placeI, if_neg h1, if_neg (by omega)]
        exact store_bad s _ u W hu hs x y hy hge hd hpl (by rw [show eff 14 s x y = (s, [], 4) from by simp only [eff, if_neg h1, h2, false_and, if_false]]; exact resK_fault (by omega))
  · exact other_15 s _ v w hv hs x y resK_put
  · exact other_16 s _ v w hv hs x y hge hd (by rw [show eff 16 s x y = ({ s with a := y }, [], 0) from rfl]; rw [resK_ok (by simp; omega), putSt_nil hd, List.append_nil]; rfl)
  · refine other_17 s _ v w hv hs x y (fun W u A c hu hR => ?_) trivial
    by_cases h1 : 400 < s.out.length + 1
    · exact say_no s _ u W hu hs A c [IntKind.wrap .u8 y] (by simp) h1 (by rw [show eff 17 s x y = (s, [], 13) from by simp only [eff, if_pos h1]]; exact resK_fault (by omega))
    · exact say_ok s _ u W hu hs A c [IntKind.wrap .u8 y] hR (by simp; omega) hge hd (by rw [show eff 17 s x y = ({ s with out := s.out ++ [IntKind.wrap .u8 y] }, [], 0) from by simp only [eff, if_neg h1]]; rw [resK_ok (by simp; omega), putSt_nil hd, List.append_nil]; rfl)
  · cases hi : s.inp with
    | nil => exact other_18_none s _ v w hv hs x y hi (by rw [show eff 18 s x y = (s, [-1], 0) from by simp only [eff, hi]]; exact resK_put)
    | cons b r =>
      have he : eff 18 s x y = ({ s with inp := r }, [w32 b], 0) := by simp only [eff, hi]
      by_cases h1 : s.data.length = 16
      · exact other_18_full s _ v w hv hs x y b r hi h1 (by rw [he]; exact resK_over (by rw [need18]; simp; omega))
      · exact other_18_ok s _ v w hv hs x y b r hi hf (by omega) (by rw [he, resK_ok (by simp; omega), putSt, if_neg (by simp; omega)]; rfl)
  · by_cases h1 : s.ret.length = 24
    · exact other_19_no s _ v w hv hs x y h1 (by rw [show eff 19 s x y = (s, [], 3) from by simp only [eff, if_pos h1]]; exact resK_fault (by omega))
    · exact other_19_ok s _ v w hv hs x y hge hd h1 (by rw [show eff 19 s x y = ({ s with ret := s.ret ++ [⟨0, y⟩] }, [], 0) from by simp only [eff, if_neg h1]]; rw [resK_ok (by simp; omega), putSt_nil hd, List.append_nil]; rfl)
  · refine other_20 s _ v w hv hs x y (fun W u hu => ?_) trivial
    by_cases h0 : s.ret.length = 0
    · exact back_none s _ u W hu hs true h0 (by rw [show eff 20 s x y = (s, [], 3) from by simp only [eff, if_pos h0]]; exact resK_fault (by omega))
    · obtain ⟨n, hn⟩ : ∃ n, s.ret.length = n + 1 := ⟨s.ret.length - 1, by omega⟩
      have hnl : n < s.ret.length := by omega
      have ht : s.ret[n]? = some s.ret[n] := List.getElem?_eq_getElem hnl
      have hlast : lastR s = s.ret[n] := by unfold lastR; rw [hn, Nat.add_sub_cancel]; simp [List.getD, ht]
      by_cases h2 : s.ret[n].kind = 2
      · exact back_two s _ u W hu hs true n _ hn ht h2 (by rw [show eff 20 s x y = (s, [], 11) from by simp only [eff, if_neg h0, hlast]; rw [if_pos (by omega)]]; exact resK_fault (by omega))
      · by_cases h3 : s.ret[n].kind = 0
        · have he : eff 20 s x y = ({ s with ret := s.ret.take n }, [s.ret[n].n], 0) := by simp only [eff, if_neg h0, hlast]; rw [if_neg (by simpa using h3), hn, Nat.add_sub_cancel]
          by_cases h1 : s.data.length = 16
          · exact back_full s _ u W hu hs n _ hn ht h3 h1 (by rw [he]; exact resK_over (by rw [need20]; simp; omega))
          · exact back_pop s _ u W hu hs n _ hn ht h3 hf (by omega) (by rw [he, resK_ok (by simp; omega), putSt, if_neg (by simp; omega)]; rfl)
        · exact back_bad s _ u W hu hs n _ hn ht h2 h3 (by rw [show eff 20 s x y = (s, [], 11) from by simp only [eff, if_neg h0, hlast]; rw [if_pos h3]]; exact resK_fault (by omega))
  · refine other_21 s _ v w hv hs x y (fun W u hu => ?_) trivial
    by_cases h0 : s.ret.length = 0
    · exact back_none s _ u W hu hs false h0 (by rw [show eff 21 s x y = (s, [], 3) from by simp only [eff, if_pos h0]]; exact resK_fault (by omega))
    · obtain ⟨n, hn⟩ : ∃ n, s.ret.length = n + 1 := ⟨s.ret.length - 1, by omega⟩
      have hnl : n < s.ret.length := by omega
      have ht : s.ret[n]? = some s.ret[n] := List.getElem?_eq_getElem hnl
      have hlast : lastR s = s.ret[n] := by unfold lastR; rw [hn, Nat.add_sub_cancel]; simp [List.getD, ht]
      by_cases h2 : s.ret[n].kind = 2
      · exact back_two s _ u W hu hs false n _ hn ht h2 (by rw [show eff 21 s x y = (s, [], 11) from by simp only [eff, if_neg h0, hlast]; rw [if_pos h2]]; exact resK_fault (by omega))
      · exact back_peek s _ u W hu hs n _ hn ht h2 (by rw [show eff 21 s x y = (s, [s.ret[n].n], 0) from by simp only [eff, if_neg h0, hlast]; rw [if_neg h2]]; exact resK_put)
  · refine other_22 s _ v w hv hs x y hy (fun W u A c hu hR => ?_) trivial
    have hr := i32_range hy
    have hsz : (decT y).size ≤ 20 := decT_size (by omega) (by omega)
    have hdl : (dotT y).length = (decT y).size + 1 := by
      have h1 : (dotT y).length = (decT y ++ (⟨#[32]⟩ : ByteArray)).size := bytesI_length _
      rw [h1, ByteArray.size_append]; rfl
    by_cases h1 : 400 < s.out.length + (dotT y).length
    · exact say_no s _ u W hu hs A c (dotT y) (by omega) h1 (by rw [show eff 22 s x y = (s, [], 13) from by simp only [eff, if_pos h1]]; exact resK_fault (by omega))
    · exact say_ok s _ u W hu hs A c (dotT y) hR (by omega) hge hd (by rw [show eff 22 s x y = ({ s with out := s.out ++ dotT y }, [], 0) from by simp only [eff, if_neg h1]]; rw [resK_ok (by simp; omega), putSt_nil hd, List.append_nil]; rfl)
  · exact absurd h (by decide)
theorem specDo_calls (s : LSt) (v : Value) (k : Int) (w : World) (hv : StK w s v) (hs : s.small 140737488355328) (hwf : s.wf) :
    Calls Tryd.prog 7 #[v, .int .i64 k] w fun e w' => ∃ v', e = .returned v' ∧ StV w' w.heap.size w'.heap.size (doL s k) v' ∧ Below w.heap.size w w' := by
  cases h : stOk s with
  | false => exact do_bad s _ v w hv hs k h (by rw [doL, h]; rfl)
  | true =>
    have hp : StOkP s := of_decide_eq_true h
    have hsm := small_le h
    by_cases hf : s.fault = 0
    · have hD : doL s k = doesL s k := by rw [doL, if_pos h, if_pos hf]
      rw [hD]
      by_cases hk : 0 ≤ k ∧ k ≤ 23
      · obtain ⟨n, rfl⟩ := Int.eq_ofNat_of_zero_le hk.1
        have hn : n ≤ 23 := by omega
        have hL : doesL s n = doesK s n := by rw [doesL, if_pos hk]; rfl
        have hN := fun W => specPrimName_calls (n : Int) W
        have hT := fun W => takes_calls n hn W
        rw [hL]
        by_cases hlt : s.data.length < needN n
        · exact do_few s _ v w hv hsm n h hf _ hN (primName_full hn) _ hT hlt (by rw [doesK, if_pos hlt])
        · have hR : doesK s n = resK s (needN n) (eff n s (topX s) (topY s)) := by rw [doesK, if_neg hlt]; rfl
          rw [hR]
          have hxl := eff_short n s
          rcases (by have := need_le hn; omega : needN n = 0 ∨ needN n = 1 ∨ needN n = 2) with h0 | h0 | h0
          · rw [eff_y hn h0 s (topX s) 0 (topY s) 0]
            have hT0 : ∀ W, Calls Tryd.prog 30 #[.string (primName n)] W fun e w' => e = .returned (.int .i64 0) ∧ W = w' := fun W => by have := hT W; rw [h0] at this; exact this
            cases hpu : isPure n with
            | true => exact do_pure0 s _ v w hv hsm n h hf _ hN (primName_full hn) hT0 0 0 rfl rfl (eff n s 0 0).2.1 (hxl 0 0) (fun W => pure_calls n hn hpu s 0 0 (by decide) W) (by rw [h0, pure_eff n hn hpu s 0 0]; exact resK_put)
            | false => exact do_other0 s _ v w hv hsm n h hf _ hN (primName_full hn) hT0 0 0 rfl rfl (fun W => notPure_calls n hn hpu s 0 0 (by decide) W) (fun W u hu => other_calls n hn hpu s hp hf (by omega) 0 0 (by decide) (by decide) W u hu) trivial
          · rw [eff_x hn (by omega) s (topX s) 0 (topY s)]
            have hT0 : ∀ W, Calls Tryd.prog 30 #[.string (primName n)] W fun e w' => e = .returned (.int .i64 1) ∧ W = w' := fun W => by have := hT W; rw [h0] at this; exact this
            obtain ⟨j, hj⟩ : ∃ j, s.data.length = j + 1 := ⟨s.data.length - 1, by omega⟩
            have hyv : s.data[j]? = some (topY s) := by rw [topY, if_pos (by omega), hj, Nat.add_sub_cancel, List.getD, List.getElem?_eq_getElem (by omega)]; rfl
            cases hpu : isPure n with
            | true => exact do_pure1 s _ v w hv hsm n h hf _ hN (primName_full hn) hT0 0 (topY s) rfl j hj hyv (eff n s 0 (topY s)).2.1 (hxl _ _) (fun W => pure_calls n hn hpu s 0 (topY s) (topY_wf hwf) W) (by rw [h0, pure_eff n hn hpu s 0 (topY s)]; exact resK_put)
            | false => exact do_other1 s _ v w hv hsm n h hf _ hN (primName_full hn) hT0 0 (topY s) rfl j hj hyv (fun W => notPure_calls n hn hpu s 0 (topY s) (topY_wf hwf) W) (fun W u hu => other_calls n hn hpu s hp hf (by omega) 0 (topY s) (by decide) (topY_wf hwf) W u hu) trivial
          · have hT0 : ∀ W, Calls Tryd.prog 30 #[.string (primName n)] W fun e w' => e = .returned (.int .i64 2) ∧ W = w' := fun W => by have := hT W; rw [h0] at this; exact this
            obtain ⟨j, hj⟩ : ∃ j, s.data.length = j + 1 := ⟨s.data.length - 1, by omega⟩
            obtain ⟨i, hi⟩ : ∃ i, s.data.length = i + 2 := ⟨s.data.length - 2, by omega⟩
            have hyv : s.data[j]? = some (topY s) := by rw [topY, if_pos (by omega), hj, Nat.add_sub_cancel, List.getD, List.getElem?_eq_getElem (by omega)]; rfl
            have hxv : s.data[i]? = some (topX s) := by rw [topX, if_pos (by omega), hi, Nat.add_sub_cancel, List.getD, List.getElem?_eq_getElem (by omega)]; rfl
            cases hpu : isPure n with
            | true => exact do_pure2 s _ v w hv hsm n h hf _ hN (primName_full hn) hT0 (topX s) (topY s) j i hj hi hyv hxv (eff n s (topX s) (topY s)).2.1 (hxl _ _) (fun W => pure_calls n hn hpu s (topX s) (topY s) (topY_wf hwf) W) (by rw [h0, pure_eff n hn hpu s (topX s) (topY s)]; exact resK_put)
            | false => exact do_other2 s _ v w hv hsm n h hf _ hN (primName_full hn) hT0 (topX s) (topY s) j i hj hi hyv hxv (fun W => notPure_calls n hn hpu s (topX s) (topY s) (topY_wf hwf) W) (fun W u hu => other_calls n hn hpu s hp hf (by omega) (topX s) (topY s) (topX_wf hwf) (topY_wf hwf) W u hu) trivial
      · exact do_none s _ v w hv hsm k h hf _ (fun W => specPrimName_calls k W) (by rw [primName_out hk]; decide +kernel) (by rw [doesL, if_neg hk])
    · exact do_copy s _ v w hv hsm k h hf (by rw [doL, if_pos h, if_neg hf])
end Go.Proofs.YtgljbcdlldhlfaaDoor

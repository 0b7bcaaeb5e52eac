/- Bodies and forests that are drawn. -/
import Derived.Test.YtfmmfgjelaekhaaDoorDq
import Derived.Test.YtfmmfgjelaekhaaDoorTy
import Derived.Test.YtfmmfgjelaekhaaDoorLwTreeOf
set_option linter.unusedVariables false
set_option linter.unusedSimpArgs false
namespace Go.Proofs.YtfmmfgjelaekhaaDoor
open Go.RowKit

theorem DrawnRow.put {g bg : Nat} {w w1 : World} {d L : Nat} {xs : List LOp} (h : DrawnRow g w w1 (some ⟨bg, 0, none⟩) d (some bg) L xs) {j : Nat} (hj : j < L) {k n : Int} (ho : LOp.ok32 ⟨k, n⟩) :
    DrawnRow g w ((w1.setCell ⟨bg, j * 2, none⟩ (.int .i64 k)).setCell ⟨bg, j * 2 + 1, none⟩ (.int .i32 n)) (some ⟨bg, 0, none⟩) d (some bg) L (xs.set j ⟨k, n⟩) := by
  have hg := h.gt bg rfl
  have hl := h.lo bg rfl
  refine ⟨?_, h.lo, fun x hx => ?_, (h.cur.set hg _).set hg _, (h.dr.set hl _).set hl _, by rw [List.length_set]; exact h.len⟩
  · have := Row.wset [Value.int .i64 k, .int .i32 n] w1 _ (j * 2) h.row
    rw [flat_writes LOp.enc_len xs j [Value.int .i64 k, Value.int .i32 n] ⟨k, n⟩ (by rw [← h.len]; exact hj) rfl] at this
    exact this
  · rcases List.mem_or_eq_of_mem_set hx with hx | rfl
    · exact h.ok x hx
    · exact ho
def lenV : Value → Nat
  | .slice _ n _ => n
  | _ => 0
set_option maxRecDepth 100000 in
set_option maxHeartbeats 2000000 in
theorem l09Any_calls (g : Nat) (w : World) (hC : Cur w g) : Calls Tryd.prog 106 #[.pointer (some ⟨g, 0, none⟩)] w fun e w' => ∃ xs L B d b, e = .returned (.slice B L d) ∧ DrawnRow g w w' B d b L xs ∧ L ≤ 2000 := by
  have HH := l09Body_calls 3 g 3 w hC (by omega) (by omega) (by omega)
  rw [show ((3 : Nat) : Int) = 3 from rfl] at HH
  have HB := Lib.hid HH
  clear HH hC
  go_enter Tryd.func106, Tryd.ntmps106
  go_wp2_with fail
  refine HB.out.mono ?_
  rintro e w1 ⟨xs, L, B, d, b, rfl, hX, hL⟩
  have HX := Lib.hid hX
  have hLb : L ≤ 1445 := hL
  clear hX hL
  go_wp2_with fail
  refine (l01Below_calls g 8 _ (by omega) (by omega) HX.out.cur).mono ?_
  rintro e w2 ⟨x, rfl, hx0, hx1, hC1, hT1⟩
  have HX2 := Lib.hid (HX.out.turned hT1 hC1)
  clear hC1 hT1
  have hx : x = 0 ∨ x = 1 ∨ x = 2 ∨ (¬ x = 0 ∧ ¬ x = 1 ∧ ¬ x = 2) := by omega
  rcases hx with rfl | rfl | rfl | ⟨o0, o1, o2⟩
  · go_wp2_with fail
    refine (l01Below_calls g 11 _ (by omega) (by omega) HX2.out.cur).mono ?_
    rintro e w3 ⟨x3, rfl, h3a, h3b, hC1, hT1⟩
    have HX3 := Lib.hid (HX2.out.turned hT1 hC1)
    clear hC1 hT1
    go_wp2_with fail
    refine (l01Below_calls g 3 _ (by omega) (by omega) HX3.out.cur).mono ?_
    rintro e w4 ⟨x4, rfl, h4a, h4b, hC1, hT1⟩
    have HX4 := Lib.hid (HX3.out.turned hT1 hC1)
    clear hC1 hT1
    go_wp2_with (at_builtin; refine wp_append1s _ (m := w4.heap.size) rfl rfl _ _ 41 rfl 71 (.agg #[.int .i64 0, .int .i32 0]) 2 16 Tryd.underlying41 info_op rfl (by decide) rfl HX4.out.row rfl rfl ?_ ?_ ?_ ?_; (intro u hu; simp at hu; rcases hu with rfl | rfl <;> rfl); (unfold maxLen; omega); omega; intro B2 d2 w5 b2 hR3 hg3 hb3; have HX5 := Lib.hid (HX4.out.app1 hR3 hg3 hb3 (ok_zero (by omega) (by omega))); clear hR3 hg3 hb3)
    go_ret
    exact ⟨_, L + 1, B2, d2, b2, rfl, HX5.out, by omega⟩
  · by_cases hl0 : ¬ 0 < L
    · have dl : ¬ ((0 : Int) < (L : Int)) := by omega
      go_wp2_with fail
      go_ret
      exact ⟨xs, L, B, d, b, rfl, HX2.out, by omega⟩
    · have dl : (0 : Int) < (L : Int) := by omega
      obtain ⟨bg, rfl, rfl⟩ := HX2.out.row.pos (by omega)
      go_wp2_with fail
      refine (l01BelowW_calls g L _ (by omega) (by omega) HX2.out.cur).mono ?_
      rintro e w3 ⟨x3, rfl, h3a, h3b, hC1, hT1⟩
      have HX3 := Lib.hid (HX2.out.turned hT1 hC1)
      clear hC1 hT1
      obtain ⟨j, rfl⟩ := Int.eq_ofNat_of_zero_le h3a
      have hj : j < L := by omega
      go_wp2_with fail
      refine (l01Below_calls g 11 _ (by omega) (by omega) HX3.out.cur).mono ?_
      rintro e w4 ⟨x4, rfl, h4a, h4b, hC1, hT1⟩
      have HX4 := Lib.hid (HX3.out.turned hT1 hC1)
      have hlt4 := hC1.lt
      clear hC1 hT1
      go_wp2_with fail
      refine (l01PickInt_calls g _ _ [0, 23, 24, -1] _ (by decide) (by decide) (rd_alloc rfl rfl) (fun a ea => by injection ea with ea; subst ea; simp only; omega) (HX4.out.cur.alloc _)).mono ?_
      rintro e w5 ⟨x5, rfl, hx5, hC1, hT1⟩
      have HX5 := Lib.hid ((HX4.out.alloc _).turned hT1 hC1)
      have hr5 : -1 ≤ x5 ∧ x5 ≤ 24 := by simp only [List.mem_cons, List.not_mem_nil, or_false] at hx5; omega
      obtain ⟨hr5a, hr5b⟩ := hr5
      clear hC1 hT1 hx5
      have HP := Lib.hid (HX5.out.put hj (k := x4 - 1) (n := x5) (by simp only [LOp.ok32]; omega))
      obtain ⟨v0, q0⟩ := HX5.out.row.isCell (j := j * 2) (by omega)
      have f0 := HX5.out.row.frozen (j * 2)
      obtain ⟨v1, q1⟩ := HX5.out.row.isCell (j := j * 2 + 1) (by omega)
      have f1 := HX5.out.row.frozen (j * 2 + 1)
      have i0 : (0 : Int) ≤ (j : Int) := by omega
      have i1 : (j : Int) < (L : Int) := by omega
      go_wp2_with fail
      go_ret
      exact ⟨_, L, _, d, some bg, rfl, HP.out, by omega⟩
  · go_wp2_with fail
    go_loopw [3] (fun bv wr => ∃ (L : Nat) (xs : List LOp) (B : Option Addr) (d : Nat) (b : Option Nat), bv = .slice B L d ∧ L ≤ 1445 ∧ Hid (DrawnRow g w wr B d b L xs)) (fun bv _ => 2000 - lenV bv)
    case atStart => exact ⟨L, xs, B, d, b, rfl, hLb, HX2⟩
    case round =>
      obtain ⟨L, xs, B, d, b, rfl, hLb, HX⟩ := hrel
      go_wp2_with fail
      refine (l01Below_calls g 4 _ (by omega) (by omega) HX.out.cur).mono ?_
      rintro e w3 ⟨x3, rfl, h3a, h3b, hC1, hT1⟩
      have HX3 := Lib.hid (HX.out.turned hT1 hC1)
      clear hC1 hT1
      by_cases hlt : (L : Int) < 58 + x3
      · go_wp2_with (at_builtin; refine wp_append1s _ (m := w3.heap.size) rfl rfl _ _ 41 rfl 71 (.agg #[.int .i64 0, .int .i32 0]) 2 16 Tryd.underlying41 info_op rfl (by decide) rfl HX3.out.row rfl rfl ?_ ?_ ?_ ?_; (intro u hu; simp at hu; rcases hu with rfl | rfl <;> rfl); (unfold maxLen; omega); omega; intro B2 d2 w5 b2 hR3 hg3 hb3; have HX5 := Lib.hid (HX3.out.app1 hR3 hg3 hb3 (ok_zero (by omega) (by omega))); clear hR3 hg3 hb3)
        go_roundw
        case rel => exact ⟨L + 1, _, B2, d2, b2, rfl, by omega, HX5⟩
        case measure => simp [lenV]; omega
      · go_wp2_with fail
        go_ret
        exact ⟨xs, L, B, d, b, rfl, HX3.out, by omega⟩
  · go_wp2_with fail
    go_ret
    exact ⟨xs, L, B, d, b, rfl, HX2.out, by omega⟩
set_option maxRecDepth 100000 in
set_option maxHeartbeats 1000000 in
theorem DrawTreeOf_calls (A : Option Addr) (c : Nat) (bs : List Int) (w : World) (hr : Rd w A (bs.map (Value.int .u8))) (hx : ∀ x ∈ bs, 0 ≤ x ∧ x ≤ 255) (hn : bs.length ≤ 1048576) :
    Calls Tryd.prog 57 #[.slice A bs.length c] w fun e w' => ∃ (xs : List LOp) (L : Nat) (B : Option Addr) (d : Nat) (b : Option Nat), e = .returned (.slice B L d) ∧ Row w' 71 2 B L d (xs.flatMap LOp.enc) b ∧ (∀ x ∈ xs, x.ok32) ∧ L = xs.length ∧ L ≤ 2000 ∧ Below w.heap.size w w' := by
  have HX := Lib.hid hx
  have HR := Lib.hid hr
  clear hx hr
  go_enter Tryd.func57, Tryd.ntmps57
  go_wp2_with fail
  refine (l01New_calls A c bs _ HR.out HX.out hn).mono ?_
  rintro e w1 ⟨rfl, hC, hb⟩
  have HB1 := Lib.hid hb
  have HC := Lib.hid hC
  clear hb hC
  go_wp2_with fail
  refine (l09Any_calls _ _ HC.out).mono ?_
  rintro e w2 ⟨xs, L, B, d, b, rfl, hX, hL⟩
  have HX2 := Lib.hid hX
  have HB2 := Lib.hid (hX.dr.below (w := w) (Nat.le_refl _) HB1.out)
  clear hX
  go_wp2_with fail
  go_ret
  exact ⟨xs, L, B, d, b, rfl, HX2.out.row, HX2.out.ok, HX2.out.len, hL, HB2.out⟩
set_option maxRecDepth 100000 in
set_option maxHeartbeats 1000000 in
theorem sameOps_calls (A B : Option Addr) (c d : Nat) (xs : List LOp) (w : World) (hA : Rd w A (xs.flatMap LOp.enc)) (hB : Rd w B (xs.flatMap LOp.enc)) (hn : xs.length ≤ 140737488355328) :
    Calls Tryd.prog 58 #[.slice A xs.length c, .slice B xs.length d] w fun e w' => e = .returned (.bool true) ∧ Below w.heap.size w w' := by
  go_enter Tryd.func58, Tryd.ntmps58
  go_wp2
  go_loopw [5] (fun i wr => ∃ k : Nat, k ≤ xs.length ∧ i = .int .i64 k ∧ Below w.heap.size w wr) (fun i _ => xs.length - (intOf i).toNat)
  case atStart => exact ⟨0, Nat.zero_le _, rfl, Below.refl _ _⟩
  case round =>
    obtain ⟨k, hk, rfl, hW⟩ := hrel
    by_cases hlt : k < xs.length
    · have hu : xs[k]? = some xs[k] := List.getElem?_eq_getElem hlt
      obtain ⟨ad, rfl, hc⟩ := (hA.keepB hW).el LOp.enc_len hu (by omega)
      obtain ⟨bd, rfl, hd⟩ := (hB.keepB hW).el LOp.enc_len hu (by omega)
      have hc0 := hc 0 _ rfl
      have hc1 := hc 1 _ rfl
      rw [Nat.add_zero] at hc0
      rw [add_field _ _ _ (by omega)] at hc1
      have hd0 := hd 0 _ rfl
      have hd1 := hd 1 _ rfl
      rw [Nat.add_zero] at hd0
      rw [add_field _ _ _ (by omega)] at hd1
      have i0 : (0 : Int) ≤ (k : Int) := by omega
      have i1 : (k : Int) < (xs.length : Int) := by omega
      clear hc hd
      have HW := Lib.hid hW
      clear hW
      go_wp2
      go_quiet (fail)
      go_wp2
      go_roundw
      case rel => exact ⟨k + 1, by omega, by go_num, bl_drewN HW.out _⟩
      case measure => simp [intOf]; omega
    · have : k = xs.length := by omega
      subst this
      go_wp2
      go_ret
      exact ⟨rfl, hW⟩
end Go.Proofs.YtfmmfgjelaekhaaDoor

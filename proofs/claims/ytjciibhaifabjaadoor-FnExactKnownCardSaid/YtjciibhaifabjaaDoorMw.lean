/- Marks on worlds, told weakly: which number comes back is not said, only that it is not below nought and that only blocks of the copy have changed. -/
import Derived.Test.YtjciibhaifabjaaDoorMk
set_option linter.unusedVariables false
set_option linter.unusedSimpArgs false
namespace Go.Proofs.YtjciibhaifabjaaDoor
open Go.RowKit

theorem grownBy_of_below {w w1 : World} (h : Below w.heap.size w w1) (b : Option Nat) : w.grownBy w1 b := ⟨h.os, h.tape, h.output, h.size, fun k hk _ => h.block k hk⟩
set_option maxRecDepth 100000 in
set_option maxHeartbeats 1000000 in
theorem markEntryS_calls (g c n : Nat) (cs : List Value) (k0 : Int) (w : World) (hR : Row w 99 3 (some ⟨g, 0, none⟩) n c cs (some g)) (hk0 : 0 ≤ k0) (hk1 : k0 ≤ 1152921504606846976) (hn : n ≤ 1048576) :
    Calls Tryd.prog 76 #[.slice (some ⟨g, 0, none⟩) n c, .int .i64 k0] w fun e w' => e = .returned (.int .i64 (k0 + 3 * n)) ∧ w.grownBy w' (some g) := by
  go_enter Tryd.func76, Tryd.ntmps76
  go_wp2
  go_loopw [1, 5] (fun kv i wr => ∃ (k : Nat) (ds : List Value), k ≤ n ∧ i = .int .i64 k ∧ kv = .int .i64 (k0 + 3 * k) ∧ Hid (Row wr 99 3 (some ⟨g, 0, none⟩) n c ds (some g)) ∧ Hid (w.grownBy wr (some g))) (fun _ i _ => n - (intOf i).toNat)
  case atStart => exact ⟨0, cs, Nat.zero_le _, rfl, by simp, Lib.hid hR, Lib.hid (grownBy_refl _ _)⟩
  case round =>
    obtain ⟨k, ds, hk, rfl, rfl, HR, HG⟩ := hrel
    by_cases hlt : k < n
    · have i1 : (k : Int) < (n : Int) := by omega
      have b0 : 0 ≤ k0 + 3 * k := by omega
      have b1 : k0 + 3 * k ≤ 2305843009213693952 := by omega
      go_wp2_with (go_at_call 77; (with_reducible refine (markText_calls (k0 + 3 * k) _ (by omega)).mono ?_); rintro e wa ⟨rfl, hb⟩; have HRa := Lib.hid (HR.out.call hb); have HGa := Lib.hid (World.grownBy.trans HG.out (grownBy_of_below hb _)); obtain ⟨v0, q0⟩ := HRa.out.isCell (j := k * 3) (by omega); have f0 := HRa.out.frozen (k * 3); obtain ⟨v1, q1⟩ := HRa.out.isCell (j := k * 3 + 1) (by omega); have f1 := HRa.out.frozen (k * 3 + 1); obtain ⟨v2, q2⟩ := HRa.out.isCell (j := k * 3 + 2) (by omega); have f2 := HRa.out.frozen (k * 3 + 2); clear hb)
      go_roundw
      case rel => exact ⟨k + 1, _, by omega, by go_num, congrArg (Value.int .i64) (by omega), Lib.hid (((HRa.out.stored _ _).stored _ _).stored _ _), Lib.hid (World.grownBy.trans (World.grownBy.trans (World.grownBy.trans HGa.out (grownBy_setCell _ ⟨g, k * 3, none⟩ _)) (grownBy_setCell _ ⟨g, k * 3 + 1, none⟩ _)) (grownBy_setCell _ ⟨g, k * 3 + 2, none⟩ _))⟩
      case measure => simp [intOf]; omega
    · have : k = n := by omega
      subst this
      go_wp2
      go_ret
      exact ⟨rfl, HG.out⟩
/-- The marks that definitions take. -/
def mkD (zs : List DDef) : Nat := (zs.map fun z => 1 + 2 * z.body.length).sum
theorem mkD_snoc {zs : List DDef} {k : Nat} {z : DDef} (h : zs[k]? = some z) : mkD (zs.take (k + 1)) = mkD (zs.take k) + (1 + 2 * z.body.length) := by
  unfold mkD
  rw [List.take_add_one, h]
  simp
theorem mkD_le (zs : List DDef) : mkD zs ≤ zs.length + 2 * szDs zs := by
  induction zs with
  | nil => simp [mkD, szDs]
  | cons a l ih =>
    have e1 : mkD (a :: l) = (1 + 2 * a.body.length) + mkD l := by simp [mkD]
    rw [e1, szDs_cons, List.length_cons]
    unfold szD
    omega
theorem mkD_take (zs : List DDef) (k : Nat) : mkD (zs.take k) ≤ mkD zs := by
  have : mkD zs = mkD (zs.take k) + mkD (zs.drop k) := by
    conv => lhs; rw [← List.take_append_drop k zs]
    unfold mkD
    rw [List.map_append, List.sum_append]
  omega
set_option maxRecDepth 100000 in
set_option maxHeartbeats 2000000 in
theorem markDefS_calls (g c hi : Nat) (zs : List DDef) (k0 : Int) (w : World) (hR : Row w 106 2 (some ⟨g, 0, none⟩) zs.length c (zs.flatMap DDef.enc) (some g)) (hO : ∀ y ∈ zs, y.O w 133 (g + 1)) (hN : (zs.map DDef.A).Nodup)
    (hH : ∀ y ∈ zs, ∀ x, y.A = some ⟨x, 0, none⟩ → x < hi) (hgi : g < hi) (hhi : hi ≤ w.heap.size) (hk0 : 0 ≤ k0) (hk1 : k0 ≤ 1048576) (hn : zs.length + szDs zs ≤ 1048576) :
    Calls Tryd.prog 75 #[.slice (some ⟨g, 0, none⟩) zs.length c, .int .i64 k0] w fun e w' => e = .returned (.int .i64 (k0 + mkD zs)) ∧ Fr g hi w w' := by
  have hmk := mkD_le zs
  have HN := Lib.hid hN
  have HH := Lib.hid hH
  have hb : ∀ z ∈ zs, z.body.length ≤ 1048576 := fun z hz => (defsS_of (by omega) z hz).2
  have HL := Lib.hid hb
  have HE : Hid (∀ (j : Nat) (z : DDef), zs[j]? = some z → (zs.flatMap DDef.enc)[2 * j + 1]? = some (.slice z.A z.body.length z.c)) := Lib.hid (fun j z hz => by
    have := flat_get (enc := DDef.enc) (sz := 2) DDef.enc_len zs j z hz 1 (by omega)
    rw [Nat.mul_comm] at this
    exact this)
  go_enter Tryd.func75, Tryd.ntmps75
  go_wp2
  go_loopw [1, 5] (fun kv i wr => ∃ (k : Nat) (ds : List Value), k ≤ zs.length ∧ i = .int .i64 k ∧ kv = .int .i64 (k0 + mkD (zs.take k)) ∧ Hid (Row wr 106 2 (some ⟨g, 0, none⟩) zs.length c ds (some g)) ∧
    Hid (∀ (j : Nat) (z : DDef), k ≤ j → zs[j]? = some z → ds[2 * j + 1]? = some (.slice z.A z.body.length z.c) ∧ z.O wr 133 (g + 1)) ∧ Hid (Fr g hi w wr)) (fun _ i _ => zs.length - (intOf i).toNat)
  case atStart => exact ⟨0, _, Nat.zero_le _, rfl, by simp [mkD], Lib.hid hR, Lib.hid (fun j z _ hz => ⟨HE.out j z hz, hO z (List.mem_of_getElem? hz)⟩), Lib.hid (Fr.refl _ _ _)⟩
  case round =>
    obtain ⟨k, ds, hk, rfl, rfl, HR, HD, HF⟩ := hrel
    by_cases hlt : k < zs.length
    · have hu : zs[k]? = some zs[k] := List.getElem?_eq_getElem hlt
      have HU := Lib.hid hu
      obtain ⟨hbody, hOk⟩ := HD.out k _ (Nat.le_refl _) hu
      have hbl := HL.out _ (List.getElem_mem hlt)
      have hmt := mkD_take zs k
      have hms := mkD_snoc hu
      have hmt2 := mkD_take zs (k + 1)
      clear hu
      generalize zs[k] = z at HU hbody hOk hbl hms
      obtain ⟨gz, hAz, hRz, hlo⟩ := hOk
      have hgz := HH.out z (List.mem_of_getElem? HU.out) gz hAz
      have HRz := Lib.hid hRz
      have HB := Lib.hid hbody
      have HAz := Lib.hid hAz
      have hdl : ds.length = zs.length * 2 := HR.out.1
      have i1 : (k : Int) < (zs.length : Int) := by omega
      have b0 : 0 ≤ k0 + mkD (zs.take k) := by omega
      clear hRz hbody hAz
      go_wp2_with (first
        | (go_at_call 77; (with_reducible refine (markText_calls (k0 + mkD (zs.take k)) _ (by omega)).mono ?_); rintro e wa ⟨rfl, hb⟩; have HRa := Lib.hid (HR.out.call hb); have HRza := Lib.hid (HRz.out.call hb); have HXa := Lib.hid hb; have hza := hb.size; obtain ⟨v0, q0⟩ := HRa.out.isCell (j := k * 2) (by omega); have f0 := HRa.out.frozen (k * 2); have q1 : wa.cell? ⟨g, k * 2 + 1, none⟩ = some (.slice z.A z.body.length z.c) := (HRa.out.cell (j := k * 2 + 1) (by omega)).trans (by rw [Nat.mul_comm]; exact HB.out); clear hb)
        | (go_at_call 109; (with_reducible refine (markOpS_calls z.A z.c z.body (some gz) _ _ ?_ ?_ ?_ ?_).mono ?_); exact HRza.out.far (p := ⟨g, k * 2, none⟩) (fun e => by injection e with e; simp only at e; omega) _; omega; omega; omega; rintro e wb ⟨rfl, -, hg⟩; have HGb := Lib.hid hg; clear hg))
      have hne : ∀ (j : Nat) (y : DDef), k + 1 ≤ j → zs[j]? = some y → ∀ x, y.A = some ⟨x, 0, none⟩ → x ≠ gz := fun j y hj hy x hx e => by
        subst e
        have h1 : (zs.map DDef.A)[k]? = (zs.map DDef.A)[j]? := by rw [List.getElem?_map, List.getElem?_map, HU.out, hy, Option.map_some, Option.map_some, HAz.out, hx]
        have := (List.getElem?_inj (by simpa using hlt) HN.out).1 h1
        omega
      go_roundw
      case rel =>
        refine ⟨k + 1, _, by omega, by go_num, congrArg (Value.int .i64) (by omega), Lib.hid ((HRa.out.stored (k * 2) _).grown HGb.out (.inr (fun e => by injection e with e; omega))), Lib.hid (fun j y hj hy => ?_), Lib.hid (Fr.grown (Fr.grown (Fr.grown HF.out (grownBy_of_below HXa.out none) (fun _ e => by cases e)) (grownBy_setCell _ ⟨g, k * 2, none⟩ _) (fun x e => by injection e with e; simp only at e; omega)) HGb.out (fun x e => by injection e with e; omega))⟩
        obtain ⟨h1, x, h2, h3, h4⟩ := HD.out j y (by omega) hy
        refine ⟨by rw [List.getElem?_set_ne (by omega)]; exact h1, x, h2, ?_, h4⟩
        exact ((h3.call HXa.out).far (p := ⟨g, k * 2, none⟩) (fun e => by injection e with e; simp only at e; omega) _).grown HGb.out (.inr (fun e => by injection e with e; exact hne j y hj hy x h2 e))
      case measure => simp [intOf]; omega
    · have : k = zs.length := by omega
      subst this
      rw [List.take_of_length_le (Nat.le_refl _)]
      go_wp2
      go_ret
      exact ⟨rfl, HF.out⟩
theorem Fr.trans3 {lo hi : Nat} {a b c : World} (h : Fr lo hi a b) (k : Fr lo hi b c) : Fr lo hi a c :=
  ⟨k.os.trans h.os, k.tape.trans h.tape, k.output.trans h.output, Nat.le_trans h.size k.size, fun g hg hn => (k.block g (Nat.lt_of_lt_of_le hg h.size) hn).trans (h.block g hg hn)⟩
theorem Fr.wide {lo hi lo' hi' : Nat} {a b : World} (h : Fr lo hi a b) (h1 : lo' ≤ lo) (h2 : hi ≤ hi') : Fr lo' hi' a b :=
  ⟨h.os, h.tape, h.output, h.size, fun g hg hn => h.block g hg (by omega)⟩
end Go.Proofs.YtjciibhaifabjaaDoor

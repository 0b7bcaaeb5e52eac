/- FlatOf: contracts, the program's and the reference's. -/
import Derived.Test.YtfmmfgjelaekhaaDoorFl
set_option linter.unusedVariables false
set_option linter.unusedSimpArgs false
namespace Go.Proofs.YtfmmfgjelaekhaaDoor
open Go.RowKit

theorem grown_below {w w1 : World} (h : w.grownBy w1 none) : Below w.heap.size w w1 := ⟨h.os, h.tape, h.output, h.size, fun k hk => h.block k hk (by simp)⟩
theorem flatL_some {ts : List LTree} {q : List LOp} (hq : opsF ts = some q) : flatL ts = if shapeOk q = true then q else [] := by simp [flatL, hq]
set_option maxRecDepth 100000 in
set_option maxHeartbeats 1000000 in
theorem flatOf_calls (A : Option Addr) (c : Nat) (ts : List LTree) (w : World) (hA : Asc w) (hr : SlR w A ts) (ho : okF ts) (hn : nodesF ts ≤ 1048576) :
    Calls Tryd.prog 40 #[.slice A ts.length c] w fun e w' => ∃ B d b, e = .returned (.slice B (flatL ts).length d) ∧ Row w' 71 2 B (flatL ts).length d ((flatL ts).flatMap LOp.enc) b ∧ (∀ g, b = some g → w.heap.size ≤ g) ∧ Below w.heap.size w w' := by
  have HA := Lib.hid hA
  have HR := Lib.hid hr
  have HO := Lib.hid ho
  clear hA hr ho
  go_enter Tryd.func40, Tryd.ntmps40
  go_wp2_with fail
  refine (flat_calls _ A c ts none 0 0 [] none w w (Nat.le_refl _) (Below.refl _ _) HR.out (by simp) (Row.nil _ _ _ _) (by omega)).mono ?_
  rintro e w1 ⟨hg, ⟨q, L, B, d, b, hq, hL, rfl, hrow, hb⟩ | ⟨hbad, rfl⟩⟩
  · have hb1 := grown_below hg
    have hL' : L = q.length := by omega
    subst hL'
    rw [List.nil_append] at hrow
    have HB := Lib.hid hb1
    have HRow := Lib.hid hrow
    have HF : Hid (∀ g, b = some g → w.heap.size ≤ g) := Lib.hid (fun g e => by
      rcases hb with h | ⟨g', h, hge⟩
      · rw [h] at e; cases e
      · rw [h] at e; cases e; exact hge)
    have HQ := Lib.hid (flatL_some hq)
    have hql := opsF_len hq
    have HC := Lib.hid (shapeOk_calls B d q w1 (HA.out.call hb1) hrow.rd (opsF_ok HO.out hq) (by omega))
    clear hg hb1 hrow hb hL
    cases hs : shapeOk q
    · rw [hs] at HC HQ
      go_wp2_with fail
      refine HC.out.mono ?_
      rintro e w2 ⟨rfl, hb⟩
      have HB2 := Lib.hid (bl_call HB.out hb)
      clear hb
      go_wp2_with fail
      go_ret
      exact ⟨none, 0, none, by rw [HQ.out]; rfl, by rw [HQ.out]; exact Row.nil _ _ _ _, by simp, HB2.out⟩
    · rw [hs] at HC HQ
      go_wp2_with fail
      refine HC.out.mono ?_
      rintro e w2 ⟨rfl, hb⟩
      have HB2 := Lib.hid (bl_call HB.out hb)
      have HR2 := Lib.hid (HRow.out.call hb)
      clear hb
      go_wp2_with fail
      go_ret
      exact ⟨B, d, b, by rw [HQ.out]; rfl, by rw [HQ.out]; exact HR2.out, HF.out, HB2.out⟩
  · have HB := Lib.hid (grown_below hg)
    have HQ := Lib.hid (flatL_bad (ts := ts) (by simpa using hbad))
    clear hg hbad
    go_wp2_with fail
    go_ret
    exact ⟨none, 0, none, by rw [HQ.out]; rfl, by rw [HQ.out]; exact Row.nil _ _ _ _, by simp, HB.out⟩
set_option maxRecDepth 100000 in
set_option maxHeartbeats 1000000 in
theorem specFlatOf_calls (A : Option Addr) (c : Nat) (ts : List LTree) (w : World) (hr : SlR w A ts) (ho : okF ts) (hn : nodesF ts ≤ 1048576) :
    Calls Tryd.prog 38 #[.slice A ts.length c] w fun e w' => ∃ B d b, e = .returned (.slice B (flatL ts).length d) ∧ Row w' 71 2 B (flatL ts).length d ((flatL ts).flatMap LOp.enc) b ∧ (∀ g, b = some g → w.heap.size ≤ g) ∧ Below w.heap.size w w' := by
  have HR := Lib.hid hr
  have HO := Lib.hid ho
  clear hr ho
  go_enter Tryd.func38, Tryd.ntmps38
  go_wp2_with fail
  refine (l09Flat_calls _ A c ts 60 60 w (Nat.le_refl _) HR.out (by omega) (by omega) (by omega) hn).mono ?_
  rintro e w1 ⟨hb1, ⟨q, L, B, d, b, hq, hL, rfl, hrow, hb⟩ | ⟨hbad, rfl⟩⟩
  · subst hL
    have HB := Lib.hid hb1
    have HRow := Lib.hid hrow
    have HF := Lib.hid hb
    have HQ := Lib.hid (flatL_some hq)
    have hql := opsF_len hq
    have HC := Lib.hid (specShapeOk_calls B d q w1 hrow.rd (opsF_ok HO.out hq) (by omega))
    clear hb1 hrow hb
    cases hs : shapeOk q
    · rw [hs] at HC HQ
      go_wp2_with fail
      refine HC.out.mono ?_
      rintro e w2 ⟨rfl, hb⟩
      have HB2 := Lib.hid (bl_call HB.out hb)
      clear hb
      go_wp2_with fail
      go_ret
      exact ⟨none, 0, none, by rw [HQ.out]; rfl, by rw [HQ.out]; exact Row.nil _ _ _ _, by simp, HB2.out⟩
    · rw [hs] at HC HQ
      go_wp2_with fail
      refine HC.out.mono ?_
      rintro e w2 ⟨rfl, hb⟩
      have HB2 := Lib.hid (bl_call HB.out hb)
      have HR2 := Lib.hid (HRow.out.call hb)
      clear hb
      go_wp2_with fail
      go_ret
      exact ⟨B, d, b, by rw [HQ.out]; rfl, by rw [HQ.out]; exact HR2.out, HF.out, HB2.out⟩
  · have HB := Lib.hid hb1
    have HQ := Lib.hid (flatL_bad hbad)
    clear hb1 hbad
    go_wp2_with fail
    go_ret
    exact ⟨none, 0, none, by rw [HQ.out]; rfl, by rw [HQ.out]; exact Row.nil _ _ _ _, by simp, HB.out⟩
end Go.Proofs.YtfmmfgjelaekhaaDoor

/- Definitions in memory: contracts of the laws' helpers over []Def. A DDef is a definition with the place of its body. -/
import Derived.Test.YtjciibhaifabjaaDoorS
import Derived.Test.YtjciibhaifabjaaDoorL
import Derived.Test.YtjciibhaifabjaaDoorO3
set_option linter.unusedVariables false
set_option linter.unusedSimpArgs false
namespace Go.Proofs.YtjciibhaifabjaaDoor
open Go.RowKit

structure DDef where
  name : ByteArray
  body : List LOp
  A : Option Addr
  c : Nat
def DDef.enc (z : DDef) : List Value := [.string z.name, .slice z.A z.body.length z.c]
theorem DDef.enc_len (z : DDef) : z.enc.length = 2 := rfl
/-- What it is, wherever it lies. -/
def DDef.val (z : DDef) : ByteArray × List LOp := (z.name, z.body)
/-- Its body is read. -/
def DDef.R (w : World) (z : DDef) : Prop := Rd w z.A (z.body.flatMap LOp.enc) ∧ (∀ x ∈ z.body, x.ok32) ∧ z.name.size ≤ 140737488355328 ∧ z.body.length ≤ 140737488355328
def DefsR (w : World) (zs : List DDef) : Prop := ∀ z ∈ zs, z.R w
theorem DDef.R.mono {w w1 : World} {z : DDef} (h : z.R w) (hm : Mono w w1) : z.R w1 := ⟨h.1.mono hm, h.2⟩
theorem DefsR.mono {w w1 : World} {zs : List DDef} (h : DefsR w zs) (hm : Mono w w1) : DefsR w1 zs := fun z hz => (h z hz).mono hm
theorem DefsR.call {w w1 : World} {zs : List DDef} (h : DefsR w zs) (hb : Below w.heap.size w w1) : DefsR w1 zs := h.mono (below_mono hb)
theorem DDef.R.call {w w1 : World} {z : DDef} (h : z.R w) (hb : Below w.heap.size w w1) : z.R w1 := h.mono (below_mono hb)
theorem DefsR.at_ {w : World} {zs : List DDef} (h : DefsR w zs) {k : Nat} {z : DDef} (hz : zs[k]? = some z) : z.R w := h z (List.mem_of_getElem? hz)
def szD (z : DDef) : Nat := z.name.size + z.body.length
def szDs (zs : List DDef) : Nat := (zs.map szD).sum
theorem szDs_cons (z : DDef) (zs : List DDef) : szDs (z :: zs) = szD z + szDs zs := by simp [szDs]
theorem szDs_drop {zs : List DDef} {k : Nat} {z : DDef} (h : zs[k]? = some z) : szDs (zs.drop k) = szD z + szDs (zs.drop (k + 1)) := by
  obtain ⟨hk, rfl⟩ := List.getElem?_eq_some_iff.1 h
  rw [List.drop_eq_getElem_cons hk, szDs_cons]
/-- What is left, or -1. -/
def szR (t : Nat) (left : Int) : Int := if (t : Int) ≤ left then left - (t : Int) else -1
theorem szR_yes {t : Nat} {left : Int} (h : (t : Int) ≤ left) : szR t left = left - (t : Int) := if_pos h
theorem szR_no {t : Nat} {left : Int} (h : ¬ (t : Int) ≤ left) : szR t left = -1 := if_neg h
set_option maxRecDepth 100000 in
theorem szDef_calls (z : DDef) (left : Int) (w : World) (h0 : 0 ≤ left) (hl : left ≤ 1048576) (h1 : z.name.size ≤ 140737488355328) (h2 : z.body.length ≤ 140737488355328) :
    Calls Tryd.prog 93 #[.agg #[.string z.name, .slice z.A z.body.length z.c], .int .i64 left] w fun e w' => e = .returned (.int .i64 (szR (szD z) left)) ∧ Below w.heap.size w w' := by
  by_cases hn : left < z.name.size
  · have d0 : left - z.name.size < 0 := by omega
    have e0 : ¬ ((szD z : Int) ≤ left) := by unfold szD; omega
    rw [szR_no e0]
    go_enter Tryd.func93, Tryd.ntmps93
    go_wp2
    go_ret
    exact ⟨rfl, bl_alloc (Below.refl _ _) _⟩
  · have d0 : ¬ (left - z.name.size < 0) := by omega
    by_cases hb : left - z.name.size < z.body.length
    · have e0 : ¬ ((szD z : Int) ≤ left) := by unfold szD; omega
      rw [szR_no e0]
      go_enter Tryd.func93, Tryd.ntmps93
      go_wp2_with (go_at_call 119; (with_reducible refine (szOpS_no _ _ _ _ _ ?_ ?_ ?_).mono ?_); omega; omega; omega; rintro e w' ⟨rfl, rfl⟩)
      go_ret
      exact ⟨rfl, bl_alloc (Below.refl _ _) _⟩
    · have e0 : (szD z : Int) ≤ left := by unfold szD; omega
      have d1 : ¬ (left - z.name.size - z.body.length < 0) := by omega
      rw [szR_yes e0]
      go_enter Tryd.func93, Tryd.ntmps93
      go_wp2_with (go_at_call 119; (with_reducible refine (szOpS_ok _ _ _ _ _ ?_ ?_).mono ?_); omega; omega; rintro e w' ⟨rfl, rfl⟩)
      go_ret
      exact ⟨ret_int (by unfold szD; omega), bl_alloc (Below.refl _ _) _⟩
set_option maxRecDepth 100000 in
theorem szDefS_calls (A : Option Addr) (c : Nat) (zs : List DDef) (left : Int) (w : World) (hr : Rd w A (zs.flatMap DDef.enc)) (hz : DefsR w zs) (h0 : 0 ≤ left) (hl : left ≤ 1048576) (hn : zs.length ≤ 140737488355328) :
    Calls Tryd.prog 59 #[.slice A zs.length c, .int .i64 left] w fun e w' => e = .returned (.int .i64 (szR (zs.length + szDs zs) left)) ∧ Below w.heap.size w w' := by
  have HR := Lib.hid hr
  have HZ := Lib.hid hz
  clear hr hz
  by_cases hlen : left < zs.length
  · have d0 : left - zs.length < 0 := by omega
    have e0 : ¬ (((zs.length + szDs zs : Nat) : Int) ≤ left) := by omega
    rw [szR_no e0]
    clear e0
    go_enter Tryd.func59, Tryd.ntmps59
    go_wp2
    go_ret
    exact ⟨rfl, Below.refl _ _⟩
  have d0 : ¬ (left - zs.length < 0) := by omega
  go_enter Tryd.func59, Tryd.ntmps59
  go_wp2
  clear d0
  go_loopw [1, 5] (fun lv i wr => ∃ (k : Nat) (l : Int), k ≤ zs.length ∧ i = .int .i64 k ∧ lv = .int .i64 l ∧ 0 ≤ l ∧ l ≤ 1048576 ∧ l - szDs (zs.drop k) = left - zs.length - szDs zs ∧ Hid (Below w.heap.size w wr)) (fun _ i _ => zs.length - (intOf i).toNat)
  case atStart => exact ⟨0, left - zs.length, Nat.zero_le _, rfl, rfl, by omega, by omega, by simp, Lib.hid (Below.refl _ _)⟩
  case round =>
    obtain ⟨k, l, hk, rfl, rfl, hl0, hl1, hsum, HW⟩ := hrel
    by_cases hlt : k < zs.length
    · have hu : zs[k]? = some zs[k] := List.getElem?_eq_getElem hlt
      obtain ⟨ad, rfl, hc⟩ := (HR.out.keepB HW.out).el DDef.enc_len hu (by omega)
      have hc0 := hc 0 _ rfl
      have hc1 := hc 1 _ rfl
      rw [Nat.add_zero] at hc0
      rw [add_field _ _ _ (by omega)] at hc1
      have HZk := Lib.hid (HZ.out.at_ hu)
      have hs2 := szDs_drop hu
      clear hc hu
      generalize zs[k] = z at hc0 hc1 HZk hs2
      have i1 : (k : Int) < (zs.length : Int) := by omega
      by_cases hz : (szD z : Int) ≤ l
      · have dz : ¬ (l - szD z < 0) := by omega
        have hs3 : l - szD z - szDs (zs.drop (k + 1)) = left - zs.length - szDs zs := by omega
        clear hsum hs2
        go_wp2_with (go_at_call 93; (with_reducible refine (szDef_calls z l _ ?_ ?_ ?_ ?_).mono ?_); omega; omega; exact HZk.out.2.2.1; exact HZk.out.2.2.2; rintro e w2 ⟨rfl, hb⟩; have HB := Lib.hid (bl_call HW.out hb); clear hb; rw [szR_yes hz])
        go_roundw
        case rel => exact ⟨k + 1, l - szD z, by omega, by go_num, rfl, by omega, by omega, hs3, HB⟩
        case measure => simp [intOf]; omega
      · have e0 : ¬ (((zs.length + szDs zs : Nat) : Int) ≤ left) := by omega
        have HF := Lib.hid (szR_no e0)
        clear e0 hsum hs2
        go_wp2_with (go_at_call 93; (with_reducible refine (szDef_calls z l _ ?_ ?_ ?_ ?_).mono ?_); omega; omega; exact HZk.out.2.2.1; exact HZk.out.2.2.2; rintro e w2 ⟨rfl, hb⟩; have HB := Lib.hid (bl_call HW.out hb); clear hb; rw [szR_no hz])
        go_ret
        exact ⟨ret_int HF.out.symm, HB.out⟩
    · have : k = zs.length := by omega
      subst this
      rw [List.drop_of_length_le (Nat.le_refl _)] at hsum
      have hsum2 : l = left - ((zs.length + szDs zs : Nat) : Int) := by simp [szDs] at hsum ⊢; omega
      have e0 : ((zs.length + szDs zs : Nat) : Int) ≤ left := by omega
      have HF := Lib.hid (hsum2.trans (szR_yes e0).symm)
      clear e0 hsum hsum2
      go_wp2
      go_ret
      exact ⟨ret_int HF.out, HW.out⟩
/-- One more element written, behind those that are. -/
theorem Row.put_at {α : Type} {enc : α → List Value} {e : TypeId} {sz n c g : Nat} {w : World} (hl : ∀ x, (enc x).length = sz) {ys : List α} {z : α} {m k : Nat} (h : Row w e sz (some ⟨g, 0, none⟩) n c ((ys ++ (List.replicate m z).drop k).flatMap enc) (some g)) {x : α}
    (hy : ys.length = k) (hk : k < m) : Row (Go.Proofs.YtjciibhaifabjaaDoor.wset w g (k * sz) (enc x)) e sz (some ⟨g, 0, none⟩) n c (((ys ++ [x]) ++ (List.replicate m z).drop (k + 1)).flatMap enc) (some g) := by
  have := Row.wset (enc x) w _ (k * sz) h
  have e1 : (ys ++ (List.replicate m z).drop k).set k x = (ys ++ [x]) ++ (List.replicate m z).drop (k + 1) := by
    rw [List.set_append_right _ _ (by omega), hy, Nat.sub_self, List.drop_eq_getElem_cons (by simpa using hk), List.set_cons_zero]
    simp
  rwa [flat_writes hl _ k (enc x) x (by simp; omega) rfl, e1] at this
set_option maxRecDepth 100000 in
set_option maxHeartbeats 400000 in
theorem toDef_calls (z : DDef) (w : World) (hz : z.R w) (hn : z.body.length ≤ 1048576) :
    Calls Tryd.prog 98 #[.agg #[.string z.name, .slice z.A z.body.length z.c]] w fun e w' => ∃ g, e = .returned (.agg #[.string z.name, .slice (some ⟨g, 0, none⟩) z.body.length z.body.length]) ∧
      Row w' 133 2 (some ⟨g, 0, none⟩) z.body.length z.body.length (z.body.flatMap LOp.enc) (some g) ∧ w.heap.size ≤ g ∧ Below w.heap.size w w' := by
  have HZ := Lib.hid hz.1
  clear hz
  go_enter Tryd.func98, Tryd.ntmps98
  go_wp2_with (go_at_call 121; (with_reducible refine (toOpS_calls z.A z.c z.body _ ?_ hn).mono ?_); exact HZ.out.keepB (by with_reducible repeat (first | exact Below.refl _ _ | apply bl_set2 | apply bl_set1 | apply bl_alloc)); rintro e w0 ⟨g0, rfl, R0, lo0, hb0⟩; obtain ⟨q0, f0⟩ := bcell hb0; obtain ⟨za0, zb0, zc0⟩ := below3 (n := w.heap.size) hb0 (by simp; try omega); have s0 := hb0.size; simp at s0 lo0; have l0 := R0.lt _ rfl; have HR0 := Lib.hid R0; have HB0 := Lib.hid (bl_call (w := w) (by with_reducible repeat (first | exact Below.refl _ _ | apply bl_set2 | apply bl_set1 | apply bl_alloc)) hb0); clear R0 hb0)
  have n0 : some g0 ≠ some (w.heap.size + 1 + 1) := fun e => by injection e; omega
  have m0 : some g0 ≠ some (w.heap.size + 1) := fun e => by injection e; omega
  refine bodyPost_ret (v := .agg #[.string z.name, .slice (some ⟨g0, 0, none⟩) z.body.length z.body.length]) (by simp [results, Tryd.results98, go_sem, q0, zb0]) rfl ⟨g0, rfl, (by with_reducible repeat (first | exact HR0.out | refine Row.far ?_ n0 _ | refine Row.far ?_ m0 _)), by omega, (by with_reducible repeat (first | exact HB0.out | apply bl_set2 | apply bl_set1))⟩
/-- Definitions of the call's own: each body is a block of its own, from lo on. -/
def DDef.O (w : World) (T : TypeId) (lo : Nat) (z : DDef) : Prop := ∃ g, z.A = some ⟨g, 0, none⟩ ∧ Row w T 2 z.A z.body.length z.c (z.body.flatMap LOp.enc) (some g) ∧ lo ≤ g
theorem DDef.O.call {w w1 : World} {T : TypeId} {lo : Nat} {z : DDef} (h : z.O w T lo) (hb : Below w.heap.size w w1) : z.O w1 T lo := by
  obtain ⟨g, h1, h2, h3⟩ := h
  exact ⟨g, h1, h2.call hb, h3⟩
theorem DDef.O.wset {w : World} {T : TypeId} {lo g p : Nat} {z : DDef} (h : z.O w T lo) (hg : g < lo) (vs : List Value) : z.O (Go.Proofs.YtjciibhaifabjaaDoor.wset w g p vs) T lo := by
  obtain ⟨g', h1, h2, h3⟩ := h
  refine ⟨g', h1, h2.grown (grownBy_wset (w0 := w) vs w p (grownBy_refl w (some g))) (.inr fun e => ?_), h3⟩
  injection e with e
  omega
def zDef : DDef := ⟨ByteArray.empty, [], none, 0⟩
set_option maxRecDepth 100000 in
set_option maxHeartbeats 1000000 in
theorem toDefS_calls (A : Option Addr) (c : Nat) (zs : List DDef) (w : World) (hA : Rd w A (zs.flatMap DDef.enc)) (hz : DefsR w zs) (hn : zs.length ≤ 1048576) (hb : ∀ z ∈ zs, z.body.length ≤ 1048576) :
    Calls Tryd.prog 64 #[.slice A zs.length c] w fun e w' => ∃ (g : Nat) (ys : List DDef), e = .returned (.slice (some ⟨g, 0, none⟩) zs.length zs.length) ∧ ys.map DDef.val = zs.map DDef.val ∧
      Row w' 106 2 (some ⟨g, 0, none⟩) zs.length zs.length (ys.flatMap DDef.enc) (some g) ∧ (∀ y ∈ ys, y.O w' 133 (g + 1)) ∧ w.heap.size ≤ g ∧ Below w.heap.size w w' ∧ (ys.map DDef.A).Nodup := by
  have HA := Lib.hid hA
  have HZ := Lib.hid hz
  have HL := Lib.hid hb
  clear hA hz hb
  have hmk := fun W => run_make_rows (P := Tryd.prog) W 54 106 (.agg #[.string ByteArray.empty, .slice none 0 0]) 2 40 Tryd.underlying54 (by kernel_rfl) zs.length (by omega) (by omega)
  go_enter Tryd.func64, Tryd.ntmps64
  go_wp2
  clear hmk
  have hrow := Row.made w (madeCells (DDef.enc zDef).toArray (zs.length * 2)) 106 2 zs.length (by unfold maxLen; omega) (by simp [madeCells])
  rw [madeCells_flat DDef.enc_len] at hrow
  have HR0 := Lib.hid hrow
  clear hrow
  go_loopw [4] (fun i wr => ∃ (k : Nat) (ys : List DDef), k ≤ zs.length ∧ ys.length = k ∧ i = .int .i64 k ∧ Hid (ys.map DDef.val = (zs.take k).map DDef.val) ∧ Hid (Row wr 106 2 (some ⟨w.heap.size, 0, none⟩) zs.length zs.length ((ys ++ (List.replicate zs.length zDef).drop k).flatMap DDef.enc) (some w.heap.size)) ∧ Hid (∀ y ∈ ys, y.O wr 133 (w.heap.size + 1)) ∧ Hid (Below w.heap.size w wr) ∧ Hid ((ys.map DDef.A).Nodup))
    (fun i _ => zs.length - (intOf i).toNat)
  case atStart => exact ⟨0, [], Nat.zero_le _, rfl, rfl, Lib.hid rfl, Lib.hid (by (simp only [List.nil_append, List.drop_zero]; exact HR0.out)), Lib.hid (by simp), Lib.hid ((Below.refl _ _).alloc (Nat.le_refl _) _), Lib.hid List.nodup_nil⟩
  case round =>
    obtain ⟨k, ys, hk, hys, rfl, HV, HR, HO, HB, HND⟩ := hrel
    by_cases hlt : k < zs.length
    · have hu : zs[k]? = some zs[k] := List.getElem?_eq_getElem hlt
      obtain ⟨ad, rfl, hc⟩ := (HA.out.keepB HB.out).el DDef.enc_len hu (by omega)
      have hc0 := hc 0 _ rfl
      have hc1 := hc 1 _ rfl
      rw [Nat.add_zero] at hc0
      rw [add_field _ _ _ (by omega)] at hc1
      have HZk := Lib.hid ((HZ.out.at_ hu).mono (below_mono HB.out))
      have hbl := HL.out _ (List.getElem_mem hlt)
      have HV2 : Hid ((ys.map DDef.val) ++ [zs[k].val] = (zs.take (k + 1)).map DDef.val) := Lib.hid (by rw [HV.out, List.take_add_one, List.map_append, hu]; rfl)
      clear hc hu
      generalize zs[k] = z at hc0 hc1 HZk HV2 hbl
      have i1 : (k : Int) < (zs.length : Int) := by omega
      have hw := HB.out.size
      have hlo := HR.out.lt _ rfl
      go_wp2_with (go_at_call 98; (with_reducible refine (toDef_calls z _ HZk.out hbl).mono ?_); rintro e w2 ⟨g2, rfl, R2, lo2, hb⟩; have H2 := Lib.hid (HR.out.call hb); have B2 := Lib.hid (bl_call HB.out hb); have O2 : Hid (∀ y ∈ ys, y.O w2 133 (w.heap.size + 1)) := Lib.hid (fun y hy => (HO.out y hy).call hb); have N2 : Hid (DDef.O w2 133 (w.heap.size + 1) ⟨z.name, z.body, some ⟨g2, 0, none⟩, z.body.length⟩) := Lib.hid ⟨g2, rfl, R2, by omega⟩; clear hb R2; obtain ⟨v0, q0⟩ := H2.out.isCell (j := k * 2) (by omega); have f0 := H2.out.frozen (k * 2); obtain ⟨v1, q1⟩ := H2.out.isCell (j := k * 2 + 1) (by omega); have f1 := H2.out.frozen (k * 2 + 1))
      have H3 := Lib.hid (Row.put_at DDef.enc_len H2.out (x := ⟨z.name, z.body, some ⟨g2, 0, none⟩, z.body.length⟩) hys (by simpa using hlt))
      have B3 := Lib.hid (bl_wset (g := w.heap.size) (Nat.le_refl _) (DDef.enc ⟨z.name, z.body, some ⟨g2, 0, none⟩, z.body.length⟩) _ (k * 2) B2.out)
      have O3 : Hid (∀ y ∈ ys ++ [⟨z.name, z.body, some ⟨g2, 0, none⟩, z.body.length⟩], DDef.O (wset w2 w.heap.size (k * 2) (DDef.enc ⟨z.name, z.body, some ⟨g2, 0, none⟩, z.body.length⟩)) 133 (w.heap.size + 1) y) := Lib.hid fun y hy => by
        rcases List.mem_append.1 hy with hy | hy
        · exact (O2.out y hy).wset (Nat.lt_succ_self _) _
        · obtain rfl : y = _ := by simpa using hy
          exact N2.out.wset (Nat.lt_succ_self _) _
      have ND3 : Hid (((ys ++ [(⟨z.name, z.body, some ⟨g2, 0, none⟩, z.body.length⟩ : DDef)]).map DDef.A).Nodup) := Lib.hid (by
        rw [List.map_append, List.map_cons, List.map_nil]
        refine nodup_snoc HND.out fun hm => ?_
        obtain ⟨y, hy, e⟩ := List.mem_map.1 hm
        obtain ⟨g', h1, h2, -⟩ := HO.out y hy
        have h3 := h2.lt _ rfl
        rw [h1] at e
        injection e with e
        injection e with e
        omega)
      go_roundw
      case rel => exact ⟨k + 1, ys ++ [(DDef.mk z.name z.body (some ⟨g2, 0, none⟩) z.body.length)], by omega, by simp [hys], by go_num, Lib.hid (by rw [List.map_append]; exact HV2.out), Lib.hid H3.out, Lib.hid O3.out, Lib.hid B3.out, ND3⟩
      case measure => simp [intOf]; omega
    · have : k = zs.length := by omega
      subst this
      rw [List.drop_of_length_le (by simp), List.append_nil] at HR
      rw [List.take_of_length_le (by simp)] at HV
      go_wp2
      go_ret
      exact ⟨_, ys, rfl, HV.out, HR.out, HO.out, Nat.le_refl _, HB.out, HND.out⟩
set_option maxRecDepth 100000 in
theorem eqDef_calls (nm : ByteArray) (xs : List LOp) (A B : Option Addr) (c d : Nat) (w : World) (hA : Rd w A (xs.flatMap LOp.enc)) (hB : Rd w B (xs.flatMap LOp.enc)) (hn : xs.length ≤ 140737488355328) :
    Calls Tryd.prog 106 #[.agg #[.string nm, .slice A xs.length c], .agg #[.string nm, .slice B xs.length d]] w fun e w' => e = .returned (.bool true) ∧ Below w.heap.size w w' := by
  have HA := Lib.hid hA
  have HB := Lib.hid hB
  clear hA hB
  go_enter Tryd.func106, Tryd.ntmps106
  go_wp2_with (go_at_call 125; (with_reducible refine (eqOpS_calls A B c d xs _ ?_ ?_ hn).mono ?_); exact HA.out.keepB (bl_alloc (bl_alloc (Below.refl _ w) _) _); exact HB.out.keepB (bl_alloc (bl_alloc (Below.refl _ w) _) _); rintro e w0 ⟨rfl, hb0⟩; have HB0 := Lib.hid (bl_call (bl_alloc (bl_alloc (Below.refl _ w) _) _) hb0); clear hb0)
  go_ret
  exact ⟨rfl, HB0.out⟩
theorem val_at {ys zs : List DDef} (h : ys.map DDef.val = zs.map DDef.val) {k : Nat} {y z : DDef} (hy : ys[k]? = some y) (hz : zs[k]? = some z) : y.name = z.name ∧ y.body = z.body := by
  have := congrArg (fun l => l[k]?) h
  simp [hy, hz, DDef.val] at this
  exact this
theorem val_len {ys zs : List DDef} (h : ys.map DDef.val = zs.map DDef.val) : ys.length = zs.length := by simpa using congrArg List.length h
set_option maxRecDepth 100000 in
set_option maxHeartbeats 400000 in
theorem eqDefS_calls (A B : Option Addr) (c d : Nat) (ys zs : List DDef) (w : World) (hA : Rd w A (ys.flatMap DDef.enc)) (hB : Rd w B (zs.flatMap DDef.enc)) (hy : DefsR w ys) (hz : DefsR w zs) (hv : ys.map DDef.val = zs.map DDef.val) (hn : zs.length ≤ 140737488355328) :
    Calls Tryd.prog 72 #[.slice A zs.length c, .slice B zs.length d] w fun e w' => e = .returned (.bool true) ∧ Below w.heap.size w w' := by
  have HA := Lib.hid hA
  have HB := Lib.hid hB
  have HY := Lib.hid hy
  have HZ := Lib.hid hz
  have HV := Lib.hid hv
  have hl := val_len hv
  clear hA hB hy hz hv
  go_enter Tryd.func72, Tryd.ntmps72
  go_wp2
  go_loopw [5] (fun i wr => ∃ k : Nat, k ≤ zs.length ∧ i = .int .i64 k ∧ Hid (Below w.heap.size w wr)) (fun i _ => zs.length - (intOf i).toNat)
  case atStart => exact ⟨0, Nat.zero_le _, rfl, Lib.hid (Below.refl _ _)⟩
  case round =>
    obtain ⟨k, hk, rfl, HW⟩ := hrel
    by_cases hlt : k < zs.length
    · have hu : zs[k]? = some zs[k] := List.getElem?_eq_getElem hlt
      have hu' : ys[k]? = some (ys[k]'(by omega)) := List.getElem?_eq_getElem (by omega)
      have hva := val_at HV.out hu' hu
      obtain ⟨ad, rfl, hc⟩ := (HA.out.keepB HW.out).el DDef.enc_len hu' (by omega)
      obtain ⟨bd, rfl, hd⟩ := (HB.out.keepB HW.out).el DDef.enc_len hu (by omega)
      have hc0 := hc 0 _ rfl
      have hc1 := hc 1 _ rfl
      rw [Nat.add_zero] at hc0
      rw [add_field _ _ _ (by omega)] at hc1
      have hd0 := hd 0 _ rfl
      have hd1 := hd 1 _ rfl
      rw [Nat.add_zero] at hd0
      rw [add_field _ _ _ (by omega)] at hd1
      have HYk := Lib.hid ((HY.out.at_ hu').mono (below_mono HW.out)).1
      have HZk := Lib.hid ((HZ.out.at_ hu).mono (below_mono HW.out))
      have i0 : (0 : Int) ≤ (k : Int) := by omega
      have i1 : (k : Int) < (zs.length : Int) := by omega
      clear hc hd hu hu'
      generalize zs[k] = z at hd0 hd1 HZk hva
      generalize ys[k]'_ = y at hc0 hc1 HYk hva
      rw [hva.1] at hc0
      rw [hva.2] at hc1 HYk
      clear hva
      go_wp2
      go_still_tail 8, (by kernel_rfl)
      go_wp2_with (go_at_call 106; (with_reducible refine (eqDef_calls z.name z.body y.A z.A y.c z.c _ ?_ ?_ ?_).mono ?_); exact HYk.out; exact HZk.out.1; exact HZk.out.2.2.2; rintro e w2 ⟨rfl, hb⟩)
      go_roundw
      case rel => exact ⟨k + 1, by omega, by go_num, Lib.hid (bl_call (bl_drew HW.out) hb)⟩
      case measure => simp [intOf]; omega
    · have : k = zs.length := by omega
      subst this
      go_wp2
      go_ret
      exact ⟨rfl, HW.out⟩
/-! ### copies -/
theorem szDs_mem {zs : List DDef} {z : DDef} (h : z ∈ zs) : szD z ≤ szDs zs := by
  induction zs with
  | nil => cases h
  | cons a l ih =>
    rw [szDs_cons]
    rcases List.mem_cons.1 h with rfl | h
    · omega
    · have := ih h; omega
/-- Every name and every body is short. -/
def DefsS (zs : List DDef) : Prop := ∀ z ∈ zs, z.name.size ≤ 1048576 ∧ z.body.length ≤ 1048576
theorem defsS_of {zs : List DDef} (h : szDs zs ≤ 1048576) : DefsS zs := fun z hz => by
  have := szDs_mem hz
  unfold szD at this
  omega
theorem val_mem {ys zs : List DDef} (h : ys.map DDef.val = zs.map DDef.val) {y : DDef} (hy : y ∈ ys) : ∃ z ∈ zs, y.name = z.name ∧ y.body = z.body := by
  have : y.val ∈ zs.map DDef.val := by rw [← h]; exact List.mem_map_of_mem hy
  obtain ⟨z, hz, e⟩ := List.mem_map.1 this
  injection e with e1 e2
  exact ⟨z, hz, e1.symm, e2.symm⟩
theorem DefsS.val {ys zs : List DDef} (h : DefsS zs) (hv : ys.map DDef.val = zs.map DDef.val) : DefsS ys := fun y hy => by
  obtain ⟨z, hz, e1, e2⟩ := val_mem hv hy
  rw [e1, e2]
  exact h z hz
theorem DefsR.copy {w0 w : World} {T : TypeId} {lo : Nat} {ys zs : List DDef} (h : DefsR w0 zs) (hv : ys.map DDef.val = zs.map DDef.val) (ho : ∀ y ∈ ys, y.O w T lo) : DefsR w ys := fun y hy => by
  obtain ⟨z, hz, e1, e2⟩ := val_mem hv hy
  obtain ⟨g, _, hr, _⟩ := ho y hy
  have hz2 := (h z hz).2
  exact ⟨hr.rd, by rw [e1, e2]; exact hz2⟩
end Go.Proofs.YtjciibhaifabjaaDoor

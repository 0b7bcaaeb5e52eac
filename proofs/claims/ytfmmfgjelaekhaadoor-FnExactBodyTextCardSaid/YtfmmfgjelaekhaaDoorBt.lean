/- The text of a definition: contracts of BodyText, the program's and the reference's. -/
import Derived.Test.YtfmmfgjelaekhaaDoorDk
import Derived.Test.YtfmmfgjelaekhaaDoorOt
import Derived.Test.YtfmmfgjelaekhaaDoorIt
import Derived.Lib.Join
set_option linter.unusedVariables false
set_option linter.unusedSimpArgs false
namespace Go.Proofs.YtfmmfgjelaekhaaDoor
open Go.RowKit

theorem ba_ext {x y : ByteArray} (h : x.data.toList = y.data.toList) : x = y := by
  cases x; cases y
  congr
  exact Array.toList_inj.1 h
/-- Words behind a word, each behind a blank. -/
def bodyT (nm : ByteArray) (ts : List ByteArray) : ByteArray := ts.foldl (fun o t => o ++ ⟨#[32]⟩ ++ t) nm
theorem bodyT_snoc (nm : ByteArray) (ts : List ByteArray) (t : ByteArray) : bodyT nm (ts ++ [t]) = bodyT nm ts ++ ⟨#[32]⟩ ++ t := by simp [bodyT]
theorem bodyT_size : ∀ (ts : List ByteArray) (nm : ByteArray), (∀ t ∈ ts, t.size ≤ 24) → (bodyT nm ts).size ≤ nm.size + 25 * ts.length
  | [], nm, _ => by simp [bodyT]
  | t :: ts, nm, h => by
    have h1 := h t (by simp)
    have := bodyT_size ts (nm ++ ⟨#[32]⟩ ++ t) (fun x hx => h x (by simp [hx]))
    rw [ByteArray.size_append, ByteArray.size_append, show (⟨#[32]⟩ : ByteArray).size = 1 from rfl] at this
    show (bodyT (nm ++ ⟨#[32]⟩ ++ t) ts).size ≤ _
    rw [List.length_cons]
    omega
theorem bodyT_list : ∀ (ts : List ByteArray) (nm : ByteArray), (bodyT nm ts).data.toList = nm.data.toList ++ Lib.joinTail [32] (ts.map fun t => t.data.toList)
  | [], nm => by simp [bodyT, Lib.joinTail]
  | t :: ts, nm => by
    show (bodyT (nm ++ ⟨#[32]⟩ ++ t) ts).data.toList = _
    rw [bodyT_list ts]
    simp [Lib.joinTail, ByteArray.data_append]
theorem bodyT_join (nm : ByteArray) (ts : List ByteArray) : (⟨(Lib.join ((nm :: ts).map fun t => t.data.toList) [32]).toArray⟩ : ByteArray) = bodyT nm ts := by
  apply ba_ext
  rw [bodyT_list, List.map_cons, Lib.join_cons]
def bodyText (zs : List DDef) (k : Int) : ByteArray :=
  if (defsOk zs && inB k 0 (zs.length - 1)) = true then (match zs[k.toNat]? with
    | some z => bodyT z.name (z.body.map (opText zs))
    | none => ⟨#[]⟩) else ⟨#[]⟩
theorem bodyText_no1 {zs : List DDef} {k : Int} (h : defsOk zs = false) : bodyText zs k = ⟨#[]⟩ := by simp [bodyText, h]
theorem bodyText_no2 {zs : List DDef} {k : Int} (h : inB k 0 (zs.length - 1) = false) : bodyText zs k = ⟨#[]⟩ := by simp [bodyText, h]
theorem bodyText_yes {zs : List DDef} {m : Nat} {z : DDef} (h : defsOk zs = true) (h2 : inB (m : Int) 0 (zs.length - 1) = true) (hz : zs[m]? = some z) : bodyText zs (m : Int) = bodyT z.name (z.body.map (opText zs)) := by
  rw [bodyText, h, h2, Bool.and_self, if_pos rfl, Int.toNat_natCast, hz]
theorem bodyText_val {ys zs : List DDef} (h : ys.map DDef.val = zs.map DDef.val) (k : Int) : bodyText ys k = bodyText zs k := by
  have hl := val_len h
  have ho : opText ys = opText zs := funext fun o => opText_val h o
  rw [bodyText, bodyText, defsOk_val h, hl, ho]
  split
  · rcases hy : ys[k.toNat]? with _ | y
    · have : zs[k.toNat]? = none := by rw [List.getElem?_eq_none_iff] at hy ⊢; omega
      rw [this]
    · obtain ⟨hk, _⟩ := List.getElem?_eq_some_iff.1 hy
      have hz : zs[k.toNat]? = some (zs[k.toNat]'(by omega)) := List.getElem?_eq_getElem (by omega)
      have := val_at h hy hz
      rw [hz]
      simp only [this.1, this.2]
  · rfl
theorem opText_size {zs : List DDef} (h : defsOk zs = true) {o : LOp} (h0 : -2147483648 ≤ o.n) (h1 : o.n ≤ 2147483647) : (opText zs o).size ≤ 24 := by
  unfold opText
  split
  · split
    · have := decT_size (n := o.n) (by omega) (by omega); omega
    · split
      · have := primName_size o.n; omega
      · split
        · unfold nameAt
          split
          · rcases hu : zs[o.n.toNat]? with _ | z
            · simp
            · have hm := List.mem_of_getElem? hu
              have hd : zs.all (defOk zs.length) = true := by simp only [defsOk, Bool.and_eq_true] at h; exact h.2
              have hz := List.all_eq_true.1 hd z hm
              simp only [defOk, nameOk, Bool.and_eq_true] at hz
              have := inB_iff.1 hz.1.1
              simp
              omega
          · simp
        · rcases hu : ctlL[(o.kind - 3).toNat]? with _ | z
          · simp
          · have hm := List.mem_of_getElem? hu
            simp only [Option.getD_some]
            have hall : ∀ x ∈ ctlL, x.size ≤ 24 := by decide
            exact hall z hm
  · simp
theorem defsOk_el {zs : List DDef} (h : defsOk zs = true) {k : Nat} {z : DDef} (hu : zs[k]? = some z) : z.name.size ≤ 24 ∧ z.body.length ≤ 60 := by
  have hd : zs.all (defOk zs.length) = true := by simp only [defsOk, Bool.and_eq_true] at h; exact h.2
  have hz := List.all_eq_true.1 hd z (List.mem_of_getElem? hu)
  simp only [defOk, nameOk, shapeOk, Bool.and_eq_true, decide_eq_true_eq] at hz
  have := inB_iff.1 hz.1.1
  exact ⟨by omega, hz.2.1.1⟩
theorem info_str : (Tryd.prog.info? 9).map (fun i => (i.zero, i.size, i.bytes)) = some (some (.string ByteArray.empty), 1, 16) := by kernel_rfl
theorem take_map_snoc {α β : Type} (f : α → β) {xs : List α} {q : Nat} {x : α} (h : xs[q]? = some x) : (xs.take (q + 1)).map f = (xs.take q).map f ++ [f x] := by
  rw [List.take_add_one, h, List.map_append]
  rfl
set_option maxRecDepth 100000 in
set_option maxHeartbeats 2000000 in
theorem bodyText_calls (A : Option Addr) (c : Nat) (zs : List DDef) (k : Int) (w : World) (hA : Asc w) (hP : Pow w) (hr : Rd w A (zs.flatMap DDef.enc)) (hz : DefsR w zs) (hb : DefsS zs) (hn : zs.length ≤ 140737488355328) :
    Calls Tryd.prog 54 #[.slice A zs.length c, .int .i64 k] w fun e w' => e = .returned (.string (bodyText zs k)) ∧ Below w.heap.size w w' := by
  have HA := Lib.hid hA
  have HP := Lib.hid hP
  have HR := Lib.hid hr
  have HZ := Lib.hid hz
  have HL := Lib.hid hb
  clear hA hP hr hz hb
  cases hd : defsOk zs
  · have HF := Lib.hid (bodyText_no1 (k := k) hd)
    go_enter Tryd.func54, Tryd.ntmps54
    go_wp2_with (go_at_call 45; (with_reducible refine (defsOk_calls A c zs _ ?_ ?_ ?_ ?_ ?_).mono ?_); exact HA.out; exact HR.out; exact HZ.out; exact HL.out; exact hn; rintro e w1 ⟨rfl, hb⟩; have HB := Lib.hid hb; clear hb; rw [hd])
    go_ret
    exact ⟨by rw [HF.out]; rfl, HB.out⟩
  cases hk : inB k 0 (zs.length - 1)
  · have HF := Lib.hid (bodyText_no2 hk)
    go_enter Tryd.func54, Tryd.ntmps54
    go_wp2_with (first | (go_at_call 45; (with_reducible refine (defsOk_calls A c zs _ ?_ ?_ ?_ ?_ ?_).mono ?_); exact HA.out; exact HR.out; exact HZ.out; exact HL.out; exact hn; rintro e w1 ⟨rfl, hb⟩; have HB := Lib.hid hb; clear hb; rw [hd]) | (go_at_call 76; refine (withinB_calls _ _ _ _).mono ?_; rintro e w' ⟨rfl, rfl⟩; rw [hk]))
    go_ret
    exact ⟨by rw [HF.out]; rfl, HB.out⟩
  have hkb := inB_iff.1 hk
  obtain ⟨m, rfl⟩ := Int.eq_ofNat_of_zero_le hkb.1
  have hm : m < zs.length := by omega
  have hu : zs[m]? = some zs[m] := List.getElem?_eq_getElem hm
  have HF := Lib.hid (bodyText_yes hd hk hu)
  have HZk := Lib.hid (HZ.out.at_ hu)
  obtain ⟨hz1, hz2⟩ := defsOk_el hd hu
  obtain ⟨ad, rfl, hc⟩ := HR.out.el DDef.enc_len hu (by omega)
  have hc0 := hc 0 _ rfl
  have hc1 := hc 1 _ rfl
  rw [Nat.add_zero] at hc0
  rw [add_field _ _ _ (by omega)] at hc1
  have HC := Lib.hid (And.intro hc0 hc1)
  clear hc hc0 hc1 hu
  generalize zs[m] = z at HF HZk hz1 hz2 HC
  have i1 : (m : Int) < (zs.length : Int) := by omega
  have HD := Lib.hid hd
  go_enter Tryd.func54, Tryd.ntmps54
  go_wp2_with (first | (go_at_call 45; (with_reducible refine (defsOk_calls (some ad) c zs _ ?_ ?_ ?_ ?_ ?_).mono ?_); exact HA.out; exact HR.out; exact HZ.out; exact HL.out; exact hn; rintro e w1 ⟨rfl, hb⟩; have HB := Lib.hid hb; clear hb; rw [hd]; have hc0 := below_mono HB.out _ _ HC.out.1; have hc1 := below_mono HB.out _ _ HC.out.2; have hlt0 := World.block_lt_of_cell? w1 _ hc0) | (go_at_call 76; refine (withinB_calls _ _ _ _).mono ?_; rintro e w' ⟨rfl, rfl⟩; rw [hk]))
  clear hc0 hc1
  go_loopw [5, 31] (fun v i wr => ∃ (q : Nat) (B : Option Addr) (d : Nat) (b : Option Nat), q ≤ z.body.length ∧ i = .int .i64 q ∧ v = .slice B (q + 1) d ∧ Hid (Row wr 9 1 B (q + 1) d (.string z.name :: ((z.body.take q).map (opText zs)).map Value.string) b) ∧ Hid (∀ g, b = some g → w.heap.size ≤ g) ∧ Hid (Below w.heap.size w wr)) (fun _ i _ => z.body.length - (intOf i).toNat)
  case atStart => exact ⟨0, some ⟨w1.heap.size, 0, none⟩, 1, some w1.heap.size, Nat.zero_le _, rfl, rfl, Lib.hid (Row.made w1 #[.string z.name] 9 1 1 (by decide) rfl), Lib.hid (fun g e => by cases e; exact HB.out.size), Lib.hid (bl_alloc HB.out _)⟩
  case round =>
    obtain ⟨q, B, d, b, hq, rfl, rfl, HRow, HLo, HW⟩ := hrel
    by_cases hlt : q < z.body.length
    · have hv : z.body[q]? = some z.body[q] := List.getElem?_eq_getElem hlt
      obtain ⟨bd, hA2, hdc⟩ := (HZk.out.1.keepB HW.out).el LOp.enc_len hv (by omega)
      have hd0 := hdc 0 _ rfl
      have hd1 := hdc 1 _ rfl
      rw [Nat.add_zero] at hd0
      rw [add_field _ _ _ (by omega)] at hd1
      have hx := HZk.out.2.1 _ (List.getElem_mem hlt)
      have HT := Lib.hid (take_map_snoc (opText zs) hv)
      clear hdc hv
      generalize z.body[q] = x at hd0 hd1 hx HT
      obtain ⟨kd, n⟩ := x
      obtain ⟨x0, x1⟩ := hx
      simp only at x0 x1
      obtain ⟨t, ht⟩ : ∃ t, opText zs ⟨kd, n⟩ = t := ⟨_, rfl⟩
      have j1 : (q : Int) < (z.body.length : Int) := by omega
      rw [hA2]
      go_wp2_with (first | (go_at_call 52; (with_reducible refine (opText_calls kd n (some ad) c zs _ ?_ ?_ ?_ ?_ ?_).mono ?_); exact HA.out.call (bl_alloc HW.out _); exact HP.out.call (bl_alloc HW.out _); exact HR.out.keepB (bl_alloc HW.out _); exact x0; exact x1; rintro e w2 ⟨rfl, hb⟩; have HB2 := Lib.hid (bl_call (bl_alloc HW.out _) hb); have HR2 := Lib.hid ((HRow.out.alloc _).call hb); rw [ht]; clear hb) | (at_builtin; refine wp_append1 _ rfl _ _ 125 rfl 9 (.string ByteArray.empty) 1 16 Tryd.underlying125 info_str rfl (by decide) rfl HR2.out rfl rfl ?_ ?_ ?_ ?_; (intro u hu; simp at hu; subst hu; rfl); (unfold maxLen; omega); omega; intro B2 d2 w3 b2 hR3 hg3 hb3; have HR3 := Lib.hid hR3; have HB3 := Lib.hid (Below.grown HB2.out hg3 (HB2.out.size) HLo.out); have HLo3 : Hid (∀ g, b2 = some g → w.heap.size ≤ g) := Lib.hid (fun g e => by rcases hb3 with rfl | ⟨g', e', h'⟩; exact HLo.out g e; (rw [e'] at e; cases e; exact Nat.le_trans HB2.out.size h')); clear hR3 hg3 hb3))
      go_roundw
      case rel => exact ⟨q + 1, B2, d2, b2, by omega, by go_num, rfl, Lib.hid (by rw [HT.out, ht, List.map_append]; simpa using HR3.out), HLo3, HB3⟩
      case measure => simp [intOf]; omega
    · have : q = z.body.length := by omega
      subst this
      rw [List.take_of_length_le (Nat.le_refl _)] at HRow
      obtain ⟨g, rfl, rfl⟩ := HRow.out.pos (by omega)
      have HJ := Lib.hid (bodyT_join z.name (z.body.map (opText zs)))
      have hle := HRow.out.le
      have hjs : (Lib.join ((z.name :: z.body.map (opText zs)).map fun t => t.data.toList) [32]).length ≤ 140737488355328 := by
        have h1 := congrArg (fun b : ByteArray => b.data.toList.length) HJ.out
        have h2 := bodyT_size (z.body.map (opText zs)) z.name (fun t ht => by
          obtain ⟨o, ho, rfl⟩ := List.mem_map.1 ht
          exact opText_size HD.out (HZk.out.2.1 o ho).1 (HZk.out.2.1 o ho).2)
        have h3 : (bodyT z.name (z.body.map (opText zs))).data.toList.length = (bodyT z.name (z.body.map (opText zs))).size := Array.length_toList
        rw [h3] at h1
        simp only [List.length_map] at h1 h2
        rw [h1]
        omega
      have HCells : Hid (∀ (j : Nat) x, (z.name :: z.body.map (opText zs))[j]? = some x → wr.cell? ⟨g, 0 + j, none⟩ = some (.string x)) := Lib.hid fun j x hx => by
        have hl : j < z.body.length + 1 := by have := (List.getElem?_eq_some_iff.1 hx).1; simpa using this
        rw [Nat.zero_add, HRow.out.cell (by omega), ← List.map_cons (f := Value.string), List.getElem?_map, hx]
        rfl
      have hgl := HRow.out.lt _ rfl
      have HJS := Lib.hid hjs
      clear hjs
      have HE : Hid (bodyText zs (m : Int) = (⟨(Lib.join ((z.name :: z.body.map (opText zs)).map fun t => t.data.toList) [32]).toArray⟩ : ByteArray)) := Lib.hid (HF.out.trans HJ.out.symm)
      obtain ⟨T, hT⟩ : ∃ T, bodyText zs (m : Int) = T := ⟨_, rfl⟩
      have HH : Calls Tryd.prog 103 #[.slice (some ⟨g, 0, none⟩) (z.name :: z.body.map (opText zs)).length d, .string ⟨#[32]⟩] wr fun e w' => e = .returned (.string T) ∧ Below wr.heap.size wr w' := by
        refine (Tryd.strings_Join g 0 d (z.name :: z.body.map (opText zs)) (⟨#[32]⟩ : ByteArray) wr HCells.out hgl (by simp; omega) (by simpa using hle) HJS.out).mono ?_
        rintro e w' ⟨rfl, hb⟩
        exact ⟨by rw [← hT, HE.out], hb⟩
      rw [List.length_cons, List.length_map] at HH
      have HH := Lib.hid HH
      have HT := Lib.hid hT
      clear hT HF HJ HE
      go_wp2_with fail
      refine HH.out.mono ?_
      rintro e w4 ⟨rfl, hb⟩
      have HB4 := Lib.hid (bl_call HW.out hb)
      clear hb HH
      go_wp2_with fail
      go_ret
      exact ⟨by rw [HT.out]; rfl, HB4.out⟩
set_option maxRecDepth 100000 in
set_option maxHeartbeats 2000000 in
theorem specBodyText_calls (A : Option Addr) (c : Nat) (zs : List DDef) (k : Int) (w : World) (hr : Rd w A (zs.flatMap DDef.enc)) (hz : DefsR w zs) (hb : DefsS zs) (hn : zs.length ≤ 140737488355328) :
    Calls Tryd.prog 53 #[.slice A zs.length c, .int .i64 k] w fun e w' => e = .returned (.string (bodyText zs k)) ∧ Below w.heap.size w w' := by
  have HR := Lib.hid hr
  have HZ := Lib.hid hz
  have HL := Lib.hid hb
  clear hr hz hb
  cases hd : defsOk zs
  · have HF := Lib.hid (bodyText_no1 (k := k) hd)
    go_enter Tryd.func53, Tryd.ntmps53
    go_wp2_with (go_at_call 43; (with_reducible refine (specDefsOk_calls A c zs _ ?_ ?_ ?_ ?_).mono ?_); exact HR.out; exact HZ.out; exact HL.out; exact hn; rintro e w1 ⟨rfl, hb⟩; have HB := Lib.hid hb; clear hb; rw [hd])
    go_ret
    exact ⟨by rw [HF.out]; rfl, HB.out⟩
  cases hk : inB k 0 (zs.length - 1)
  · have HF := Lib.hid (bodyText_no2 hk)
    go_enter Tryd.func53, Tryd.ntmps53
    go_wp2_with (first | (go_at_call 43; (with_reducible refine (specDefsOk_calls A c zs _ ?_ ?_ ?_ ?_).mono ?_); exact HR.out; exact HZ.out; exact HL.out; exact hn; rintro e w1 ⟨rfl, hb⟩; have HB := Lib.hid hb; clear hb; rw [hd]) | (go_at_call 74; refine (specInB_calls _ _ _ _).mono ?_; rintro e w' ⟨rfl, rfl⟩; rw [hk]))
    go_ret
    exact ⟨by rw [HF.out]; rfl, HB.out⟩
  have hkb := inB_iff.1 hk
  obtain ⟨m, rfl⟩ := Int.eq_ofNat_of_zero_le hkb.1
  have hm : m < zs.length := by omega
  have hu : zs[m]? = some zs[m] := List.getElem?_eq_getElem hm
  have HF := Lib.hid (bodyText_yes hd hk hu)
  have HZk := Lib.hid (HZ.out.at_ hu)
  obtain ⟨hz1, hz2⟩ := defsOk_el hd hu
  obtain ⟨ad, rfl, hc⟩ := HR.out.el DDef.enc_len hu (by omega)
  have hc0 := hc 0 _ rfl
  have hc1 := hc 1 _ rfl
  rw [Nat.add_zero] at hc0
  rw [add_field _ _ _ (by omega)] at hc1
  have HC := Lib.hid (And.intro hc0 hc1)
  clear hc hc0 hc1 hu
  generalize zs[m] = z at HF HZk hz1 hz2 HC
  have i1 : (m : Int) < (zs.length : Int) := by omega
  have HD := Lib.hid hd
  go_enter Tryd.func53, Tryd.ntmps53
  go_wp2_with (first | (go_at_call 43; (with_reducible refine (specDefsOk_calls (some ad) c zs _ ?_ ?_ ?_ ?_).mono ?_); exact HR.out; exact HZ.out; exact HL.out; exact hn; rintro e w1 ⟨rfl, hb⟩; have HB := Lib.hid hb; clear hb; rw [hd]; have hc0 := below_mono HB.out _ _ HC.out.1; have hc1 := below_mono HB.out _ _ HC.out.2; have hlt0 := World.block_lt_of_cell? w1 _ hc0) | (go_at_call 74; refine (specInB_calls _ _ _ _).mono ?_; rintro e w' ⟨rfl, rfl⟩; rw [hk]))
  clear hc0 hc1
  go_loopw [5, 6] (fun v i wr => ∃ (q : Nat) (T : ByteArray), q ≤ z.body.length ∧ i = .int .i64 q ∧ v = .string T ∧ T.size ≤ 24 + 25 * q ∧ Hid (T = bodyT z.name ((z.body.take q).map (opText zs))) ∧ Hid (Below w.heap.size w wr)) (fun _ i _ => z.body.length - (intOf i).toNat)
  case atStart => exact ⟨0, z.name, Nat.zero_le _, rfl, rfl, by omega, Lib.hid rfl, HB⟩
  case round =>
    obtain ⟨q, T, hq, rfl, rfl, hT, HT, HW⟩ := hrel
    have hc1 := below_mono HW.out _ _ HC.out.2
    by_cases hlt : q < z.body.length
    · have hv : z.body[q]? = some z.body[q] := List.getElem?_eq_getElem hlt
      obtain ⟨bd, hA2, hdc⟩ := (HZk.out.1.keepB HW.out).el LOp.enc_len hv (by omega)
      have hd0 := hdc 0 _ rfl
      have hd1 := hdc 1 _ rfl
      rw [Nat.add_zero] at hd0
      rw [add_field _ _ _ (by omega)] at hd1
      rw [hA2] at hc1
      have hx := HZk.out.2.1 _ (List.getElem_mem hlt)
      have hsz := opText_size HD.out hx.1 hx.2
      have HT2 := Lib.hid (take_map_snoc (opText zs) hv)
      clear hdc hv
      generalize z.body[q] = x at hd0 hd1 hx HT2 hsz
      obtain ⟨kd, n⟩ := x
      obtain ⟨x0, x1⟩ := hx
      simp only at x0 x1
      obtain ⟨t, ht⟩ : ∃ t, opText zs ⟨kd, n⟩ = t := ⟨_, rfl⟩
      rw [ht] at hsz
      have j1 : (q : Int) < (z.body.length : Int) := by omega
      have n1 : ¬ 9223372036854775807 < T.size + 1 := by omega
      have n2 : ¬ 9223372036854775807 < T.size + 1 + t.size := by omega
      have HE : Hid (T ++ ⟨#[32]⟩ ++ t = bodyT z.name ((z.body.take (q + 1)).map (opText zs))) := Lib.hid (by rw [HT2.out, bodyT_snoc, ← HT.out, ht])
      have HS : Hid ((T ++ ⟨#[32]⟩ ++ t).size ≤ 24 + 25 * (q + 1)) := Lib.hid (by
        rw [ByteArray.size_append, ByteArray.size_append, show (⟨#[32]⟩ : ByteArray).size = 1 from rfl]
        omega)
      go_wp2_with (go_at_call 50; (with_reducible refine (specOpText_calls kd n (some ad) c zs _ ?_ ?_ ?_).mono ?_); exact HR.out.keepB HW.out; exact x0; exact x1; rintro e w2 ⟨rfl, hb⟩; have HB2 := Lib.hid (bl_call HW.out hb); rw [ht]; clear hb)
      go_roundw
      case rel => exact ⟨q + 1, _, by omega, by go_num, rfl, HS.out, HE, HB2⟩
      case measure => simp [intOf]; omega
    · have : q = z.body.length := by omega
      subst this
      rw [List.take_of_length_le (Nat.le_refl _)] at HT
      have HE := Lib.hid (HF.out.trans HT.out.symm)
      go_wp2
      go_ret
      exact ⟨by rw [HE.out]; rfl, HW.out⟩
end Go.Proofs.YtfmmfgjelaekhaaDoor

/- Shapes of bodies: contracts of opOk, openIn, ShapeOk, the program's and the reference's. -/
import Derived.Test.YtjciibhaifabjaaDoorCo
import Derived.Test.YtjciibhaifabjaaDoorL
import Derived.Test.YtjciibhaifabjaaDoorO3
set_option linter.unusedVariables false
set_option linter.unusedSimpArgs false
namespace Go.Proofs.YtjciibhaifabjaaDoor
open Go.RowKit

def opOk (o : LOp) : Bool := if o.kind = 0 then true else if o.kind = 1 ∨ o.kind = 2 then inB o.n 0 23 else inB o.kind 3 8 && decide (o.n = 0)

set_option maxRecDepth 100000 in
theorem opOk_calls (k n : Int) (w : World) (hA : Asc w) (hn0 : -2147483648 ≤ n) (hn1 : n ≤ 2147483647) : Calls Tryd.prog 101 #[.agg #[.int .i64 k, .int .i32 n]] w fun e w' => e = .returned (.bool (opOk ⟨k, n⟩)) ∧ Below w.heap.size w w' := by
  have HA := Lib.hid hA
  clear hA
  have hop : k = 0 ∨ k = 1 ∨ k = 2 ∨ (¬ k = 0 ∧ ¬ k = 1 ∧ ¬ k = 2) := by omega
  rcases hop with rfl | rfl | rfl | ⟨o0, o1, o2⟩
  · go_enter Tryd.func101, Tryd.ntmps101
    go_wp2
    go_ret
    exact ⟨ret_bool (by simp [opOk]), bl_alloc (Below.refl _ _) _⟩
  · have HE := Lib.hid (primName_empty n)
    go_enter Tryd.func101, Tryd.ntmps101
    go_wp2_with (go_at_call 113; (with_reducible refine (primName_calls n _ ?_).mono ?_); exact HA.out.call (bl_alloc (Below.refl _ _) _); rintro e w2 ⟨rfl, hb⟩; have HB := Lib.hid hb; clear hb; generalize primName n = s at HE ⊢)
    go_ret
    exact ⟨ret_bool (by rw [HE.out]; simp [opOk]), bl_call (bl_alloc (Below.refl _ _) _) HB.out⟩
  · go_enter Tryd.func101, Tryd.ntmps101
    go_wp2_with (go_at_call 70; refine (withinB_calls _ _ _ _).mono ?_; rintro e w' ⟨rfl, rfl⟩)
    go_ret
    exact ⟨ret_bool (by simp [opOk]), bl_alloc (Below.refl _ _) _⟩
  · have HI : Hid (opOk ⟨k, n⟩ = (inB k 3 8 && decide (n = 0))) := Lib.hid (by simp [opOk, o0, o1, o2])
    cases h1 : inB k 3 8
    · rw [h1] at HI
      go_enter Tryd.func101, Tryd.ntmps101
      go_wp2_with (go_at_call 70; refine (withinB_calls _ _ _ _).mono ?_; rintro e w' ⟨rfl, rfl⟩)
      go_ret
      exact ⟨ret_bool HI.out.symm, bl_alloc (Below.refl _ _) _⟩
    · rw [h1] at HI
      go_enter Tryd.func101, Tryd.ntmps101
      go_wp2_with (go_at_call 70; refine (withinB_calls _ _ _ _).mono ?_; rintro e w' ⟨rfl, rfl⟩)
      go_ret
      exact ⟨ret_bool (by rw [HI.out]; simp [Bool.beq_eq_decide_eq]), bl_alloc (Below.refl _ _) _⟩

set_option maxRecDepth 100000 in
theorem l09Op_calls (k n : Int) (w : World) (hn0 : -2147483648 ≤ n) (hn1 : n ≤ 2147483647) : Calls Tryd.prog 95 #[.agg #[.int .i64 k, .int .i32 n]] w fun e w' => e = .returned (.bool (opOk ⟨k, n⟩)) ∧ Below w.heap.size w w' := by
  have hop : k = 0 ∨ k = 1 ∨ k = 2 ∨ (¬ k = 0 ∧ ¬ k = 1 ∧ ¬ k = 2) := by omega
  rcases hop with rfl | rfl | rfl | ⟨o0, o1, o2⟩
  · go_enter Tryd.func95, Tryd.ntmps95
    go_wp2
    go_ret
    exact ⟨ret_bool (by simp [opOk]), bl_alloc (Below.refl _ _) _⟩
  · have HE := Lib.hid (primName_empty n)
    go_enter Tryd.func95, Tryd.ntmps95
    go_wp2_with (go_at_call 78; (with_reducible refine (specPrimName_calls n _).mono ?_); rintro e w2 ⟨rfl, hb⟩; have HB := Lib.hid hb; clear hb; generalize primName n = s at HE ⊢)
    go_ret
    exact ⟨ret_bool (by rw [HE.out]; simp [opOk]), bl_call (bl_alloc (Below.refl _ _) _) HB.out⟩
  · go_enter Tryd.func95, Tryd.ntmps95
    go_wp2_with (go_at_call 36; refine (specInB_calls _ _ _ _).mono ?_; rintro e w' ⟨rfl, rfl⟩)
    go_ret
    exact ⟨ret_bool (by simp [opOk]), bl_alloc (Below.refl _ _) _⟩
  · have HI : Hid (opOk ⟨k, n⟩ = (inB k 3 8 && decide (n = 0))) := Lib.hid (by simp [opOk, o0, o1, o2])
    cases h1 : inB k 3 8
    · rw [h1] at HI
      go_enter Tryd.func95, Tryd.ntmps95
      go_wp2_with (go_at_call 36; refine (specInB_calls _ _ _ _).mono ?_; rintro e w' ⟨rfl, rfl⟩)
      go_ret
      exact ⟨ret_bool HI.out.symm, bl_alloc (Below.refl _ _) _⟩
    · rw [h1] at HI
      go_enter Tryd.func95, Tryd.ntmps95
      go_wp2_with (go_at_call 36; refine (specInB_calls _ _ _ _).mono ?_; rintro e w' ⟨rfl, rfl⟩)
      go_ret
      exact ⟨ret_bool (by rw [HI.out]; simp [Bool.beq_eq_decide_eq]), bl_alloc (Below.refl _ _) _⟩

/-! ### what is open behind a body -/
def openStep (st : List Int) (k : Int) : Option (List Int) :=
  if k = 3 ∨ k = 4 ∨ k = 6 then some (st ++ [k]) else if k = 5 ∨ k = 7 then (match st.getLast? with
    | none => none
    | some t => if decide (t = 6) = decide (k = 7) then some st.dropLast else none) else some st
def openS : List Int → List LOp → Option (List Int)
  | st, [] => some st
  | st, o :: r => (openStep st o.kind).bind fun st' => openS st' r
def openI : List Int → List LOp → Option (List Int)
  | st, [] => some st
  | st, o :: r => if opOk o = true then (openStep st o.kind).bind fun st' => openI st' r else none
theorem openI_eq : ∀ (r : List LOp) (st : List Int), openI st r = if r.all opOk = true then openS st r else none
  | [], st => by simp [openI, openS]
  | o :: r, st => by
    rw [openI, openS]
    by_cases h : opOk o = true
    · rw [if_pos h]
      by_cases h2 : r.all opOk = true
      · rw [if_pos (by simp [h] ; simpa using h2)]
        cases openStep st o.kind with
        | none => rfl
        | some s => simp only [Option.bind_some]; rw [openI_eq, if_pos h2]
      · rw [if_neg (by simp [h]; simpa using h2)]
        cases openStep st o.kind with
        | none => rfl
        | some s => simp only [Option.bind_some]; rw [openI_eq, if_neg h2]
    · rw [if_neg h, if_neg (by simp [h])]
theorem openStep_len {st st' : List Int} {k : Int} (h : openStep st k = some st') : st'.length ≤ st.length + 1 := by
  unfold openStep at h
  split at h
  · cases h; simp
  · split at h
    · split at h
      · cases h
      · split at h
        · cases h; simp; omega
        · cases h
    · cases h; omega
def openN (r : Option (List Int)) : Nat := match r with
  | some st => st.length
  | none => 0
theorem info_int : (Tryd.prog.info? 3).map (fun i => (i.zero, i.size, i.bytes)) = some (some (.int .i64 0), 1, 8) := by kernel_rfl
set_option maxRecDepth 100000 in
set_option maxHeartbeats 2000000 in
theorem openIn_calls (A : Option Addr) (c : Nat) (xs : List LOp) (w : World) (hA : Asc w) (hr : Rd w A (xs.flatMap LOp.enc)) (hx : ∀ x ∈ xs, x.ok32) (hn : xs.length ≤ 4194304) :
    Calls Tryd.prog 67 #[.slice A xs.length c] w fun e w' => (∃ B d, e = .returned (.tuple #[.slice B (openN (openI [] xs)) d, .bool ((openI [] xs).isSome && decide (xs.length ≤ 60))])) ∧ Below w.heap.size w w' := by
  have HA := Lib.hid hA
  have HR := Lib.hid hr
  have HX := Lib.hid hx
  clear hA hr hx
  go_enter Tryd.func67, Tryd.ntmps67
  go_wp2
  go_loopw [4, 11] (fun v i wr => ∃ (k : Nat) (st : List Int) (B : Option Addr) (d : Nat) (b : Option Nat), k ≤ xs.length ∧ i = .int .i64 k ∧ v = .slice B st.length d ∧ st.length ≤ k ∧ Hid (Row wr 3 1 B st.length d (st.map (Value.int .i64)) b) ∧ Hid (∀ g, b = some g → w.heap.size ≤ g) ∧ Hid (Below w.heap.size w wr) ∧ Hid (openI st (xs.drop k) = openI [] xs)) (fun _ i _ => xs.length - (intOf i).toNat)
  case atStart => exact ⟨0, [], some ⟨w.heap.size, 0, none⟩, 0, some w.heap.size, Nat.zero_le _, rfl, rfl, Nat.zero_le _, Lib.hid (Row.made w #[] 3 1 0 (by decide) rfl), Lib.hid (fun g e => by cases e; exact Nat.le_refl _), Lib.hid (bl_alloc (Below.refl _ _) _), Lib.hid rfl⟩
  case round =>
    obtain ⟨k, st, B, d, b, hk, rfl, rfl, hst, HRow, HLo, HW, HI⟩ := hrel
    by_cases hlt : k < xs.length
    · have hu : xs[k]? = some xs[k] := List.getElem?_eq_getElem hlt
      obtain ⟨ad, rfl, hc⟩ := (HR.out.keepB HW.out).el LOp.enc_len hu (by omega)
      have hc0 := hc 0 _ rfl
      have hc1 := hc 1 _ rfl
      rw [Nat.add_zero] at hc0
      rw [add_field _ _ _ (by omega)] at hc1
      have hwf := HX.out _ (List.getElem_mem hlt)
      have HD := HI.out
      rw [List.drop_eq_getElem_cons hlt] at HD
      clear hc hu HI
      generalize xs[k] = x at hc0 hc1 hwf HD
      obtain ⟨kd, n⟩ := x
      have HI := Lib.hid HD
      clear HD
      have i1 : (k : Int) < (xs.length : Int) := by omega
      have w0 : -2147483648 ≤ n := hwf.1
      cases hop : opOk ⟨kd, n⟩
      · have HF : Hid (openI [] xs = none) := Lib.hid (by rw [← HI.out, openI, if_neg (by rw [hop]; simp)])
        go_wp2_with (go_at_call 101; (with_reducible refine (opOk_calls kd n _ ?_ ?_ ?_).mono ?_); exact HA.out.call (bl_alloc HW.out _); exact hwf.1; exact hwf.2; rintro e w2 ⟨rfl, hb⟩; have HB := Lib.hid (bl_call (bl_alloc HW.out _) hb); have HK := Lib.hid ((Bx.one wr #[.int .i64 kd, .int .i32 n] 133).call hb); have HR2 := Lib.hid ((HRow.out.alloc _).call hb); obtain ⟨k0, -⟩ := HK.out; have c0 := blk_cell k0; clear hb k0)
        go_ret2
        exact ⟨⟨none, 0, by rw [HF.out]; rfl⟩, HB.out⟩
      · have HJ : Hid ((openStep st kd).bind (fun st' => openI st' (xs.drop (k + 1))) = openI [] xs) := Lib.hid (by rw [← HI.out, openI, if_pos hop])
        have hkd : (kd = 3 ∨ kd = 4 ∨ kd = 6) ∨ (kd = 5 ∨ kd = 7) ∨ (¬ kd = 3 ∧ ¬ kd = 4 ∧ ¬ kd = 6 ∧ ¬ kd = 5 ∧ ¬ kd = 7) := by omega
        rcases hkd with hkd | hkd | ⟨o3, o4, o6, o5, o7⟩
        · have HS : Hid (openI (st ++ [kd]) (xs.drop (k + 1)) = openI [] xs) := Lib.hid (by rw [← HJ.out, openStep, if_pos hkd]; rfl)
          rcases hkd with rfl | rfl | rfl
          · go_wp2_with (first | (go_at_call 101; (with_reducible refine (opOk_calls 3 n _ ?_ ?_ ?_).mono ?_); exact HA.out.call (bl_alloc HW.out _); exact hwf.1; exact hwf.2; rintro e w2 ⟨rfl, hb⟩; have HB := Lib.hid (bl_call (bl_alloc HW.out _) hb); have HK := Lib.hid ((Bx.one wr #[.int .i64 3, .int .i32 n] 133).call hb); have HR2 := Lib.hid ((HRow.out.alloc _).call hb); obtain ⟨k0, -⟩ := HK.out; have c0 := blk_cell k0; clear hb k0) | (at_builtin; refine wp_append1 _ rfl _ _ 26 rfl 3 (.int .i64 0) 1 8 Tryd.underlying26 info_int rfl (by decide) rfl HR2.out rfl rfl ?_ ?_ ?_ ?_; (intro u hu; simp at hu; subst hu; rfl); (unfold maxLen; omega); omega; intro B2 d2 w3 b2 hR3 hg3 hb3; have HR3 := Lib.hid hR3; have HB3 := Lib.hid (Below.grown HB.out hg3 (HB.out.size) HLo.out); have HLo3 : Hid (∀ g, b2 = some g → w.heap.size ≤ g) := Lib.hid (fun g e => by rcases hb3 with rfl | ⟨g', e', h'⟩; exact HLo.out g e; (rw [e'] at e; cases e; exact Nat.le_trans HB.out.size h')); clear hR3 hg3 hb3))
            go_roundw
            case rel => exact ⟨k + 1, st ++ [3], B2, d2, b2, by omega, by go_num, by simp, by simp; omega, Lib.hid (by simpa using HR3.out), HLo3, HB3, HS⟩
            case measure => simp [intOf]; omega
          · go_wp2_with (first | (go_at_call 101; (with_reducible refine (opOk_calls 4 n _ ?_ ?_ ?_).mono ?_); exact HA.out.call (bl_alloc HW.out _); exact hwf.1; exact hwf.2; rintro e w2 ⟨rfl, hb⟩; have HB := Lib.hid (bl_call (bl_alloc HW.out _) hb); have HK := Lib.hid ((Bx.one wr #[.int .i64 4, .int .i32 n] 133).call hb); have HR2 := Lib.hid ((HRow.out.alloc _).call hb); obtain ⟨k0, -⟩ := HK.out; have c0 := blk_cell k0; clear hb k0) | (at_builtin; refine wp_append1 _ rfl _ _ 26 rfl 3 (.int .i64 0) 1 8 Tryd.underlying26 info_int rfl (by decide) rfl HR2.out rfl rfl ?_ ?_ ?_ ?_; (intro u hu; simp at hu; subst hu; rfl); (unfold maxLen; omega); omega; intro B2 d2 w3 b2 hR3 hg3 hb3; have HR3 := Lib.hid hR3; have HB3 := Lib.hid (Below.grown HB.out hg3 (HB.out.size) HLo.out); have HLo3 : Hid (∀ g, b2 = some g → w.heap.size ≤ g) := Lib.hid (fun g e => by rcases hb3 with rfl | ⟨g', e', h'⟩; exact HLo.out g e; (rw [e'] at e; cases e; exact Nat.le_trans HB.out.size h')); clear hR3 hg3 hb3))
            go_roundw
            case rel => exact ⟨k + 1, st ++ [4], B2, d2, b2, by omega, by go_num, by simp, by simp; omega, Lib.hid (by simpa using HR3.out), HLo3, HB3, HS⟩
            case measure => simp [intOf]; omega
          · go_wp2_with (first | (go_at_call 101; (with_reducible refine (opOk_calls 6 n _ ?_ ?_ ?_).mono ?_); exact HA.out.call (bl_alloc HW.out _); exact hwf.1; exact hwf.2; rintro e w2 ⟨rfl, hb⟩; have HB := Lib.hid (bl_call (bl_alloc HW.out _) hb); have HK := Lib.hid ((Bx.one wr #[.int .i64 6, .int .i32 n] 133).call hb); have HR2 := Lib.hid ((HRow.out.alloc _).call hb); obtain ⟨k0, -⟩ := HK.out; have c0 := blk_cell k0; clear hb k0) | (at_builtin; refine wp_append1 _ rfl _ _ 26 rfl 3 (.int .i64 0) 1 8 Tryd.underlying26 info_int rfl (by decide) rfl HR2.out rfl rfl ?_ ?_ ?_ ?_; (intro u hu; simp at hu; subst hu; rfl); (unfold maxLen; omega); omega; intro B2 d2 w3 b2 hR3 hg3 hb3; have HR3 := Lib.hid hR3; have HB3 := Lib.hid (Below.grown HB.out hg3 (HB.out.size) HLo.out); have HLo3 : Hid (∀ g, b2 = some g → w.heap.size ≤ g) := Lib.hid (fun g e => by rcases hb3 with rfl | ⟨g', e', h'⟩; exact HLo.out g e; (rw [e'] at e; cases e; exact Nat.le_trans HB.out.size h')); clear hR3 hg3 hb3))
            go_roundw
            case rel => exact ⟨k + 1, st ++ [6], B2, d2, b2, by omega, by go_num, by simp, by simp; omega, Lib.hid (by simpa using HR3.out), HLo3, HB3, HS⟩
            case measure => simp [intOf]; omega
        · rcases Nat.eq_zero_or_pos st.length with he | hpos
          · have hst0 : st = [] := List.eq_nil_of_length_eq_zero he
            subst hst0
            have HF : Hid (openI [] xs = none) := Lib.hid (by rw [← HJ.out, openStep, if_neg (by omega), if_pos hkd]; rfl)
            clear he
            rcases hkd with rfl | rfl
            · go_wp2_with (go_at_call 101; (with_reducible refine (opOk_calls 5 n _ ?_ ?_ ?_).mono ?_); exact HA.out.call (bl_alloc HW.out _); exact hwf.1; exact hwf.2; rintro e w2 ⟨rfl, hb⟩; have HB := Lib.hid (bl_call (bl_alloc HW.out _) hb); have HK := Lib.hid ((Bx.one wr #[.int .i64 5, .int .i32 n] 133).call hb); have HR2 := Lib.hid ((HRow.out.alloc _).call hb); obtain ⟨k0, -⟩ := HK.out; have c0 := blk_cell k0; clear hb k0)
              go_quiet (fail)
              go_wp2_with fail
              go_ret2
              exact ⟨⟨none, 0, by rw [HF.out]; rfl⟩, bl_drewN HB.out _⟩
            · go_wp2_with (go_at_call 101; (with_reducible refine (opOk_calls 7 n _ ?_ ?_ ?_).mono ?_); exact HA.out.call (bl_alloc HW.out _); exact hwf.1; exact hwf.2; rintro e w2 ⟨rfl, hb⟩; have HB := Lib.hid (bl_call (bl_alloc HW.out _) hb); have HK := Lib.hid ((Bx.one wr #[.int .i64 7, .int .i32 n] 133).call hb); have HR2 := Lib.hid ((HRow.out.alloc _).call hb); obtain ⟨k0, -⟩ := HK.out; have c0 := blk_cell k0; clear hb k0)
              go_quiet (fail)
              go_wp2_with fail
              go_ret2
              exact ⟨⟨none, 0, by rw [HF.out]; rfl⟩, bl_drewN HB.out _⟩
          · obtain ⟨g, rfl, rfl⟩ := HRow.out.pos hpos
            have hlast : st.getLast? = some st[st.length - 1] := by rw [List.getLast?_eq_getElem?]; exact List.getElem?_eq_getElem (by omega)
            have htake : st.dropLast = st.take (st.length - 1) := List.dropLast_eq_take
            have hcl := HRow.out.cell (j := st.length - 1) (by omega)
            rw [List.getElem?_map, List.getElem?_eq_getElem (by omega)] at hcl
            simp only [Option.map_some] at hcl
            have hgl := HRow.out.lt _ rfl
            generalize st[st.length - 1] = t at hlast hcl
            have HCL := Lib.hid hcl
            have p1 : (1 : Int) ≤ (st.length : Int) := by omega
            have p6 := HRow.out.le
            have HT := Lib.hid htake
            by_cases ht : t = 6
            all_goals rcases hkd with rfl | rfl
            · have HF : Hid (openI [] xs = none) := Lib.hid (by rw [← HJ.out, openStep, if_neg (by omega), if_pos (by omega), hlast]; simp [ht])
              have ht6 : (t == 6) = true := by simp [ht]
              clear hlast htake hcl ht
              go_wp2_with (go_at_call 101; (with_reducible refine (opOk_calls 5 n _ ?_ ?_ ?_).mono ?_); exact HA.out.call (bl_alloc HW.out _); exact hwf.1; exact hwf.2; rintro e w2 ⟨rfl, hb⟩; have HB := Lib.hid (bl_call (bl_alloc HW.out _) hb); have HK := Lib.hid ((Bx.one wr #[.int .i64 5, .int .i32 n] 133).call hb); have HR2 := Lib.hid ((HRow.out.alloc _).call hb); obtain ⟨k0, -⟩ := HK.out; have c0 := blk_cell k0; clear hb k0)
              have hc2 : w2.cell? ⟨g, st.length - 1, none⟩ = some (.int .i64 t) := by rw [HR2.out.cell (by omega)]; rw [← HRow.out.cell (by omega)]; exact HCL.out
              have p2 : decide ((st.length : Int) - 1 < 0) = false := decide_eq_false (by omega)
              have p3 : (0 : Int) ≤ (st.length : Int) - 1 := by omega
              have p4 : (st.length : Int) - 1 < (st.length : Int) := by omega
              have p5 : ((st.length : Int) - 1).toNat = st.length - 1 := by omega
              go_quiet (fail)
              clear hc2 p2 p4 p5
              go_wp2_with fail
              go_ret2
              exact ⟨⟨none, 0, by rw [HF.out]; rfl⟩, bl_drewN HB.out _⟩
            · have HS : Hid (openI st.dropLast (xs.drop (k + 1)) = openI [] xs) := Lib.hid (by rw [← HJ.out, openStep, if_neg (by omega), if_pos (by omega), hlast]; simp [ht])
              have ht6 : (t == 6) = true := by simp [ht]
              clear hlast htake hcl ht
              go_wp2_with (go_at_call 101; (with_reducible refine (opOk_calls 7 n _ ?_ ?_ ?_).mono ?_); exact HA.out.call (bl_alloc HW.out _); exact hwf.1; exact hwf.2; rintro e w2 ⟨rfl, hb⟩; have HB := Lib.hid (bl_call (bl_alloc HW.out _) hb); have HK := Lib.hid ((Bx.one wr #[.int .i64 7, .int .i32 n] 133).call hb); have HR2 := Lib.hid ((HRow.out.alloc _).call hb); obtain ⟨k0, -⟩ := HK.out; have c0 := blk_cell k0; clear hb k0)
              have hc2 : w2.cell? ⟨g, st.length - 1, none⟩ = some (.int .i64 t) := by rw [HR2.out.cell (by omega)]; rw [← HRow.out.cell (by omega)]; exact HCL.out
              have p2 : decide ((st.length : Int) - 1 < 0) = false := decide_eq_false (by omega)
              have p3 : (0 : Int) ≤ (st.length : Int) - 1 := by omega
              have p4 : (st.length : Int) - 1 < (st.length : Int) := by omega
              have p5 : ((st.length : Int) - 1).toNat = st.length - 1 := by omega
              go_quiet (fail)
              clear hc2 p2 p4 p5
              go_wp2_with fail
              go_roundw
              case rel => exact ⟨k + 1, st.dropLast, some ⟨g, 0, none⟩, d, some g, by omega, by go_num, by simp, by simp; omega, Lib.hid (by have := (HR2.out.drewN nq).shorter (m := st.length - 1) (by omega); simpa [HT.out] using this), HLo, Lib.hid (bl_drewN HB.out _), HS⟩
              case measure => simp [intOf]; omega
            · have HS : Hid (openI st.dropLast (xs.drop (k + 1)) = openI [] xs) := Lib.hid (by rw [← HJ.out, openStep, if_neg (by omega), if_pos (by omega), hlast]; simp [ht])
              have ht6 : (t == 6) = false := by simp [ht]
              clear hlast htake hcl ht
              go_wp2_with (go_at_call 101; (with_reducible refine (opOk_calls 5 n _ ?_ ?_ ?_).mono ?_); exact HA.out.call (bl_alloc HW.out _); exact hwf.1; exact hwf.2; rintro e w2 ⟨rfl, hb⟩; have HB := Lib.hid (bl_call (bl_alloc HW.out _) hb); have HK := Lib.hid ((Bx.one wr #[.int .i64 5, .int .i32 n] 133).call hb); have HR2 := Lib.hid ((HRow.out.alloc _).call hb); obtain ⟨k0, -⟩ := HK.out; have c0 := blk_cell k0; clear hb k0)
              have hc2 : w2.cell? ⟨g, st.length - 1, none⟩ = some (.int .i64 t) := by rw [HR2.out.cell (by omega)]; rw [← HRow.out.cell (by omega)]; exact HCL.out
              have p2 : decide ((st.length : Int) - 1 < 0) = false := decide_eq_false (by omega)
              have p3 : (0 : Int) ≤ (st.length : Int) - 1 := by omega
              have p4 : (st.length : Int) - 1 < (st.length : Int) := by omega
              have p5 : ((st.length : Int) - 1).toNat = st.length - 1 := by omega
              go_quiet (fail)
              clear hc2 p2 p4 p5
              go_wp2_with fail
              go_roundw
              case rel => exact ⟨k + 1, st.dropLast, some ⟨g, 0, none⟩, d, some g, by omega, by go_num, by simp, by simp; omega, Lib.hid (by have := (HR2.out.drewN nq).shorter (m := st.length - 1) (by omega); simpa [HT.out] using this), HLo, Lib.hid (bl_drewN HB.out _), HS⟩
              case measure => simp [intOf]; omega
            · have HF : Hid (openI [] xs = none) := Lib.hid (by rw [← HJ.out, openStep, if_neg (by omega), if_pos (by omega), hlast]; simp [ht])
              have ht6 : (t == 6) = false := by simp [ht]
              clear hlast htake hcl ht
              go_wp2_with (go_at_call 101; (with_reducible refine (opOk_calls 7 n _ ?_ ?_ ?_).mono ?_); exact HA.out.call (bl_alloc HW.out _); exact hwf.1; exact hwf.2; rintro e w2 ⟨rfl, hb⟩; have HB := Lib.hid (bl_call (bl_alloc HW.out _) hb); have HK := Lib.hid ((Bx.one wr #[.int .i64 7, .int .i32 n] 133).call hb); have HR2 := Lib.hid ((HRow.out.alloc _).call hb); obtain ⟨k0, -⟩ := HK.out; have c0 := blk_cell k0; clear hb k0)
              have hc2 : w2.cell? ⟨g, st.length - 1, none⟩ = some (.int .i64 t) := by rw [HR2.out.cell (by omega)]; rw [← HRow.out.cell (by omega)]; exact HCL.out
              have p2 : decide ((st.length : Int) - 1 < 0) = false := decide_eq_false (by omega)
              have p3 : (0 : Int) ≤ (st.length : Int) - 1 := by omega
              have p4 : (st.length : Int) - 1 < (st.length : Int) := by omega
              have p5 : ((st.length : Int) - 1).toNat = st.length - 1 := by omega
              go_quiet (fail)
              clear hc2 p2 p4 p5
              go_wp2_with fail
              go_ret2
              exact ⟨⟨none, 0, by rw [HF.out]; rfl⟩, bl_drewN HB.out _⟩
        · have HS : Hid (openI st (xs.drop (k + 1)) = openI [] xs) := Lib.hid (by rw [← HJ.out, openStep, if_neg (by omega), if_neg (by omega)]; rfl)
          have e3 : (kd == 3) = false := by simpa using o3
          have e4 : (kd == 4) = false := by simpa using o4
          have e6 : (kd == 6) = false := by simpa using o6
          have e5 : (kd == 5) = false := by simpa using o5
          have e7 : (kd == 7) = false := by simpa using o7
          clear o3 o4 o6 o5 o7
          go_wp2_with (go_at_call 101; (with_reducible refine (opOk_calls kd n _ ?_ ?_ ?_).mono ?_); exact HA.out.call (bl_alloc HW.out _); exact hwf.1; exact hwf.2; rintro e w2 ⟨rfl, hb⟩; have HB := Lib.hid (bl_call (bl_alloc HW.out _) hb); have HK := Lib.hid ((Bx.one wr #[.int .i64 kd, .int .i32 n] 133).call hb); have HR2 := Lib.hid ((HRow.out.alloc _).call hb); obtain ⟨k0, -⟩ := HK.out; have c0 := blk_cell k0; clear hb k0)
          go_roundw
          case rel => exact ⟨k + 1, st, B, d, b, by omega, by go_num, rfl, by omega, HR2, HLo, HB, HS⟩
          case measure => simp [intOf]; omega
    · have : k = xs.length := by omega
      subst this
      have HF : Hid (openI [] xs = some st) := Lib.hid (by rw [← HI.out]; simp [openI])
      go_wp2
      go_ret2
      exact ⟨⟨B, d, by rw [HF.out, show decide (xs.length ≤ 60) = decide ((xs.length : Int) ≤ 60) from decide_eq_decide.2 (by omega)]; rfl⟩, HW.out⟩
set_option maxRecDepth 100000 in
set_option maxHeartbeats 2000000 in
theorem l09Open_calls (A : Option Addr) (c : Nat) (xs : List LOp) (w : World) (hr : Rd w A (xs.flatMap LOp.enc)) (hn : xs.length ≤ 4194304) :
    Calls Tryd.prog 96 #[.slice A xs.length c] w fun e w' => (∃ B d, e = .returned (.tuple #[.slice B (openN (openS [] xs)) d, .bool (openS [] xs).isSome])) ∧ Below w.heap.size w w' := by
  have HR := Lib.hid hr
  clear hr
  go_enter Tryd.func96, Tryd.ntmps96
  go_wp2
  go_loopw [4, 5] (fun v i wr => ∃ (k : Nat) (st : List Int) (B : Option Addr) (d : Nat) (b : Option Nat), k ≤ xs.length ∧ i = .int .i64 k ∧ v = .slice B st.length d ∧ st.length ≤ k ∧ Hid (Row wr 3 1 B st.length d (st.map (Value.int .i64)) b) ∧ Hid (∀ g, b = some g → w.heap.size ≤ g) ∧ Hid (Below w.heap.size w wr) ∧ Hid (openS st (xs.drop k) = openS [] xs)) (fun _ i _ => xs.length - (intOf i).toNat)
  case atStart => exact ⟨0, [], some ⟨w.heap.size, 0, none⟩, 0, some w.heap.size, Nat.zero_le _, rfl, rfl, Nat.zero_le _, Lib.hid (Row.made w #[] 3 1 0 (by decide) rfl), Lib.hid (fun g e => by cases e; exact Nat.le_refl _), Lib.hid (bl_alloc (Below.refl _ _) _), Lib.hid rfl⟩
  case round =>
    obtain ⟨k, st, B, d, b, hk, rfl, rfl, hst, HRow, HLo, HW, HI⟩ := hrel
    by_cases hlt : k < xs.length
    · have hu : xs[k]? = some xs[k] := List.getElem?_eq_getElem hlt
      obtain ⟨ad, rfl, hc⟩ := (HR.out.keepB HW.out).el LOp.enc_len hu (by omega)
      have hc0 := hc 0 _ rfl
      rw [Nat.add_zero] at hc0
      have HD := HI.out
      rw [List.drop_eq_getElem_cons hlt] at HD
      clear hc hu HI
      generalize xs[k] = x at hc0 HD
      obtain ⟨kd, n⟩ := x
      have HJ : Hid ((openStep st kd).bind (fun st' => openS st' (xs.drop (k + 1))) = openS [] xs) := Lib.hid (by rw [← HD, openS])
      clear HD
      have i1 : (k : Int) < (xs.length : Int) := by omega
      have hkd : (kd = 3 ∨ kd = 4 ∨ kd = 6) ∨ (kd = 5 ∨ kd = 7) ∨ (¬ kd = 3 ∧ ¬ kd = 4 ∧ ¬ kd = 6 ∧ ¬ kd = 5 ∧ ¬ kd = 7) := by omega
      rcases hkd with hkd | hkd | ⟨o3, o4, o6, o5, o7⟩
      · have HS : Hid (openS (st ++ [kd]) (xs.drop (k + 1)) = openS [] xs) := Lib.hid (by rw [← HJ.out, openStep, if_pos hkd]; rfl)
        rcases hkd with rfl | rfl | rfl
        · go_wp2_with (first | (at_builtin; refine wp_append1 _ rfl _ _ 26 rfl 3 (.int .i64 0) 1 8 Tryd.underlying26 info_int rfl (by decide) rfl HRow.out rfl rfl ?_ ?_ ?_ ?_; (intro u hu; simp at hu; subst hu; rfl); (unfold maxLen; omega); omega; intro B2 d2 w3 b2 hR3 hg3 hb3; have HR3 := Lib.hid hR3; have HB3 := Lib.hid (Below.grown HW.out hg3 (HW.out.size) HLo.out); have HLo3 : Hid (∀ g, b2 = some g → w.heap.size ≤ g) := Lib.hid (fun g e => by rcases hb3 with rfl | ⟨g', e', h'⟩; exact HLo.out g e; (rw [e'] at e; cases e; exact Nat.le_trans HW.out.size h')); clear hR3 hg3 hb3))
          go_roundw
          case rel => exact ⟨k + 1, st ++ [3], B2, d2, b2, by omega, by go_num, by simp, by simp; omega, Lib.hid (by simpa using HR3.out), HLo3, HB3, HS⟩
          case measure => simp [intOf]; omega
        · go_wp2_with (first | (at_builtin; refine wp_append1 _ rfl _ _ 26 rfl 3 (.int .i64 0) 1 8 Tryd.underlying26 info_int rfl (by decide) rfl HRow.out rfl rfl ?_ ?_ ?_ ?_; (intro u hu; simp at hu; subst hu; rfl); (unfold maxLen; omega); omega; intro B2 d2 w3 b2 hR3 hg3 hb3; have HR3 := Lib.hid hR3; have HB3 := Lib.hid (Below.grown HW.out hg3 (HW.out.size) HLo.out); have HLo3 : Hid (∀ g, b2 = some g → w.heap.size ≤ g) := Lib.hid (fun g e => by rcases hb3 with rfl | ⟨g', e', h'⟩; exact HLo.out g e; (rw [e'] at e; cases e; exact Nat.le_trans HW.out.size h')); clear hR3 hg3 hb3))
          go_roundw
          case rel => exact ⟨k + 1, st ++ [4], B2, d2, b2, by omega, by go_num, by simp, by simp; omega, Lib.hid (by simpa using HR3.out), HLo3, HB3, HS⟩
          case measure => simp [intOf]; omega
        · go_wp2_with (first | (at_builtin; refine wp_append1 _ rfl _ _ 26 rfl 3 (.int .i64 0) 1 8 Tryd.underlying26 info_int rfl (by decide) rfl HRow.out rfl rfl ?_ ?_ ?_ ?_; (intro u hu; simp at hu; subst hu; rfl); (unfold maxLen; omega); omega; intro B2 d2 w3 b2 hR3 hg3 hb3; have HR3 := Lib.hid hR3; have HB3 := Lib.hid (Below.grown HW.out hg3 (HW.out.size) HLo.out); have HLo3 : Hid (∀ g, b2 = some g → w.heap.size ≤ g) := Lib.hid (fun g e => by rcases hb3 with rfl | ⟨g', e', h'⟩; exact HLo.out g e; (rw [e'] at e; cases e; exact Nat.le_trans HW.out.size h')); clear hR3 hg3 hb3))
          go_roundw
          case rel => exact ⟨k + 1, st ++ [6], B2, d2, b2, by omega, by go_num, by simp, by simp; omega, Lib.hid (by simpa using HR3.out), HLo3, HB3, HS⟩
          case measure => simp [intOf]; omega
      · rcases Nat.eq_zero_or_pos st.length with he | hpos
        · have hst0 : st = [] := List.eq_nil_of_length_eq_zero he
          subst hst0
          have HF : Hid (openS [] xs = none) := Lib.hid (by rw [← HJ.out, openStep, if_neg (by omega), if_pos hkd]; rfl)
          clear he
          rcases hkd with rfl | rfl
          all_goals
            go_wp2
            go_ret2
            exact ⟨⟨none, 0, by rw [HF.out]; rfl⟩, HW.out⟩
        · obtain ⟨g, rfl, rfl⟩ := HRow.out.pos hpos
          have hlast : st.getLast? = some st[st.length - 1] := by rw [List.getLast?_eq_getElem?]; exact List.getElem?_eq_getElem (by omega)
          have htake : st.dropLast = st.take (st.length - 1) := List.dropLast_eq_take
          have hcl := HRow.out.cell (j := st.length - 1) (by omega)
          rw [List.getElem?_map, List.getElem?_eq_getElem (by omega)] at hcl
          simp only [Option.map_some] at hcl
          generalize st[st.length - 1] = t at hlast hcl
          have p1 : (1 : Int) ≤ (st.length : Int) := by omega
          have p6 := HRow.out.le
          have HT := Lib.hid htake
          by_cases ht : t = 6
          all_goals rcases hkd with rfl | rfl
          · have HF : Hid (openS [] xs = none) := Lib.hid (by rw [← HJ.out, openStep, if_neg (by omega), if_pos (by omega), hlast]; simp [ht])
            have ht6 : (t == 6) = true := by simp [ht]
            clear hlast htake ht
            have p0 : ((st.length : Int) == 0) = false := beq_false_of_ne (by omega)
            have p2 : decide ((st.length : Int) - 1 < 0) = false := decide_eq_false (by omega)
            have p3 : (0 : Int) ≤ (st.length : Int) - 1 := by omega
            have p4 : (st.length : Int) - 1 < (st.length : Int) := by omega
            have p5 : ((st.length : Int) - 1).toNat = st.length - 1 := by omega
            go_wp2
            go_ret2
            exact ⟨⟨none, 0, by rw [HF.out]; rfl⟩, HW.out⟩
          · have HS : Hid (openS st.dropLast (xs.drop (k + 1)) = openS [] xs) := Lib.hid (by rw [← HJ.out, openStep, if_neg (by omega), if_pos (by omega), hlast]; simp [ht])
            have ht6 : (t == 6) = true := by simp [ht]
            clear hlast htake ht
            have p0 : ((st.length : Int) == 0) = false := beq_false_of_ne (by omega)
            have p2 : decide ((st.length : Int) - 1 < 0) = false := decide_eq_false (by omega)
            have p3 : (0 : Int) ≤ (st.length : Int) - 1 := by omega
            have p4 : (st.length : Int) - 1 < (st.length : Int) := by omega
            have p5 : ((st.length : Int) - 1).toNat = st.length - 1 := by omega
            go_wp2
            go_roundw
            case rel => exact ⟨k + 1, st.dropLast, some ⟨g, 0, none⟩, d, some g, by omega, by go_num, by simp, by simp; omega, Lib.hid (by have := HRow.out.shorter (m := st.length - 1) (by omega); simpa [HT.out] using this), HLo, HW, HS⟩
            case measure => simp [intOf]; omega
          · have HS : Hid (openS st.dropLast (xs.drop (k + 1)) = openS [] xs) := Lib.hid (by rw [← HJ.out, openStep, if_neg (by omega), if_pos (by omega), hlast]; simp [ht])
            have ht6 : (t == 6) = false := by simp [ht]
            clear hlast htake ht
            have p0 : ((st.length : Int) == 0) = false := beq_false_of_ne (by omega)
            have p2 : decide ((st.length : Int) - 1 < 0) = false := decide_eq_false (by omega)
            have p3 : (0 : Int) ≤ (st.length : Int) - 1 := by omega
            have p4 : (st.length : Int) - 1 < (st.length : Int) := by omega
            have p5 : ((st.length : Int) - 1).toNat = st.length - 1 := by omega
            go_wp2
            go_roundw
            case rel => exact ⟨k + 1, st.dropLast, some ⟨g, 0, none⟩, d, some g, by omega, by go_num, by simp, by simp; omega, Lib.hid (by have := HRow.out.shorter (m := st.length - 1) (by omega); simpa [HT.out] using this), HLo, HW, HS⟩
            case measure => simp [intOf]; omega
          · have HF : Hid (openS [] xs = none) := Lib.hid (by rw [← HJ.out, openStep, if_neg (by omega), if_pos (by omega), hlast]; simp [ht])
            have ht6 : (t == 6) = false := by simp [ht]
            clear hlast htake ht
            have p0 : ((st.length : Int) == 0) = false := beq_false_of_ne (by omega)
            have p2 : decide ((st.length : Int) - 1 < 0) = false := decide_eq_false (by omega)
            have p3 : (0 : Int) ≤ (st.length : Int) - 1 := by omega
            have p4 : (st.length : Int) - 1 < (st.length : Int) := by omega
            have p5 : ((st.length : Int) - 1).toNat = st.length - 1 := by omega
            go_wp2
            go_ret2
            exact ⟨⟨none, 0, by rw [HF.out]; rfl⟩, HW.out⟩
      · have HS : Hid (openS st (xs.drop (k + 1)) = openS [] xs) := Lib.hid (by rw [← HJ.out, openStep, if_neg (by omega), if_neg (by omega)]; rfl)
        have e3 : (kd == 3) = false := by simpa using o3
        have e4 : (kd == 4) = false := by simpa using o4
        have e6 : (kd == 6) = false := by simpa using o6
        have e5 : (kd == 5) = false := by simpa using o5
        have e7 : (kd == 7) = false := by simpa using o7
        clear o3 o4 o6 o5 o7
        go_wp2
        go_roundw
        case rel => exact ⟨k + 1, st, B, d, b, by omega, by go_num, rfl, by omega, HRow, HLo, HW, HS⟩
        case measure => simp [intOf]; omega
    · have : k = xs.length := by omega
      subst this
      have HF : Hid (openS [] xs = some st) := Lib.hid (by rw [← HI.out]; simp [openS])
      go_wp2
      go_ret2
      exact ⟨⟨B, d, by rw [HF.out]; rfl⟩, HW.out⟩
def shapeOk (xs : List LOp) : Bool := decide (xs.length ≤ 60) && (xs.all opOk && decide (openS [] xs = some []))
theorem shapeOk_i (xs : List LOp) : (((openI [] xs).isSome && decide (xs.length ≤ 60)) && decide (openN (openI [] xs) = 0)) = shapeOk xs := by
  rw [openI_eq, shapeOk]
  by_cases h : xs.all opOk = true
  · rw [if_pos h, h]
    cases ho : openS [] xs with
    | none => simp
    | some st => cases st <;> simp [openN]
  · rw [if_neg h]
    have h2 : xs.all opOk = false := by simpa using h
    simp only [h2, Bool.false_and, Bool.and_false, Option.isSome_none]
theorem shapeOk_long {xs : List LOp} (h : 60 < xs.length) : shapeOk xs = false := by
  have : ¬ xs.length ≤ 60 := by omega
  simp [shapeOk, this]
theorem shapeOk_at {xs : List LOp} {k : Nat} {x : LOp} (hu : xs[k]? = some x) (hx : opOk x = false) : shapeOk xs = false := by
  have : xs.all opOk = false := by
    rw [List.all_eq_false]
    exact ⟨x, List.mem_of_getElem? hu, by simp [hx]⟩
  simp [shapeOk, this]
theorem shapeOk_end {xs : List LOp} (h : xs.length ≤ 60) (ha : ∀ x ∈ xs, opOk x = true) : ((openS [] xs).isSome && decide (openN (openS [] xs) = 0)) = shapeOk xs := by
  have h1 : xs.all opOk = true := List.all_eq_true.2 ha
  simp only [shapeOk, h1, decide_eq_true h, Bool.true_and]
  cases ho : openS [] xs with
  | none => simp
  | some st => cases st <;> simp [openN]
end Go.Proofs.YtjciibhaifabjaaDoor

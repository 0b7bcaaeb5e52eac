/- slices.IndexFunc and slices.ContainsFunc over slices of structs, at whatever function value. -/
import Derived.Test.YtjciibhaifabjaaDoorR
import Derived.Test.YtjciibhaifabjaaDoorProg
import Derived.Deep.QuietTactic
import Derived.BigQuiet
import Derived.Outline
set_option linter.unusedVariables false
set_option linter.unusedSimpArgs false
namespace Go.Proofs.YtjciibhaifabjaaDoor
open Go.RowKit

def fidx {α : Type} (p : α → Bool) : List α → Int → Int
  | [], _ => -1
  | x :: xs, k => if p x = true then k else fidx p xs (k + 1)
theorem fidx_none {α : Type} {p : α → Bool} : ∀ {xs : List α} {k : Int}, (∀ x ∈ xs, p x = false) → fidx p xs k = -1
  | [], _, _ => rfl
  | x :: xs, k, h => by
    rw [fidx, if_neg (by rw [h x (by simp)]; simp)]
    exact fidx_none fun y hy => h y (by simp [hy])
theorem fidx_at {α : Type} {p : α → Bool} : ∀ {xs : List α} {k : Int} {j : Nat} {x : α}, xs[j]? = some x → p x = true → (∀ y ∈ xs.take j, p y = false) → fidx p xs k = k + j
  | [], _, _, _, h, _, _ => by simp at h
  | x :: xs, k, 0, y, h, hp, _ => by
    simp at h
    subst h
    rw [fidx, if_pos hp]
    simp
  | x :: xs, k, j + 1, y, h, hp, hn => by
    rw [fidx, if_neg (by rw [hn x (by simp)]; simp), fidx_at (xs := xs) (j := j) (by simpa using h) hp (fun z hz => hn z (by simp [hz]))]
    omega
theorem fidx_any {α : Type} {p : α → Bool} : ∀ {xs : List α} {k : Int}, 0 ≤ k → decide (0 ≤ fidx p xs k) = xs.any p
  | [], _, _ => by simp [fidx]
  | x :: xs, k, h => by
    by_cases hp : p x = true
    · rw [fidx, if_pos hp]; simp [hp, h]
    · rw [fidx, if_neg hp, fidx_any (xs := xs) (k := k + 1) (by omega)]; simp [hp]

set_option maxRecDepth 100000 in
set_option maxHeartbeats 1000000 in
theorem idxFIns_calls {α : Type} (enc : α → List Value) (hl : ∀ x, (enc x).length = 2) (p : α → Bool) (A : Option Addr) (c : Nat) (xs : List α) (gf : FuncId) (lb : Array Value) (eg : ∀ (args : Array Value) (W : World), (callFunc gf args).run Tryd.prog W = .ok (.enter gf args) W) (w : World) (hr : Rd w A (xs.flatMap enc)) (hn : xs.length ≤ 140737488355328)
    (hp : ∀ (W : World) (x : α), Below w.heap.size w W → x ∈ xs → Calls Tryd.prog gf (#[.agg (enc x).toArray] ++ lb) W fun e w' => e = .returned (.bool (p x)) ∧ Below W.heap.size W w') :
    Calls Tryd.prog 126 #[.slice A xs.length c, .func (.func gf) #[] lb] w fun e w' => e = .returned (.int .i64 (fidx p xs 0)) ∧ Below w.heap.size w w' := by
  have HP := Lib.hid hp
  have HR := Lib.hid hr
  clear hp hr
  go_enter Tryd.func126, Tryd.ntmps126
  go_wp2
  go_loopw [5, 8] (fun _ i wr => ∃ k : Nat, k ≤ xs.length ∧ i = .int .i64 k ∧ Hid (Below w.heap.size w wr) ∧ Hid (∀ x ∈ xs.take k, p x = false)) (fun _ i _ => xs.length - (intOf i).toNat)
  case atStart => exact ⟨0, Nat.zero_le _, rfl, Lib.hid (Below.refl _ _), Lib.hid (by simp)⟩
  case round =>
    obtain ⟨k, hk, rfl, HW, HN⟩ := hrel
    by_cases hlt : k < xs.length
    · have hu : xs[k]? = some xs[k] := List.getElem?_eq_getElem hlt
      obtain ⟨ad, rfl, hc⟩ := (HR.out.keepB HW.out).el hl hu (by omega)
      obtain ⟨v0, v1, he⟩ : ∃ v0 v1, enc xs[k] = [v0, v1] := by
        have := hl xs[k]
        match h : enc xs[k], this with
        | [v0, v1], _ => exact ⟨v0, v1, rfl⟩
      have hc0 := hc 0 v0 (by rw [he]; rfl)
      have hc1 := hc 1 v1 (by rw [he]; rfl)
      rw [Nat.add_zero] at hc0
      rw [add_field _ _ _ (by omega)] at hc1
      have HM : Hid (xs[k] ∈ xs) := Lib.hid (List.getElem_mem hlt)
      have HU := Lib.hid hu
      have i1 : (k : Int) < (xs.length : Int) := by omega
      clear hc hu
      generalize xs[k] = x at he HM HU
      have HC : ∀ W, Below w.heap.size w W → Calls Tryd.prog gf (#[.agg #[v0, v1]] ++ lb) W fun e w' => e = .returned (.bool (p x)) ∧ Below W.heap.size W w' := fun W hW => by
        have := HP.out W x hW HM.out
        rwa [he] at this
      have HE := Lib.hid he
      have HCC := Lib.hid HC
      clear he HC
      cases hpx : p x
      · rw [hpx] at HCC
        have HN2 := Lib.hid (take_all_snoc HN.out HU.out hpx)
        clear hpx
        go_wp2_with fail
        refine (HCC.out _ HW.out).mono ?_
        rintro e w2 ⟨rfl, hb⟩
        have HW2 := Lib.hid (bl_call HW.out hb)
        clear hb
        go_wp2_with fail
        go_roundw
        case rel => exact ⟨k + 1, by omega, by go_num, HW2, HN2⟩
        case measure => simp [intOf]; omega
      · rw [hpx] at HCC
        have HF := Lib.hid (fidx_at (k := 0) HU.out hpx HN.out)
        clear hpx
        go_wp2_with fail
        refine (HCC.out _ HW.out).mono ?_
        rintro e w2 ⟨rfl, hb⟩
        have HW2 := Lib.hid (bl_call HW.out hb)
        clear hb
        go_wp2_with fail
        go_ret
        exact ⟨ret_int (by rw [HF.out]; omega), HW2.out⟩
    · have : k = xs.length := by omega
      subst this
      rw [List.take_of_length_le (Nat.le_refl _)] at HN
      have HF := Lib.hid (fidx_none (k := 0) HN.out)
      go_wp2
      go_ret
      exact ⟨ret_int HF.out.symm, HW.out⟩
theorem contFIns_calls {α : Type} (enc : α → List Value) (hl : ∀ x, (enc x).length = 2) (p : α → Bool) (A : Option Addr) (c : Nat) (xs : List α) (gf : FuncId) (lb : Array Value) (eg : ∀ (args : Array Value) (W : World), (callFunc gf args).run Tryd.prog W = .ok (.enter gf args) W) (w : World) (hr : Rd w A (xs.flatMap enc)) (hn : xs.length ≤ 140737488355328)
    (hp : ∀ (W : World) (x : α), Below w.heap.size w W → x ∈ xs → Calls Tryd.prog gf (#[.agg (enc x).toArray] ++ lb) W fun e w' => e = .returned (.bool (p x)) ∧ Below W.heap.size W w') :
    Calls Tryd.prog 111 #[.slice A xs.length c, .func (.func gf) #[] lb] w fun e w' => e = .returned (.bool (xs.any p)) ∧ Below w.heap.size w w' := by
  have HP := Lib.hid hp
  have HR := Lib.hid hr
  clear hp hr
  go_enter Tryd.func111, Tryd.ntmps111
  go_wp2_with fail
  refine (idxFIns_calls enc hl p A c xs gf lb eg _ HR.out hn HP.out).mono ?_
  rintro e w2 ⟨rfl, hb⟩
  have HB := Lib.hid hb
  have HI := Lib.hid (fidx_any (p := p) (xs := xs) (k := 0) (Int.le_refl _))
  clear hb
  generalize fidx p xs 0 = r at HI
  go_wp2_with fail
  go_ret
  exact ⟨ret_bool HI.out, HB.out⟩

set_option maxRecDepth 100000 in
set_option maxHeartbeats 1000000 in
theorem idxFOp_calls {α : Type} (enc : α → List Value) (hl : ∀ x, (enc x).length = 2) (p : α → Bool) (A : Option Addr) (c : Nat) (xs : List α) (gf : FuncId) (lb : Array Value) (eg : ∀ (args : Array Value) (W : World), (callFunc gf args).run Tryd.prog W = .ok (.enter gf args) W) (w : World) (hr : Rd w A (xs.flatMap enc)) (hn : xs.length ≤ 140737488355328)
    (hp : ∀ (W : World) (x : α), Below w.heap.size w W → x ∈ xs → Calls Tryd.prog gf (#[.agg (enc x).toArray] ++ lb) W fun e w' => e = .returned (.bool (p x)) ∧ Below W.heap.size W w') :
    Calls Tryd.prog 124 #[.slice A xs.length c, .func (.func gf) #[] lb] w fun e w' => e = .returned (.int .i64 (fidx p xs 0)) ∧ Below w.heap.size w w' := by
  have HP := Lib.hid hp
  have HR := Lib.hid hr
  clear hp hr
  go_enter Tryd.func124, Tryd.ntmps124
  go_wp2
  go_loopw [5, 8] (fun _ i wr => ∃ k : Nat, k ≤ xs.length ∧ i = .int .i64 k ∧ Hid (Below w.heap.size w wr) ∧ Hid (∀ x ∈ xs.take k, p x = false)) (fun _ i _ => xs.length - (intOf i).toNat)
  case atStart => exact ⟨0, Nat.zero_le _, rfl, Lib.hid (Below.refl _ _), Lib.hid (by simp)⟩
  case round =>
    obtain ⟨k, hk, rfl, HW, HN⟩ := hrel
    by_cases hlt : k < xs.length
    · have hu : xs[k]? = some xs[k] := List.getElem?_eq_getElem hlt
      obtain ⟨ad, rfl, hc⟩ := (HR.out.keepB HW.out).el hl hu (by omega)
      obtain ⟨v0, v1, he⟩ : ∃ v0 v1, enc xs[k] = [v0, v1] := by
        have := hl xs[k]
        match h : enc xs[k], this with
        | [v0, v1], _ => exact ⟨v0, v1, rfl⟩
      have hc0 := hc 0 v0 (by rw [he]; rfl)
      have hc1 := hc 1 v1 (by rw [he]; rfl)
      rw [Nat.add_zero] at hc0
      rw [add_field _ _ _ (by omega)] at hc1
      have HM : Hid (xs[k] ∈ xs) := Lib.hid (List.getElem_mem hlt)
      have HU := Lib.hid hu
      have i1 : (k : Int) < (xs.length : Int) := by omega
      clear hc hu
      generalize xs[k] = x at he HM HU
      have HC : ∀ W, Below w.heap.size w W → Calls Tryd.prog gf (#[.agg #[v0, v1]] ++ lb) W fun e w' => e = .returned (.bool (p x)) ∧ Below W.heap.size W w' := fun W hW => by
        have := HP.out W x hW HM.out
        rwa [he] at this
      have HE := Lib.hid he
      have HCC := Lib.hid HC
      clear he HC
      cases hpx : p x
      · rw [hpx] at HCC
        have HN2 := Lib.hid (take_all_snoc HN.out HU.out hpx)
        clear hpx
        go_wp2_with fail
        refine (HCC.out _ HW.out).mono ?_
        rintro e w2 ⟨rfl, hb⟩
        have HW2 := Lib.hid (bl_call HW.out hb)
        clear hb
        go_wp2_with fail
        go_roundw
        case rel => exact ⟨k + 1, by omega, by go_num, HW2, HN2⟩
        case measure => simp [intOf]; omega
      · rw [hpx] at HCC
        have HF := Lib.hid (fidx_at (k := 0) HU.out hpx HN.out)
        clear hpx
        go_wp2_with fail
        refine (HCC.out _ HW.out).mono ?_
        rintro e w2 ⟨rfl, hb⟩
        have HW2 := Lib.hid (bl_call HW.out hb)
        clear hb
        go_wp2_with fail
        go_ret
        exact ⟨ret_int (by rw [HF.out]; omega), HW2.out⟩
    · have : k = xs.length := by omega
      subst this
      rw [List.take_of_length_le (Nat.le_refl _)] at HN
      have HF := Lib.hid (fidx_none (k := 0) HN.out)
      go_wp2
      go_ret
      exact ⟨ret_int HF.out.symm, HW.out⟩
theorem contFOp_calls {α : Type} (enc : α → List Value) (hl : ∀ x, (enc x).length = 2) (p : α → Bool) (A : Option Addr) (c : Nat) (xs : List α) (gf : FuncId) (lb : Array Value) (eg : ∀ (args : Array Value) (W : World), (callFunc gf args).run Tryd.prog W = .ok (.enter gf args) W) (w : World) (hr : Rd w A (xs.flatMap enc)) (hn : xs.length ≤ 140737488355328)
    (hp : ∀ (W : World) (x : α), Below w.heap.size w W → x ∈ xs → Calls Tryd.prog gf (#[.agg (enc x).toArray] ++ lb) W fun e w' => e = .returned (.bool (p x)) ∧ Below W.heap.size W w') :
    Calls Tryd.prog 103 #[.slice A xs.length c, .func (.func gf) #[] lb] w fun e w' => e = .returned (.bool (xs.any p)) ∧ Below w.heap.size w w' := by
  have HP := Lib.hid hp
  have HR := Lib.hid hr
  clear hp hr
  go_enter Tryd.func103, Tryd.ntmps103
  go_wp2_with fail
  refine (idxFOp_calls enc hl p A c xs gf lb eg _ HR.out hn HP.out).mono ?_
  rintro e w2 ⟨rfl, hb⟩
  have HB := Lib.hid hb
  have HI := Lib.hid (fidx_any (p := p) (xs := xs) (k := 0) (Int.le_refl _))
  clear hb
  generalize fidx p xs 0 = r at HI
  go_wp2_with fail
  go_ret
  exact ⟨ret_bool HI.out, HB.out⟩

end Go.Proofs.YtjciibhaifabjaaDoor

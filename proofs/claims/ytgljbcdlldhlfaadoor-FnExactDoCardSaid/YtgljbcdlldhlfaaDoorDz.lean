/- A built-in word leaves a state right. -/
import Derived.Test.YtgljbcdlldhlfaaDoorDp
set_option linter.unusedVariables false
set_option linter.unusedSimpArgs false
namespace Go.Proofs.YtgljbcdlldhlfaaDoor
open Go.RowKit

theorem StOkP.withFault {s : LSt} (h : StOkP s) {f : Int} (hf : 0 ≤ f ∧ f ≤ 13) : StOkP { s with fault := f } := ⟨h.data, h.ret, h.mem, h.c64, h.cmax, h.vars, h.kinds, h.range, h.nodup, h.out, h.inp, hf, h.fuel⟩
theorem StOkP.withData {s : LSt} (h : StOkP s) {xs : List Int} (hf : xs.length ≤ 16) : StOkP { s with data := xs } := ⟨hf, h.ret, h.mem, h.c64, h.cmax, h.vars, h.kinds, h.range, h.nodup, h.out, h.inp, h.fault, h.fuel⟩
theorem StOkP.withMem {s : LSt} (h : StOkP s) (i : Nat) (x : Int) : StOkP { s with mem := s.mem.set i x } := ⟨h.data, h.ret, (by simpa using h.mem), h.c64, h.cmax, h.vars, h.kinds, h.range, h.nodup, h.out, h.inp, h.fault, h.fuel⟩
theorem StOkP.withCells {s : LSt} (h : StOkP s) (i : Nat) (x : Int) : StOkP { s with cells := s.cells.set i x } := ⟨h.data, h.ret, h.mem, (by simpa using h.c64), (by simpa using h.cmax), h.vars, h.kinds, (by simpa using h.range), h.nodup, h.out, h.inp, h.fault, h.fuel⟩
theorem StOkP.withA {s : LSt} (h : StOkP s) (x : Int) : StOkP { s with a := x } := ⟨h.data, h.ret, h.mem, h.c64, h.cmax, h.vars, h.kinds, h.range, h.nodup, h.out, h.inp, h.fault, h.fuel⟩
theorem StOkP.withFuel {s : LSt} (h : StOkP s) {x : Int} (hx : 0 ≤ x ∧ x ≤ 4000) : StOkP { s with fuel := x } := ⟨h.data, h.ret, h.mem, h.c64, h.cmax, h.vars, h.kinds, h.range, h.nodup, h.out, h.inp, h.fault, hx⟩
theorem StOkP.withOut {s : LSt} (h : StOkP s) {xs : List Int} (hx : xs.length ≤ 400) : StOkP { s with out := xs } := ⟨h.data, h.ret, h.mem, h.c64, h.cmax, h.vars, h.kinds, h.range, h.nodup, hx, h.inp, h.fault, h.fuel⟩
theorem StOkP.withInp {s : LSt} (h : StOkP s) {xs : List Int} (hx : xs.length ≤ 100) : StOkP { s with inp := xs } := ⟨h.data, h.ret, h.mem, h.c64, h.cmax, h.vars, h.kinds, h.range, h.nodup, h.out, hx, h.fault, h.fuel⟩
theorem StOkP.withRet {s : LSt} (h : StOkP s) {xs : List LSlot} (hx : xs.length ≤ 24) (hk : ∀ x ∈ xs, 0 ≤ x.kind ∧ x.kind ≤ 2) : StOkP { s with ret := xs } := ⟨h.data, hx, h.mem, h.c64, h.cmax, h.vars, hk, h.range, h.nodup, h.out, h.inp, h.fault, h.fuel⟩
theorem StOkP.pushRet {s : LSt} (h : StOkP s) (hn : s.ret.length ≠ 24) {k n : Int} (hk : 0 ≤ k ∧ k ≤ 2) : StOkP { s with ret := s.ret ++ [⟨k, n⟩] } := h.withRet (by have := h.ret; simp; omega) (fun x hx => by
  rcases List.mem_append.1 hx with h1 | h1
  · exact h.kinds x h1
  · obtain rfl : x = ⟨k, n⟩ := by simpa using h1
    exact hk)
theorem StOkP.takeRet {s : LSt} (h : StOkP s) (n : Nat) : StOkP { s with ret := s.ret.take n } := h.withRet (by have := h.ret; simp; omega) (fun x hx => h.kinds x (List.mem_of_mem_take hx))
theorem eff_ok {s : LSt} (h : StOkP s) (k : Nat) (x y : Int) : StOkP (eff k s x y).1 := by
  unfold eff
  split <;> (try exact h)
  · split <;> exact h
  · split
    · exact h
    · split <;> exact h
  · split
    · exact h.withMem _ _
    · split
      · exact h.withCells _ _
      · exact h
  · exact h.withA _
  · split
    · exact h
    · exact h.withOut (by simp; omega)
  · split
    · exact h
    · next b r hr => exact h.withInp (by have := h.inp; rw [hr] at this; simp at this; omega)
  · split
    · exact h
    · next hn => exact h.pushRet hn (by omega)
  · split
    · exact h
    · split
      · exact h
      · exact h.takeRet _
  · split
    · exact h
    · split <;> exact h
  · split
    · exact h
    · exact h.withOut (by simp; omega)
theorem eff_fault (k : Nat) (s : LSt) (x y : Int) : 0 ≤ (eff k s x y).2.2 ∧ (eff k s x y).2.2 ≤ 13 := by
  unfold eff
  split <;> (try simp) <;> (repeat' split) <;> simp
theorem doesK_ok {s : LSt} (h : StOkP s) (k : Nat) : StOkP (doesK s k) := by
  unfold doesK
  split
  · exact h.withFault (by omega)
  · split
    · exact h.withFault (eff_fault _ _ _ _)
    · split
      · exact h.withFault (by omega)
      · exact (eff_ok h _ _ _).withData (by simp; omega)
theorem doesL_ok {s : LSt} (h : StOkP s) (k : Int) : StOkP (doesL s k) := by
  unfold doesL
  split
  · exact doesK_ok h _
  · exact h.withFault (by omega)
theorem doesL_small {s : LSt} (h : stOk s = true) (k : Int) : (doesL s k).small 1048576 := small_le (stOk_true (doesL_ok (of_decide_eq_true h) k))
theorem primName_full {k : Nat} (hk : k ≤ 23) : (primName k).toList.isEmpty = false := by
  have hc : k = 0 ∨ k = 1 ∨ k = 2 ∨ k = 3 ∨ k = 4 ∨ k = 5 ∨ k = 6 ∨ k = 7 ∨ k = 8 ∨ k = 9 ∨ k = 10 ∨ k = 11 ∨ k = 12 ∨ k = 13 ∨ k = 14 ∨ k = 15 ∨ k = 16 ∨ k = 17 ∨ k = 18 ∨ k = 19 ∨ k = 20 ∨ k = 21 ∨ k = 22 ∨ k = 23 := by omega
  rcases hc with rfl | rfl | rfl | rfl | rfl | rfl | rfl | rfl | rfl | rfl | rfl | rfl | rfl | rfl | rfl | rfl | rfl | rfl | rfl | rfl | rfl | rfl | rfl | rfl <;> decide +kernel
theorem need_nat {k : Nat} (hk : k ≤ 23) : ((needN k : Nat) : Int) = (primEff k).need := by
  have hc : k = 0 ∨ k = 1 ∨ k = 2 ∨ k = 3 ∨ k = 4 ∨ k = 5 ∨ k = 6 ∨ k = 7 ∨ k = 8 ∨ k = 9 ∨ k = 10 ∨ k = 11 ∨ k = 12 ∨ k = 13 ∨ k = 14 ∨ k = 15 ∨ k = 16 ∨ k = 17 ∨ k = 18 ∨ k = 19 ∨ k = 20 ∨ k = 21 ∨ k = 22 ∨ k = 23 := by omega
  rcases hc with rfl | rfl | rfl | rfl | rfl | rfl | rfl | rfl | rfl | rfl | rfl | rfl | rfl | rfl | rfl | rfl | rfl | rfl | rfl | rfl | rfl | rfl | rfl | rfl <;> decide +kernel
end Go.Proofs.YtgljbcdlldhlfaaDoor

/- Out of the row's listed variables: the library's tables as the walks want them. -/
import Derived.Test.YtgljbcdlldhlfaaDoorP
import Derived.Lib.LaidTab
import Derived.LaidMore
set_option linter.unusedVariables false
namespace Go.Proofs.YtgljbcdlldhlfaaDoor
open Go.RowKit

/-- A listed table of whole numbers is as it was laid. -/
theorem tab_of_laidVars {P : Program} {W : World} {name : String} {k : IntKind} {zs : List Int} {g : Nat} {t e : TypeId} {n : Nat}
    (hg : P.globalNamed name = some g) (hty : (P.globals[g]?).map (·.type) = some t) (ht : P.underlying t = some (.array n e)) (he : P.underlying e = some (.int k)) (hce : P.cellsOf e = 1) (hct : P.cellsOf t = n) :
    ∀ {l : List (String × DataW Unit)} {ps : List MemPlace} (i : Nat), l[i]? = some (name, Lib.tabData k zs) → DataW.LaidVars P W l ps → Lib.TabIs P W name k zs
  | [], _, i, hi, _ => by simp at hi
  | (m, d) :: l, ps, 0, hi, ⟨g', t', cs, fuel, p, q, hg', ht', hvar, hd, _, _⟩ => by
    simp only [List.getElem?_cons_zero, Option.some.injEq, Prod.mk.injEq] at hi
    obtain ⟨rfl, rfl⟩ := hi
    obtain rfl := Option.some.inj (hg.symm.trans hg')
    obtain rfl := Option.some.inj (hty.symm.trans ht')
    have := Lib.cells_of_tab ht he hce hct hd
    rw [Lib.TabIs, hvar, ← this]
  | (m, d) :: l, ps, i + 1, hi, ⟨g', t', cs, fuel, p, q, _, _, _, _, hr, _⟩ => tab_of_laidVars hg hty ht he hce hct i (by simpa using hi) hr
theorem tab_of_laid {P : Program} {W : World} {name : String} {k : IntKind} {zs : List Int} {g : Nat} {t e : TypeId} {n : Nat} {l : List (String × DataW Unit)} (i : Nat)
    (hg : P.globalNamed name = some g) (hty : (P.globals[g]?).map (·.type) = some t) (ht : P.underlying t = some (.array n e)) (he : P.underlying e = some (.int k)) (hce : P.cellsOf e = 1) (hct : P.cellsOf t = n)
    (hi : l[i]? = some (name, Lib.tabData k zs)) (h : laidMet P l W) : Lib.TabIs P W name k zs := by
  obtain ⟨ps, hv, _⟩ := h
  exact tab_of_laidVars hg hty ht he hce hct i hi hv
end Go.Proofs.YtgljbcdlldhlfaaDoor

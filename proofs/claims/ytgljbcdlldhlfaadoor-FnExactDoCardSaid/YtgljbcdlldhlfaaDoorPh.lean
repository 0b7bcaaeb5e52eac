/- Effects as texts: contracts of EffectText, the program's and the reference's, and the law's walk. -/
import Derived.Test.YtgljbcdlldhlfaaDoorPg
import Derived.Lib.QuietBelow
set_option linter.unusedVariables false
set_option linter.unusedSimpArgs false
namespace Go.Proofs.YtgljbcdlldhlfaaDoor
open Go.RowKit Go.Sort

theorem decT_size {n : Int} (h0 : -9223372036854775808 ≤ n) (h1 : n ≤ 9223372036854775807) : (decT n).size ≤ 20 := by
  have hl := nDigits_le 18 n.natAbs (by omega)
  rw [← Lib.decDigits_length] at hl
  have : (decT n).size = (Lib.itoa n).length := by simp [decT, ByteArray.size]
  rw [this, Lib.itoa]
  split
  · simp; omega
  · have e : n.toNat = n.natAbs := by omega
    rw [e]; omega
theorem i64_w (n : Int) : IntKind.i64.wrap n = wrap64 n := by unfold wrap64; exact IntKind.wrap_i64 n
theorem wrap64_lo (n : Int) : -9223372036854775808 ≤ wrap64 n := by unfold wrap64; omega
theorem wrap64_hi (n : Int) : wrap64 n ≤ 9223372036854775807 := by unfold wrap64; omega
def sep : ByteArray := ⟨#[32, 45, 45, 32]⟩
def effT (x : LEffect) : ByteArray := if x.ok then (decT x.need ++ sep) ++ decT (wrap64 (x.need + x.gain)) else ⟨#[63]⟩

end Go.Proofs.YtgljbcdlldhlfaaDoor

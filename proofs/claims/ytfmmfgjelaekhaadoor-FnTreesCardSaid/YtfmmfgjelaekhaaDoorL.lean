/- Contracts of the laws' helpers over slices of whole numbers. -/
import Derived.Test.YtfmmfgjelaekhaaDoorProg
import Derived.Test.YtfmmfgjelaekhaaDoorR
import Derived.Deep.OwnRows
import Derived.Deep.QuietTactic
import Derived.BigQuiet
set_option linter.unusedVariables false
set_option linter.unusedSimpArgs false
namespace Go.Proofs.YtfmmfgjelaekhaaDoor
open Go.RowKit

def mkInt32 (k0 : Int) (n : Nat) : List Int := (List.range n).map fun i : Nat => (fun k : Int => (wrap32 k)) (k0 + i)
theorem mkInt32_length (k0 : Int) (n : Nat) : (mkInt32 k0 n).length = n := by simp [mkInt32]

end Go.Proofs.YtfmmfgjelaekhaaDoor

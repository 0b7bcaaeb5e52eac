/- An op whose number is one of 32 bits. -/
import Derived.Test.YtjciibhaifabjaaDoorD
namespace Go.Proofs.YtjciibhaifabjaaDoor
def LOp.ok32 (x : LOp) : Prop := -2147483648 ≤ x.n ∧ x.n ≤ 2147483647
end Go.Proofs.YtjciibhaifabjaaDoor

/- The law FnExactAllFourSquares, pure: the walk was done by hand. -/
import Derived.Test.YtokachiofpfagaaPx6
namespace Go.Proofs.Ytokachiofpfagaa.Pure
open Go.Proofs.Ytokachiofpfagaa.P
theorem FnExactAllFourSquares : laws_FnExactAllFourSquares.Pure := trivial
end Go.Proofs.Ytokachiofpfagaa.Pure

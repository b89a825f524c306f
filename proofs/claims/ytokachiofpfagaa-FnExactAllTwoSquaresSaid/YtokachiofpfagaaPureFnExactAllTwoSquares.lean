/- The law FnExactAllTwoSquares, pure: the walk was done by hand. -/
import Derived.Test.YtokachiofpfagaaPx8
namespace Go.Proofs.Ytokachiofpfagaa.Pure
open Go.Proofs.Ytokachiofpfagaa.P
theorem FnExactAllTwoSquares : laws_FnExactAllTwoSquares.Pure := trivial
end Go.Proofs.Ytokachiofpfagaa.Pure

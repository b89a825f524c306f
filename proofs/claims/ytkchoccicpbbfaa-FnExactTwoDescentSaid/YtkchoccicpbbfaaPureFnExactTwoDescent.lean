/- The law FnExactTwoDescent, pure: the walk was done by hand. -/
import Derived.Test.YtkchoccicpbbfaaPx4
namespace Go.Proofs.Ytkchoccicpbbfaa.Pure
open Go.Proofs.Ytkchoccicpbbfaa.P
theorem FnExactTwoDescent : laws_FnExactTwoDescent.Pure := trivial
end Go.Proofs.Ytkchoccicpbbfaa.Pure

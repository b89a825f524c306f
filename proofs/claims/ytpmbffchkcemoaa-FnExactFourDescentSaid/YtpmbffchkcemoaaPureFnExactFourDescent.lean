/- The law FnExactFourDescent, pure: the walk was done by hand. -/
import Derived.Test.YtpmbffchkcemoaaFx8
namespace Go.Proofs.Ytpmbffchkcemoaa.Pure
open Go.Proofs.Ytpmbffchkcemoaa.P
theorem FnExactFourDescent : laws_FnExactFourDescent.Pure := trivial
end Go.Proofs.Ytpmbffchkcemoaa.Pure

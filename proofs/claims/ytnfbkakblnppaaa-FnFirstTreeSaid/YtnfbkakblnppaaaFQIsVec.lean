/- Vectors, of the program. -/
import Derived.Test.YtnfbkakblnppaaaFx1
import Derived.Test.YtnfbkakblnppaaaFQBase
namespace Go.Proofs.Ytnfbkakblnppaaa.Q
open Go.RowKit Go.Proofs.Ytnfbkakblnppaaa.P Go.Proofs.YtnfbkakblnppaaaW.PrintWords Go.Proofs.YtnfbkakblnppaaaW.PrintLast Go.Proofs.Ytnfbkakblnppaaa.G

theorem isVector_eq (l : List Int) (n : Int) : impl_isVector.f l n = some (isVec n l) := by
  unfold impl_isVector.f impl_allWithin.f isVec
  simp only [Option.bind_some]
  by_cases h : (l.length : Int) = n
  · rw [if_pos h, decide_eq_true h, Bool.true_and]
  · rw [if_neg h, decide_eq_false h, Bool.false_and]
end Go.Proofs.Ytnfbkakblnppaaa.Q

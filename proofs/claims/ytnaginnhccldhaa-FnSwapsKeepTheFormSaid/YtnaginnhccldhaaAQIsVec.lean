/- Vectors, of the program. -/
import Derived.Test.YtnaginnhccldhaaAx11
import Derived.Test.YtnaginnhccldhaaAQBase
namespace Go.Proofs.Ytnaginnhccldhaa.Q
open Go.RowKit Go.Proofs.Ytnaginnhccldhaa.P Go.Proofs.YtnaginnhccldhaaW.PrintWords Go.Proofs.YtnaginnhccldhaaW.PrintLast Go.Proofs.Ytnaginnhccldhaa.G

theorem isVector_eq (l : List Int) (n : Int) : impl_isVector.f l n = some (isVec n l) := by
  unfold impl_isVector.f impl_allWithin.f isVec
  simp only [Option.bind_some]
  by_cases h : (l.length : Int) = n
  · rw [if_pos h, decide_eq_true h, Bool.true_and]
  · rw [if_neg h, decide_eq_false h, Bool.false_and]
end Go.Proofs.Ytnaginnhccldhaa.Q

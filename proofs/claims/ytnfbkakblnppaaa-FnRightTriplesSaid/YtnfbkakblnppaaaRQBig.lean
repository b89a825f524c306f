/- The laws' test of their codes' sizes. -/
import Derived.Test.YtnfbkakblnppaaaRx1
import Derived.Test.YtnfbkakblnppaaaRQEv
namespace Go.Proofs.Ytnfbkakblnppaaa.Q
open Go.RowKit Go.Proofs.Ytnfbkakblnppaaa.P Go.Proofs.YtnfbkakblnppaaaW.PrintWords Go.Proofs.YtnfbkakblnppaaaW.PrintLast

theorem big_eq (l m : List Int) : ∃ b, laws_big.f l m = some b := by
  unfold laws_big.f
  split <;> exact ⟨_, rfl⟩
end Go.Proofs.Ytnfbkakblnppaaa.Q

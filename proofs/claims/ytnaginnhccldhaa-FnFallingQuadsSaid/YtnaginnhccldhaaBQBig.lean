/- The laws' test of their codes' sizes. -/
import Derived.Test.YtnaginnhccldhaaBx1
import Derived.Test.YtnaginnhccldhaaBQEv
namespace Go.Proofs.Ytnaginnhccldhaa.Q
open Go.RowKit Go.Proofs.Ytnaginnhccldhaa.P Go.Proofs.YtnaginnhccldhaaW.PrintWords Go.Proofs.YtnaginnhccldhaaW.PrintLast

theorem big_eq (l m : List Int) : ∃ b, laws_big.f l m = some b := by
  unfold laws_big.f
  split <;> exact ⟨_, rfl⟩
end Go.Proofs.Ytnaginnhccldhaa.Q

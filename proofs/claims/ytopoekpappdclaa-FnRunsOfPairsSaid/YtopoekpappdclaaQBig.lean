/- The laws' test of their codes' sizes. -/
import Derived.Test.YtopoekpappdclaaPx1
import Derived.Test.YtopoekpappdclaaQEv
namespace Go.Proofs.Ytopoekpappdclaa.Q
open Go.RowKit Go.Proofs.Ytopoekpappdclaa.P Go.Proofs.YtopoekpappdclaaW.PrintWords Go.Proofs.YtopoekpappdclaaW.PrintLast

theorem big_eq (l m : List Int) : ∃ b, laws_big.f l m = some b := by
  unfold laws_big.f
  split <;> exact ⟨_, rfl⟩
end Go.Proofs.Ytopoekpappdclaa.Q

/- The laws' test of their codes' sizes. -/
import Derived.Test.YtaphbbnoadjplaaPx1
import Derived.Test.YtaphbbnoadjplaaQEv
namespace Go.Proofs.Ytaphbbnoadjplaa.Q
open Go.RowKit Go.Proofs.Ytaphbbnoadjplaa.P Go.Proofs.YtaphbbnoadjplaaW.PrintWords Go.Proofs.YtaphbbnoadjplaaW.PrintLast

theorem big_eq (l m : List Int) : ∃ b, laws_big.f l m = some b := by
  unfold laws_big.f
  split <;> exact ⟨_, rfl⟩
end Go.Proofs.Ytaphbbnoadjplaa.Q

/- A number between two others, of both programs. -/
import Derived.Test.YtfdbjiddhgfcnaaPx1
import Derived.Test.YtfdbjiddhgfcnaaPx2
import Derived.Test.YtfdbjiddhgfcnaaQEv
namespace Go.Proofs.Ytfdbjiddhgfcnaa.Q
open Go.RowKit Go.Proofs.Ytfdbjiddhgfcnaa.P Go.Proofs.YtfdbjiddhgfcnaaW.PrintWords Go.Proofs.YtfdbjiddhgfcnaaW.PrintLast

theorem in_eq (a lo hi : Int) : spec_l1In.f a lo hi = some (decide (lo ≤ a ∧ a ≤ hi)) := by
  unfold spec_l1In.f
  by_cases h : lo ≤ a
  · rw [if_pos h]
    simp [h]
  · rw [if_neg h]
    simp [h]
theorem within_eq (a lo hi : Int) : impl_within.f a lo hi = some (decide (lo ≤ a ∧ a ≤ hi)) := by
  unfold impl_within.f
  by_cases h : lo ≤ a
  · rw [if_pos h]
    simp [h]
  · rw [if_neg h]
    simp [h]
end Go.Proofs.Ytfdbjiddhgfcnaa.Q

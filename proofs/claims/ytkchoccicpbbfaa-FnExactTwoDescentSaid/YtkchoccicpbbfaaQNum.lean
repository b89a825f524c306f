/- What the small tests of numbers come to. -/
import Derived.Test.YtkchoccicpbbfaaPx1
import Derived.Test.YtkchoccicpbbfaaQEv
namespace Go.Proofs.Ytkchoccicpbbfaa.Q
open Go.RowKit Go.Proofs.Ytkchoccicpbbfaa.P Go.Proofs.YtkchoccicpbbfaaW.PrintWords Go.Proofs.YtkchoccicpbbfaaW.PrintLast

theorem within_eq (a lo hi : Int) : impl_within.f a lo hi = some (decide (lo ≤ a ∧ a ≤ hi)) := by
  unfold impl_within.f
  by_cases h : lo ≤ a
  · rw [if_pos h]
    simp [h]
  · rw [if_neg h]
    simp [h]
theorem l1In_eq (a lo hi : Int) : spec_l1In.f a lo hi = some (decide (lo ≤ a ∧ a ≤ hi)) := by
  unfold spec_l1In.f
  by_cases h : lo ≤ a
  · rw [if_pos h]
    simp [h]
  · rw [if_neg h]
    simp [h]
theorem isTwo_eq (a : Int) : impl_isTwo.f a = some (decide (0 ≤ a ∧ a ≤ 1000000)) := by
  unfold impl_isTwo.f
  rw [within_eq]
  rfl
theorem sqNumber_eq (a : Int) : spec_sqNumber.f a = some (decide (0 ≤ a ∧ a ≤ 1000000)) := by
  unfold spec_sqNumber.f
  rw [l1In_eq]
  rfl

theorem tmod_cast (n d : Nat) : Int.tmod (n : Int) (d : Int) = ((n % d : Nat) : Int) := by
  rw [Int.tmod_eq_emod_of_nonneg (by omega), Int.natCast_emod]
theorem tdiv_cast (n d : Nat) : Int.tdiv (n : Int) (d : Int) = ((n / d : Nat) : Int) := by
  rw [Int.tdiv_eq_ediv_of_nonneg (by omega), Int.natCast_ediv]
theorem w64_mul {a b c d : Nat} (h1 : a ≤ c) (h2 : b ≤ d) (h3 : c * d ≤ 9223372036854775807) : wrap64 ((a : Int) * (b : Int)) = ((a * b : Nat) : Int) := by
  have h : a * b ≤ c * d := Nat.mul_le_mul h1 h2
  have e : (a : Int) * (b : Int) = ((a * b : Nat) : Int) := (Int.natCast_mul a b).symm
  rw [e]
  exact w64 (by omega) (by omega)
end Go.Proofs.Ytkchoccicpbbfaa.Q

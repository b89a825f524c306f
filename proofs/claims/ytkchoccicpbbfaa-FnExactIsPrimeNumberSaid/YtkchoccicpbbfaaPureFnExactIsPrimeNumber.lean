/- The law FnExactIsPrimeNumber, pure: both functions tell whether a number in 0..1000000 has no divisor. -/
import Derived.Test.YtkchoccicpbbfaaPx1
import Derived.Test.YtkchoccicpbbfaaQNum
namespace Go.Proofs.Ytkchoccicpbbfaa.Pure
open Go.RowKit Go.Proofs.Ytkchoccicpbbfaa.P Go.Proofs.YtkchoccicpbbfaaW.PrintWords Go.Proofs.YtkchoccicpbbfaaW.PrintLast Go.Proofs.Ytkchoccicpbbfaa.Q

theorem spec_prime_ev (a : Int) : Ev (fun k => spec_IsPrimeNumber.f k a) (if 0 ≤ a ∧ a ≤ 1000000 then (prB a.toNat, true) else (false, false)) := by
  unfold spec_IsPrimeNumber.f
  rw [sqNumber_eq]
  simp only [Option.bind_some]
  by_cases h : 0 ≤ a ∧ a ≤ 1000000
  · rw [if_pos h]
    refine Ev_true (by simpa using h) ?_
    obtain ⟨n, rfl⟩ := Int.eq_ofNat_of_zero_le h.1
    exact Ev.bind (f := fun _ t => some (t, true)) (sqPrime_ev n (by omega)) Ev_some
  · rw [if_neg h]
    exact Ev_false (by simpa using h) Ev_some
theorem impl_prime_ev (a : Int) : Ev (fun k => impl_IsPrimeNumber.f k a) (if 0 ≤ a ∧ a ≤ 1000000 then (prB a.toNat, true) else (false, false)) := by
  unfold impl_IsPrimeNumber.f
  rw [isTwo_eq]
  simp only [Option.bind_some]
  by_cases h : 0 ≤ a ∧ a ≤ 1000000
  · rw [if_pos h]
    refine Ev_true (by simpa using h) ?_
    obtain ⟨n, rfl⟩ := Int.eq_ofNat_of_zero_le h.1
    exact Ev.bind (f := fun _ t => some (t, true)) (isPrime_ev n (by omega)) Ev_some
  · rw [if_neg h]
    exact Ev_false (by simpa using h) Ev_some

theorem FnExactIsPrimeNumber : laws_FnExactIsPrimeNumber.Pure := by
  intro a _
  refine Ev_out (g := fun k => laws_FnExactIsPrimeNumber.f k a) ?_
  unfold laws_FnExactIsPrimeNumber.f
  refine Ev.bind (spec_prime_ev a) (Ev.bind (impl_prime_ev a) ?_)
  simp only [bne_self_eq_false]
  exact Ev_some
end Go.Proofs.Ytkchoccicpbbfaa.Pure

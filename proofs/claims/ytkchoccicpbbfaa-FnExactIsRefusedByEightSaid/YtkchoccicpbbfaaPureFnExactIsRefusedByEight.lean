/- The law FnExactIsRefusedByEight, pure: both functions take out 4 and look at the remainder by 8 in the same way, and both end. -/
import Derived.Test.YtkchoccicpbbfaaPx1
import Derived.Test.YtkchoccicpbbfaaQEv
namespace Go.Proofs.Ytkchoccicpbbfaa.Pure
open Go.RowKit Go.Proofs.Ytkchoccicpbbfaa.P Go.Proofs.YtkchoccicpbbfaaW.PrintWords Go.Proofs.YtkchoccicpbbfaaW.PrintLast Go.Proofs.Ytkchoccicpbbfaa.Q

theorem eight_same : ∀ k x, spec_IsRefusedByEight.l0 k x = impl_IsRefusedByEight.l0 k x := by
  intro k
  induction k with
  | zero => intro x; rfl
  | succ k ih => intro x; simp only [spec_IsRefusedByEight.l0, impl_IsRefusedByEight.l0, ih]
theorem eight_ends (n : Nat) : ∀ x : Int, x ≤ n → n ≤ 1000000 → EvS (fun k => impl_IsRefusedByEight.l0 k x) := by
  induction n with
  | zero =>
    intro x hx _
    refine EvS_succ ?_
    simp only [impl_IsRefusedByEight.l0]
    exact EvS_false (by omega) EvS_some
  | succ n ih =>
    intro x hx hn
    refine EvS_succ ?_
    simp only [impl_IsRefusedByEight.l0]
    refine EvS_ite (fun h0 => EvS_ite (fun h4 => ?_) (fun _ => EvS_some)) (fun _ => EvS_some)
    have e : Int.tdiv x 4 = x / 4 := Int.tdiv_eq_ediv_of_nonneg (by omega)
    exact ih (wrap64 (Int.tdiv x 4)) (by rw [e, w64 (by omega) (by omega)]; omega) (by omega)

theorem isTwo_eq (a : Int) : impl_isTwo.f a = some (decide (0 ≤ a ∧ a ≤ 1000000)) := by
  unfold impl_isTwo.f impl_within.f
  by_cases h : 0 ≤ a
  · rw [if_pos h]
    simp [h]
  · rw [if_neg h]
    simp [h]
theorem sqNumber_eq (a : Int) : spec_sqNumber.f a = some (decide (0 ≤ a ∧ a ≤ 1000000)) := by
  unfold spec_sqNumber.f spec_l1In.f
  by_cases h : 0 ≤ a
  · rw [if_pos h]
    simp [h]
  · rw [if_neg h]
    simp [h]

theorem FnExactIsRefusedByEight : laws_FnExactIsRefusedByEight.Pure := by
  intro a _
  have hs : ∀ k, spec_IsRefusedByEight.f k a = impl_IsRefusedByEight.f k a := by
    intro k
    unfold spec_IsRefusedByEight.f impl_IsRefusedByEight.f
    rw [isTwo_eq, sqNumber_eq]
    simp only [Option.bind_some, eight_same]
  have he : EvS (fun k => impl_IsRefusedByEight.f k a) := by
    unfold impl_IsRefusedByEight.f
    rw [isTwo_eq]
    simp only [Option.bind_some]
    refine EvS_ite (fun h => ?_) (fun _ => EvS_some)
    have h : 0 ≤ a ∧ a ≤ 1000000 := by simpa using h
    exact eight_ends a.toNat a (by omega) (by omega)
  obtain ⟨r, hr⟩ := he
  obtain ⟨k, hk⟩ := Ev_out hr
  refine ⟨k, ?_⟩
  unfold laws_FnExactIsRefusedByEight.f
  rw [hs k, hk]
  simp
end Go.Proofs.Ytkchoccicpbbfaa.Pure

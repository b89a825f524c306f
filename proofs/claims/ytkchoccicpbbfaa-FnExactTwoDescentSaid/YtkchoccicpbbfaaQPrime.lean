/- The search for divisors. -/
import Derived.Test.YtkchoccicpbbfaaPx1
import Derived.Test.YtkchoccicpbbfaaQNum
namespace Go.Proofs.Ytkchoccicpbbfaa.Q
open Go.RowKit Go.Proofs.Ytkchoccicpbbfaa.P Go.Proofs.YtkchoccicpbbfaaW.PrintWords Go.Proofs.YtkchoccicpbbfaaW.PrintLast

/-- The number is prime: no number from d on whose square is at most it divides it. -/
def noDivFrom (n d : Nat) : Prop := ∀ e, d ≤ e → e * e ≤ n → ¬ e ∣ n
def isPr (n : Nat) : Prop := 2 ≤ n ∧ noDivFrom n 2

theorem noDiv_end {n d : Nat} (h : ¬ d * d ≤ n) : noDivFrom n d := by
  intro e h1 h2
  have h3 : d * d ≤ e * e := Nat.mul_le_mul h1 h1
  omega
theorem noDiv_step {n d : Nat} (h : ¬ d ∣ n) (hn : noDivFrom n (d + 1)) : noDivFrom n d := by
  intro e h1 h2 h3
  by_cases he : e = d
  · subst he; exact h h3
  · exact hn e (by omega) h2 h3
theorem noDiv_iff {n d : Nat} (h : ¬ d ∣ n) : noDivFrom n d ↔ noDivFrom n (d + 1) :=
  ⟨fun hn e h1 h2 h3 => hn e (by omega) h2 h3, noDiv_step h⟩

open Classical in
noncomputable def ndB (n d : Nat) : Bool := @decide (2 ≤ n ∧ noDivFrom n d) (propDecidable _)
noncomputable def prB (n : Nat) : Bool := ndB n 2
theorem ndB_iff (n d : Nat) : ndB n d = true ↔ 2 ≤ n ∧ noDivFrom n d := by unfold ndB; exact @decide_eq_true_iff _ (Classical.propDecidable _)
theorem prB_iff (n : Nat) : prB n = true ↔ isPr n := ndB_iff n 2
theorem ndB_hit {n d : Nat} (h : d * d ≤ n) (hd : d ∣ n) : ndB n d = false := by
  rw [← Bool.not_eq_true, ndB_iff]
  intro h2
  exact h2.2 d (Nat.le_refl _) h hd
theorem ndB_miss {n d : Nat} (h : ¬ d ∣ n) : ndB n d = ndB n (d + 1) := by
  rw [Bool.eq_iff_iff, ndB_iff, ndB_iff, noDiv_iff h]
theorem ndB_end {n d : Nat} (h : ¬ d * d ≤ n) : ndB n d = decide ((n : Int) > 1) := by
  rw [Bool.eq_iff_iff, ndB_iff, decide_eq_true_iff]
  exact ⟨fun h => by omega, fun h2 => ⟨by omega, noDiv_end h⟩⟩

theorem sqPrime_l0 (n : Nat) (hn : n ≤ 1000000) (m : Nat) : ∀ d : Nat, 2 ≤ d → d ≤ 1001 → 1001 - d ≤ m → Ev (fun k => spec_sqPrime.l0 k (n : Int) (d : Int)) (ndB n d) := by
  induction m with
  | zero =>
    intro d hd hd2 hm
    obtain rfl : d = 1001 := by omega
    refine Ev_succ ?_
    simp only [spec_sqPrime.l0]
    rw [w64_mul (c := 1001) (d := 1001) (by omega) (by omega) (by omega)]
    refine Ev_false (by omega) ?_
    rw [ndB_end (by omega)]
    exact Ev_some
  | succ m ih =>
    intro d hd hd2 hm
    refine Ev_succ ?_
    simp only [spec_sqPrime.l0]
    rw [w64_mul (c := 1001) (d := 1001) hd2 hd2 (by omega), tmod_cast, w64 (by omega) (by omega)]
    by_cases h : d * d ≤ n
    · have hd3 : d ≤ 1000 := by
        rcases Nat.lt_or_ge 1000 d with h1 | h1
        · have : 1001 * 1001 ≤ d * d := Nat.mul_le_mul h1 h1
          omega
        · exact h1
      refine Ev_true (by omega) (Ev_false (by omega) ?_)
      by_cases hdv : d ∣ n
      · have hz : n % d = 0 := Nat.mod_eq_zero_of_dvd hdv
        refine Ev_true (by omega) ?_
        rw [ndB_hit h hdv]
        exact Ev_some
      · have hz : n % d ≠ 0 := fun h => hdv (Nat.dvd_of_mod_eq_zero h)
        refine Ev_false (by omega) ?_
        rw [ndB_miss hdv]
        exact ih (d + 1) (by omega) (by omega) (by omega)
    · refine Ev_false (by omega) ?_
      rw [ndB_end h]
      exact Ev_some

theorem prime_same : ∀ k x y, impl_isPrime.l0 k x y = spec_sqPrime.l0 k x y := by
  intro k
  induction k with
  | zero => intro x y; rfl
  | succ k ih =>
    intro x y
    have e : decide (x ≥ 2) = decide (x > 1) := by congr 1
    simp only [spec_sqPrime.l0, impl_isPrime.l0, ih, e]

theorem sqPrime_ev (n : Nat) (hn : n ≤ 1000000) : Ev (fun k => spec_sqPrime.f k (n : Int)) (prB n) :=
  sqPrime_l0 n hn 1001 2 (by omega) (by omega) (by omega)
theorem isPrime_ev (n : Nat) (hn : n ≤ 1000000) : Ev (fun k => impl_isPrime.f k (n : Int)) (prB n) := by
  have h : (fun k => impl_isPrime.f k (n : Int)) = fun k => spec_sqPrime.f k (n : Int) := by
    funext k
    exact prime_same k _ _
  rw [h]
  exact sqPrime_ev n hn
end Go.Proofs.Ytkchoccicpbbfaa.Q

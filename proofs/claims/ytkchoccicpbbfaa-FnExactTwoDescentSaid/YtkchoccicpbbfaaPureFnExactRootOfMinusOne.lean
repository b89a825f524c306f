/- The law FnExactRootOfMinusOne, pure: both functions look for the first root, and a prime number that does not leave 3 by 4 has one. -/
import Derived.Test.YtkchoccicpbbfaaPx2
import Derived.Test.YtkchoccicpbbfaaQNum
import Derived.Test.YtkchoccicpbbfaaQRoot
import Derived.Test.YtkchoccicpbbfaaQPrime
namespace Go.Proofs.Ytkchoccicpbbfaa.Pure
open Go.RowKit Go.Proofs.Ytkchoccicpbbfaa.P Go.Proofs.YtkchoccicpbbfaaW.PrintWords Go.Proofs.YtkchoccicpbbfaaW.PrintLast Go.Proofs.Ytkchoccicpbbfaa.Q

theorem least_exists {P : Nat → Prop} {n : Nat} (h : P n) : ∃ m, P m ∧ (∀ k, k < m → ¬ P k) ∧ m ≤ n := by
  induction n using Nat.strongRecOn with
  | _ n ih =>
    by_cases hk : ∃ k, k < n ∧ P k
    · obtain ⟨k, hk, hP⟩ := hk
      obtain ⟨m, h1, h2, h3⟩ := ih k hk hP
      exact ⟨m, h1, h2, by omega⟩
    · exact ⟨n, h, fun k hk' hP => hk ⟨k, hk', hP⟩, Nat.le_refl _⟩

/-- r is the least root of -1 from 1 on. -/
def LeastRoot (p r : Nat) : Prop := 1 ≤ r ∧ r < p ∧ (r * r + 1) % p = 0 ∧ ∀ s, 1 ≤ s → s < r → (s * s + 1) % p ≠ 0
theorem root_of {p : Nat} (hp : isPr p) (h4 : p % 4 ≠ 3) : ∃ r, LeastRoot p r := by
  have hP : RootMinus.Prime p := RootMinus.prime_of_small hp.1 hp.2
  obtain ⟨r, h1, h2, h3⟩ := RootMinus.root_exists hP h4
  obtain ⟨m, ⟨a1, a3⟩, b, c⟩ := least_exists (P := fun r => 1 ≤ r ∧ (r * r + 1) % p = 0) (n := r) ⟨h1, h3⟩
  exact ⟨m, a1, by omega, a3, fun s s1 s2 s3 => b s s2 ⟨s1, s3⟩⟩

theorem sq_one {p s : Nat} (hp : p ≤ 1000000) (hs : s < p) : wrap64 (wrap64 ((s : Int) * (s : Int)) + 1) = ((s * s + 1 : Nat) : Int) := by
  have h : s * s ≤ 1000000 * 1000000 := Nat.mul_le_mul (by omega) (by omega)
  rw [w64_mul (c := 1000000) (d := 1000000) (by omega) (by omega) (by omega)]
  exact w64 (by omega) (by omega)

theorem sqMinus_ev {p r : Nat} (hp : p ≤ 1000000) (hr : LeastRoot p r) (d : Nat) : ∀ s, 1 ≤ s → s + d = r → Ev (fun k => spec_sqMinus.l0 k (p : Int) (s : Int)) (r : Int) := by
  obtain ⟨r1, r2, r3, r4⟩ := hr
  induction d with
  | zero =>
    intro s h1 h2
    obtain rfl : s = r := by omega
    refine Ev_succ ?_
    simp only [spec_sqMinus.l0]
    rw [sq_one hp r2, tmod_cast, r3]
    exact Ev_true (by omega) (Ev_false (by omega) (Ev_true (by omega) Ev_some))
  | succ d ih =>
    intro s h1 h2
    refine Ev_succ ?_
    simp only [spec_sqMinus.l0]
    rw [sq_one hp (by omega), tmod_cast, w64 (by omega) (by omega)]
    have h3 := r4 s h1 (by omega)
    exact Ev_true (by omega) (Ev_false (by omega) (Ev_false (by omega) (ih (s + 1) (by omega) (by omega))))
theorem root_ev {p r : Nat} (hp : p ≤ 1000000) (hr : LeastRoot p r) (d : Nat) : ∀ s, 1 ≤ s → s + d = r → Ev (fun k => impl_RootOfMinusOne.l0 k (p : Int) (s : Int)) ((r : Int), true) := by
  obtain ⟨r1, r2, r3, r4⟩ := hr
  induction d with
  | zero =>
    intro s h1 h2
    obtain rfl : s = r := by omega
    refine Ev_succ ?_
    simp only [impl_RootOfMinusOne.l0]
    rw [sq_one hp r2, tmod_cast, r3]
    exact Ev_false (by omega) (Ev_true (by omega) Ev_some)
  | succ d ih =>
    intro s h1 h2
    refine Ev_succ ?_
    simp only [impl_RootOfMinusOne.l0]
    rw [sq_one hp (by omega), tmod_cast, w64 (by omega) (by omega)]
    have h3 := r4 s h1 (by omega)
    exact Ev_false (by omega) (Ev_false (by omega) (ih (s + 1) (by omega) (by omega)))

open Classical in
noncomputable def rootAns (a : Int) : Int × Bool :=
  if h : (0 ≤ a ∧ a ≤ 1000000) ∧ isPr a.toNat ∧ a.toNat % 4 ≠ 3 then ((Classical.choose (root_of h.2.1 h.2.2) : Nat), true) else (0, false)

theorem spec_root_ev (a : Int) : Ev (fun k => spec_RootOfMinusOne.f k a) (rootAns a) := by
  unfold spec_RootOfMinusOne.f spec_sqGiven.f rootAns
  rw [l1In_eq]
  simp only [Option.bind_some]
  by_cases h : 2 ≤ a ∧ a ≤ 1000000
  · obtain ⟨n, rfl⟩ := Int.eq_ofNat_of_zero_le (show 0 ≤ a by omega)
    refine Ev.bind (a := prB n) (f := fun k t => if t = true then (if Int.tmod (n : Int) 4 = 3 then some (0, false) else (spec_sqMinus.f k n).bind fun t158 => some (t158, true)) else some (0, false)) ?_ ?_
    · refine Ev_true (by simpa using h) ?_
      exact Ev.bind (f := fun _ t => some t) (sqPrime_ev n (by omega)) Ev_some
    · rw [show Int.tmod (n : Int) 4 = ((n % 4 : Nat) : Int) from tmod_cast n 4]
      by_cases hp : isPr n
      · by_cases h4 : n % 4 = 3
        · rw [dif_neg (fun h => h.2.2 h4)]
          exact Ev_true ((prB_iff n).2 hp) (Ev_true (by omega) Ev_some)
        · have hh : (0 ≤ (n : Int) ∧ (n : Int) ≤ 1000000) ∧ isPr (n : Int).toNat ∧ (n : Int).toNat % 4 ≠ 3 := ⟨by omega, hp, h4⟩
          rw [dif_pos hh]
          have hr := Classical.choose_spec (root_of hh.2.1 hh.2.2)
          generalize Classical.choose (root_of hh.2.1 hh.2.2) = r at hr
          refine Ev_true ((prB_iff n).2 hp) (Ev_false (by omega) ?_)
          refine Ev.bind (f := fun _ t => some (t, true)) (a := (r : Int)) ?_ Ev_some
          exact sqMinus_ev (p := n) (by omega) hr (r - 1) 1 (by omega) (by have := hr.1; omega)
      · rw [dif_neg (fun h => hp h.2.1)]
        exact Ev_false (fun h => hp ((prB_iff n).1 h)) Ev_some
  · rw [dif_neg ?_]
    · refine Ev.bind (a := false) (f := fun k t => if t = true then (if Int.tmod a 4 = 3 then some (0, false) else (spec_sqMinus.f k a).bind fun t158 => some (t158, true)) else some (0, false)) ?_ ?_
      · exact Ev_false (by simpa using h) Ev_some
      · exact Ev_false (by simp) Ev_some
    · intro h2
      have := h2.2.1.1
      omega

theorem impl_root_ev (a : Int) : Ev (fun k => impl_RootOfMinusOne.f k a) (rootAns a) := by
  unfold impl_RootOfMinusOne.f rootAns
  rw [isTwo_eq]
  simp only [Option.bind_some]
  have hno : Ev (fun k => impl_RootOfMinusOne.j0 k a true) (0, false) := by
    refine Ev_succ ?_
    simp only [impl_RootOfMinusOne.j0]
    exact Ev_true trivial Ev_some
  by_cases h : 0 ≤ a ∧ a ≤ 1000000
  · obtain ⟨n, rfl⟩ := Int.eq_ofNat_of_zero_le h.1
    refine Ev_true (by simpa using h) ?_
    refine Ev.bind (a := prB n) (f := fun k t => if t = true then impl_RootOfMinusOne.j0 k (n : Int) (Int.tmod (n : Int) 4 == 3) else impl_RootOfMinusOne.j0 k (n : Int) true) (isPrime_ev n (by omega)) ?_
    rw [show Int.tmod (n : Int) 4 = ((n % 4 : Nat) : Int) from tmod_cast n 4]
    by_cases hp : isPr n
    · refine Ev_true ((prB_iff n).2 hp) ?_
      by_cases h4 : n % 4 = 3
      · rw [dif_neg (fun h => h.2.2 h4), h4]
        exact hno
      · have hh : (0 ≤ (n : Int) ∧ (n : Int) ≤ 1000000) ∧ isPr (n : Int).toNat ∧ (n : Int).toNat % 4 ≠ 3 := ⟨by omega, hp, h4⟩
        rw [dif_pos hh]
        have hr := Classical.choose_spec (root_of hh.2.1 hh.2.2)
        generalize Classical.choose (root_of hh.2.1 hh.2.2) = r at hr
        have e : (((n % 4 : Nat) : Int) == 3) = false := by
          rw [beq_eq_false_iff_ne]
          omega
        rw [e]
        refine Ev_succ ?_
        simp only [impl_RootOfMinusOne.j0]
        refine Ev_false (by simp) ?_
        exact root_ev (p := n) (by omega) hr (r - 1) 1 (by omega) (by have := hr.1; omega)
    · rw [dif_neg (fun h => hp h.2.1)]
      exact Ev_false (fun h => hp ((prB_iff n).1 h)) hno
  · rw [dif_neg (fun h2 => h h2.1)]
    exact Ev_false (by simpa using h) hno

theorem FnExactRootOfMinusOne : laws_FnExactRootOfMinusOne.Pure := by
  intro a _
  refine Ev_out (g := fun k => laws_FnExactRootOfMinusOne.f k a) ?_
  unfold laws_FnExactRootOfMinusOne.f
  refine Ev.bind (spec_root_ev a) (Ev.bind (impl_root_ev a) ?_)
  simp only [bne_self_eq_false]
  exact Ev_some
end Go.Proofs.Ytkchoccicpbbfaa.Pure

/- The greatest common divisor, of both programs. -/
import Derived.Test.YtnfbkakblnppaaaRx1
import Derived.Test.YtnfbkakblnppaaaRx3
import Derived.Test.YtnfbkakblnppaaaRQEv
namespace Go.Proofs.Ytnfbkakblnppaaa.Q
open Go.RowKit Go.Proofs.Ytnfbkakblnppaaa.P Go.Proofs.YtnfbkakblnppaaaW.PrintWords Go.Proofs.YtnfbkakblnppaaaW.PrintLast
theorem gcd_step (a b : Nat) (_h : b ≠ 0) : Nat.gcd b (a % b) = Nat.gcd a b := by
  rw [Nat.gcd_comm a b, Nat.gcd_rec b a, Nat.gcd_comm]
theorem tmod_nat (a b : Nat) : Int.tmod (a : Int) (b : Int) = ((a % b : Nat) : Int) := by
  rw [Int.tmod_eq_emod_of_nonneg (by omega)]
  rfl
theorem divisor_l0 : ∀ (f a b : Nat), b ≤ f → a ≤ 4000000000000000000 → b ≤ 4000000000000000000 → Ev (fun k => impl_divisor.l0 k (a : Int) (b : Int)) ((Nat.gcd a b : Nat) : Int)
  | 0, a, b, h, ha, hb => by
    have : b = 0 := by omega
    subst this
    refine Ev_succ ?_
    simp only [impl_divisor.l0]
    rw [Nat.gcd_zero_right, w64 (x := -(a : Int)) (by omega) (by omega), show mx (a : Int) (-(a : Int)) = (a : Int) by unfold mx; omega]
    exact Ev_true (by omega) Ev_some
  | f + 1, a, b, h, ha, hb => by
    refine Ev_succ ?_
    simp only [impl_divisor.l0]
    by_cases e : b = 0
    · subst e
      rw [Nat.gcd_zero_right, w64 (x := -(a : Int)) (by omega) (by omega), show mx (a : Int) (-(a : Int)) = (a : Int) by unfold mx; omega]
      exact Ev_true (by omega) Ev_some
    · rw [tmod_nat, ← gcd_step a b e]
      have := Nat.mod_lt a (show 0 < b by omega)
      exact Ev_false (by omega) (divisor_l0 f b (a % b) (by omega) hb (by omega))
theorem divisor_ev {a b : Nat} (ha : a ≤ 4000000000000000000) (hb : b ≤ 4000000000000000000) : Ev (fun k => impl_divisor.f k (a : Int) (b : Int)) ((Nat.gcd a b : Nat) : Int) :=
  divisor_l0 b a b (Nat.le_refl _) ha hb
theorem abs_nat {a : Nat} (ha : a ≤ 4000000000000000000) : spec_l1Abs.f (a : Int) = some (a : Int) := by
  unfold spec_l1Abs.f spec_l1Most.f
  rw [w64 (x := -(a : Int)) (by omega) (by omega)]
  by_cases h : (a : Int) > -(a : Int)
  · rw [if_pos h]; rfl
  · rw [if_neg h]
    have : a = 0 := by omega
    subst this
    rfl
theorem foGcd_go : ∀ (f a b : Nat), b ≤ f → a ≤ 4000000000000000000 → b ≤ 4000000000000000000 → Ev (fun k => spec_foGcd.f k (a : Int) (b : Int)) ((Nat.gcd a b : Nat) : Int)
  | 0, a, b, h, ha, hb => by
    have : b = 0 := by omega
    subst this
    refine Ev_succ ?_
    simp only [spec_foGcd.f]
    rw [Nat.gcd_zero_right, abs_nat ha]
    exact Ev_true (by omega) Ev_some
  | f + 1, a, b, h, ha, hb => by
    refine Ev_succ ?_
    simp only [spec_foGcd.f]
    by_cases e : b = 0
    · subst e
      rw [Nat.gcd_zero_right, abs_nat ha]
      exact Ev_true (by omega) Ev_some
    · rw [tmod_nat, ← gcd_step a b e]
      have := Nat.mod_lt a (show 0 < b by omega)
      exact Ev_false (by omega) (Ev.bind (f := fun _ t => some t) (foGcd_go f b (a % b) (by omega) hb (by omega)) Ev_some)
theorem foGcd_ev {a b : Nat} (ha : a ≤ 4000000000000000000) (hb : b ≤ 4000000000000000000) : Ev (fun k => spec_foGcd.f k (a : Int) (b : Int)) ((Nat.gcd a b : Nat) : Int) :=
  foGcd_go b a b (Nat.le_refl _) ha hb
end Go.Proofs.Ytnfbkakblnppaaa.Q

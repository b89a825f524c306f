/- The greatest number whose square is at most n: both programs' searches find it. -/
import Derived.Test.YtnfbkakblnppaaaRx4
import Derived.Test.YtnfbkakblnppaaaRx6
import Derived.Test.YtnfbkakblnppaaaRQEv
namespace Go.Proofs.Ytnfbkakblnppaaa.Q
open Go.RowKit Go.Proofs.Ytnfbkakblnppaaa.P Go.Proofs.YtnfbkakblnppaaaW.PrintWords Go.Proofs.YtnfbkakblnppaaaW.PrintLast

def isq : Nat → Nat
  | 0 => 0
  | n + 1 => if (isq n + 1) * (isq n + 1) ≤ n + 1 then isq n + 1 else isq n
theorem isq_spec : ∀ n, isq n * isq n ≤ n ∧ n < (isq n + 1) * (isq n + 1)
  | 0 => by simp [isq]
  | n + 1 => by
    obtain ⟨h1, h2⟩ := isq_spec n
    unfold isq
    split
    · rename_i h
      refine ⟨h, ?_⟩
      have : (isq n + 1 + 1) * (isq n + 1 + 1) = (isq n + 1) * (isq n + 1) + (isq n + 1) + (isq n + 1) + 1 := by
        rw [Nat.add_mul (isq n + 1) 1, Nat.mul_add (isq n + 1)]
        omega
      omega
    · omega
theorem isq_uniq {n r : Nat} (h1 : r * r ≤ n) (h2 : n < (r + 1) * (r + 1)) : isq n = r := by
  obtain ⟨h3, h4⟩ := isq_spec n
  rcases Nat.lt_trichotomy (isq n) r with h | h | h
  · have : (isq n + 1) * (isq n + 1) ≤ r * r := Nat.mul_le_mul h h
    omega
  · exact h
  · have : (r + 1) * (r + 1) ≤ isq n * isq n := Nat.mul_le_mul h h
    omega
theorem isq_le {n m : Nat} (h : n < (m + 1) * (m + 1)) : isq n ≤ m := by
  obtain ⟨h3, _⟩ := isq_spec n
  rcases Nat.lt_or_ge m (isq n) with h1 | h1
  · have : (m + 1) * (m + 1) ≤ isq n * isq n := Nat.mul_le_mul h1 h1
    omega
  · exact h1

theorem half_cast (s : Nat) : Int.tdiv (s : Int) 2 = ((s / 2 : Nat) : Int) := by
  rw [Int.tdiv_eq_ediv_of_nonneg (by omega)]
  omega
theorem wmul {a b c : Nat} (h : a ≤ c) (h' : b ≤ c) (hc : c * c ≤ 9223372036854775807) : wrap64 ((a : Int) * (b : Int)) = ((a * b : Nat) : Int) := by
  have h3 : a * b ≤ c * c := Nat.mul_le_mul h h'
  rw [← Int.natCast_mul]
  exact w64 (by omega) (by omega)

theorem root_l0 (n : Nat) (m : Nat) : ∀ lo hi : Nat, hi - lo ≤ m → lo ≤ hi → hi ≤ 2000000000 → lo * lo ≤ n → n < (hi + 1) * (hi + 1) → Ev (fun k => impl_root.l0 k (n : Int) (lo : Int) (hi : Int)) ((isq n : Nat) : Int) := by
  induction m with
  | zero =>
    intro lo hi h1 h2 h3 h4 h5
    obtain rfl : lo = hi := by omega
    refine Ev_succ ?_
    simp only [impl_root.l0]
    rw [isq_uniq h4 h5]
    exact Ev_false (by omega) Ev_some
  | succ m ih =>
    intro lo hi h1 h2 h3 h4 h5
    refine Ev_succ ?_
    simp only [impl_root.l0]
    by_cases hlt : lo < hi
    · obtain ⟨s, hs⟩ : ∃ s : Nat, s = lo + hi + 1 := ⟨_, rfl⟩
      have e1 : wrap64 (wrap64 ((lo : Int) + (hi : Int)) + 1) = (s : Int) := by
        rw [w64 (x := (lo : Int) + (hi : Int)) (by omega) (by omega), w64 (by omega) (by omega)]
        omega
      rw [e1, half_cast]
      obtain ⟨q, hq⟩ : ∃ q : Nat, q = s / 2 := ⟨_, rfl⟩
      rw [← hq]
      have hql : lo < q ∧ q ≤ hi := by omega
      rw [w64_nat q (by omega), wmul (c := 2000000000) (by omega) (by omega) (by omega), w64 (x := (q : Int) - 1) (by omega) (by omega)]
      refine Ev_true (by omega) ?_
      by_cases h : q * q ≤ n
      · exact Ev_true (by omega) (ih q hi (by omega) (by omega) h3 h h5)
      · have e : (q : Int) - 1 = ((q - 1 : Nat) : Int) := by omega
        rw [e]
        refine Ev_false (by omega) (ih lo (q - 1) (by omega) (by omega) (by omega) h4 ?_)
        rw [show q - 1 + 1 = q by omega]
        omega
    · obtain rfl : lo = hi := by omega
      rw [isq_uniq h4 h5]
      exact Ev_false (by omega) Ev_some
theorem root_ev {n : Nat} (hn : n ≤ 4000000000000000000) : Ev (fun k => impl_root.f k (n : Int)) ((isq n : Nat) : Int) :=
  root_l0 n 2000000000 0 2000000000 (by omega) (by omega) (by omega) (by omega) (by omega)

theorem foRoot_l0 (n : Nat) (m : Nat) : ∀ lo hi : Nat, hi - lo ≤ m → lo < hi → hi ≤ 1000000001 → lo * lo ≤ n → n < hi * hi → Ev (fun k => spec_foRoot.l0 k (n : Int) (lo : Int) (hi : Int)) ((isq n : Nat) : Int) := by
  induction m with
  | zero =>
    intro lo hi h1 h2
    omega
  | succ m ih =>
    intro lo hi h1 h2 h3 h4 h5
    refine Ev_succ ?_
    simp only [spec_foRoot.l0]
    rw [w64 (x := (hi : Int) - (lo : Int)) (by omega) (by omega)]
    by_cases hlt : 1 < hi - lo
    · obtain ⟨s, hs⟩ : ∃ s : Nat, s = lo + hi := ⟨_, rfl⟩
      have e1 : wrap64 ((lo : Int) + (hi : Int)) = (s : Int) := by
        rw [w64 (by omega) (by omega)]
        omega
      rw [e1, half_cast]
      obtain ⟨q, hq⟩ : ∃ q : Nat, q = s / 2 := ⟨_, rfl⟩
      rw [← hq]
      have hql : lo < q ∧ q < hi := by omega
      rw [w64_nat q (by omega), wmul (c := 1000000001) (by omega) (by omega) (by omega)]
      refine Ev_true (by omega) ?_
      by_cases h : q * q ≤ n
      · exact Ev_true (by omega) (ih q hi (by omega) (by omega) h3 h h5)
      · exact Ev_false (by omega) (ih lo q (by omega) (by omega) (by omega) h4 (by omega))
    · have e : hi = lo + 1 := by omega
      subst e
      rw [isq_uniq h4 h5]
      exact Ev_false (by omega) Ev_some
theorem foRoot_ev {n : Nat} (hn : n ≤ 1000000000000000000) : Ev (fun k => spec_foRoot.f k (n : Int)) ((isq n : Nat) : Int) :=
  foRoot_l0 n 1000000001 0 1000000001 (by omega) (by omega) (by omega) (by omega) (by omega)
end Go.Proofs.Ytnfbkakblnppaaa.Q

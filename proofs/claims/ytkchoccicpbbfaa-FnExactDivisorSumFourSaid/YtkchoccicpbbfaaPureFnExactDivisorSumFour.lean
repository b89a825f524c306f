/- The law FnExactDivisorSumFour, pure: the sum over the divisors up to the root and their partners is the one over all divisors. -/
import Derived.Test.YtkchoccicpbbfaaPx2
import Derived.Test.YtkchoccicpbbfaaQDiv
namespace Go.Proofs.Ytkchoccicpbbfaa.Pure
open Go.RowKit Go.Proofs.Ytkchoccicpbbfaa.P Go.Proofs.YtkchoccicpbbfaaW.PrintWords Go.Proofs.YtkchoccicpbbfaaW.PrintLast Go.Proofs.Ytkchoccicpbbfaa.Q
open Go.Proofs.Ytkchoccicpbbfaa.DivPair

def g4 (d : Nat) : Int := if d % 4 = 0 then 0 else 8 * (d : Int)
def s4 (d : Nat) : Int := if d % 4 = 0 then 0 else (d : Int)

theorem tmod4 (d : Nat) : Int.tmod (d : Int) 4 = ((d % 4 : Nat) : Int) := tmod_cast d 4

/-- The sum over the list, as the loop makes it. -/
theorem sum_l0 {l : List Int} (hl : l.length ≤ 5000) (hm : ∀ x ∈ l, 1 ≤ x ∧ x ≤ 1000000) (j : Nat) : ∀ (i : Nat) (acc : Int), i + j = l.length → 0 ≤ acc → acc ≤ 8000000 * (i : Int) →
    Ev (fun k => impl_DivisorSumFour.l0 k acc l (l.length : Int) (i : Int)) (acc + sumL g4 (l.drop i), true) := by
  induction j with
  | zero =>
    intro i acc h1 h2 h3
    refine Ev_succ ?_
    simp only [impl_DivisorSumFour.l0]
    rw [List.drop_of_length_le (by omega)]
    simp only [sumL, Int.add_zero]
    exact Ev_false (by omega) Ev_some
  | succ j ih =>
    intro i acc h1 h2 h3
    have hi : i < l.length := by omega
    obtain ⟨b1, b2⟩ := hm l[i] (List.getElem_mem hi)
    refine Ev_succ ?_
    simp only [impl_DivisorSumFour.l0]
    rw [rd_nat hi, drop_at hi]
    obtain ⟨x, hx⟩ := Int.eq_ofNat_of_zero_le (show 0 ≤ l[i] by omega)
    rw [hx] at b1 b2 ⊢
    rw [tmod4, w64 (x := 8 * (x : Int)) (by omega) (by omega), w64 (x := acc + _) (by omega) (by omega), w64 (x := (i : Int) + 1) (by omega) (by omega)]
    have e : sumL g4 ((x : Int) :: l.drop (i + 1)) = g4 x + sumL g4 (l.drop (i + 1)) := rfl
    refine Ev_true (by omega) (Ev_true (by omega) (Ev_true (by omega) ?_))
    by_cases h4 : x % 4 = 0
    · have hg : g4 x = 0 := if_pos h4
      rw [e, hg, Int.zero_add]
      exact Ev_true (by omega) (ih (i + 1) acc (by omega) h2 (by omega))
    · have hg : g4 x = 8 * (x : Int) := if_neg h4
      have h5 := ih (i + 1) (acc + 8 * (x : Int)) (by omega) (by omega) (by omega)
      rw [e, hg, ← Int.add_assoc]
      exact Ev_false (by omega) h5

/-- The sum over all numbers, as the other loop makes it. -/
theorem all_l0 (n : Nat) (hn : n ≤ 1000000) (j : Nat) : ∀ (d : Nat) (acc : Int), 1 ≤ d → d + j = n + 1 → 0 ≤ acc → acc ≤ 1000000 * (d : Int) →
    Ev (fun k => spec_DivisorSumFour.l0 k (n : Int) acc (d : Int)) (8 * (acc + (sumTo (fun d => if d ∣ n then s4 d else 0) n - sumTo (fun d => if d ∣ n then s4 d else 0) (d - 1))), true) := by
  induction j with
  | zero =>
    intro d acc h1 h2 h3 h4
    obtain rfl : d = n + 1 := by omega
    refine Ev_succ ?_
    simp only [spec_DivisorSumFour.l0]
    rw [Nat.add_sub_cancel, Int.sub_self, Int.add_zero, w64 (x := 8 * acc) (by omega) (by omega)]
    exact Ev_false (by omega) Ev_some
  | succ j ih =>
    intro d acc h1 h2 h3 h4
    refine Ev_succ ?_
    simp only [spec_DivisorSumFour.l0]
    rw [tmod_cast, tmod4, w64 (x := acc + _) (by omega) (by omega), w64 (x := (d : Int) + 1) (by omega) (by omega)]
    have e : sumTo (fun d => if d ∣ n then s4 d else 0) (d + 1 - 1) = sumTo (fun d => if d ∣ n then s4 d else 0) (d - 1) + (if d ∣ n then s4 d else 0) := by
      obtain ⟨q, rfl⟩ : ∃ q, d = q + 1 := ⟨d - 1, by omega⟩
      rfl
    refine Ev_true (by omega) (Ev_false (by omega) ?_)
    by_cases hdv : d ∣ n
    · have hz : n % d = 0 := Nat.mod_eq_zero_of_dvd hdv
      rw [if_pos hdv] at e
      refine Ev_true (by omega) ?_
      by_cases h5 : d % 4 = 0
      · have hg : s4 d = 0 := if_pos h5
        have h6 := ih (d + 1) acc (by omega) (by omega) h3 (by omega)
        rw [e, hg, Int.add_zero] at h6
        exact Ev_false (by omega) h6
      · have hg : s4 d = (d : Int) := if_neg h5
        have h6 := ih (d + 1) (acc + d) (by omega) (by omega) (by omega) (by omega)
        rw [e, hg] at h6
        refine Ev_true (by omega) ?_
        have e2 : ∀ A B : Int, acc + d + (A - (B + d)) = acc + (A - B) := fun A B => by omega
        rw [e2] at h6
        exact h6
    · have hz : n % d ≠ 0 := fun h => hdv (Nat.dvd_of_mod_eq_zero h)
      rw [if_neg hdv, Int.add_zero] at e
      have h6 := ih (d + 1) acc (by omega) (by omega) h3 (by omega)
      rw [e] at h6
      exact Ev_false (by omega) h6

theorem sum_ev (a : Int) : ∃ r, Ev (fun k => spec_DivisorSumFour.f k a) r ∧ Ev (fun k => impl_DivisorSumFour.f k a) r := by
  have hno : Ev (fun k => impl_DivisorSumFour.j0 k a true) (0, false) := by
    refine Ev_succ ?_
    simp only [impl_DivisorSumFour.j0]
    exact Ev_true trivial Ev_some
  unfold spec_DivisorSumFour.f impl_DivisorSumFour.f
  rw [isFour_eq, l1In_eq]
  simp only [Option.bind_some]
  by_cases h : 1 ≤ a ∧ a ≤ 2000
  · obtain ⟨n, rfl⟩ := Int.eq_ofNat_of_zero_le (show 0 ≤ a by omega)
    have h1 := all_l0 n (by omega) n 1 0 (by omega) (by omega) (by omega) (by omega)
    have h2 := sum_l0 (l := divL n 1001 1) (by have := divL_len n 1001 1; omega) (fun x hx => by have := divL_mem (n := n) (by omega) 1001 1 (by omega) x hx; omega) (divL n 1001 1).length 0 0 (by omega) (by omega) (by omega)
    have e : 8 * (0 + (sumTo (fun d => if d ∣ n then s4 d else 0) n - sumTo (fun d => if d ∣ n then s4 d else 0) (1 - 1))) = 0 + sumL g4 ((divL n 1001 1).drop 0) := by
      have e0 : sumTo (fun d => if d ∣ n then s4 d else 0) (1 - 1) = 0 := rfl
      rw [List.drop_zero, divL_all g4 (by omega) (by omega), e0, Int.zero_add, Int.zero_add, Int.sub_zero, ← sumTo_scale]
      refine sumTo_congr n fun d _ _ => ?_
      by_cases hd : d ∣ n
      · simp only [if_pos hd]
        unfold s4 g4
        split <;> rfl
      · simp only [if_neg hd]
        rfl
    rw [e] at h1
    refine ⟨_, Ev_true (by simpa using h) h1, Ev_true (by simp; omega) ?_⟩
    have e1 : ((n : Int) == 0) = false := by rw [beq_eq_false_iff_ne]; omega
    rw [e1]
    refine Ev_succ ?_
    simp only [impl_DivisorSumFour.j0]
    refine Ev_false (by simp) ?_
    exact Ev.bind (f := fun k t => impl_DivisorSumFour.l0 k 0 t (t.length : Int) 0) (divisors_ev (n := n) (by omega)) h2
  · refine ⟨(0, false), Ev_false (by simpa using h) Ev_some, ?_⟩
    by_cases h0 : a = 0
    · subst h0
      exact Ev_true (by simp) hno
    · exact Ev_false (by simp; omega) hno

theorem FnExactDivisorSumFour : laws_FnExactDivisorSumFour.Pure := by
  intro a _
  refine Ev_out (g := fun k => laws_FnExactDivisorSumFour.f k a) ?_
  unfold laws_FnExactDivisorSumFour.f
  obtain ⟨r, h1, h2⟩ := sum_ev a
  refine Ev.bind h1 (Ev.bind h2 ?_)
  simp only [bne_self_eq_false]
  exact Ev_some
end Go.Proofs.Ytkchoccicpbbfaa.Pure

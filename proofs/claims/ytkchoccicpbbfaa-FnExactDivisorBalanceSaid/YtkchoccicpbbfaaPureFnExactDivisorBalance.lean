/- The law FnExactDivisorBalance, pure: the balance over the divisors up to the root and their partners is the one over all divisors. -/
import Derived.Test.YtkchoccicpbbfaaPx2
import Derived.Test.YtkchoccicpbbfaaQDiv
namespace Go.Proofs.Ytkchoccicpbbfaa.Pure
open Go.RowKit Go.Proofs.Ytkchoccicpbbfaa.P Go.Proofs.YtkchoccicpbbfaaW.PrintWords Go.Proofs.YtkchoccicpbbfaaW.PrintLast Go.Proofs.Ytkchoccicpbbfaa.Q
open Go.Proofs.Ytkchoccicpbbfaa.DivPair

def gb (d : Nat) : Int := if d % 4 = 1 then 4 else if d % 4 = 3 then -4 else 0
def sb (d : Nat) : Int := if d % 2 = 1 then 2 - ((d % 4 : Nat) : Int) else 0
theorem gb_sb (d : Nat) : gb d = 4 * sb d := by
  unfold gb sb
  have : d % 4 < 4 := Nat.mod_lt _ (by omega)
  by_cases h1 : d % 4 = 1
  · rw [if_pos h1, if_pos (by omega), h1]; rfl
  · rw [if_neg h1]
    by_cases h3 : d % 4 = 3
    · rw [if_pos h3, if_pos (by omega), h3]; rfl
    · rw [if_neg h3, if_neg (by omega)]; rfl
theorem sb_bd (d : Nat) : -1 ≤ sb d ∧ sb d ≤ 1 := by
  unfold sb
  split <;> omega

theorem btmod4 (d : Nat) : Int.tmod (d : Int) 4 = ((d % 4 : Nat) : Int) := tmod_cast d 4
theorem btmod2 (d : Nat) : Int.tmod (d : Int) 2 = ((d % 2 : Nat) : Int) := tmod_cast d 2

theorem bal_l0 {l : List Int} (hl : l.length ≤ 5000) (hm : ∀ x ∈ l, 1 ≤ x ∧ x ≤ 1000000) (j : Nat) : ∀ (i : Nat) (acc : Int), i + j = l.length → -4 * (i : Int) ≤ acc → acc ≤ 4 * (i : Int) →
    Ev (fun k => impl_DivisorBalance.l0 k acc l (l.length : Int) (i : Int)) (acc + sumL gb (l.drop i), true) := by
  induction j with
  | zero =>
    intro i acc h1 h2 h3
    refine Ev_succ ?_
    simp only [impl_DivisorBalance.l0]
    rw [List.drop_of_length_le (by omega)]
    simp only [sumL, Int.add_zero]
    exact Ev_false (by omega) Ev_some
  | succ j ih =>
    intro i acc h1 h2 h3
    have hi : i < l.length := by omega
    obtain ⟨b1, b2⟩ := hm l[i] (List.getElem_mem hi)
    refine Ev_succ ?_
    simp only [impl_DivisorBalance.l0]
    rw [rd_nat hi, drop_at hi]
    obtain ⟨x, hx⟩ := Int.eq_ofNat_of_zero_le (show 0 ≤ l[i] by omega)
    rw [hx] at b1 b2 ⊢
    rw [btmod4, w64 (x := acc + 4) (by omega) (by omega), w64 (x := acc - 4) (by omega) (by omega), w64 (x := (i : Int) + 1) (by omega) (by omega)]
    have e : sumL gb ((x : Int) :: l.drop (i + 1)) = gb x + sumL gb (l.drop (i + 1)) := rfl
    refine Ev_true (by omega) (Ev_true (by omega) (Ev_true (by omega) ?_))
    rw [e, ← Int.add_assoc]
    by_cases h4 : x % 4 = 1
    · have hg : gb x = 4 := if_pos h4
      rw [hg]
      exact Ev_true (by omega) (ih (i + 1) (acc + 4) (by omega) (by omega) (by omega))
    · by_cases h5 : x % 4 = 3
      · have hg : gb x = -4 := by unfold gb; rw [if_neg h4, if_pos h5]
        rw [hg]
        exact Ev_false (by omega) (Ev_true (by omega) (ih (i + 1) (acc - 4) (by omega) (by omega) (by omega)))
      · have hg : gb x = 0 := by unfold gb; rw [if_neg h4, if_neg h5]
        rw [hg, Int.add_zero]
        exact Ev_false (by omega) (Ev_false (by omega) (ih (i + 1) acc (by omega) (by omega) (by omega)))

theorem ball_l0 (n : Nat) (hn : n ≤ 1000000) (j : Nat) : ∀ (d : Nat) (acc : Int), 1 ≤ d → d + j = n + 1 → -(d : Int) ≤ acc → acc ≤ (d : Int) →
    Ev (fun k => spec_DivisorBalance.l0 k (n : Int) acc (d : Int)) (4 * (acc + (sumTo (fun d => if d ∣ n then sb d else 0) n - sumTo (fun d => if d ∣ n then sb d else 0) (d - 1))), true) := by
  induction j with
  | zero =>
    intro d acc h1 h2 h3 h4
    obtain rfl : d = n + 1 := by omega
    refine Ev_succ ?_
    simp only [spec_DivisorBalance.l0]
    rw [Nat.add_sub_cancel, Int.sub_self, Int.add_zero, w64 (x := 4 * acc) (by omega) (by omega)]
    exact Ev_false (by omega) Ev_some
  | succ j ih =>
    intro d acc h1 h2 h3 h4
    have hm4 : d % 4 < 4 := Nat.mod_lt _ (by omega)
    refine Ev_succ ?_
    simp only [spec_DivisorBalance.l0]
    rw [tmod_cast, btmod4, btmod2, w64 (x := 2 - _) (by omega) (by omega), w64 (x := acc + _) (by omega) (by omega), w64 (x := (d : Int) + 1) (by omega) (by omega)]
    have e : sumTo (fun d => if d ∣ n then sb d else 0) (d + 1 - 1) = sumTo (fun d => if d ∣ n then sb d else 0) (d - 1) + (if d ∣ n then sb d else 0) := by
      obtain ⟨q, rfl⟩ : ∃ q, d = q + 1 := ⟨d - 1, by omega⟩
      rfl
    refine Ev_true (by omega) (Ev_false (by omega) ?_)
    by_cases hdv : d ∣ n
    · have hz : n % d = 0 := Nat.mod_eq_zero_of_dvd hdv
      rw [if_pos hdv] at e
      refine Ev_true (by omega) ?_
      by_cases h5 : d % 2 = 1
      · have hg : sb d = 2 - ((d % 4 : Nat) : Int) := if_pos h5
        have hb := sb_bd d
        rw [hg] at hb
        have h6 := ih (d + 1) (acc + (2 - ((d % 4 : Nat) : Int))) (by omega) (by omega) (by omega) (by omega)
        rw [e, hg] at h6
        refine Ev_true (by omega) ?_
        have e2 : ∀ A B C : Int, acc + C + (A - (B + C)) = acc + (A - B) := fun A B C => by omega
        rw [e2] at h6
        exact h6
      · have hg : sb d = 0 := if_neg h5
        have h6 := ih (d + 1) acc (by omega) (by omega) (by omega) (by omega)
        rw [e, hg, Int.add_zero] at h6
        exact Ev_false (by omega) h6
    · have hz : n % d ≠ 0 := fun h => hdv (Nat.dvd_of_mod_eq_zero h)
      rw [if_neg hdv, Int.add_zero] at e
      have h6 := ih (d + 1) acc (by omega) (by omega) (by omega) (by omega)
      rw [e] at h6
      exact Ev_false (by omega) h6

theorem balance_ev (a : Int) : ∃ r, Ev (fun k => spec_DivisorBalance.f k a) r ∧ Ev (fun k => impl_DivisorBalance.f k a) r := by
  have hno : Ev (fun k => impl_DivisorBalance.j0 k a true) (0, false) := by
    refine Ev_succ ?_
    simp only [impl_DivisorBalance.j0]
    exact Ev_true trivial Ev_some
  unfold spec_DivisorBalance.f impl_DivisorBalance.f
  rw [isTwo_eq, l1In_eq]
  simp only [Option.bind_some]
  by_cases h : 1 ≤ a ∧ a ≤ 1000000
  · obtain ⟨n, rfl⟩ := Int.eq_ofNat_of_zero_le (show 0 ≤ a by omega)
    have h1 := ball_l0 n (by omega) n 1 0 (by omega) (by omega) (by omega) (by omega)
    have h2 := bal_l0 (l := divL n 1001 1) (by have := divL_len n 1001 1; omega) (fun x hx => by have := divL_mem (n := n) (by omega) 1001 1 (by omega) x hx; omega) (divL n 1001 1).length 0 0 (by omega) (by omega) (by omega)
    have e : 4 * (0 + (sumTo (fun d => if d ∣ n then sb d else 0) n - sumTo (fun d => if d ∣ n then sb d else 0) (1 - 1))) = 0 + sumL gb ((divL n 1001 1).drop 0) := by
      have e0 : sumTo (fun d => if d ∣ n then sb d else 0) (1 - 1) = 0 := rfl
      rw [List.drop_zero, divL_all gb (by omega) (by omega), e0, Int.zero_add, Int.zero_add, Int.sub_zero, ← sumTo_scale]
      refine sumTo_congr n fun d _ _ => ?_
      by_cases hd : d ∣ n
      · simp only [if_pos hd, gb_sb]
      · simp only [if_neg hd]
        rfl
    rw [e] at h1
    refine ⟨_, Ev_true (by simpa using h) h1, Ev_true (by simp; omega) ?_⟩
    have e1 : ((n : Int) == 0) = false := by rw [beq_eq_false_iff_ne]; omega
    rw [e1]
    refine Ev_succ ?_
    simp only [impl_DivisorBalance.j0]
    refine Ev_false (by simp) ?_
    exact Ev.bind (f := fun k t => impl_DivisorBalance.l0 k 0 t (t.length : Int) 0) (divisors_ev (n := n) (by omega)) h2
  · refine ⟨(0, false), Ev_false (by simpa using h) Ev_some, ?_⟩
    by_cases h0 : a = 0
    · subst h0
      exact Ev_true (by simp) hno
    · exact Ev_false (by simp; omega) hno

theorem FnExactDivisorBalance : laws_FnExactDivisorBalance.Pure := by
  intro a _
  refine Ev_out (g := fun k => laws_FnExactDivisorBalance.f k a) ?_
  unfold laws_FnExactDivisorBalance.f
  obtain ⟨r, h1, h2⟩ := balance_ev a
  refine Ev.bind h1 (Ev.bind h2 ?_)
  simp only [bne_self_eq_false]
  exact Ev_some
end Go.Proofs.Ytkchoccicpbbfaa.Pure

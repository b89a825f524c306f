/- The law FnExactRefusingPrime, pure: both functions take prime numbers out, one after the other, and count or toggle how often. -/
import Derived.Test.YtkchoccicpbbfaaPx3
import Derived.Test.YtkchoccicpbbfaaQNum
namespace Go.Proofs.Ytkchoccicpbbfaa.Pure
open Go.RowKit Go.Proofs.Ytkchoccicpbbfaa.P Go.Proofs.YtkchoccicpbbfaaW.PrintWords Go.Proofs.YtkchoccicpbbfaaW.PrintLast Go.Proofs.Ytkchoccicpbbfaa.Q

/-- What one answer says of the other. -/
def same (s : Int) (r : Int × Bool) : Prop := r = (if s = 0 then (0, false) else (s, true))

def HA (n p : Nat) : Prop := ∃ s r, Ev (fun k => spec_sqRefusing.l0 k (n : Int) (p : Int)) s ∧ Ev (fun k => impl_RefusingPrime.l0 k (n : Int) (p : Int)) r ∧ same s r
def HB (n p t : Nat) : Prop := ∃ s r, Ev (fun k => spec_sqRefusing.l1 k (n : Int) (p : Int) (t % 2 == 1)) s ∧ Ev (fun k => impl_RefusingPrime.l1 k (n : Int) (p : Int) (t : Int)) r ∧ same s r

theorem odd_not (t : Nat) : (!(t % 2 == 1)) = ((t + 1) % 2 == 1) := by
  rcases Nat.mod_two_eq_zero_or_one t with h | h
  · have h2 : (t + 1) % 2 = 1 := by omega
    rw [h, h2]; rfl
  · have h2 : (t + 1) % 2 = 0 := by omega
    rw [h, h2]; rfl

/-- A round that takes p out. -/
theorem hb_div {n p t : Nat} (hp : 2 ≤ p) (hn : 1 ≤ n) (hn2 : n ≤ 1000000) (ht : t ≤ 2000000) (hd : n % p = 0) (h : HB (n / p) p (t + 1)) : HB n p t := by
  obtain ⟨s, r, h1, h2, h3⟩ := h
  have hq : n / p ≤ n := Nat.div_le_self n p
  refine ⟨s, r, Ev_succ ?_, Ev_succ ?_, h3⟩
  · simp only [spec_sqRefusing.l1]
    rw [tmod_cast, tdiv_cast, w64_nat (n / p) (by omega), odd_not]
    exact Ev_false (by omega) (Ev_true (by omega) h1)
  · simp only [impl_RefusingPrime.l1]
    rw [tmod_cast, tdiv_cast, w64_nat (n / p) (by omega), w64 (x := (t : Int) + 1) (by omega) (by omega)]
    exact Ev_false (by omega) (Ev_true (by omega) h2)
/-- Behind the last round: the answer, or the next number. -/
theorem hb_stop {n p t : Nat} (hp : 2 ≤ p) (hp2 : p ≤ 1000000) (hd : n % p ≠ 0) (h : HA n (p + 1)) : HB n p t := by
  obtain ⟨s, r, h1, h2, h3⟩ := h
  have e1 : Int.tmod (t : Int) 2 = ((t % 2 : Nat) : Int) := tmod_cast t 2
  have e2 : Int.tmod (p : Int) 4 = ((p % 4 : Nat) : Int) := tmod_cast p 4
  rcases Nat.mod_two_eq_zero_or_one t with hm | hm
  · refine ⟨s, r, Ev_succ ?_, Ev_succ ?_, h3⟩
    · simp only [spec_sqRefusing.l1]
      rw [tmod_cast, hm, w64 (x := (p : Int) + 1) (by omega) (by omega)]
      exact Ev_false (by omega) (Ev_false (by omega) (Ev_false (by simp) h1))
    · simp only [impl_RefusingPrime.l1]
      rw [tmod_cast, e1, hm, w64 (x := (p : Int) + 1) (by omega) (by omega)]
      exact Ev_false (by omega) (Ev_false (by omega) (Ev_false (by simp) h2))
  · by_cases h4 : p % 4 = 3
    · refine ⟨p, (p, true), Ev_succ ?_, Ev_succ ?_, ?_⟩
      · simp only [spec_sqRefusing.l1]
        rw [tmod_cast, hm, e2, h4]
        exact Ev_false (by omega) (Ev_false (by omega) (Ev_true (by simp) (Ev_true (by simp) Ev_some)))
      · simp only [impl_RefusingPrime.l1]
        rw [tmod_cast, e1, hm, e2, h4]
        exact Ev_false (by omega) (Ev_false (by omega) (Ev_true (by simp) (Ev_true (by simp) Ev_some)))
      · unfold same
        rw [if_neg (by omega)]
    · refine ⟨s, r, Ev_succ ?_, Ev_succ ?_, h3⟩
      · simp only [spec_sqRefusing.l1]
        rw [tmod_cast, hm, e2, w64 (x := (p : Int) + 1) (by omega) (by omega)]
        exact Ev_false (by omega) (Ev_false (by omega) (Ev_true (by simp) (Ev_false (by omega) h1)))
      · simp only [impl_RefusingPrime.l1]
        rw [tmod_cast, e1, hm, e2, w64 (x := (p : Int) + 1) (by omega) (by omega)]
        exact Ev_false (by omega) (Ev_false (by omega) (Ev_true (by simp) (Ev_false (by omega) h2)))
theorem ha_one {n p : Nat} (hn : n ≤ 1) : HA n p := by
  refine ⟨0, (0, false), Ev_succ ?_, Ev_succ ?_, by simp [same]⟩
  · simp only [spec_sqRefusing.l0]
    exact Ev_false (by omega) Ev_some
  · simp only [impl_RefusingPrime.l0]
    exact Ev_false (by omega) Ev_some
theorem ha_of {n p q : Nat} (hn : 1 < n) (hp : p ≤ 1001) (hq : (n < p * p ∧ q = n) ∨ (p * p ≤ n ∧ q = p)) (h : HB n q 0) : HA n p := by
  obtain ⟨s, r, h1, h2, h3⟩ := h
  refine ⟨s, r, Ev_succ ?_, Ev_succ ?_, h3⟩
  · simp only [spec_sqRefusing.l0]
    rw [w64_mul (c := 1001) (d := 1001) hp hp (by omega)]
    have hj : Ev (fun k => spec_sqRefusing.j1 k (n : Int) (q : Int)) s := by
      refine Ev_succ ?_
      simp only [spec_sqRefusing.j1]
      exact h1
    rcases hq with ⟨h, rfl⟩ | ⟨h, rfl⟩
    · exact Ev_true (by omega) (Ev_true (by omega) hj)
    · exact Ev_true (by omega) (Ev_false (by omega) hj)
  · simp only [impl_RefusingPrime.l0]
    rw [w64_mul (c := 1001) (d := 1001) hp hp (by omega)]
    have hj : Ev (fun k => impl_RefusingPrime.j2 k (n : Int) (q : Int)) r := by
      refine Ev_succ ?_
      simp only [impl_RefusingPrime.j2]
      exact h2
    rcases hq with ⟨h, rfl⟩ | ⟨h, rfl⟩
    · exact Ev_true (by omega) (Ev_true (by omega) hj)
    · exact Ev_true (by omega) (Ev_false (by omega) hj)

theorem less_measure {q n c m : Nat} (h : q < n) (h6 : 2 * (2000 * n + c) ≤ m + 1) : 2 * (2000 * q + c) ≤ m := by omega

theorem all_end (m : Nat) : (∀ n p t : Nat, 1 ≤ n → n ≤ 1000000 → 2 ≤ p → p ≤ 1000 → t + n ≤ 2000000 → 2 * (2000 * n + (1002 - p)) ≤ m → HB n p t) ∧
    (∀ n p : Nat, 1 ≤ n → n ≤ 1000000 → 2 ≤ p → p ≤ 1001 → 2 * (2000 * n + (1002 - p)) + 1 ≤ m → HA n p) := by
  induction m with
  | zero => exact ⟨fun n p t h1 h2 h3 h4 h5 h6 => by omega, fun n p h1 h2 h3 h4 h5 => by omega⟩
  | succ m ih =>
    constructor
    · intro n p t h1 h2 h3 h4 h5 h6
      by_cases hd : n % p = 0
      · have hlt : n / p < n := Nat.div_lt_self h1 h3
        have hpos : 1 ≤ n / p := by
          have := Nat.div_add_mod n p
          rw [hd] at this
          rcases Nat.eq_zero_or_pos (n / p) with h | h
          · rw [h] at this; omega
          · exact h
        have k1 : t + 1 + n / p ≤ 2000000 := by omega
        have k2 : 2 * (2000 * (n / p) + (1002 - p)) ≤ m := by
          exact less_measure hlt h6
        exact hb_div h3 h1 h2 (by omega) hd (ih.1 (n / p) p (t + 1) hpos (by omega) h3 h4 k1 k2)
      · exact hb_stop h3 (by omega) hd (ih.2 n (p + 1) h1 h2 (by omega) (by omega) (by omega))
    · intro n p h1 h2 h3 h4 h5
      by_cases hn : n ≤ 1
      · exact ha_one hn
      · by_cases hpp : p * p ≤ n
        · have hp : p ≤ 1000 := by
            rcases Nat.lt_or_ge 1000 p with h | h
            · have : 1001 * 1001 ≤ p * p := Nat.mul_le_mul h h
              omega
            · exact h
          exact ha_of (by omega) h4 (.inr ⟨hpp, rfl⟩) (ih.1 n p 0 h1 h2 h3 hp (by omega) (by omega))
        · refine ha_of (by omega) h4 (.inl ⟨by omega, rfl⟩) ?_
          refine hb_div (by omega) h1 h2 (by omega) (Nat.mod_self n) ?_
          rw [Nat.div_self h1]
          refine hb_stop (by omega) h2 ?_ (ha_one (by omega))
          rw [Nat.mod_eq_of_lt (by omega)]
          omega

theorem both (n : Nat) (h1 : 1 ≤ n) (h2 : n ≤ 1000000) : HA n 2 := by
  have h := (all_end (2 * (2000 * n + 1000) + 1)).2 n 2
  exact h h1 h2 (by decide) (by decide) (by omega)

theorem refusing_ev (a : Int) : ∃ r, Ev (fun k => spec_RefusingPrime.f k a) r ∧ Ev (fun k => impl_RefusingPrime.f k a) r := by
  have hno : Ev (fun k => impl_RefusingPrime.j0 k a true) (0, false) := by
    refine Ev_succ ?_
    simp only [impl_RefusingPrime.j0]
    exact Ev_true trivial Ev_some
  unfold spec_RefusingPrime.f impl_RefusingPrime.f
  rw [isTwo_eq, l1In_eq]
  simp only [Option.bind_some]
  by_cases h : 1 ≤ a ∧ a ≤ 1000000
  · obtain ⟨n, rfl⟩ := Int.eq_ofNat_of_zero_le (show 0 ≤ a by omega)
    obtain ⟨s, r, h1, h2, h3⟩ := both n (by omega) (by omega)
    refine ⟨r, Ev_true (by simpa using h) ?_, Ev_true (by simp; omega) ?_⟩
    · refine Ev.bind (f := fun k t => if t = 0 then some (0, false) else (spec_sqRefusing.f k (n : Int)).bind fun t149 => some (t149, true)) h1 ?_
      unfold same at h3
      rw [h3]
      by_cases hs : s = 0
      · rw [if_pos hs]
        exact Ev_true hs Ev_some
      · rw [if_neg hs]
        exact Ev_false hs (Ev.bind (f := fun _ t => some (t, true)) h1 Ev_some)
    · have e : ((n : Int) == 0) = false := by rw [beq_eq_false_iff_ne]; omega
      rw [e]
      refine Ev_succ ?_
      simp only [impl_RefusingPrime.j0]
      exact Ev_false (by simp) h2
  · refine ⟨(0, false), Ev_false (by simpa using h) Ev_some, ?_⟩
    by_cases h0 : a = 0
    · subst h0
      exact Ev_true (by simp) hno
    · exact Ev_false (by simp; omega) hno

theorem FnExactRefusingPrime : laws_FnExactRefusingPrime.Pure := by
  intro a _
  refine Ev_out (g := fun k => laws_FnExactRefusingPrime.f k a) ?_
  unfold laws_FnExactRefusingPrime.f
  obtain ⟨r, h1, h2⟩ := refusing_ev a
  refine Ev.bind h1 (Ev.bind h2 ?_)
  simp only [bne_self_eq_false]
  exact Ev_some
end Go.Proofs.Ytkchoccicpbbfaa.Pure

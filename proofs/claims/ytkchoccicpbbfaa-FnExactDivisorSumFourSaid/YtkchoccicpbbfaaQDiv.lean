/- The list of divisors that the program makes, and sums over it. -/
import Derived.Test.YtkchoccicpbbfaaPx2
import Derived.Test.YtkchoccicpbbfaaQNum
import Derived.Test.YtkchoccicpbbfaaQDivPair
namespace Go.Proofs.Ytkchoccicpbbfaa.Q
open Go.RowKit Go.Proofs.Ytkchoccicpbbfaa.P Go.Proofs.YtkchoccicpbbfaaW.PrintWords Go.Proofs.YtkchoccicpbbfaaW.PrintLast
open Go.Proofs.Ytkchoccicpbbfaa.DivPair

/-- The sum of a function over a list. -/
def sumL (f : Nat → Int) : List Int → Int
  | [] => 0
  | x :: l => f x.toNat + sumL f l
theorem sumL_append (f : Nat → Int) (m : List Int) : ∀ l, sumL f (l ++ m) = sumL f l + sumL f m
  | [] => by simp [sumL]
  | x :: l => by
    show f x.toNat + sumL f (l ++ m) = f x.toNat + sumL f l + sumL f m
    rw [sumL_append f m l]
    omega
theorem sumTo_scale (c : Int) (g : Nat → Int) : ∀ k, sumTo (fun d => c * g d) k = c * sumTo g k
  | 0 => by simp [sumTo]
  | k + 1 => by
    show sumTo (fun d => c * g d) k + c * g (k + 1) = c * (sumTo g k + g (k + 1))
    rw [sumTo_scale c g k, Int.mul_add]

def pairTerm (f : Nat → Int) (n d : Nat) : Int := if d ∣ n then f d + (if d * d < n then f (n / d) else 0) else 0
/-- What is appended for d. -/
def here (n d : Nat) : List Int := if d ∣ n then (if d * d < n then [(d : Int), ((n / d : Nat) : Int)] else [(d : Int)]) else []
def divL (n : Nat) : Nat → Nat → List Int
  | 0, _ => []
  | m + 1, d => if d * d ≤ n then here n d ++ divL n m (d + 1) else []

theorem here_len (n d : Nat) : (here n d).length ≤ 2 := by
  unfold here
  split
  · split <;> simp
  · simp
theorem divL_len (n : Nat) : ∀ m d, (divL n m d).length ≤ 2 * m
  | 0, _ => by simp [divL]
  | m + 1, d => by
    have h := divL_len n m (d + 1)
    have h2 := here_len n d
    unfold divL
    split
    · rw [List.length_append]; omega
    · simp
theorem here_mem {n d : Nat} (hn : 1 ≤ n) (hd : 1 ≤ d) : ∀ x ∈ here n d, 1 ≤ x ∧ x ≤ n := by
  intro x hx
  unfold here at hx
  by_cases h : d ∣ n
  · have hle := Nat.le_of_dvd hn h
    have hq : n / d ≤ n := Nat.div_le_self n d
    have hq1 : 1 ≤ n / d := Nat.div_pos hle hd
    rw [if_pos h] at hx
    split at hx
    · rcases List.mem_cons.1 hx with rfl | hx
      · omega
      · rcases List.mem_cons.1 hx with rfl | hx
        · omega
        · simp at hx
    · rcases List.mem_cons.1 hx with rfl | hx
      · omega
      · simp at hx
  · rw [if_neg h] at hx
    simp at hx
theorem divL_mem {n : Nat} (hn : 1 ≤ n) : ∀ m d, 1 ≤ d → ∀ x ∈ divL n m d, 1 ≤ x ∧ x ≤ n
  | 0, _, _ => by intro x hx; simp [divL] at hx
  | m + 1, d, hd => by
    intro x hx
    unfold divL at hx
    split at hx
    · rcases List.mem_append.1 hx with hx | hx
      · exact here_mem hn hd x hx
      · exact divL_mem hn m (d + 1) (by omega) x hx
    · simp at hx
theorem here_sum (f : Nat → Int) (n d : Nat) : sumL f (here n d) = pairTerm f n d := by
  unfold here pairTerm
  by_cases h : d ∣ n
  · rw [if_pos h, if_pos h]
    by_cases h2 : d * d < n
    · rw [if_pos h2, if_pos h2]
      simp only [sumL, Int.toNat_natCast, Int.add_zero]
    · rw [if_neg h2, if_neg h2]
      simp [sumL]
  · rw [if_neg h, if_neg h]
    rfl
theorem divL_sum (f : Nat → Int) {n r : Nat} (h1 : r * r ≤ n) (h2 : n < (r + 1) * (r + 1)) : ∀ m d, 1 ≤ d → d ≤ r + 1 → r + 1 - d ≤ m →
    sumTo (pairTerm f n) (d - 1) + sumL f (divL n m d) = sumTo (pairTerm f n) r
  | 0, d, a, b, c => by
    obtain rfl : d = r + 1 := by omega
    simp [divL, sumL]
  | m + 1, d, a, b, c => by
    unfold divL
    by_cases h : d * d ≤ n
    · rw [if_pos h, sumL_append, here_sum]
      have hd : d ≤ r := by
        rcases Nat.lt_or_ge r d with hl | hl
        · have : (r + 1) * (r + 1) ≤ d * d := Nat.mul_le_mul hl hl
          omega
        · exact hl
      have ih := divL_sum f h1 h2 m (d + 1) (by omega) (by omega) (by omega)
      have e : sumTo (pairTerm f n) (d + 1 - 1) = sumTo (pairTerm f n) (d - 1) + pairTerm f n d := by
        obtain ⟨q, rfl⟩ : ∃ q, d = q + 1 := ⟨d - 1, by omega⟩
        rfl
      rw [e] at ih
      omega
    · rw [if_neg h]
      have hd : d = r + 1 := by
        rcases Nat.lt_or_ge r d with hl | hl
        · omega
        · exact absurd (Nat.le_trans (Nat.mul_le_mul hl hl) h1) h
      subst hd
      simp [sumL]
/-- The sum over the made list is the one over all divisors. -/
theorem divL_all (f : Nat → Int) {n : Nat} (hn : 1 ≤ n) (hn2 : n ≤ 1000000) : sumL f (divL n 1001 1) = sumTo (fun d => if d ∣ n then f d else 0) n := by
  obtain ⟨r, h1, h2⟩ : ∃ r, r * r ≤ n ∧ n < (r + 1) * (r + 1) := by
    have : ∀ n : Nat, ∃ r, r * r ≤ n ∧ n < (r + 1) * (r + 1) := by
      intro n
      induction n with
      | zero => exact ⟨0, by omega, by omega⟩
      | succ n ih =>
        obtain ⟨r, h1, h2⟩ := ih
        by_cases h : n + 1 < (r + 1) * (r + 1)
        · exact ⟨r, by omega, h⟩
        · refine ⟨r + 1, by omega, ?_⟩
          have : (r + 1 + 1) * (r + 1 + 1) = (r + 1) * (r + 1) + (r + 1) + (r + 1) + 1 := by
            rw [Nat.add_mul (r + 1) 1 (r + 1 + 1), Nat.mul_add (r + 1)]
            omega
          omega
    exact this n
  have hr : r ≤ 1000 := by
    rcases Nat.lt_or_ge 1000 r with h | h
    · have : 1001 * 1001 ≤ r * r := Nat.mul_le_mul h h
      omega
    · exact h
  have h := divL_sum f h1 h2 1001 1 (by omega) (by omega) (by omega)
  have h3 := pairs f n r hn h1 h2
  have h0 : sumTo (pairTerm f n) (1 - 1) = 0 := rfl
  rw [h0] at h
  have h4 : sumTo (pairTerm f n) r = sumTo (fun d => if d ∣ n then f d + (if d * d < n then f (n / d) else 0) else 0) r := rfl
  omega

/-- The walk over the numbers up to the root. -/
theorem divisors_l0 (n : Nat) (hn2 : n ≤ 1000000) (m : Nat) : ∀ (d : Nat) (l : List Int), 1 ≤ d → d ≤ 1001 → 1001 - d ≤ m → l.length + 2 * m ≤ 5000 →
    Ev (fun k => impl_divisors.l0 k (n : Int) l (d : Int)) (l ++ divL n m d) := by
  induction m with
  | zero =>
    intro d l hd hd2 hm hl
    obtain rfl : d = 1001 := by omega
    refine Ev_succ ?_
    simp only [impl_divisors.l0]
    rw [w64_mul (c := 1001) (d := 1001) (by omega) (by omega) (by omega)]
    refine Ev_false (by omega) ?_
    simp only [divL, List.append_nil]
    exact Ev_some
  | succ m ih =>
    intro d l hd hd2 hm hl
    refine Ev_succ ?_
    simp only [impl_divisors.l0]
    rw [w64_mul (c := 1001) (d := 1001) hd2 hd2 (by omega), tmod_cast, tdiv_cast, w64_nat (n / d) (by have := Nat.div_le_self n d; omega), w64 (x := (d : Int) + 1) (by omega) (by omega)]
    unfold divL
    by_cases h : d * d ≤ n
    · have hd3 : d ≤ 1000 := by
        rcases Nat.lt_or_ge 1000 d with h1 | h1
        · have : 1001 * 1001 ≤ d * d := Nat.mul_le_mul h1 h1
          omega
        · exact h1
      rw [if_pos h]
      refine Ev_true (by omega) (Ev_false (by omega) ?_)
      unfold here
      by_cases hdv : d ∣ n
      · have hz : n % d = 0 := Nat.mod_eq_zero_of_dvd hdv
        rw [if_pos hdv]
        refine Ev_true (by omega) (Ev_true (by omega) ?_)
        simp only [Option.bind_some]
        have hlen : (l ++ [(d : Int)]).length = l.length + 1 := by simp
        by_cases hs : d * d < n
        · rw [if_pos hs]
          refine Ev_true (by omega) (Ev_true (by omega) ?_)
          have h2 := ih (d + 1) (l ++ [(d : Int)] ++ [((n / d : Nat) : Int)]) (by omega) (by omega) (by omega) (by rw [List.length_append, hlen]; simp; omega)
          simpa using h2
        · rw [if_neg hs]
          refine Ev_false (by omega) ?_
          have h2 := ih (d + 1) (l ++ [(d : Int)]) (by omega) (by omega) (by omega) (by omega)
          simpa using h2
      · have hz : n % d ≠ 0 := fun h => hdv (Nat.dvd_of_mod_eq_zero h)
        rw [if_neg hdv]
        refine Ev_false (by omega) ?_
        exact ih (d + 1) l (by omega) (by omega) (by omega) (by omega)
    · rw [if_neg h, List.append_nil]
      exact Ev_false (by omega) Ev_some
theorem divisors_ev {n : Nat} (hn2 : n ≤ 1000000) : Ev (fun k => impl_divisors.f k (n : Int)) (divL n 1001 1) :=
  divisors_l0 n hn2 1001 1 [] (by omega) (by omega) (by omega) (by simp)

theorem rd_nat {l : List Int} {i : Nat} (h : i < l.length) : rd l (i : Int) = l[i] := by
  simp [rd, List.getD_eq_getElem?_getD, List.getElem?_eq_getElem h]
theorem drop_at {l : List Int} {i : Nat} (h : i < l.length) : l.drop i = l[i] :: l.drop (i + 1) := List.drop_eq_getElem_cons h
end Go.Proofs.Ytkchoccicpbbfaa.Q

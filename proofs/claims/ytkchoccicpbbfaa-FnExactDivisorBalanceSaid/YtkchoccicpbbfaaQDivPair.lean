/- The sum over all divisors of a number, told by the divisors up to its root. -/
namespace Go.Proofs.Ytkchoccicpbbfaa.DivPair

def sumTo (g : Nat → Int) : Nat → Int
  | 0 => 0
  | k + 1 => sumTo g k + g (k + 1)

theorem sumTo_gap (g : Nat → Int) (q : Nat) : ∀ p, q ≤ p → (∀ d, q < d → d < p → g d = 0) →
    sumTo g p = sumTo g q + (if q < p then g p else 0) := by
  intro p
  induction p with
  | zero =>
    intro h _
    obtain rfl : q = 0 := by omega
    simp
  | succ p ih =>
    intro h hz
    by_cases e : q = p + 1
    · subst e
      simp
    · have hq : q ≤ p := by omega
      have h1 := ih hq (fun d h1 h2 => hz d h1 (by omega))
      have h0 : (if q < p then g p else 0) = 0 := by
        by_cases hp : q < p
        · rw [if_pos hp]
          exact hz p hp (by omega)
        · rw [if_neg hp]
      rw [if_pos (by omega)]
      show sumTo g p + g (p + 1) = _
      rw [h1, h0]
      omega

theorem sumTo_congr {g h : Nat → Int} : ∀ k, (∀ d, 1 ≤ d → d ≤ k → g d = h d) → sumTo g k = sumTo h k
  | 0, _ => rfl
  | k + 1, e => by
    show sumTo g k + g (k + 1) = sumTo h k + h (k + 1)
    rw [sumTo_congr k (fun d h1 h2 => e d h1 (by omega)), e (k + 1) (by omega) (by omega)]

theorem sumTo_add (g h : Nat → Int) : ∀ k, sumTo (fun d => g d + h d) k = sumTo g k + sumTo h k
  | 0 => rfl
  | k + 1 => by
    show sumTo (fun d => g d + h d) k + (g (k + 1) + h (k + 1)) = sumTo g k + g (k + 1) + (sumTo h k + h (k + 1))
    rw [sumTo_add g h k]
    omega

theorem step_div (f : Nat → Int) (n k : Nat) (hn : 1 ≤ n) :
    sumTo (fun d => if d ∣ n then f d else 0) (n / (k + 1)) =
      sumTo (fun d => if d ∣ n then f d else 0) (n / (k + 2)) + (if (k + 1) ∣ n then f (n / (k + 1)) else 0) := by
  have hle : n / (k + 2) ≤ n / (k + 1) := Nat.div_le_div_left (by omega) (by omega)
  have key : ∀ d, n / (k + 2) < d → d ≤ n / (k + 1) → d ∣ n → n = d * (k + 1) := by
    intro d h1 h2 ⟨c, hc⟩
    have h3 : n < d * (k + 2) := (Nat.div_lt_iff_lt_mul (by omega)).1 h1
    have h4 : d * (k + 1) ≤ n := (Nat.le_div_iff_mul_le (by omega)).1 h2
    have h5 : c < k + 2 := by
      rw [hc] at h3
      exact Nat.lt_of_mul_lt_mul_left h3
    have h6 : k + 1 ≤ c := by
      rw [hc] at h4
      have hd : 0 < d := Nat.lt_of_le_of_lt (Nat.zero_le _) h1
      exact Nat.le_of_mul_le_mul_left h4 hd
    obtain rfl : c = k + 1 := by omega
    exact hc
  rw [sumTo_gap _ (n / (k + 2)) (n / (k + 1)) hle]
  · congr 1
    by_cases hd : (k + 1) ∣ n
    · obtain ⟨c, hc⟩ := hd
      have hq : n / (k + 1) = c := by rw [hc]; exact Nat.mul_div_cancel_left c (by omega)
      have hlt : n / (k + 2) < n / (k + 1) := by
        rw [hq]
        refine (Nat.div_lt_iff_lt_mul (by omega)).2 ?_
        rw [hc, Nat.mul_comm]
        have : 0 < c := by
          rcases Nat.eq_zero_or_pos c with h | h
          · subst h; omega
          · exact h
        exact Nat.mul_lt_mul_of_pos_left (by omega) this
      have hd1 : (k + 1) ∣ n := ⟨c, hc⟩
      have hd2 : n / (k + 1) ∣ n := by
        rw [hq]
        exact ⟨k + 1, by rw [hc, Nat.mul_comm]⟩
      rw [if_pos hlt, if_pos hd1]
      exact if_pos hd2
    · rw [if_neg hd]
      by_cases hlt : n / (k + 2) < n / (k + 1)
      · rw [if_pos hlt]
        refine if_neg fun h => ?_
        exact hd ⟨n / (k + 1), by rw [Nat.mul_comm]; exact key _ hlt (Nat.le_refl _) h⟩
      · rw [if_neg hlt]
  · intro d h1 h2
    rw [if_neg]
    intro h
    have h3 := key d h1 (by omega) h
    have : n / (k + 1) = d := by rw [h3]; exact Nat.mul_div_cancel d (by omega)
    omega

theorem upper (f : Nat → Int) (n : Nat) (hn : 1 ≤ n) : ∀ k,
    sumTo (fun e => if e ∣ n then f (n / e) else 0) k + sumTo (fun d => if d ∣ n then f d else 0) (n / (k + 1)) =
      sumTo (fun d => if d ∣ n then f d else 0) n
  | 0 => by simp [sumTo]
  | k + 1 => by
    have h := upper f n hn k
    rw [step_div f n k hn] at h
    have e2 : k + 1 + 1 = k + 2 := rfl
    rw [e2]
    show sumTo (fun e => if e ∣ n then f (n / e) else 0) k + (if (k + 1) ∣ n then f (n / (k + 1)) else 0) + _ = _
    omega

/-- What the walk over the divisors up to the root comes to. -/
theorem pairs (f : Nat → Int) (n r : Nat) (hn : 1 ≤ n) (h1 : r * r ≤ n) (h2 : n < (r + 1) * (r + 1)) :
    sumTo (fun d => if d ∣ n then f d + (if d * d < n then f (n / d) else 0) else 0) r =
      sumTo (fun d => if d ∣ n then f d else 0) n := by
  have hs : sumTo (fun d => if d ∣ n then f d + (if d * d < n then f (n / d) else 0) else 0) r =
      sumTo (fun d => if d ∣ n then f d else 0) r + sumTo (fun d => if d ∣ n then (if d * d < n then f (n / d) else 0) else 0) r := by
    rw [← sumTo_add]
    refine sumTo_congr r fun d _ _ => ?_
    by_cases hd : d ∣ n
    · simp only [if_pos hd]
    · simp only [if_neg hd]; rfl
  rw [hs]
  have hr : 1 ≤ r := by
    rcases Nat.eq_zero_or_pos r with h | h
    · subst h; omega
    · exact h
  by_cases he : r * r = n
  · obtain ⟨m, rfl⟩ : ∃ m, r = m + 1 := ⟨r - 1, by omega⟩
    have hu := upper f n hn m
    have hq : n / (m + 1) = m + 1 := by rw [← he]; exact Nat.mul_div_cancel _ (by omega)
    rw [hq] at hu
    rw [← hu]
    have hl : sumTo (fun d => if d ∣ n then (if d * d < n then f (n / d) else 0) else 0) (m + 1) =
        sumTo (fun e => if e ∣ n then f (n / e) else 0) m := by
      show sumTo _ m + (if (m + 1) ∣ n then (if (m + 1) * (m + 1) < n then f (n / (m + 1)) else 0) else 0) = _
      rw [if_neg (show ¬ (m + 1) * (m + 1) < n by omega)]
      have h0 : (if (m + 1) ∣ n then (0 : Int) else 0) = 0 := by split <;> rfl
      rw [h0, Int.add_zero]
      refine sumTo_congr m fun d _ hd => ?_
      have hlt : d * d < n := by
        rw [← he]
        exact Nat.mul_lt_mul'' (by omega) (by omega)
      simp only [if_pos hlt]
    rw [hl]
    omega
  · have hlt : r * r < n := by omega
    have hu := upper f n hn r
    have hq : n / (r + 1) ≤ r := by
      have : n / (r + 1) < r + 1 := (Nat.div_lt_iff_lt_mul (by omega)).2 h2
      omega
    have hnone : ∀ d, n / (r + 1) < d → d ≤ r → ¬ d ∣ n := by
      intro d h3 h4 ⟨c, hc⟩
      have h5 : n < d * (r + 1) := (Nat.div_lt_iff_lt_mul (by omega)).1 h3
      have h6 : c < r + 1 := by
        rw [hc] at h5
        exact Nat.lt_of_mul_lt_mul_left h5
      have h7 : d * c ≤ r * r := Nat.mul_le_mul h4 (by omega)
      omega
    have hg := sumTo_gap (fun d => if d ∣ n then f d else 0) (n / (r + 1)) r hq (fun d h3 h4 => if_neg (hnone d h3 (by omega)))
    have hz : (if n / (r + 1) < r then (fun d => if d ∣ n then f d else 0) r else 0) = 0 := by
      by_cases h : n / (r + 1) < r
      · rw [if_pos h]
        exact if_neg (hnone r h (Nat.le_refl _))
      · rw [if_neg h]
    rw [hz, Int.add_zero] at hg
    rw [← hu, hg]
    have hl : sumTo (fun d => if d ∣ n then (if d * d < n then f (n / d) else 0) else 0) r =
        sumTo (fun e => if e ∣ n then f (n / e) else 0) r := by
      refine sumTo_congr r fun d _ hd => ?_
      have : d * d < n := Nat.lt_of_le_of_lt (Nat.mul_le_mul hd hd) hlt
      simp only [if_pos this]
    rw [hl]
    omega

end Go.Proofs.Ytkchoccicpbbfaa.DivPair

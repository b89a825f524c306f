/- Quads of numbers: a swap keeps the equation and a sum over 0, and the common divisors. Plain arithmetic. -/
namespace Go.Proofs.Ytnaginnhccldhaa.Q
structure QuadZ (a b c d : Int) : Prop where
  sq : 2 * (a * a + b * b + c * c + d * d) = (a + b + c + d) * (a + b + c + d)
  pos : 0 < a + b + c + d
theorem sq_pos (a : Int) : 0 ≤ a * a := by
  rcases Int.le_total 0 a with h | h
  · exact Int.mul_nonneg h h
  · have := Int.mul_nonneg (show 0 ≤ -a by omega) (show 0 ≤ -a by omega)
    rwa [Int.neg_mul_neg] at this
theorem sq_zero {a : Int} (h : a * a = 0) : a = 0 := by
  rcases Int.mul_eq_zero.1 h with h | h <;> exact h
theorem QuadZ.swap {a b c d : Int} (h : QuadZ a b c d) : QuadZ a b c (2 * (a + b + c) - d) := by
  have h1 := h.sq
  have h2 := h.pos
  refine ⟨by grind, ?_⟩
  have e : (a + b + c + d) * (a + b + c + (2 * (a + b + c) - d)) = 2 * ((a + b + c) * (a + b + c)) + 2 * (a * a + b * b + c * c) := by grind
  have q0 := sq_pos (a + b + c)
  have q1 := sq_pos a
  have q2 := sq_pos b
  have q3 := sq_pos c
  rcases Int.lt_or_le 0 (a + b + c + (2 * (a + b + c) - d)) with h3 | h3
  · exact h3
  · have h4 := Int.mul_nonneg (show 0 ≤ a + b + c + d by omega) (show 0 ≤ -(a + b + c + (2 * (a + b + c) - d)) by omega)
    rw [Int.mul_neg, e] at h4
    have z1 : a = 0 := sq_zero (by omega)
    have z2 : b = 0 := sq_zero (by omega)
    have z3 : c = 0 := sq_zero (by omega)
    subst z1
    subst z2
    subst z3
    have h5 := sq_pos d
    have z4 : d = 0 := sq_zero (by grind)
    omega
theorem QuadZ.rot {a b c d : Int} (h : QuadZ a b c d) : QuadZ b c d a := ⟨by have := h.sq; grind, by have := h.pos; omega⟩
/-- Any two of a quad have a sum that is not below 0. -/
theorem QuadZ.two {a b c d : Int} (h : QuadZ a b c d) : 0 ≤ a + b ∧ 0 ≤ c + d := by
  have h1 := h.sq
  have h2 := h.pos
  have e : (a - b) * (a - b) + (c - d) * (c - d) = 2 * ((a + b) * (c + d)) := by grind
  have q1 := sq_pos (a - b)
  have q2 := sq_pos (c - d)
  have q3 : 0 ≤ (a + b) * (c + d) := by omega
  rcases Int.lt_or_le (a + b) 0 with h3 | h3
  · have h4 : 0 < (-(a + b)) * (c + d) := Int.mul_pos (by omega) (by omega)
    rw [Int.neg_mul] at h4
    omega
  · rcases Int.lt_or_le (c + d) 0 with h5 | h5
    · have h4 : 0 < (a + b) * (-(c + d)) := Int.mul_pos (by omega) (by omega)
      rw [Int.mul_neg] at h4
      omega
    · exact ⟨h3, h5⟩
/-- The greatest common divisor, one number after the other. -/
def gcd4 (a b c d : Int) : Nat := Int.gcd (Int.gcd (Int.gcd (Int.gcd 0 a) b) c) d
theorem gcd4_dvd (a b c d : Int) (k : Nat) : k ∣ gcd4 a b c d ↔ (k : Int) ∣ a ∧ (k : Int) ∣ b ∧ (k : Int) ∣ c ∧ (k : Int) ∣ d := by
  unfold gcd4
  have st : ∀ (x y : Int), k ∣ Int.gcd x y ↔ (k : Int) ∣ x ∧ (k : Int) ∣ y := fun x y => by
    constructor
    · intro h
      have h' : (k : Int) ∣ (Int.gcd x y : Int) := Int.natCast_dvd_natCast.2 h
      exact ⟨Int.dvd_trans h' (Int.gcd_dvd_left ..), Int.dvd_trans h' (Int.gcd_dvd_right ..)⟩
    · rintro ⟨h1, h2⟩
      exact Int.dvd_gcd h1 h2
  rw [st, Int.natCast_dvd_natCast, st, Int.natCast_dvd_natCast, st, Int.natCast_dvd_natCast, st]
  constructor
  · rintro ⟨⟨⟨⟨_, h1⟩, h2⟩, h3⟩, h4⟩
    exact ⟨h1, h2, h3, h4⟩
  · rintro ⟨h1, h2, h3, h4⟩
    exact ⟨⟨⟨⟨Int.dvd_zero _, h1⟩, h2⟩, h3⟩, h4⟩
theorem nat_ext {x y : Nat} (h : ∀ k, k ∣ x ↔ k ∣ y) : x = y := Nat.dvd_antisymm ((h x).1 (Nat.dvd_refl x)) ((h y).2 (Nat.dvd_refl y))
theorem dvd_swap {k s d : Int} (hs : k ∣ s) : k ∣ 2 * s - d ↔ k ∣ d := by
  constructor
  · intro h
    have := Int.dvd_sub (Int.dvd_mul_of_dvd_right (b := 2) hs) h
    rwa [show 2 * s - (2 * s - d) = d by omega] at this
  · intro h
    exact Int.dvd_sub (Int.dvd_mul_of_dvd_right hs) h
end Go.Proofs.Ytnaginnhccldhaa.Q

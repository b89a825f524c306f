/- For each prime number up to 2000: where the descent to four squares begins. Told by the kernel's own reckoning. -/
namespace Go.Proofs.Ytkchoccicpbbfaa.FourComp

/-- is there no divisor d, d+1, .. of n whose square is at most n -/
def noDiv (n : Nat) : Nat → Nat → Bool
  | 0, _ => true
  | k + 1, d => bif Nat.blt n (d * d) then true else bif Nat.beq (n % d) 0 then false else noDiv n k (d + 1)

/-- is there b ≤ a (b + k = a + 1) -/
def findB (p a : Nat) : Nat → Nat → Bool
  | 0, _ => false
  | k + 1, b => bif Nat.beq ((a * a + b * b + 1) % p) 0 then true else findB p a k (b + 1)
def findA (p : Nat) : Nat → Nat → Bool
  | 0, _ => false
  | k + 1, a => bif Nat.blt p (2 * a) then false else bif findB p a (a + 1) 0 then true else findA p k (a + 1)

def okP (p : Nat) : Bool := bif noDiv p 50 2 then findA p 1001 0 else true
def allFrom (P : Nat → Bool) : Nat → Nat → Bool
  | 0, _ => true
  | k + 1, p => bif P p then allFrom P k (p + 1) else false

theorem all_2000 : allFrom okP 1999 2 = true := by decide +kernel

theorem noDiv_true (n : Nat) : ∀ k d, (∀ e, d ≤ e → e * e ≤ n → ¬ e ∣ n) → 1 ≤ d → noDiv n k d = true
  | 0, _, _, _ => rfl
  | k + 1, d, h, hd => by
    unfold noDiv
    cases h1 : Nat.blt n (d * d) with
    | true => rfl
    | false =>
      have hle : d * d ≤ n := by
        rw [← Nat.not_lt]
        intro hlt
        have : Nat.blt n (d * d) = true := Nat.ble_eq_true_of_le hlt
        rw [h1] at this
        cases this
      have hnd := h d (Nat.le_refl _) hle
      have h2 : Nat.beq (n % d) 0 = false := by
        rw [← Bool.not_eq_true]
        intro h2
        exact hnd (Nat.dvd_of_mod_eq_zero (Nat.eq_of_beq_eq_true h2))
      rw [h2]
      exact noDiv_true n k (d + 1) (fun e he => h e (by omega)) (by omega)
theorem findB_some (p a : Nat) : ∀ k b, findB p a k b = true → ∃ c, c < b + k ∧ (a * a + c * c + 1) % p = 0
  | 0, _, h => by simp [findB] at h
  | k + 1, b, h => by
    unfold findB at h
    cases h1 : Nat.beq ((a * a + b * b + 1) % p) 0 with
    | true => exact ⟨b, by omega, Nat.eq_of_beq_eq_true h1⟩
    | false =>
      rw [h1] at h
      obtain ⟨c, hc, h2⟩ := findB_some p a k (b + 1) h
      exact ⟨c, by omega, h2⟩
theorem findA_some (p : Nat) : ∀ k a, findA p k a = true → ∃ x y, 2 * x ≤ p ∧ y ≤ x ∧ (x * x + y * y + 1) % p = 0
  | 0, _, h => by simp [findA] at h
  | k + 1, a, h => by
    unfold findA at h
    cases h1 : Nat.blt p (2 * a) with
    | true => rw [h1] at h; cases h
    | false =>
      rw [h1] at h
      have hle : 2 * a ≤ p := by
        rw [← Nat.not_lt]
        intro hlt
        have : Nat.blt p (2 * a) = true := Nat.ble_eq_true_of_le hlt
        rw [h1] at this
        cases this
      cases h2 : findB p a (a + 1) 0 with
      | true =>
        obtain ⟨c, hc, h3⟩ := findB_some p a _ _ h2
        exact ⟨a, c, hle, by omega, h3⟩
      | false =>
        rw [h2] at h
        exact findA_some p k (a + 1) h
theorem allFrom_at (P : Nat → Bool) : ∀ k p q, allFrom P k p = true → p ≤ q → q < p + k → P q = true
  | 0, _, _, _, _, _ => by omega
  | k + 1, p, q, h, h1, h2 => by
    unfold allFrom at h
    cases h3 : P p with
    | false => rw [h3] at h; cases h
    | true =>
      rw [h3] at h
      by_cases e : q = p
      · subst e
        exact h3
      · exact allFrom_at P k (p + 1) q h (by omega) (by omega)
/-- For each prime number up to 2000 there are such numbers. -/
theorem start_exists (p : Nat) (h2 : 2 ≤ p) (h : p ≤ 2000) (hp : ∀ e, 2 ≤ e → e * e ≤ p → ¬ e ∣ p) : ∃ x y, 2 * x ≤ p ∧ y ≤ x ∧ (x * x + y * y + 1) % p = 0 :=
  findA_some p 1001 0 (by
    have h1 := allFrom_at okP 1999 2 p all_2000 h2 (by omega)
    have h3 := noDiv_true p 50 2 hp (by decide)
    have h4 : okP p = (bif noDiv p 50 2 then findA p 1001 0 else true) := by rw [okP]
    rw [h4, h3] at h1
    exact h1)
end Go.Proofs.Ytkchoccicpbbfaa.FourComp

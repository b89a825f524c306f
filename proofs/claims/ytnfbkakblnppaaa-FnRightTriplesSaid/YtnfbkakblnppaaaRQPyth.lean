/- Right triples are those of pairs: plain arithmetic. -/
namespace Go.Proofs.Ytnfbkakblnppaaa.Q
/-- A pair. -/
structure PairN (m n : Nat) : Prop where
  lt : n < m
  pos : 1 ≤ n
  odd : (m + n) % 2 = 1
  cop : Nat.Coprime m n
instance (m n : Nat) : Decidable (PairN m n) := decidable_of_iff (n < m ∧ 1 ≤ n ∧ (m + n) % 2 = 1 ∧ Nat.Coprime m n) ⟨fun ⟨a, b, c, d⟩ => ⟨a, b, c, d⟩, fun ⟨a, b, c, d⟩ => ⟨a, b, c, d⟩⟩
theorem cop_sub {m n : Nat} (h : n ≤ m) (hc : Nat.Coprime m n) : Nat.Coprime (m - n) n := by
  show Nat.gcd (m - n) n = 1
  rw [Nat.gcd_comm, Nat.gcd_sub_self_right h, Nat.gcd_comm]
  exact hc
theorem cop_add {m n : Nat} (hc : Nat.Coprime m n) : Nat.Coprime (m + n) n := by
  show Nat.gcd (m + n) n = 1
  rw [Nat.gcd_comm, Nat.gcd_add_self_right, Nat.gcd_comm]
  exact hc
theorem cop_odd_two {a : Nat} (h : a % 2 = 1) : Nat.Coprime a 2 := by
  show Nat.gcd a 2 = 1
  rw [Nat.gcd_comm, Nat.gcd_rec, h]
  rfl
theorem sq_sub {m n : Nat} (h : n ≤ m) : m * m - n * n = (m - n) * (m + n) := by
  obtain ⟨d, rfl⟩ := Nat.exists_eq_add_of_le h
  rw [Nat.add_sub_cancel_left]
  have : (n + d) * (n + d) = n * n + d * (n + d + n) := by grind
  omega
theorem PairN.sides {m n : Nat} (h : PairN m n) : (m * m - n * n) % 2 = 1 ∧ Nat.Coprime (m * m - n * n) (2 * m * n) := by
  have hl := h.lt
  have ho := h.odd
  have e := sq_sub (Nat.le_of_lt hl)
  have hodd : (m * m - n * n) % 2 = 1 := by
    rw [e, Nat.mul_mod, show (m - n) % 2 = 1 by omega, ho]
  refine ⟨hodd, ?_⟩
  have c1 : Nat.Coprime (m - n) n := cop_sub (Nat.le_of_lt hl) h.cop
  have c2 : Nat.Coprime (m + n) n := cop_add h.cop
  have c3 : Nat.Coprime (m - n) m := by
    have : Nat.gcd m (m - n) = Nat.gcd n (m - n) := by
      have h1 : m = (m - n) + n := by omega
      rw [Nat.gcd_comm m, Nat.gcd_comm n]
      conv => lhs; rw [h1]
      rw [Nat.add_sub_cancel]
      exact Nat.gcd_self_add_right _ _
    show Nat.gcd (m - n) m = 1
    rw [Nat.gcd_comm, this, Nat.gcd_comm]
    exact c1
  have c4 : Nat.Coprime (m + n) m := by
    show Nat.gcd (m + n) m = 1
    rw [Nat.gcd_comm, Nat.gcd_self_add_right]
    exact h.cop
  rw [e]
  have o1 : Nat.Coprime ((m - n) * (m + n)) 2 := by rw [← e]; exact cop_odd_two hodd
  exact Nat.Coprime.mul_right (Nat.Coprime.mul_right o1 (Nat.Coprime.mul_left c3 c4)) (Nat.Coprime.mul_left c1 c2)
theorem sq_of_cop {u v w : Nat} (hc : Nat.Coprime u v) (h : u * v = w * w) : u = Nat.gcd u w * Nat.gcd u w := by
  have h1 : Nat.gcd (u ^ 2) (w ^ 2) = Nat.gcd u w ^ 2 := Nat.pow_gcd_pow
  rw [Nat.pow_two, Nat.pow_two, Nat.pow_two, ← h, Nat.gcd_mul_left, hc, Nat.mul_one] at h1
  exact h1
/-- The pair of a right triple. -/
theorem pair_of {a b c : Nat} (ha : a % 2 = 1) (hb : b % 2 = 0) (hb0 : 1 ≤ b) (hc : Nat.Coprime a b) (h : a * a + b * b = c * c) :
    ∃ m n, PairN m n ∧ a = m * m - n * n ∧ b = 2 * m * n ∧ c = m * m + n * n ∧ (c + a) / 2 = m * m ∧ (c - a) / 2 = n * n := by
  have hco : c % 2 = 1 := by
    have h1 : (a * a + b * b) % 2 = 1 := by rw [Nat.add_mod, Nat.mul_mod, Nat.mul_mod b, ha, hb]
    rw [h, Nat.mul_mod] at h1
    rcases Nat.mod_two_eq_zero_or_one c with e | e
    · rw [e] at h1; simp at h1
    · exact e
  have hac : a < c := by
    apply Nat.lt_of_not_le
    intro hl
    have := Nat.mul_le_mul hl hl
    have : 1 ≤ b * b := Nat.mul_le_mul hb0 hb0
    omega
  obtain ⟨w, rfl⟩ : ∃ w, b = 2 * w := ⟨b / 2, by omega⟩
  obtain ⟨v, hv⟩ : ∃ v, c = a + 2 * v := ⟨(c - a) / 2, by omega⟩
  subst hv
  have huv : (a + v) * v = w * w := by grind
  have hcuv : Nat.Coprime (a + v) v := by
    have h2 : Nat.Coprime (a * a) (2 * w * (2 * w)) := Nat.Coprime.mul_left (Nat.Coprime.mul_right hc hc) (Nat.Coprime.mul_right hc hc)
    have e1 : 2 * w * (2 * w) = 4 * ((a + v) * v) := by rw [huv]; grind
    rw [e1] at h2
    have h3 : Nat.Coprime (a * a) v := Nat.Coprime.symm (Nat.Coprime.coprime_dvd_left ⟨4 * (a + v), by grind⟩ (Nat.Coprime.symm h2))
    have h4 : Nat.Coprime a v := Nat.Coprime.coprime_dvd_left ⟨a, rfl⟩ h3
    exact cop_add h4
  have hu := sq_of_cop hcuv huv
  have hvv := sq_of_cop (Nat.Coprime.symm hcuv) (by rw [Nat.mul_comm]; exact huv)
  generalize Nat.gcd (a + v) w = m at hu
  generalize Nat.gcd v w = n at hvv
  have hmn : m * n = w := by
    have h5 : (m * n) * (m * n) = w * w := by rw [← huv, hu, hvv]; grind
    exact Nat.mul_self_inj.1 h5
  have hn0 : 1 ≤ n := by
    rcases Nat.eq_zero_or_pos n with e | e
    · subst e; simp at hmn; omega
    · exact e
  have hlt : n < m := by
    apply Nat.lt_of_not_le
    intro hl
    have := Nat.mul_le_mul hl hl
    omega
  refine ⟨m, n, ⟨hlt, hn0, ?_, ?_⟩, by omega, by rw [Nat.mul_assoc, hmn], by omega, by omega, by omega⟩
  · have ho : (m * m + n * n) % 2 = 1 := by rw [← hu, ← hvv]; omega
    rw [Nat.add_mod, Nat.mul_mod, Nat.mul_mod n] at ho
    rcases Nat.mod_two_eq_zero_or_one m with e | e <;> rcases Nat.mod_two_eq_zero_or_one n with e' | e' <;> rw [e, e'] at ho <;> omega
  · have h6 : Nat.Coprime (m * m) (n * n) := by rw [← hu, ← hvv]; exact hcuv
    exact Nat.Coprime.coprime_dvd_left ⟨m, rfl⟩ (Nat.Coprime.symm (Nat.Coprime.coprime_dvd_left ⟨n, rfl⟩ (Nat.Coprime.symm h6)))
theorem PairN.pyth {m n : Nat} (h : n ≤ m) : (m * m - n * n) * (m * m - n * n) + (2 * m * n) * (2 * m * n) = (m * m + n * n) * (m * m + n * n) := by
  obtain ⟨d, rfl⟩ := Nat.exists_eq_add_of_le h
  have : (n + d) * (n + d) - n * n = d * (2 * n + d) := by
    have : (n + d) * (n + d) = n * n + d * (2 * n + d) := by grind
    omega
  rw [this]
  grind
/-- Children of a pair: the first tree (0, 1, 2), the second tree (3, 4, 5). -/
def kid : Nat → Nat → Nat → Nat × Nat
  | 0, m, n => (2 * m - n, m)
  | 1, m, n => (2 * m + n, m)
  | 2, m, n => (m + 2 * n, n)
  | 3, m, n => (m + n, 2 * n)
  | 4, m, n => (2 * m, m - n)
  | _, m, n => (2 * m, m + n)
theorem PairN.kid {m n : Nat} (h : PairN m n) (k : Nat) : PairN (kid k m n).1 (kid k m n).2 := by
  have hl := h.lt
  have hp := h.pos
  have ho := h.odd
  have hc := h.cop
  have hadd : Nat.Coprime (m + n) n := cop_add hc
  have haddm : Nat.Coprime (m + n) m := by
    show Nat.gcd (m + n) m = 1
    rw [Nat.gcd_comm, Nat.gcd_self_add_right]
    exact hc
  have hsub : Nat.Coprime (m - n) n := cop_sub (by omega) hc
  have hsubm : Nat.Coprime (m - n) m := by
    have h2 : Nat.Coprime (m - n) (m - n + n) := by
      show Nat.gcd (m - n) (m - n + n) = 1
      rw [Nat.gcd_self_add_right]
      exact hsub
    rwa [Nat.sub_add_cancel (by omega)] at h2
  match k with
  | 0 =>
    refine ⟨by show m < 2 * m - n; omega, by show 1 ≤ m; omega, by show (2 * m - n + m) % 2 = 1; omega, ?_⟩
    show Nat.Coprime (2 * m - n) m
    rw [show 2 * m - n = m + (m - n) by omega]
    show Nat.gcd (m + (m - n)) m = 1
    rw [Nat.gcd_comm, Nat.gcd_self_add_right, Nat.gcd_comm]
    exact hsubm
  | 1 =>
    refine ⟨by show m < 2 * m + n; omega, by show 1 ≤ m; omega, by show (2 * m + n + m) % 2 = 1; omega, ?_⟩
    show Nat.gcd (2 * m + n) m = 1
    rw [show 2 * m + n = m + (m + n) by omega, Nat.gcd_comm, Nat.gcd_self_add_right, Nat.gcd_comm]
    exact haddm
  | 2 =>
    refine ⟨by show n < m + 2 * n; omega, by show 1 ≤ n; omega, by show (m + 2 * n + n) % 2 = 1; omega, ?_⟩
    show Nat.gcd (m + 2 * n) n = 1
    rw [show m + 2 * n = (m + n) + n by omega, Nat.gcd_comm, Nat.gcd_add_self_right, Nat.gcd_comm]
    exact hadd
  | 3 =>
    refine ⟨by show 2 * n < m + n; omega, by show 1 ≤ 2 * n; omega, by show (m + n + 2 * n) % 2 = 1; omega, ?_⟩
    show Nat.Coprime (m + n) (2 * n)
    exact Nat.Coprime.mul_right (cop_odd_two (by omega)) hadd
  | 4 =>
    refine ⟨by show m - n < 2 * m; omega, by show 1 ≤ m - n; omega, by show (2 * m + (m - n)) % 2 = 1; omega, ?_⟩
    show Nat.Coprime (2 * m) (m - n)
    exact Nat.Coprime.symm (Nat.Coprime.mul_right (cop_odd_two (by omega)) hsubm)
  | n' + 5 =>
    refine ⟨by show m + n < 2 * m; omega, by show 1 ≤ m + n; omega, by show (2 * m + (m + n)) % 2 = 1; omega, ?_⟩
    show Nat.Coprime (2 * m) (m + n)
    exact Nat.Coprime.symm (Nat.Coprime.mul_right (cop_odd_two (by omega)) haddm)
theorem PairN.root {m n : Nat} (h : PairN m n) (e : m = 2 * n) : m = 2 ∧ n = 1 := by
  have hc := h.cop
  subst e
  have : Nat.gcd (2 * n) n = n := Nat.gcd_eq_right ⟨2, by omega⟩
  have h1 : n = 1 := this.symm.trans hc
  omega
theorem two_one : PairN 2 1 := by decide
/-- The parent in the first tree. -/
def upB (m n : Nat) : Nat × Nat × Nat := if m < 2 * n then (n, 2 * n - m, 0) else if m < 3 * n then (n, m - 2 * n, 1) else (m - 2 * n, n, 2)
/-- The parent in the second tree. -/
def upP (m n : Nat) : Nat × Nat × Nat := if n % 2 = 0 then (m - n / 2, n / 2, 0) else if 2 * n < m then (m / 2, m / 2 - n, 1) else (m / 2, n - m / 2, 2)
theorem upB_kid {m n : Nat} (h : PairN m n) : ∀ k, k ≤ 2 → upB (kid k m n).1 (kid k m n).2 = (m, n, k) ∧ (kid k m n).1 ≠ 2 * (kid k m n).2 := by
  have hl := h.lt
  have hp := h.pos
  intro k hk
  match k, hk with
  | 0, _ =>
    show upB (2 * m - n) m = (m, n, 0) ∧ 2 * m - n ≠ 2 * m
    refine ⟨?_, by omega⟩
    unfold upB
    rw [if_pos (by omega)]
    congr 2
    omega
  | 1, _ =>
    show upB (2 * m + n) m = (m, n, 1) ∧ 2 * m + n ≠ 2 * m
    refine ⟨?_, by omega⟩
    unfold upB
    rw [if_neg (by omega), if_pos (by omega)]
    congr 2
    omega
  | 2, _ =>
    show upB (m + 2 * n) n = (m, n, 2) ∧ m + 2 * n ≠ 2 * n
    refine ⟨?_, by omega⟩
    unfold upB
    rw [if_neg (by omega), if_neg (by omega)]
    congr 1
    omega
theorem upP_kid {m n : Nat} (h : PairN m n) : ∀ k, k ≤ 2 → upP (kid (k + 3) m n).1 (kid (k + 3) m n).2 = (m, n, k) ∧ (kid (k + 3) m n).1 ≠ 2 * (kid (k + 3) m n).2 := by
  have hl := h.lt
  have hp := h.pos
  have ho := h.odd
  intro k hk
  match k, hk with
  | 0, _ =>
    show upP (m + n) (2 * n) = (m, n, 0) ∧ m + n ≠ 2 * (2 * n)
    refine ⟨?_, by omega⟩
    unfold upP
    rw [if_pos (by omega)]
    congr 1
    · omega
    · congr 1; omega
  | 1, _ =>
    show upP (2 * m) (m - n) = (m, n, 1) ∧ 2 * m ≠ 2 * (m - n)
    refine ⟨?_, by omega⟩
    unfold upP
    rw [if_neg (by omega), if_pos (by omega)]
    congr 1
    · omega
    · congr 1; omega
  | 2, _ =>
    show upP (2 * m) (m + n) = (m, n, 2) ∧ 2 * m ≠ 2 * (m + n)
    refine ⟨?_, by omega⟩
    unfold upP
    rw [if_neg (by omega), if_neg (by omega)]
    congr 1
    · omega
    · congr 1; omega
theorem cop_of {p q m n : Nat} (h : Nat.Coprime m n) (f : ∀ d, d ∣ p → d ∣ q → d ∣ m ∧ d ∣ n) : Nat.Coprime p q := by
  have h1 := f (Nat.gcd p q) (Nat.gcd_dvd_left p q) (Nat.gcd_dvd_right p q)
  have h2 := Nat.dvd_gcd h1.1 h1.2
  rw [show Nat.gcd m n = 1 from h] at h2
  exact Nat.dvd_one.1 h2
/-- What is behind a step up. -/
def Ups (m n : Nat) (o : Nat) (u : Nat × Nat × Nat) : Prop := u.2.2 ≤ 2 ∧ PairN u.1 u.2.1 ∧ kid (u.2.2 + o) u.1 u.2.1 = (m, n) ∧ u.1 < m
theorem upB_spec {m n : Nat} (h : PairN m n) (h2 : m ≠ 2 * n) : Ups m n 0 (upB m n) := by
  have hl := h.lt
  have hp := h.pos
  have ho := h.odd
  have hc := h.cop
  unfold upB
  split
  · refine ⟨by show 0 ≤ 2; omega, ⟨by show 2 * n - m < n; omega, by show 1 ≤ 2 * n - m; omega, by show (n + (2 * n - m)) % 2 = 1; omega, ?_⟩, ?_, hl⟩
    · refine cop_of hc (fun d h1 h2 => ?_)
      have h1 : d ∣ n := h1
      have h2 : d ∣ 2 * n - m := h2
      have h3 : d ∣ (2 * n - m) + m := by rw [Nat.sub_add_cancel (by omega)]; exact Nat.dvd_trans h1 ⟨2, by omega⟩
      exact ⟨(Nat.dvd_add_right h2).1 h3, h1⟩
    · show (2 * n - (2 * n - m), n) = (m, n)
      congr 1
      omega
  · split
    · refine ⟨by show 1 ≤ 2; omega, ⟨by show m - 2 * n < n; omega, by show 1 ≤ m - 2 * n; omega, by show (n + (m - 2 * n)) % 2 = 1; omega, ?_⟩, ?_, hl⟩
      · refine cop_of hc (fun d h1 h2 => ?_)
        have h1 : d ∣ n := h1
        have h2 : d ∣ m - 2 * n := h2
        have h3 : d ∣ (m - 2 * n) + 2 * n := Nat.dvd_add h2 (Nat.dvd_trans h1 ⟨2, by omega⟩)
        rw [Nat.sub_add_cancel (by omega)] at h3
        exact ⟨h3, h1⟩
      · show (2 * n + (m - 2 * n), n) = (m, n)
        congr 1
        omega
    · have h4 : m ≠ 3 * n := by
        intro e
        subst e
        have : Nat.gcd (3 * n) n = n := Nat.gcd_eq_right ⟨3, by omega⟩
        have h1 : n = 1 := this.symm.trans hc
        omega
      refine ⟨by show 2 ≤ 2; omega, ⟨by show n < m - 2 * n; omega, hp, by show (m - 2 * n + n) % 2 = 1; omega, ?_⟩, ?_, by show m - 2 * n < m; omega⟩
      · refine cop_of hc (fun d h1 h2 => ?_)
        have h1 : d ∣ m - 2 * n := h1
        have h2 : d ∣ n := h2
        have h3 : d ∣ (m - 2 * n) + 2 * n := Nat.dvd_add h1 (Nat.dvd_trans h2 ⟨2, by omega⟩)
        rw [Nat.sub_add_cancel (by omega)] at h3
        exact ⟨h3, h2⟩
      · show (m - 2 * n + 2 * n, n) = (m, n)
        congr 1
        omega
theorem upP_spec {m n : Nat} (h : PairN m n) (h2 : m ≠ 2 * n) : Ups m n 3 (upP m n) := by
  have hl := h.lt
  have hp := h.pos
  have ho := h.odd
  have hc := h.cop
  unfold upP
  split
  · rename_i hn
    obtain ⟨a, rfl⟩ : ∃ a, n = 2 * a := ⟨n / 2, by omega⟩
    rw [Nat.mul_div_cancel_left a (by omega)]
    refine ⟨by show 0 ≤ 2; omega, ⟨by show a < m - a; omega, by show 1 ≤ a; omega, by show (m - a + a) % 2 = 1; omega, ?_⟩, ?_, by show m - a < m; omega⟩
    · refine cop_of hc (fun d h1 h2 => ?_)
      have h1 : d ∣ m - a := h1
      have h2 : d ∣ a := h2
      have h3 : d ∣ (m - a) + a := Nat.dvd_add h1 h2
      rw [Nat.sub_add_cancel (by omega)] at h3
      exact ⟨h3, Nat.dvd_trans h2 ⟨2, by omega⟩⟩
    · show (m - a + a, 2 * a) = (m, 2 * a)
      congr 1
      omega
  · rename_i hn
    obtain ⟨a, rfl⟩ : ∃ a, m = 2 * a := ⟨m / 2, by omega⟩
    rw [Nat.mul_div_cancel_left a (by omega)]
    split
    · refine ⟨by show 1 ≤ 2; omega, ⟨by show a - n < a; omega, by show 1 ≤ a - n; omega, by show (a + (a - n)) % 2 = 1; omega, ?_⟩, ?_, by show a < 2 * a; omega⟩
      · refine cop_of hc (fun d h1 h2 => ?_)
        have h1 : d ∣ a := h1
        have h2 : d ∣ a - n := h2
        have h3 : d ∣ (a - n) + n := by rw [Nat.sub_add_cancel (by omega)]; exact h1
        exact ⟨Nat.dvd_trans h1 ⟨2, by omega⟩, (Nat.dvd_add_right h2).1 h3⟩
      · show (2 * a, a - (a - n)) = (2 * a, n)
        congr 1
        omega
    · refine ⟨by show 2 ≤ 2; omega, ⟨by show n - a < a; omega, by show 1 ≤ n - a; omega, by show (a + (n - a)) % 2 = 1; omega, ?_⟩, ?_, by show a < 2 * a; omega⟩
      · refine cop_of hc (fun d h1 h2 => ?_)
        have h1 : d ∣ a := h1
        have h2 : d ∣ n - a := h2
        have h3 : d ∣ (n - a) + a := Nat.dvd_add h2 h1
        rw [Nat.sub_add_cancel (by omega)] at h3
        exact ⟨Nat.dvd_trans h1 ⟨2, by omega⟩, h3⟩
      · show (2 * a, a + (n - a)) = (2 * a, n)
        congr 1
        omega
end Go.Proofs.Ytnfbkakblnppaaa.Q

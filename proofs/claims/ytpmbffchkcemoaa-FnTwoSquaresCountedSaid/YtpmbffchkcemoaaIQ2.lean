/- Several parts in one text: How many signed pairs have a sum of two squares, for all numbers below 65536 at once: as many as the divisors tell. The numbers of pairs and of divisors are the digits of great numbers, and these are told equal by the kernel's own reckoning. The signs of all divisors: their sum is not 0 unless a prime number that leaves 3 by 4 divides an odd number of times. The signed pairs of a number are counted by its divisors: what both programs sum up. -/
import Derived.Test.YtpmbffchkcemoaaIQ1
namespace Go.Proofs.Ytpmbffchkcemoaa.Theta
/-- the sum of the first numbers -/
def su (f : Nat → Nat) : Nat → Nat
 | 0 => 0
 | n + 1 => su f n + f n
theorem su_congr {f g : Nat → Nat} : ∀ n, (∀ i, i < n → f i = g i) → su f n = su g n
 | 0, _ => rfl
 | n + 1, h => by rw [su, su, su_congr n (fun i hi => h i (by omega)), h n (by omega)]
theorem su_zero {f : Nat → Nat} : ∀ n, (∀ i, i < n → f i = 0) → su f n = 0
 | 0, _ => rfl
 | n + 1, h => by rw [su, su_zero n (fun i hi => h i (by omega)), h n (by omega)]
theorem su_add (f g : Nat → Nat) : ∀ n, su (fun i => f i + g i) n = su f n + su g n
 | 0 => rfl
 | n + 1 => by rw [su, su, su, su_add f g n]; omega
theorem su_mul (c : Nat) (f : Nat → Nat) : ∀ n, su (fun i => c * f i) n = c * su f n
 | 0 => rfl
 | n + 1 => by rw [su, su, su_mul c f n, Nat.mul_add]
theorem su_mulr (c : Nat) (f : Nat → Nat) (n : Nat) : su (fun i => f i * c) n = su f n * c := by
 rw [Nat.mul_comm _ c, ← su_mul]
 exact su_congr n (fun i _ => Nat.mul_comm _ _)
theorem su_le {f : Nat → Nat} {c : Nat} : ∀ n, (∀ i, i < n → f i ≤ c) → su f n ≤ n * c
 | 0, _ => by simp [su]
 | n + 1, h => by
  have h1 := su_le n (fun i hi => h i (by omega))
  have h2 := h n (by omega)
  rw [su, Nat.succ_mul]
  omega
theorem su_swap (f : Nat → Nat → Nat) (m : Nat) : ∀ n, su (fun i => su (fun j => f i j) m) n = su (fun j => su (fun i => f i j) n) m
 | 0 => (su_zero m (fun _ _ => rfl)).symm
 | n + 1 => by
  rw [su, su_swap f m n, ← su_add]
  exact su_congr m (fun _ _ => rfl)
theorem su_split (f : Nat → Nat) (m : Nat) : ∀ n, su f (m + n) = su f m + su (fun i => f (m + i)) n
 | 0 => rfl
 | n + 1 => by rw [← Nat.add_assoc, su, su, su_split f m n]; omega
/-- one place alone -/
theorem su_one {f : Nat → Nat} {k : Nat} : ∀ n, (∀ i, i < n → i ≠ k → f i = 0) → su f n = if k < n then f k else 0
 | 0, _ => by rw [if_neg (by omega)]; rfl
 | n + 1, h => by
  rw [su, su_one n (fun i hi hk => h i (by omega) hk)]
  by_cases e : n = k
  ·
   subst e
   rw [if_neg (by omega), if_pos (by omega), Nat.zero_add]
  ·
   rw [h n (by omega) e, Nat.add_zero]
   by_cases e2 : k < n
   ·
    rw [if_pos e2, if_pos (by omega)]
   ·
    rw [if_neg e2, if_neg (by omega)]

/-- B to a power: numbers are written to the base B = 2 ^ 20 -/
def pB (e : Nat) : Nat := 2 ^ (20 * e)
theorem pB_add (a b : Nat) : pB (a + b) = pB a * pB b := by unfold pB; rw [Nat.mul_add, Nat.pow_add]
theorem pB_pos (a : Nat) : 1 ≤ pB a := Nat.pow_pos (by omega)
theorem pB_one : pB 1 = 1048576 := by decide
theorem pB_succ (a : Nat) : pB (a + 1) = pB a * 1048576 := by rw [pB_add, pB_one]
/-- the number with digits -/
def ev (f : Nat → Nat) (n : Nat) : Nat := su (fun i => f i * pB i) n
theorem ev_lt {f : Nat → Nat} : ∀ n, (∀ i, i < n → f i < 1048576) → ev f n < pB n
 | 0, _ => by show 0 < 2 ^ (20 * 0); decide
 | n + 1, h => by
  have h1 := ev_lt n (fun i hi => h i (by omega))
  have h2 := h n (by omega)
  have h3 : (f n + 1) * pB n ≤ 1048576 * pB n := Nat.mul_le_mul_right _ h2
  rw [Nat.succ_mul] at h3
  rw [pB_succ]
  show ev f n + f n * pB n < _
  rw [Nat.mul_comm (pB n)]
  omega
theorem ev_inj {f g : Nat → Nat} : ∀ n, (∀ i, i < n → f i < 1048576) → (∀ i, i < n → g i < 1048576) → ev f n = ev g n → ∀ i, i < n → f i = g i
 | 0, _, _, _, i, hi => by omega
 | n + 1, hf, hg, h, i, hi => by
  have a1 := ev_lt n (fun i hi => hf i (by omega))
  have a2 := ev_lt n (fun i hi => hg i (by omega))
  have h : ev f n + f n * pB n = ev g n + g n * pB n := h
  have e1 : (ev f n + f n * pB n) % pB n = ev f n := by rw [Nat.add_mul_mod_self_right, Nat.mod_eq_of_lt a1]
  have e2 : (ev g n + g n * pB n) % pB n = ev g n := by rw [Nat.add_mul_mod_self_right, Nat.mod_eq_of_lt a2]
  have e3 : ev f n = ev g n := by rw [← e1, ← e2, h]
  have e4 : f n * pB n = g n * pB n := by omega
  have e5 : f n = g n := Nat.eq_of_mul_eq_mul_right (pB_pos n) e4
  by_cases q : i = n
  ·
   subst q; exact e5
  ·
   exact ev_inj n (fun i hi => hf i (by omega)) (fun i hi => hg i (by omega)) e3 i (by omega)
theorem ev_mod {f : Nat → Nat} (n m : Nat) (h : ∀ i, i < n → f i < 1048576) : ev f (n + m) % pB n = ev f n := by
 unfold ev
 rw [su_split]
 have e : su (fun i => f (n + i) * pB (n + i)) m = pB n * su (fun i => f (n + i) * pB i) m := by
  rw [← su_mul]
  refine su_congr m (fun i _ => ?_)
  rw [pB_add]
  exact Nat.mul_left_comm _ _ _
 rw [e, Nat.add_mul_mod_self_left]
 exact Nat.mod_eq_of_lt (ev_lt n h)
/-- a digit 1 at one place -/
theorem ev_ind (k n : Nat) : ev (fun i => if k = i then 1 else 0) n = if k < n then pB k else 0 := by
 unfold ev
 rw [su_one (k := k) n (fun i _ h => by show (if k = i then 1 else 0) * pB i = 0; rw [if_neg (fun e => h e.symm), Nat.zero_mul])]
 simp
theorem ev_su (f : Nat → Nat → Nat) (m n : Nat) : ev (fun i => su (fun a => f a i) m) n = su (fun a => ev (f a) n) m := by
 unfold ev
 rw [su_swap (fun a i => f a i * pB i) n m]
 refine su_congr n (fun i _ => ?_)
 exact (su_mulr _ _ _).symm
theorem ev_mul (c : Nat) (f : Nat → Nat) (n : Nat) : ev (fun i => c * f i) n = c * ev f n := by
 unfold ev
 rw [← su_mul]
 exact su_congr n (fun i _ => Nat.mul_assoc _ _ _)
theorem ev_add (f g : Nat → Nat) (n : Nat) : ev (fun i => f i + g i) n = ev f n + ev g n := by
 unfold ev
 rw [← su_add]
 exact su_congr n (fun i _ => Nat.add_mul _ _ _)

/-! ### two squares -/
def wt (a : Nat) : Nat := bif Nat.beq a 0 then 1 else 2
theorem wt_le (a : Nat) : wt a ≤ 2 := by unfold wt; cases Nat.beq a 0 <;> decide
/-- in how many ways a number is a sum of the squares of two signed numbers that are less than 256 -/
def rep (n : Nat) : Nat := su (fun a => su (fun b => wt a * wt b * (if a * a + b * b = n then 1 else 0)) 256) 256
def theta : Nat := su (fun a => wt a * pB (a * a)) 256
theorem rep_lt (n : Nat) : rep n ≤ 262144 := by
 refine su_le (c := 1024) 256 (fun a _ => ?_)
 refine su_le (c := 4) 256 (fun b _ => ?_)
 have h1 : wt a * wt b ≤ 2 * 2 := Nat.mul_le_mul (wt_le a) (wt_le b)
 split <;> omega
theorem rep_ev : ev rep 131072 = theta * theta := by
 unfold rep
 rw [ev_su]
 unfold theta
 rw [← su_mulr]
 refine su_congr 256 (fun a ha => ?_)
 rw [ev_su, ← su_mul]
 refine su_congr 256 (fun b hb => ?_)
 rw [ev_mul, ev_ind]
 have h1 : a * a ≤ 255 * 255 := Nat.mul_le_mul (by omega) (by omega)
 have h2 : b * b ≤ 255 * 255 := Nat.mul_le_mul (by omega) (by omega)
 rw [if_pos (by omega), pB_add]
 rw [Nat.mul_assoc, Nat.mul_assoc, Nat.mul_left_comm (wt b)]
theorem rep_ev2 : ev rep 65536 = (theta * theta) % pB 65536 := by
 rw [← rep_ev, show (131072 : Nat) = 65536 + 65536 from rfl, ev_mod _ _ (fun i _ => by have := rep_lt i; omega)]

/-! ### divisors -/
/-- how many divisors leave c by 4 -/
def dc (c n : Nat) : Nat := su (fun d => su (fun k => if d % 4 = c ∧ 1 ≤ k ∧ d * k = n then 1 else 0) 65536) 65536
/-- the sum of so many powers from one on, by steps -/
def geo (s q m : Nat) : Nat := pB s * ((pB (q * m) - 1) / (pB q - 1))
theorem geo_eq (s q : Nat) (hq : 1 ≤ q) (m : Nat) : su (fun j => pB (s + q * j)) m = geo s q m := by
 have hX : 2 ≤ pB q := by
  have : pB 1 ≤ pB q := Nat.pow_le_pow_right (by omega) (by omega)
  rw [pB_one] at this
  omega
 have key : su (fun j => pB (q * j)) m * (pB q - 1) + 1 = pB (q * m) := by
  induction m with
  | zero => simp [su, pB]
  | succ m ih =>
   have e : q * (m + 1) = q * m + q := rfl
   rw [su, e, pB_add, Nat.add_mul]
   generalize su (fun j => pB (q * j)) m = S at ih ⊢
   obtain ⟨x, hx⟩ : ∃ x, pB q = x + 1 := ⟨pB q - 1, by omega⟩
   rw [hx, Nat.add_sub_cancel] at ih ⊢
   rw [← ih, Nat.mul_succ]
   omega
 have e1 : su (fun j => pB (s + q * j)) m = pB s * su (fun j => pB (q * j)) m := by
  rw [← su_mul]
  exact su_congr m (fun j _ => pB_add _ _)
 rw [e1]
 unfold geo
 congr 1
 refine (Nat.div_eq_of_eq_mul_left (by omega) ?_).symm
 omega
/-- the divisors below 256, with all their multiples -/
def low (c : Nat) : Nat := su (fun d => bif Nat.beq (d % 4) c then geo d d (65535 / d) else 0) 256
/-- the quotients below 256, with all divisors from 256 on -/
def high (c : Nat) : Nat := su (fun k => bif Nat.beq k 0 then 0 else geo (k * (256 + c)) (4 * k) ((65535 / k + 4 - (256 + c)) / 4)) 256
theorem su_four (f : Nat → Nat) {c : Nat} (hc : c < 4) : ∀ m, su (fun i => if i % 4 = c then f i else 0) (4 * m) = su (fun j => f (c + 4 * j)) m
 | 0 => rfl
 | m + 1 => by
  rw [show 4 * (m + 1) = 4 * m + 1 + 1 + 1 + 1 from by omega, su, su, su, su, su, su_four f hc m]
  have h : c = 0 ∨ c = 1 ∨ c = 2 ∨ c = 3 := by omega
  rcases h with rfl | rfl | rfl | rfl
  ·
   rw [if_pos (by omega), if_neg (by omega), if_neg (by omega), if_neg (by omega), Nat.zero_add]; rfl
  ·
   rw [if_neg (by omega), if_pos (by omega), if_neg (by omega), if_neg (by omega), show 4 * m + 1 = 1 + 4 * m from by omega]; rfl
  ·
   rw [if_neg (by omega), if_neg (by omega), if_pos (by omega), if_neg (by omega), show 4 * m + 1 + 1 = 2 + 4 * m from by omega]; rfl
  ·
   rw [if_neg (by omega), if_neg (by omega), if_neg (by omega), if_pos (by omega), show 4 * m + 1 + 1 + 1 = 3 + 4 * m from by omega]; rfl
/-- so many of the first numbers -/
theorem su_first (f : Nat → Nat) {m n : Nat} (h : m ≤ n) : su (fun i => if i < m then f i else 0) n = su f m := by
 obtain ⟨k, rfl⟩ : ∃ k, n = m + k := ⟨n - m, by omega⟩
 rw [su_split, su_zero k (fun i _ => by show (if m + i < m then _ else _) = 0; rw [if_neg (by omega)]), Nat.add_zero]
 exact su_congr m (fun i hi => by show (if i < m then _ else _) = _; rw [if_pos hi])
def G (c d k : Nat) : Nat := if d % 4 = c ∧ 1 ≤ k ∧ d * k < 65536 then pB (d * k) else 0
theorem dc_ev (c : Nat) : ev (dc c) 65536 = su (fun d => su (fun k => G c d k) 65536) 65536 := by
 unfold dc
 rw [ev_su]
 refine su_congr _ (fun d _ => ?_)
 rw [ev_su]
 refine su_congr _ (fun k _ => ?_)
 unfold G
 by_cases h : d % 4 = c ∧ 1 ≤ k
 ·
  have e : ∀ i, (if d % 4 = c ∧ 1 ≤ k ∧ d * k = i then 1 else 0) = (if d * k = i then 1 else 0) := by
   intro i
   by_cases q : d * k = i
   ·
    rw [if_pos q, if_pos ⟨h.1, h.2, q⟩]
   ·
    rw [if_neg q, if_neg (fun x => q x.2.2)]
  simp only [e]
  rw [ev_ind]
  by_cases q : d * k < 65536
  ·
   rw [if_pos q, if_pos ⟨h.1, h.2, q⟩]
  ·
   rw [if_neg q, if_neg (fun x => q x.2.2)]
 ·
  rw [if_neg (fun x => h ⟨x.1, x.2.1⟩)]
  unfold ev
  exact su_zero _ (fun i _ => by
   show (if d % 4 = c ∧ 1 ≤ k ∧ d * k = i then 1 else 0) * _ = 0
   rw [if_neg (fun x => h ⟨x.1, x.2.1⟩), Nat.zero_mul])
theorem low_eq {c : Nat} (hc : 1 ≤ c) : su (fun d => su (fun k => G c d k) 65536) 256 = low c := by
 unfold low
 refine su_congr 256 (fun d hd => ?_)
 by_cases h : d % 4 = c
 ·
  rw [show Nat.beq (d % 4) c = true from by rw [h]; exact Nat.beq_refl c]
  show _ = geo d d (65535 / d)
  have hd1 : 1 ≤ d := by omega
  rw [← geo_eq d d hd1, show (65536 : Nat) = 1 + 65535 from rfl, su_split]
  have e0 : su (fun k => G c d k) 1 = 0 := by
   show 0 + G c d 0 = 0
   unfold G
   rw [if_neg (by omega)]
  have hle : 65535 / d ≤ 65535 := Nat.div_le_self _ _
  rw [e0, Nat.zero_add, ← su_first (fun j => pB (d + d * j)) hle]
  refine su_congr _ (fun j _ => ?_)
  unfold G
  have k1 : j < 65535 / d ↔ d * (1 + j) < 65536 := by
   have := Nat.le_div_iff_mul_le (k := d) (x := j + 1) (y := 65535) (by omega)
   rw [Nat.mul_comm, Nat.add_comm] at this
   omega
  by_cases q : j < 65535 / d
  ·
   rw [if_pos q, if_pos ⟨h, by omega, k1.1 q⟩, Nat.mul_add, Nat.mul_one]
  ·
   rw [if_neg q, if_neg (fun x => q (k1.2 x.2.2))]
 ·
  have hb : Nat.beq (d % 4) c = false := by
   cases e : Nat.beq (d % 4) c with
   | false => rfl
   | true => exact absurd (Nat.eq_of_beq_eq_true e) h
  rw [hb]
  show _ = 0
  refine su_zero _ (fun k _ => ?_)
  unfold G
  rw [if_neg (fun x => h x.1)]
theorem high_eq {c : Nat} (hc : c < 4) (hc1 : 1 ≤ c) : su (fun d => su (fun k => G c (256 + d) k) 65536) 65280 = high c := by
 rw [su_swap (fun d k => G c (256 + d) k) 65536 65280, show (65536 : Nat) = 256 + 65280 from rfl, su_split]
 have e0 : su (fun i => su (fun d => G c (256 + d) (256 + i)) 65280) 65280 = 0 := by
  refine su_zero _ (fun i _ => su_zero _ (fun d _ => ?_))
  unfold G
  have : 256 * 256 ≤ (256 + d) * (256 + i) := Nat.mul_le_mul (by omega) (by omega)
  rw [if_neg (by omega)]
 rw [e0, Nat.add_zero]
 unfold high
 refine su_congr 256 (fun k hk => ?_)
 by_cases hz : k = 0
 ·
  subst hz
  show _ = 0
  refine su_zero _ (fun d _ => ?_)
  unfold G
  rw [if_neg (by omega)]
 ·
  have hb : Nat.beq k 0 = false := by
   cases e : Nat.beq k 0 with
   | false => rfl
   | true => exact absurd (Nat.eq_of_beq_eq_true e) hz
  rw [hb]
  show _ = geo (k * (256 + c)) (4 * k) ((65535 / k + 4 - (256 + c)) / 4)
  have hle : 65535 / k ≤ 65535 := Nat.div_le_self _ _
  have hq : ∀ x, x * k < 65536 ↔ x ≤ 65535 / k := by
   intro x
   have := Nat.le_div_iff_mul_le (k := k) (x := x) (y := 65535) (by omega)
   omega
  rw [← geo_eq _ _ (by omega)]
  generalize 65535 / k = Q at hle hq ⊢
  have hM : (Q + 4 - (256 + c)) / 4 ≤ 16320 := by omega
  rw [← su_first _ hM]
  have e1 : su (fun d => G c (256 + d) k) 65280 = su (fun i => if i % 4 = c then (if (256 + i) * k < 65536 then pB ((256 + i) * k) else 0) else 0) (4 * 16320) := by
   refine su_congr _ (fun d _ => ?_)
   unfold G
   by_cases h1 : d % 4 = c
   ·
    rw [if_pos h1]
    by_cases h2 : (256 + d) * k < 65536
    ·
     rw [if_pos h2, if_pos ⟨by omega, by omega, h2⟩]
    ·
     rw [if_neg h2, if_neg (fun x => h2 x.2.2)]
   ·
    rw [if_neg h1, if_neg (by omega)]
  rw [e1, su_four _ hc]
  refine su_congr _ (fun j _ => ?_)
  have h3 := hq (256 + (c + 4 * j))
  have e2 : (256 + (c + 4 * j)) * k = k * (256 + c) + 4 * k * j := by
   rw [Nat.mul_comm, ← Nat.add_assoc, Nat.mul_add k (256 + c), Nat.mul_comm 4 k, Nat.mul_assoc]
  by_cases h2 : (256 + (c + 4 * j)) * k < 65536
  ·
   rw [if_pos h2, if_pos (by omega), e2]
  ·
   rw [if_neg h2, if_neg (by omega)]
theorem dc_low {c : Nat} (hc : c < 4) (hc1 : 1 ≤ c) : ev (dc c) 65536 = low c + high c := by
 rw [dc_ev, show su (fun d => su (fun k => G c d k) 65536) 65536 = su (fun d => su (fun k => G c d k) 65536) (256 + 65280) from rfl, su_split, low_eq hc1, high_eq hc hc1]
/-- at most one quotient to each divisor -/
theorem dc_le (c n : Nat) (h : 1 ≤ n) : dc c n ≤ 65536 := by
 refine su_le (c := 1) 65536 (fun d _ => ?_)
 by_cases hd : d = 0
 ·
  subst hd
  rw [su_zero _ (fun k _ => by rw [if_neg (by omega)])]
  omega
 ·
  rw [su_one (k := n / d) 65536 (fun k _ hk => by
   rw [if_neg]
   intro x
   apply hk
   rw [← x.2.2, Nat.mul_div_cancel_left k (by omega)])]
  split
  ·
   split <;> omega
  ·
   omega
theorem dc_zero (c : Nat) (hc : 1 ≤ c) : dc c 0 = 0 := by
 refine su_zero _ (fun d _ => su_zero _ (fun k _ => ?_))
 rw [if_neg]
 rintro ⟨h1, h2, h3⟩
 rcases Nat.mul_eq_zero.1 h3 with h | h
 ·
  subst h; omega
 ·
  omega
theorem check : (theta * theta) % pB 65536 + 4 * (low 3 + high 3) = 4 * (low 1 + high 1) + 1 := by decide +kernel
/-- For all numbers below 65536: the signed pairs, and the divisors. -/
theorem rep_div {n : Nat} (h1 : 1 ≤ n) (h2 : n < 65536) : rep n + 4 * dc 3 n = 4 * dc 1 n := by
 have hz : ¬ 0 = n := Nat.ne_of_lt h1
 have key : ev (fun i => rep i + 4 * dc 3 i) 65536 = ev (fun i => 4 * dc 1 i + (if 0 = i then 1 else 0)) 65536 := by
  rw [ev_add, ev_add, ev_mul, ev_mul, dc_low (by omega) (by omega), dc_low (by omega) (by omega), rep_ev2, ev_ind, if_pos (by omega), check, show pB 0 = 1 from by show 2 ^ (20 * 0) = 1; decide]
 have b : ∀ c, 1 ≤ c → ∀ i, dc c i ≤ 65536 := by
  intro c hc i
  by_cases h : i = 0
  ·
   rw [h, dc_zero c hc]
   omega
  ·
   exact dc_le c i (by omega)
 have p1 : ∀ i, i < 65536 → rep i + 4 * dc 3 i < 1048576 := fun i _ => by have := rep_lt i; have := b 3 (by omega) i; omega
 have p2 : ∀ i, i < 65536 → 4 * dc 1 i + (if 0 = i then 1 else 0) < 1048576 := fun i _ => by have := b 1 (by omega) i; split <;> omega
 generalize hN : (65536 : Nat) = N at key p1 p2 h2
 have h := ev_inj (f := fun i => rep i + 4 * dc 3 i) (g := fun i => 4 * dc 1 i + (if 0 = i then 1 else 0)) N p1 p2 key n h2
 have h : rep n + 4 * dc 3 n = 4 * dc 1 n + (if 0 = n then 1 else 0) := h
 exact h.trans ((congrArg (4 * dc 1 n + ·) (if_neg hz)).trans (Nat.add_zero _))
end Go.Proofs.Ytpmbffchkcemoaa.Theta
namespace Go.Proofs.Ytpmbffchkcemoaa.Ref
open Go.Proofs.Ytpmbffchkcemoaa.DivPair
set_option linter.unusedVariables false

theorem sumTo_scale' (c : Int) (g : Nat → Int) : ∀ k, sumTo (fun d => c * g d) k = c * sumTo g k
 | 0 => by show (0:Int) = c * 0; simp
 | k + 1 => by
  show sumTo (fun d => c * g d) k + c * g (k + 1) = c * (sumTo g k + g (k + 1))
  rw [sumTo_scale' c g k, Int.mul_add]
/-- The sign of a divisor: 1 or -1 as it leaves 1 or 3 by 4. -/
def cc (d : Nat) : Int := if d % 4 = 1 then 1 else if d % 4 = 3 then -1 else 0
theorem cc_mul (a b : Nat) : cc (a * b) = cc a * cc b := by
 have h : (a * b) % 4 = ((a % 4) * (b % 4)) % 4 := Nat.mul_mod a b 4
 unfold cc
 rw [h]
 have ha : a % 4 < 4 := Nat.mod_lt _ (by omega)
 have hb : b % 4 < 4 := Nat.mod_lt _ (by omega)
 generalize a % 4 = x at ha ⊢
 generalize b % 4 = y at hb ⊢
 have hx : x = 0 ∨ x = 1 ∨ x = 2 ∨ x = 3 := by omega
 have hy : y = 0 ∨ y = 1 ∨ y = 2 ∨ y = 3 := by omega
 rcases hx with rfl | rfl | rfl | rfl <;> rcases hy with rfl | rfl | rfl | rfl <;> decide
/-- The sum of the signs of all divisors. -/
def sg (n : Nat) : Int := sumTo (fun d => if d ∣ n then cc d else 0) n
theorem sumTo_more (g : Nat → Int) (n : Nat) : ∀ k, (∀ d, n < d → g d = 0) → sumTo g (n + k) = sumTo g n
 | 0, _ => rfl
 | k + 1, h => by
  show sumTo g (n + k) + g (n + k + 1) = _
  rw [sumTo_more g n k h, h _ (by omega), Int.add_zero]
theorem sg_up {n m : Nat} (hn : 1 ≤ n) (h : n ≤ m) : sumTo (fun d => if d ∣ n then cc d else 0) m = sg n := by
 obtain ⟨k, rfl⟩ : ∃ k, m = n + k := ⟨m - n, by omega⟩
 exact sumTo_more _ n k (fun d hd => if_neg (fun q => by have := Nat.le_of_dvd hn q; omega))
/-- The multiples alone. -/
theorem sumTo_mult (F : Nat → Int) {q : Nat} (hq : 1 ≤ q) : ∀ M, sumTo (fun d => if q ∣ d then F d else 0) (q * M) = sumTo (fun e => F (q * e)) M
 | 0 => rfl
 | M + 1 => by
  have h1 := sumTo_gap (fun d => if q ∣ d then F d else 0) (q * M) (q * (M + 1)) (Nat.mul_le_mul_left q (by omega)) (fun d h2 h3 => if_neg (fun ⟨c, hc⟩ => by
   subst hc
   have h4 := Nat.lt_of_mul_lt_mul_left h2
   have h5 := Nat.lt_of_mul_lt_mul_left h3
   omega))
  have hlt : q * M < q * (M + 1) := by rw [Nat.mul_add]; omega
  rw [h1, sumTo_mult F hq M, if_pos hlt]
  show _ + (if q ∣ q * (M + 1) then F (q * (M + 1)) else 0) = sumTo (fun e => F (q * e)) M + F (q * (M + 1))
  rw [if_pos (Nat.dvd_mul_right _ _)]
def Pr (p : Nat) : Prop := 2 ≤ p ∧ ∀ d, d ∣ p → d = 1 ∨ d = p
theorem Pr_cop {p m : Nat} (hp : Pr p) (h : ¬ p ∣ m) : Nat.Coprime p m := by
 rcases hp.2 (Nat.gcd p m) (Nat.gcd_dvd_left p m) with e | e
 ·
  exact e
 ·
  exact absurd (e ▸ Nat.gcd_dvd_right p m) h
theorem Pr_mul {p x y : Nat} (hp : Pr p) (h : p ∣ x * y) : p ∣ x ∨ p ∣ y := by
 by_cases q : p ∣ x
 ·
  exact Or.inl q
 ·
  exact Or.inr (Nat.Coprime.dvd_of_dvd_mul_left (Pr_cop hp q) h)
theorem Pr_pow {p q : Nat} (hp : Pr p) : ∀ t, p ∣ q ^ t → p ∣ q
 | 0, h => by
  have h1 : p ∣ 1 := h
  have := Nat.le_of_dvd (by omega) h1
  have := hp.1
  omega
 | t + 1, h => by
  rw [Nat.pow_succ] at h
  rcases Pr_mul hp h with h | h
  ·
   exact Pr_pow hp t h
  ·
   exact h
/-- A number is a power of p times a number that p does not divide. -/
theorem split_pow {p : Nat} (hp : 2 ≤ p) : ∀ (b d : Nat), d ≤ b → 1 ≤ d → ∃ j e, d = p ^ j * e ∧ ¬ p ∣ e
 | 0, d, h1, h2 => by omega
 | b + 1, d, h1, h2 => by
  by_cases h : p ∣ d
  ·
   obtain ⟨c, rfl⟩ := h
   have hc : 1 ≤ c := by
    rcases Nat.eq_zero_or_pos c with e | e
    ·
     subst e; simp at h2
    ·
     exact e
   have : 2 * c ≤ p * c := Nat.mul_le_mul_right c hp
   obtain ⟨j, e, rfl, he⟩ := split_pow hp b c (by omega) hc
   exact ⟨j + 1, e, by rw [Nat.pow_succ, Nat.mul_comm (p ^ j) p, Nat.mul_assoc], he⟩
  ·
   exact ⟨0, d, by simp, h⟩
theorem new_div {p m : Nat} (hp : Pr p) (hm : 1 ≤ m) (hpm : ¬ p ∣ m) (k d : Nat) : (d ∣ p ^ (k + 1) * m ∧ ¬ d ∣ p ^ k * m) ↔ ∃ e, e ∣ m ∧ d = p ^ (k + 1) * e := by
 have hp0 := hp.1
 constructor
 ·
  rintro ⟨h1, h2⟩
  have hd : 1 ≤ d := by
   rcases Nat.eq_zero_or_pos d with e | e
   ·
    subst e
    rw [Nat.zero_dvd] at h1
    have : 1 ≤ p ^ (k + 1) * m := Nat.mul_pos (Nat.pow_pos (by omega)) hm
    omega
   ·
    exact e
  obtain ⟨j, e, rfl, he⟩ := split_pow hp0 d d (Nat.le_refl _) hd
  have c1 : Nat.Coprime e (p ^ (k + 1)) := ((Pr_cop hp he).pow_left (k + 1)).symm
  have e1 : e ∣ m := Nat.Coprime.dvd_of_dvd_mul_left c1 (Nat.dvd_trans (Nat.dvd_mul_left e _) h1)
  have hj : j ≤ k + 1 := by
   rcases Nat.lt_or_ge (k + 1) j with q | q
   ·
    exfalso
    have h3 : p ^ (k + 1) * p ∣ p ^ (k + 1) * m := by
     rw [← Nat.pow_succ]
     exact Nat.dvd_trans (Nat.dvd_trans (Nat.pow_dvd_pow p q) (Nat.dvd_mul_right _ e)) h1
    exact hpm (Nat.dvd_of_mul_dvd_mul_left (Nat.pow_pos (by omega)) h3)
   ·
    exact q
  by_cases q : j = k + 1
  ·
   subst q
   exact ⟨e, e1, rfl⟩
  ·
   exact absurd (Nat.mul_dvd_mul (Nat.pow_dvd_pow p (show j ≤ k by omega)) e1) h2
 ·
  rintro ⟨e, he, rfl⟩
  refine ⟨Nat.mul_dvd_mul_left _ he, fun h => hpm ?_⟩
  rw [Nat.pow_succ, Nat.mul_assoc] at h
  have h3 := Nat.dvd_of_mul_dvd_mul_left (Nat.pow_pos (by omega)) h
  exact Nat.dvd_trans (Nat.dvd_mul_right p e) h3
/-- The sum for powers of p. -/
def tp (p : Nat) : Nat → Int
 | 0 => 1
 | k + 1 => tp p k + cc (p ^ (k + 1))
theorem sg_pow {p m : Nat} (hp : Pr p) (hm : 1 ≤ m) (hpm : ¬ p ∣ m) : ∀ k, sg (p ^ k * m) = tp p k * sg m
 | 0 => by
  show sg (p ^ 0 * m) = 1 * sg m
  rw [Nat.pow_zero, Nat.one_mul, Int.one_mul]
 | k + 1 => by
  have hp0 := hp.1
  have hpos : ∀ j, 1 ≤ p ^ j * m := fun j => Nat.mul_pos (Nat.pow_pos (by omega)) hm
  have hle : p ^ k * m ≤ p ^ (k + 1) * m := Nat.mul_le_mul_right m (Nat.pow_le_pow_right (by omega) (by omega))
  have e1 : sg (p ^ (k + 1) * m) = sg (p ^ k * m) + sumTo (fun d => if p ^ (k + 1) ∣ d then (if d / p ^ (k + 1) ∣ m then cc d else 0) else 0) (p ^ (k + 1) * m) := by
   rw [← sg_up (hpos k) hle, ← sumTo_add]
   refine sumTo_congr _ (fun d _ _ => ?_)
   have hn := new_div hp hm hpm k d
   have hP : 1 ≤ p ^ (k + 1) := Nat.pow_pos (by omega)
   by_cases h1 : d ∣ p ^ k * m
   ·
    have h2 : d ∣ p ^ (k + 1) * m := by
     rw [Nat.pow_succ, Nat.mul_comm (p ^ k) p, Nat.mul_assoc]
     exact Nat.dvd_trans h1 (Nat.dvd_mul_left _ p)
    rw [if_pos h1, if_pos h2]
    have h3 : (if p ^ (k + 1) ∣ d then (if d / p ^ (k + 1) ∣ m then cc d else 0) else 0) = 0 := by
     by_cases q : p ^ (k + 1) ∣ d
     ·
      rw [if_pos q]
      by_cases q2 : d / p ^ (k + 1) ∣ m
      ·
       exact absurd h1 (hn.2 ⟨_, q2, (Nat.mul_div_cancel' q).symm⟩).2
      ·
       rw [if_neg q2]
     ·
      rw [if_neg q]
    rw [h3, Int.add_zero]
   ·
    rw [if_neg h1, Int.zero_add]
    by_cases h2 : d ∣ p ^ (k + 1) * m
    ·
     obtain ⟨e, he, rfl⟩ := hn.1 ⟨h2, h1⟩
     rw [if_pos h2, if_pos (Nat.dvd_mul_right _ _), Nat.mul_div_cancel_left e hP, if_pos he]
    ·
     rw [if_neg h2]
     by_cases q : p ^ (k + 1) ∣ d
     ·
      rw [if_pos q]
      by_cases q2 : d / p ^ (k + 1) ∣ m
      ·
       exact absurd (hn.2 ⟨_, q2, (Nat.mul_div_cancel' q).symm⟩).1 h2
      ·
       rw [if_neg q2]
     ·
      rw [if_neg q]
  have hP : 1 ≤ p ^ (k + 1) := Nat.pow_pos (by omega)
  rw [e1, sg_pow hp hm hpm k, sumTo_mult (fun d => if d / p ^ (k + 1) ∣ m then cc d else 0) hP]
  have e2 : sumTo (fun e => if p ^ (k + 1) * e / p ^ (k + 1) ∣ m then cc (p ^ (k + 1) * e) else 0) m = cc (p ^ (k + 1)) * sg m := by
   unfold sg
   rw [← sumTo_scale']
   refine sumTo_congr _ (fun e _ _ => ?_)
   rw [Nat.mul_div_cancel_left e hP, cc_mul]
   by_cases h : e ∣ m
   ·
    rw [if_pos h, if_pos h]
   ·
    rw [if_neg h, if_neg h, Int.mul_zero]
  rw [e2]
  show _ = (tp p k + cc (p ^ (k + 1))) * sg m
  rw [Int.add_mul]
theorem cc_pow1 {p : Nat} (h : p % 4 = 1) : ∀ k, cc (p ^ k) = 1
 | 0 => by rw [Nat.pow_zero]; decide
 | k + 1 => by rw [Nat.pow_succ, cc_mul, cc_pow1 h k]; unfold cc; rw [if_pos h]; rfl
theorem cc_pow3 {p : Nat} (h : p % 4 = 3) : ∀ k, cc (p ^ k) = if k % 2 = 0 then 1 else -1
 | 0 => by rw [Nat.pow_zero]; decide
 | k + 1 => by
  have e : cc p = -1 := by unfold cc; rw [if_neg (by omega), if_pos h]
  rw [Nat.pow_succ, cc_mul, cc_pow3 h k, e]
  by_cases q : k % 2 = 0
  ·
   rw [if_pos q, if_neg (by omega)]; rfl
  ·
   rw [if_neg q, if_pos (by omega)]; rfl
theorem cc_pow0 {p : Nat} (h : p % 2 = 0) (k : Nat) : cc (p ^ (k + 1)) = 0 := by
 have e : cc p = 0 := by unfold cc; rw [if_neg (by omega), if_neg (by omega)]
 rw [Nat.pow_succ, cc_mul, e, Int.mul_zero]
theorem tp_three {p : Nat} (h : p % 4 = 3) : ∀ k, tp p k = if k % 2 = 0 then 1 else 0
 | 0 => rfl
 | k + 1 => by
  rw [tp, tp_three h k, cc_pow3 h]
  by_cases q : k % 2 = 0
  ·
   rw [if_pos q, if_neg (by omega), if_neg (by omega)]; rfl
  ·
   rw [if_neg q, if_pos (by omega), if_pos (by omega)]; rfl
theorem tp_pos {p : Nat} (h : p % 4 ≠ 3) : ∀ k, 1 ≤ tp p k
 | 0 => Int.le_refl 1
 | k + 1 => by
  have ih := tp_pos h k
  rw [tp]
  have hm : p % 4 < 4 := Nat.mod_lt _ (by omega)
  by_cases q : p % 4 = 1
  ·
   rw [cc_pow1 q]; omega
  ·
   rw [cc_pow0 (by omega)]; omega
/-- What the numbers are while prime numbers are taken out: n is left, c is taken out. -/
structure RI (N n p c : Nat) : Prop where
 eq : N = n * c
 n1 : 1 ≤ n
 c1 : 1 ≤ c
 no : ∀ e, 2 ≤ e → e < p → ¬ e ∣ n
 cop : ∀ q, Pr q → p ≤ q → ¬ q ∣ c
 pos : 1 ≤ sg c
/-- Inside: p ^ t as well. -/
structure RJ (N n p t c : Nat) : Prop where
 eq : N = n * (p ^ t * c)
 n1 : 1 ≤ n
 c1 : 1 ≤ c
 p2 : 2 ≤ p
 no : ∀ e, 2 ≤ e → e < p → ¬ e ∣ n
 pr : 1 ≤ t → Pr p
 cop : ∀ q, Pr q → p ≤ q → ¬ q ∣ c
 pos : 1 ≤ sg c
theorem Pr_of {n p : Nat} (h2 : 2 ≤ p) (hn : 1 ≤ n) (hd : p ∣ n) (no : ∀ e, 2 ≤ e → e < p → ¬ e ∣ n) : Pr p := by
 refine ⟨h2, fun d h => ?_⟩
 have h0 : d ≠ 0 := by
  rintro rfl
  rw [Nat.zero_dvd] at h
  omega
 have h1 := Nat.le_of_dvd (by omega) h
 by_cases e1 : d = 1
 ·
  exact Or.inl e1
 ·
  by_cases e2 : d = p
  ·
   exact Or.inr e2
  ·
   exact absurd (Nat.dvd_trans h hd) (no d (by omega) (by omega))
theorem RJ_div {N n p t c : Nat} (h : RJ N n p t c) (hd : n % p = 0) : RJ N (n / p) p (t + 1) c := by
 have hdv := Nat.dvd_of_mod_eq_zero hd
 obtain ⟨x, rfl⟩ := hdv
 have hp := h.p2
 rw [Nat.mul_div_cancel_left x (by omega)]
 have hx : 1 ≤ x := by
  rcases Nat.eq_zero_or_pos x with e | e
  ·
   subst e
   have := h.n1
   simp at this
  ·
   exact e
 refine ⟨?_, hx, h.c1, hp, fun e h1 h2 h3 => h.no e h1 h2 (Nat.dvd_trans h3 (Nat.dvd_mul_left x p)), fun _ => ?_, h.cop, h.pos⟩
 ·
  rw [h.eq, Nat.pow_succ, Nat.mul_comm p x, Nat.mul_assoc, Nat.mul_comm (p ^ t) p, Nat.mul_assoc]
 ·
  exact Pr_of hp (Nat.mul_pos (by omega) hx) (Nat.dvd_mul_right p x) h.no
theorem RJ_cop {N n p t c : Nat} (h : RJ N n p t c) (hd : n % p ≠ 0) (ht : 1 ≤ t) : ¬ p ∣ n * c := by
 intro q
 rcases Pr_mul (h.pr ht) q with q | q
 ·
  exact hd (Nat.mod_eq_zero_of_dvd q)
 ·
  exact h.cop p (h.pr ht) (Nat.le_refl _) q
/-- A prime number refuses. -/
theorem RJ_bad {N n p t c : Nat} (h : RJ N n p t c) (hd : n % p ≠ 0) (ht : t % 2 = 1) (h4 : p % 4 = 3) : ∃ m, N = p ^ t * m ∧ ¬ p ∣ m ∧ 1 ≤ m ∧ sg N = 0 := by
 have hc := RJ_cop h hd (by omega)
 have hpos : 1 ≤ n * c := Nat.mul_pos h.n1 h.c1
 have e : N = p ^ t * (n * c) := by rw [h.eq, Nat.mul_left_comm]
 refine ⟨n * c, e, hc, hpos, ?_⟩
 rw [e, sg_pow (h.pr (by omega)) hpos hc, tp_three h4, if_neg (by omega), Int.zero_mul]
/-- No refusal: the next number. -/
theorem RJ_next {N n p t c : Nat} (h : RJ N n p t c) (hd : n % p ≠ 0) (hok : ¬ (t % 2 = 1 ∧ p % 4 = 3)) : RI N n (p + 1) (p ^ t * c) := by
 have hp := h.p2
 refine ⟨h.eq, h.n1, Nat.mul_pos (Nat.pow_pos (by omega)) h.c1, fun e h1 h2 h3 => ?_, fun q hq hpq hdv => ?_, ?_⟩
 ·
  by_cases e1 : e = p
  ·
   subst e1
   exact hd (Nat.mod_eq_zero_of_dvd h3)
  ·
   exact h.no e h1 (by omega) h3
 ·
  rcases Pr_mul hq hdv with k | k
  ·
   rcases Nat.eq_zero_or_pos t with e | e
   ·
    subst e
    have := Nat.le_of_dvd (by simp) k
    rw [Nat.pow_zero] at this
    have := hq.1
    omega
   ·
    rcases (h.pr e).2 q (Pr_pow hq t k) with z | z
    ·
     have := hq.1; omega
    ·
     omega
  ·
   exact h.cop q hq (by omega) k
 ·
  rcases Nat.eq_zero_or_pos t with e | e
  ·
   subst e
   rw [Nat.pow_zero, Nat.one_mul]
   exact h.pos
  ·
   rw [sg_pow (h.pr e) h.c1 (h.cop p (h.pr e) (Nat.le_refl _))]
   have h1 : 1 ≤ tp p t := by
    by_cases h4 : p % 4 = 3
    ·
     rw [tp_three h4, if_pos (by omega)]
     decide
    ·
     exact tp_pos h4 t
   have h2 := h.pos
   have : 1 * 1 ≤ tp p t * sg c := Int.mul_le_mul h1 h2 (by omega) (by omega)
   omega
theorem RI_in {N n p c : Nat} (h : RI N n p c) (hp : 2 ≤ p) : RJ N n p 0 c :=
 ⟨by rw [h.eq, Nat.pow_zero, Nat.one_mul], h.n1, h.c1, hp, h.no, fun q => by omega, h.cop, h.pos⟩
/-- A number without a divisor up to its root. -/
theorem RI_self {N n p c : Nat} (h : RI N n p c) (_hn : 1 < n) (hpp : n < p * p) : RJ N n n 0 c := by
 have hno : ∀ e, 2 ≤ e → e < n → ¬ e ∣ n := by
  intro e h1 h2 h3
  obtain ⟨x, hx⟩ := h3
  by_cases k : e < p
  ·
   exact h.no e h1 k ⟨x, hx⟩
  ·
   have hx2 : x < p := by
    rcases Nat.lt_or_ge x p with q | q
    ·
     exact q
    ·
     have : p * p ≤ e * x := Nat.mul_le_mul (by omega) q
     omega
   have hx1 : 2 ≤ x := by
    rcases Nat.lt_or_ge x 2 with q | q
    ·
     have : x = 0 ∨ x = 1 := by omega
     rcases this with rfl | rfl <;> omega
    ·
     exact q
   exact h.no x hx1 hx2 ⟨e, by rw [hx, Nat.mul_comm]⟩
 have hge : p ≤ n := by
  rcases Nat.lt_or_ge n p with q | q
  ·
   exact absurd (Nat.dvd_refl n) (h.no n (by omega) q)
  ·
   exact q
 exact ⟨by rw [h.eq, Nat.pow_zero, Nat.one_mul], h.n1, h.c1, _hn, hno, fun q => by omega, fun q hq hnq => h.cop q hq (by omega), h.pos⟩
theorem RI_one {N n p c : Nat} (h : RI N n p c) (hn : n ≤ 1) : 1 ≤ sg N := by
 have : n = 1 := by have := h.n1; omega
 subst this
 rw [h.eq, Nat.one_mul]
 exact h.pos
theorem RI_start {N : Nat} (h : 1 ≤ N) : RI N N 2 1 :=
 ⟨by rw [Nat.mul_one], h, Nat.le_refl _, fun e h1 h2 => by omega, fun q hq _ hd => by have := Nat.le_of_dvd (by omega) hd; have := hq.1; omega, by decide⟩
end Go.Proofs.Ytpmbffchkcemoaa.Ref
namespace Go.Proofs.Ytpmbffchkcemoaa.Q
open Go.Proofs.Ytpmbffchkcemoaa.Theta Go.Proofs.Ytpmbffchkcemoaa.Ref Go.Proofs.Ytpmbffchkcemoaa.DivPair
--BODY
def sumH (f : List Int → Nat) : List (List Int) → Nat
 | [] => 0
 | l :: L => f l + sumH f L
theorem sumH_append (f : List Int → Nat) (M : List (List Int)) : ∀ L, sumH f (L ++ M) = sumH f L + sumH f M
 | [] => by simp [sumH]
 | l :: L => by simp only [List.cons_append, sumH]; rw [sumH_append f M L]; omega
theorem sumH_map (f : List Int → Nat) (x : Int) : ∀ L, sumH f (L.map (x :: ·)) = sumH (fun l => f (x :: l)) L
 | [] => rfl
 | l :: L => by simp only [List.map_cons, sumH]; rw [sumH_map f x L]
theorem sumSigns_H : ∀ L, sumSigns L = sumH (sgn none 0 1 0) L
 | [] => rfl
 | l :: L => by simp only [sumSigns, sumH]; rw [sumSigns_H L]; rfl
theorem downL_su {f : List Int → Nat} {g : Nat → List (List Int)} {c : Nat → Bool} (hc : ∀ a b, a ≤ b → c a = true → c b = true) : ∀ top, sumH f (downL g c top) = su (fun a => if c a = true then sumH f (g a) else 0) (top + 1)
 | 0 => by
  unfold downL
  show _ = 0 + (if c 0 = true then sumH f (g 0) else 0)
  by_cases h : c 0 = true
  ·
   rw [if_pos h, if_pos h, Nat.zero_add]
  ·
   rw [if_neg h, if_neg h]; rfl
 | a + 1 => by
  unfold downL
  show _ = su (fun a => if c a = true then sumH f (g a) else 0) (a + 1) + (if c (a + 1) = true then sumH f (g (a + 1)) else 0)
  by_cases h : c (a + 1) = true
  ·
   rw [if_pos h, if_pos h, sumH_append, downL_su hc a, Nat.add_comm]
  ·
   rw [if_neg h, if_neg h]
   symm
   rw [su_zero (a + 1) (fun i hi => if_neg (fun q => h (hc i (a + 1) (by omega) q)))]
   rfl
/-- Numbers above a bound add nothing. -/
theorem su_top {f : Nat → Nat} {m n : Nat} (h : m ≤ n) (hz : ∀ i, m ≤ i → f i = 0) : su f n = su f m := by
 obtain ⟨k, rfl⟩ : ∃ k, n = m + k := ⟨n - m, by omega⟩
 rw [su_split, su_zero k (fun i _ => hz _ (by omega)), Nat.add_zero]
theorem su_both {f : Nat → Nat} {m n : Nat} (h1 : ∀ i, m ≤ i → f i = 0) (h2 : ∀ i, n ≤ i → f i = 0) : su f m = su f n := by
 rcases Nat.le_total m n with h | h
 ·
  exact (su_top h h1).symm
 ·
  exact su_top h h2
def wsg (a b : Nat) : Nat := if a = b then wt a * wt b else 2 * (wt a * wt b)
theorem sgn_two (a b : Nat) : sgn none 0 1 0 [(a : Int), (b : Int)] = wsg a b := by
 have ew : ∀ x v : Nat, (if (x : Int) = 0 then v else v * 2) = v * wt x := by
  intro x v
  unfold wt
  by_cases h : x = 0
  ·
   subst h
   rw [if_pos (show ((0 : Nat) : Int) = 0 from rfl)]
   exact (Nat.mul_one v).symm
  ·
   rw [if_neg (by omega), show Nat.beq x 0 = false from by cases x with
    | zero => exact absurd rfl h
    | succ x => rfl]
   rfl
 simp only [sgn, reduceCtorEq, if_false]
 rw [ew a, ew b]
 unfold wsg
 by_cases h : a = b
 ·
  subst h
  rw [if_pos rfl, if_pos rfl]
  show (1 * (0 + 1) / 1 * wt a) * (0 + 1 + 1) / (1 + 1) * wt a = wt a * wt a
  rw [show 1 * (0 + 1) / 1 * wt a = wt a from by omega, show wt a * (0 + 1 + 1) / (1 + 1) = wt a from by omega]
 ·
  rw [if_neg h, if_neg (by simp; omega)]
  show (1 * (0 + 1) / 1 * wt a) * (0 + 1 + 1) / 1 * wt b = 2 * (wt a * wt b)
  rw [show 1 * (0 + 1) / 1 * wt a = wt a from by omega, show wt a * (0 + 1 + 1) / 1 = 2 * wt a from by omega, Nat.mul_assoc]
def repK (K n : Nat) : Nat := su (fun a => su (fun b => wt a * wt b * (if a * a + b * b = n then 1 else 0)) K) K
theorem sq_lt {a K : Nat} (h : K ≤ a) : K * K ≤ a * a := Nat.mul_le_mul h h
theorem all_one (F : List Int → Nat) (a m : Nat) : sumH F (allL 1 a m) = su (fun b => if b ≤ a ∧ b * b = m then F [(b : Int)] else 0) (a + 1) := by
 unfold allL
 rw [downL_su (fun x y h q => by
  rw [decide_eq_true_eq] at q ⊢
  have := Nat.mul_le_mul h h
  rw [Nat.one_mul] at q ⊢
  omega)]
 have e : ∀ b, (if decide (m ≤ (0 + 1) * b * b) = true then sumH F ((allL 0 b (m - b * b)).map ((b : Int) :: ·)) else 0) = (if m ≤ b * b then F [(b : Int)] else 0) := by
  intro b
  rw [Nat.zero_add, Nat.one_mul]
  by_cases h : m ≤ b * b
  ·
   rw [if_pos (decide_eq_true h), if_pos h, show m - b * b = 0 from by omega]
   show F [(b : Int)] + 0 = _
   rfl
  ·
   rw [if_neg (by simpa using h), if_neg h]
 simp only [e]
 have hs := isq_spec m
 have k1 : su (fun b => if m ≤ b * b then F [(b : Int)] else 0) (min a (isq m) + 1) = su (fun b => if b ≤ a ∧ b * b = m then F [(b : Int)] else 0) (min a (isq m) + 1) := by
  refine su_congr _ (fun b hb => ?_)
  have h1 : b * b ≤ isq m * isq m := Nat.mul_le_mul (by omega) (by omega)
  by_cases h : m ≤ b * b
  ·
   rw [if_pos h, if_pos ⟨by omega, by omega⟩]
  ·
   rw [if_neg h, if_neg (by omega)]
 rw [k1]
 refine su_both (fun b hb => if_neg ?_) (fun b hb => if_neg (by omega))
 rintro ⟨h1, h2⟩
 have : (isq m + 1) * (isq m + 1) ≤ b * b := Nat.mul_le_mul (by omega) (by omega)
 omega
theorem signs_rep {n K : Nat} (hK : n < K * K) : sumSigns (allL 2 n n) = repK K n := by
 rw [sumSigns_H]
 have e1 : sumH (sgn none 0 1 0) (allL 2 n n) = su (fun a => su (fun b => if b ≤ a ∧ a * a + b * b = n then wsg a b else 0) K) K := by
  rw [show allL 2 n n = downL (fun a => (allL 1 a (n - a * a)).map ((a : Int) :: ·)) (fun a => decide (n ≤ (1 + 1) * a * a)) (min n (isq n)) from rfl]
  rw [downL_su (fun x y h q => by
   rw [decide_eq_true_eq] at q ⊢
   have h2 := Nat.mul_le_mul h h
   rw [Nat.mul_assoc] at q ⊢
   omega)]
  have hs := isq_spec n
  have k0 : isq n ≤ n := by
   rcases Nat.eq_zero_or_pos (isq n) with e | e
   ·
    omega
   ·
    have := Nat.le_mul_of_pos_left (isq n) e
    omega
  rw [Nat.min_eq_right k0]
  have k1 : su (fun a => if decide (n ≤ (1 + 1) * a * a) = true then sumH (sgn none 0 1 0) ((allL 1 a (n - a * a)).map ((a : Int) :: ·)) else 0) (isq n + 1) = su (fun a => su (fun b => if b ≤ a ∧ a * a + b * b = n then wsg a b else 0) K) (isq n + 1) := by
   refine su_congr _ (fun a ha => ?_)
   have h1 : a * a ≤ isq n * isq n := Nat.mul_le_mul (by omega) (by omega)
   have haK : a < K := by
    rcases Nat.lt_or_ge a K with q | q
    ·
     exact q
    ·
     have := sq_lt q
     omega
   rw [sumH_map, all_one]
   have k2 : su (fun b => if b ≤ a ∧ a * a + b * b = n then wsg a b else 0) K = su (fun b => if b ≤ a ∧ b * b = n - a * a then sgn none 0 1 0 ((a : Int) :: [(b : Int)]) else 0) (a + 1) := by
    rw [su_top (m := a + 1) (by omega) (fun b hb => if_neg (by omega))]
    refine su_congr _ (fun b hb => ?_)
    rw [sgn_two]
    by_cases h : b ≤ a ∧ a * a + b * b = n
    ·
     rw [if_pos h, if_pos ⟨h.1, by omega⟩]
    ·
     rw [if_neg h, if_neg (by omega)]
   rw [k2]
   by_cases h : n ≤ (1 + 1) * a * a
   ·
    rw [if_pos (decide_eq_true h)]
   ·
    rw [if_neg (by simpa using h), su_zero]
    intro b hb
    rw [if_neg]
    rintro ⟨q1, q2⟩
    have := Nat.mul_le_mul q1 q1
    rw [Nat.mul_assoc] at h
    omega
  rw [k1]
  refine su_both (fun a ha => su_zero _ (fun b _ => if_neg ?_)) (fun a ha => su_zero _ (fun b _ => if_neg ?_))
  ·
   have : (isq n + 1) * (isq n + 1) ≤ a * a := Nat.mul_le_mul ha ha
   omega
  ·
   have := sq_lt ha
   omega
 rw [e1]
 unfold repK
 have e2 : su (fun a => su (fun b => if a < b then wt a * wt b * (if a * a + b * b = n then 1 else 0) else 0) K) K = su (fun a => su (fun b => if b < a then wt a * wt b * (if a * a + b * b = n then 1 else 0) else 0) K) K := by
  rw [su_swap (fun a b => if a < b then wt a * wt b * (if a * a + b * b = n then 1 else 0) else 0) K K]
  refine su_congr _ (fun a _ => su_congr _ (fun b _ => ?_))
  rw [Nat.mul_comm (wt b) (wt a), Nat.add_comm (b * b) (a * a)]
 have e3 : su (fun a => su (fun b => wt a * wt b * (if a * a + b * b = n then 1 else 0)) K) K = su (fun a => su (fun b => if b ≤ a then wt a * wt b * (if a * a + b * b = n then 1 else 0) else 0) K) K + su (fun a => su (fun b => if a < b then wt a * wt b * (if a * a + b * b = n then 1 else 0) else 0) K) K := by
  rw [← su_add]
  refine su_congr _ (fun a _ => ?_)
  rw [← su_add]
  refine su_congr _ (fun b _ => ?_)
  by_cases h : b ≤ a
  ·
   rw [if_pos h, if_neg (show ¬ a < b by omega), Nat.add_zero]
  ·
   rw [if_neg h, if_pos (show a < b by omega), Nat.zero_add]
 rw [e3, e2, ← su_add]
 refine su_congr _ (fun a _ => ?_)
 rw [← su_add]
 refine su_congr _ (fun b _ => ?_)
 unfold wsg
 by_cases h1 : b ≤ a
 ·
  rw [if_pos h1]
  by_cases h2 : a * a + b * b = n
  ·
   rw [if_pos ⟨h1, h2⟩, if_pos h2, Nat.mul_one]
   by_cases h3 : a = b
   ·
    rw [if_pos h3, if_neg (by omega), Nat.add_zero]
   ·
    rw [if_neg h3, if_pos (by omega)]
    omega
  ·
   rw [if_neg (fun q => h2 q.2), if_neg h2, Nat.mul_zero]
   simp
 ·
  rw [if_neg (fun q => h1 q.1), if_neg h1, if_neg (by omega)]
theorem su_pairs (f : Nat → Nat) : ∀ K, su f (2 * K) = su (fun i => f (2 * i) + f (2 * i + 1)) K
 | 0 => rfl
 | K + 1 => by
  rw [show 2 * (K + 1) = 2 * K + 1 + 1 from by omega, su, su, su_pairs f K]
  show _ = su (fun i => f (2 * i) + f (2 * i + 1)) K + (f (2 * K) + f (2 * K + 1))
  omega
theorem wt_two (a : Nat) : wt (2 * a) = wt a := by
 cases a with
 | zero => rfl
 | succ a => rfl
theorem sq_mod (a : Nat) : a * a % 4 = a % 2 := by
 have h : a % 4 < 4 := Nat.mod_lt _ (by omega)
 rw [Nat.mul_mod]
 have hx : a % 4 = 0 ∨ a % 4 = 1 ∨ a % 4 = 2 ∨ a % 4 = 3 := by omega
 rcases hx with e | e | e | e <;> rw [e] <;> omega
theorem rep_four (K n : Nat) : repK (2 * K) (4 * n) = repK K n := by
 unfold repK
 rw [su_pairs]
 refine su_congr _ (fun i _ => ?_)
 rw [su_pairs, su_pairs]
 have z2 : su (fun j => wt (2 * i + 1) * wt (2 * j) * (if (2 * i + 1) * (2 * i + 1) + 2 * j * (2 * j) = 4 * n then 1 else 0) + wt (2 * i + 1) * wt (2 * j + 1) * (if (2 * i + 1) * (2 * i + 1) + (2 * j + 1) * (2 * j + 1) = 4 * n then 1 else 0)) K = 0 := by
  refine su_zero _ (fun j _ => ?_)
  have h1 := sq_mod (2 * i + 1)
  have h2 := sq_mod (2 * j)
  have h3 := sq_mod (2 * j + 1)
  rw [if_neg (by omega), if_neg (by omega)]
  simp
 rw [z2, Nat.add_zero]
 refine su_congr _ (fun j _ => ?_)
 have h1 := sq_mod (2 * i)
 have h3 := sq_mod (2 * j + 1)
 rw [if_neg (by omega : ¬ 2 * i * (2 * i) + (2 * j + 1) * (2 * j + 1) = 4 * n), wt_two, wt_two, Nat.mul_zero, Nat.add_zero]
 have e1 : 2 * i * (2 * i) = 4 * (i * i) := by rw [Nat.mul_mul_mul_comm]
 have e2 : 2 * j * (2 * j) = 4 * (j * j) := by rw [Nat.mul_mul_mul_comm]
 congr 1
 rw [e1, e2]
 by_cases h : i * i + j * j = n
 ·
  rw [if_pos h, if_pos (by omega)]
 ·
  rw [if_neg h, if_neg (by omega)]
theorem su_sumTo (f : Nat → Nat) : ∀ k, ((su f (k + 1) : Nat) : Int) = (f 0 : Int) + sumTo (fun d => (f d : Int)) k
 | 0 => by show ((0 + f 0 : Nat) : Int) = (f 0 : Int) + 0; omega
 | k + 1 => by
  have := su_sumTo f k
  show ((su f (k + 1) + f (k + 1) : Nat) : Int) = (f 0 : Int) + (sumTo (fun d => (f d : Int)) k + (f (k + 1) : Int))
  omega
theorem sumTo_sub (g h : Nat → Int) : ∀ k, sumTo (fun d => g d - h d) k = sumTo g k - sumTo h k
 | 0 => rfl
 | k + 1 => by
  show sumTo (fun d => g d - h d) k + (g (k + 1) - h (k + 1)) = sumTo g k + g (k + 1) - (sumTo h k + h (k + 1))
  rw [sumTo_sub g h k]
  omega
theorem dc_su {c n N : Nat} (hN : N = 65536) (h1 : 1 ≤ n) (h2 : n < N) : dc c n = su (fun d => if d % 4 = c ∧ d ∣ n then 1 else 0) N := by
 subst hN
 unfold dc
 refine su_congr _ (fun d hd => ?_)
 by_cases hz : d = 0
 ·
  subst hz
  rw [su_zero _ (fun k _ => if_neg (by omega)), if_neg]
  rintro ⟨_, q⟩
  rw [Nat.zero_dvd] at q
  omega
 ·
  rw [su_one (k := n / d) 65536 (fun k _ hk => if_neg (fun x => hk (by rw [← x.2.2, Nat.mul_div_cancel_left k (by omega)])))]
  have h3 : n / d ≤ n := Nat.div_le_self _ _
  rw [if_pos (by omega)]
  by_cases h : d % 4 = c ∧ d ∣ n
  ·
   have h4 := Nat.mul_div_cancel' h.2
   have h5 : 1 ≤ n / d := by
    rcases Nat.eq_zero_or_pos (n / d) with e | e
    ·
     rw [e] at h4; omega
    ·
     exact e
   rw [if_pos h, if_pos ⟨h.1, h5, h4⟩]
  ·
   rw [if_neg h, if_neg]
   rintro ⟨q1, q2, q3⟩
   exact h ⟨q1, ⟨_, q3.symm⟩⟩
theorem sg_dc {n N : Nat} (hN : N = 65536) (h1 : 1 ≤ n) (h2 : n < N) : sg n = (dc 1 n : Int) - (dc 3 n : Int) := by
 obtain ⟨M, rfl⟩ : ∃ M, N = M + 1 := ⟨N - 1, by omega⟩
 rw [dc_su hN h1 h2, dc_su hN h1 h2, su_sumTo, su_sumTo, if_neg (by omega), if_neg (by omega)]
 have e := sg_up (n := n) (m := M) h1 (by omega)
 rw [← e]
 have e2 : sumTo (fun d => if d ∣ n then cc d else 0) M = sumTo (fun d => (((if d % 4 = 1 ∧ d ∣ n then 1 else 0 : Nat) : Int)) - (((if d % 4 = 3 ∧ d ∣ n then 1 else 0 : Nat) : Int))) M := by
  refine sumTo_congr _ (fun d _ _ => ?_)
  by_cases h : d ∣ n
  ·
   rw [if_pos h]
   unfold cc
   by_cases k1 : d % 4 = 1
   ·
    rw [if_pos k1, if_pos ⟨k1, h⟩, if_neg (show ¬ (d % 4 = 3 ∧ d ∣ n) from fun q => by omega)]; rfl
   ·
    rw [if_neg k1, if_neg (show ¬ (d % 4 = 1 ∧ d ∣ n) from fun q => k1 q.1)]
    by_cases k3 : d % 4 = 3
    ·
     rw [if_pos k3, if_pos ⟨k3, h⟩]; rfl
    ·
     rw [if_neg k3, if_neg (show ¬ (d % 4 = 3 ∧ d ∣ n) from fun q => k3 q.1)]; rfl
  ·
   rw [if_neg h, if_neg (fun q => h q.2), if_neg (fun q => h q.2)]; rfl
 rw [e2, sumTo_sub]
 omega
/-- As many signed pairs as four times the sum of the signs of the divisors. -/
theorem signs_small {n N : Nat} (hN : N = 65536) (h1 : 1 ≤ n) (h2 : n < N) : ((repK 256 n : Nat) : Int) = 4 * sg n := by
 have h := rep_div h1 (hN ▸ h2)
 have h3 := sg_dc hN h1 h2
 have e : repK 256 n = rep n := rfl
 rw [e, h3]
 generalize rep n = x at h ⊢
 generalize dc 3 n = y at h ⊢
 generalize dc 1 n = z at h ⊢
 omega
theorem tp_two (k : Nat) : tp 2 k = 1 := by
 induction k with
 | zero => rfl
 | succ k ih => rw [tp, ih, cc_pow0 (by decide)]; rfl
theorem sg_two {m : Nat} (hm : 1 ≤ m) (h : ¬ 2 ∣ m) (k : Nat) : sg (2 ^ k * m) = sg m := by
 have hp : Pr 2 := ⟨by omega, fun d hd => by
  have := Nat.le_of_dvd (by omega) hd
  rcases Nat.eq_zero_or_pos d with e | e
  ·
   subst e; exact absurd hd (by decide)
  ·
   omega⟩
 rw [sg_pow hp hm h k, tp_two, Int.one_mul]
theorem signs_all {n : Nat} (h1 : 1 ≤ n) (h2 : n < 65536 ∨ n = 1000000) : ((sumSigns (allL 2 n n) : Nat) : Int) = 4 * sg n := by
 rcases h2 with h2 | h2
 ·
  rw [signs_rep (K := 256) h2]
  generalize hN : (65536 : Nat) = N at h2
  exact signs_small hN.symm h1 h2
 ·
  subst h2
  rw [signs_rep (K := 2 * (2 * 256)) (by decide), show (1000000 : Nat) = 4 * (4 * 62500) from rfl, rep_four, rep_four, signs_small (n := 62500) rfl (by decide) (by decide)]
  rw [show (62500 : Nat) = 2 ^ 2 * 15625 from rfl, sg_two (by decide) (by decide), show 4 * (4 * (2 ^ 2 * 15625)) = 2 ^ 6 * 15625 from rfl, sg_two (by decide) (by decide)]
--END
end Go.Proofs.Ytpmbffchkcemoaa.Q

/- A prime number that does not leave 3 by 4 divides a square and 1. -/
namespace Go.Proofs.Ytkchoccicpbbfaa.RootMinus

def Prime (p : Nat) : Prop := 2 ≤ p ∧ ∀ d, d ∣ p → d = 1 ∨ d = p

theorem prime_of_small {p : Nat} (h2 : 2 ≤ p) (h : ∀ d, 2 ≤ d → d * d ≤ p → ¬ d ∣ p) : Prime p := by
  refine ⟨h2, fun d hd => ?_⟩
  obtain ⟨c, hc⟩ := hd
  have hd0 : 0 < d := by
    rcases Nat.eq_zero_or_pos d with e | e
    · subst e; omega
    · exact e
  have hc0 : 0 < c := by
    rcases Nat.eq_zero_or_pos c with e | e
    · subst e; omega
    · exact e
  by_cases e1 : d = 1
  · exact .inl e1
  by_cases e2 : c = 1
  · subst e2; right; omega
  exfalso
  rcases Nat.le_total d c with hl | hl
  · exact h d (by omega) (by rw [hc]; exact Nat.mul_le_mul_left d hl) ⟨c, hc⟩
  · exact h c (by omega) (by rw [hc]; exact Nat.mul_le_mul_right c hl) ⟨d, by rw [hc, Nat.mul_comm]⟩

theorem small_of_prime {p : Nat} (h : Prime p) : ∀ d, 2 ≤ d → d * d ≤ p → ¬ d ∣ p := by
  intro d h1 h2 h3
  rcases h.2 d h3 with e | e
  · omega
  · subst e
    have : d * 2 ≤ d * d := Nat.mul_le_mul_left d h1
    have := h.1
    omega

theorem gcd_one {p x : Nat} (h : Prime p) (h0 : 0 < x) (h1 : x < p) : Nat.gcd x p = 1 := by
  rcases h.2 _ (Nat.gcd_dvd_right x p) with e | e
  · exact e
  · have := Nat.le_of_dvd h0 (Nat.gcd_dvd_left x p)
    omega

theorem bezout (a b : Nat) : ∃ u v : Int, u * a + v * b = Nat.gcd a b := by
  induction a, b using Nat.gcd.induction with
  | H0 b => exact ⟨0, 1, by simp⟩
  | H1 a b ha ih =>
    obtain ⟨u, v, h⟩ := ih
    refine ⟨v - u * (b / a : Nat), u, ?_⟩
    rw [Nat.gcd_rec a b, ← h]
    have e : (b : Int) = (a : Int) * (b / a : Nat) + (b % a : Nat) := by
      have := Nat.div_add_mod b a
      exact_mod_cast this.symm
    generalize (b / a : Nat) = q at *
    generalize (b % a : Nat) = m at *
    rw [e, Int.sub_mul, Int.mul_add]
    have : u * (q : Int) * a = u * ((a : Int) * q) := by rw [Int.mul_assoc, Int.mul_comm (q : Int) a]
    omega

theorem inverse {p x : Nat} (h : Prime p) (h0 : 0 < x) (h1 : x < p) : ∃ y, 0 < y ∧ y < p ∧ x * y % p = 1 := by
  obtain ⟨u, v, e⟩ := bezout x p
  rw [gcd_one h h0 h1] at e
  have hp : (0 : Int) < p := by have := h.1; omega
  have h2 := h.1
  refine ⟨(u % p).toNat, ?_, ?_, ?_⟩
  · have g := Int.emod_nonneg u (show (p : Int) ≠ 0 by omega)
    rcases Int.lt_or_eq_of_le g with hl | hl
    · omega
    · exfalso
      have hd : (p : Int) ∣ u := Int.dvd_of_emod_eq_zero hl.symm
      obtain ⟨c, rfl⟩ := hd
      have hd : (p : Int) ∣ (1 : Nat) := ⟨c * x + v, by rw [← e, Int.mul_add, Int.mul_assoc, Int.mul_comm v]⟩
      have := Int.le_of_dvd (by omega) hd
      omega
  · have g := Int.emod_lt_of_pos u hp
    have g2 := Int.emod_nonneg u (show (p : Int) ≠ 0 by omega)
    omega
  · have g2 := Int.emod_nonneg u (show (p : Int) ≠ 0 by omega)
    have : ((x * (u % p).toNat : Nat) : Int) % p = 1 := by
      rw [Int.natCast_mul, Int.toNat_of_nonneg g2, Int.mul_emod, Int.emod_emod, ← Int.mul_emod]
      have : (x : Int) * u = 1 + p * (-v) := by
        have e' : u * x + v * p = 1 := by simpa using e
        rw [Int.mul_comm, Int.mul_neg, Int.mul_comm (p : Int)]
        omega
      rw [this, Int.add_mul_emod_self_left]
      exact Int.emod_eq_of_lt (by omega) (by omega)
    exact_mod_cast this

theorem cancel {p x a b : Nat} (h : Prime p) (h0 : 0 < x) (h1 : x < p) (e : x * a % p = x * b % p) : a % p = b % p := by
  obtain ⟨y, _, _, hy⟩ := inverse h h0 h1
  have : ∀ c, c % p = y * (x * c) % p := by
    intro c
    rw [← Nat.mul_assoc, Nat.mul_comm y x, Nat.mul_mod, hy, Nat.one_mul, Nat.mod_mod]
  rw [this a, this b, Nat.mul_mod, e, ← Nat.mul_mod]

/-- Fixed points of an exchange of a list with itself are as many as its elements, by 2. -/
theorem parity {α : Type} [DecidableEq α] (f : α → α) : ∀ (n : Nat) (l : List α), l.length = n → l.Nodup → (∀ x ∈ l, f x ∈ l) → (∀ x ∈ l, f (f x) = x) →
    l.length % 2 = (l.filter (fun x => f x = x)).length % 2 := by
  intro n
  induction n using Nat.strongRecOn with
  | _ n ih =>
  intro l hn hd hm hf
  match l, hn, hd, hm, hf with
  | [], _, _, _, _ => simp
  | a :: t, hn, hd, hm, hf =>
    have hat : a ∉ t := (List.nodup_cons.1 hd).1
    have htd := (List.nodup_cons.1 hd).2
    by_cases e : f a = a
    · have hm' : ∀ x ∈ t, f x ∈ t := by
        intro x hx
        rcases List.mem_cons.1 (hm x (List.mem_cons_of_mem _ hx)) with h | h
        · exfalso
          have := hf x (List.mem_cons_of_mem _ hx)
          rw [h, e] at this
          subst this
          exact hat hx
        · exact h
      have h := ih t.length (by simp at hn; omega) t rfl htd hm' (fun x hx => hf x (List.mem_cons_of_mem _ hx))
      rw [List.filter_cons, if_pos (by simpa using e)]
      simp only [List.length_cons]
      omega
    · have hb : f a ∈ t := by
        rcases List.mem_cons.1 (hm a (List.mem_cons_self)) with h | h
        · exact absurd h e
        · exact h
      have hfa : f (f a) = a := hf a (List.mem_cons_self)
      have hl : (t.erase (f a)).length = t.length - 1 := List.length_erase_of_mem hb
      have hpos : 0 < t.length := List.length_pos_of_mem hb
      have hd' : (t.erase (f a)).Nodup := htd.sublist List.erase_sublist
      have hmem : ∀ x, x ∈ t.erase (f a) ↔ x ≠ f a ∧ x ∈ t := fun x => htd.mem_erase_iff
      have hm' : ∀ x ∈ t.erase (f a), f x ∈ t.erase (f a) := by
        intro x hx
        obtain ⟨h1, h2⟩ := (hmem x).1 hx
        have h3 := hf x (List.mem_cons_of_mem _ h2)
        refine (hmem _).2 ⟨?_, ?_⟩
        · intro h
          have : f (f x) = a := by rw [h]; exact hfa
          rw [h3] at this
          subst this
          exact hat h2
        · rcases List.mem_cons.1 (hm x (List.mem_cons_of_mem _ h2)) with h | h
          · exfalso
            rw [h] at h3
            exact h1 h3.symm
          · exact h
      have h := ih (t.erase (f a)).length (by simp at hn; omega) (t.erase (f a)) rfl hd' hm' (fun x hx => hf x (List.mem_cons_of_mem _ ((hmem x).1 hx).2))
      have hfil : ((t.erase (f a)).filter (fun x => f x = x)) = t.filter (fun x => f x = x) := by
        rw [List.Nodup.erase_eq_filter htd, List.filter_filter]
        refine List.filter_congr fun x hx => ?_
        by_cases hx2 : f x = x
        · have : x ≠ f a := by
            intro h
            rw [h, hfa] at hx2
            exact e hx2.symm
          simp [hx2, this]
        · simp [hx2]
      rw [List.filter_cons, if_neg (by simpa using e), ← hfil, List.length_cons]
      omega

/-- The number in 1..(p-1)/2 of a remainder or of its opposite. -/
def near (p y : Nat) : Nat := if 2 * (y % p) < p then y % p else p - y % p

theorem root_exists {p : Nat} (h : Prime p) (h4 : p % 4 ≠ 3) : ∃ r, 1 ≤ r ∧ r < p ∧ (r * r + 1) % p = 0 := by
  have h2 := h.1
  by_cases e2 : p = 2
  · subst e2; exact ⟨1, by omega, by omega, by omega⟩
  have hodd : p % 2 = 1 := by
    rcases Nat.mod_two_eq_zero_or_one p with e | e
    · exfalso
      rcases h.2 2 (Nat.dvd_of_mod_eq_zero e) with h | h <;> omega
    · exact e
  -- the inverse
  have hinv : ∀ x, ∃ y, 0 < x → x < p → 0 < y ∧ y < p ∧ x * y % p = 1 := by
    intro x
    by_cases hx : 0 < x ∧ x < p
    · obtain ⟨y, hy⟩ := inverse h hx.1 hx.2
      exact ⟨y, fun _ _ => hy⟩
    · exact ⟨0, fun h1 h2 => absurd ⟨h1, h2⟩ hx⟩
  let inv : Nat → Nat := fun x => Classical.choose (hinv x)
  have hi : ∀ x, 0 < x → x < p → 0 < inv x ∧ inv x < p ∧ x * inv x % p = 1 := fun x => Classical.choose_spec (hinv x)
  let g : Nat → Nat := fun x => near p (inv x)
  let l : List Nat := (List.range ((p - 1) / 2)).map (· + 1)
  have hl : ∀ x, x ∈ l ↔ 0 < x ∧ 2 * x < p := by
    intro x
    simp only [l, List.mem_map, List.mem_range]
    constructor
    · rintro ⟨a, h1, rfl⟩; omega
    · intro ⟨h1, h2⟩; exact ⟨x - 1, by omega, by omega⟩
  have hnd : l.Nodup := by
    refine List.Pairwise.map _ (fun a b hab => ?_) List.nodup_range
    omega
  -- what the exchange does: x times g x is 1 or -1
  have hg : ∀ x, 0 < x → x < p → 0 < g x ∧ 2 * g x < p ∧ (x * g x % p = 1 ∨ x * g x % p = p - 1) := by
    intro x h0 h1
    obtain ⟨i0, i1, i2⟩ := hi x h0 h1
    simp only [g, near]
    rw [Nat.mod_eq_of_lt i1]
    split
    · exact ⟨i0, by assumption, .inl i2⟩
    · refine ⟨by omega, by omega, .inr ?_⟩
      have e : x * (p - inv x) + x * inv x = x * p := by rw [← Nat.mul_add]; congr 1; omega
      have e3 : (x * (p - inv x) + x * inv x) % p = 0 := by rw [e]; exact Nat.mul_mod_left x p
      rw [Nat.add_mod, i2] at e3
      have h5 : x * (p - inv x) % p < p := Nat.mod_lt _ (by omega)
      generalize x * (p - inv x) % p = z at *
      have : p ∣ z + 1 := Nat.dvd_of_mod_eq_zero e3
      have := Nat.le_of_dvd (by omega) this
      omega
  have huniq : ∀ x a b, 0 < x → x < p → 0 < a → 2 * a < p → 0 < b → 2 * b < p → (x * a % p = 1 ∨ x * a % p = p - 1) → (x * b % p = 1 ∨ x * b % p = p - 1) → a = b := by
    intro x a b h0 h1 a0 a1 b0 b1 ha hb
    have same : x * a % p = x * b % p → a = b := by
      intro e
      have := cancel h h0 h1 e
      rwa [Nat.mod_eq_of_lt (by omega), Nat.mod_eq_of_lt (by omega)] at this
    have opp : (x * a % p + x * b % p) = p → False := by
      intro e
      have e3 : x * (a + b) % p = x * 0 % p := by
        rw [Nat.mul_add, Nat.add_mod, e, Nat.mod_self, Nat.mul_zero, Nat.zero_mod]
      have := cancel h h0 h1 e3
      rw [Nat.mod_eq_of_lt (by omega), Nat.zero_mod] at this
      omega
    rcases ha with ha | ha <;> rcases hb with hb | hb
    · exact same (by rw [ha, hb])
    · exact (opp (by omega)).elim
    · exact (opp (by omega)).elim
    · exact same (by rw [ha, hb])
  have hmem : ∀ x ∈ l, g x ∈ l := by
    intro x hx
    obtain ⟨x0, x1⟩ := (hl x).1 hx
    obtain ⟨g0, g1, _⟩ := hg x x0 (by omega)
    exact (hl _).2 ⟨g0, g1⟩
  have hgg : ∀ x ∈ l, g (g x) = x := by
    intro x hx
    obtain ⟨x0, x1⟩ := (hl x).1 hx
    obtain ⟨g0, g1, g2⟩ := hg x x0 (by omega)
    obtain ⟨k0, k1, k2⟩ := hg (g x) g0 (by omega)
    exact huniq (g x) _ _ g0 (by omega) k0 k1 x0 x1 k2 (by rw [Nat.mul_comm]; exact g2)
  have hpar := parity g l.length l rfl hnd hmem hgg
  have hlen : l.length % 2 = 0 := by
    simp only [l, List.length_map, List.length_range]
    omega
  -- 1 is fixed, so another one is
  have h1l : 1 ∈ l := (hl 1).2 ⟨by omega, by omega⟩
  have hg1 : g 1 = 1 := by
    obtain ⟨g0, g1, g2⟩ := hg 1 (by omega) (by omega)
    exact huniq 1 _ _ (by omega) (by omega) g0 g1 (by omega) (by omega) g2 (.inl (by rw [Nat.mul_one]; exact Nat.mod_eq_of_lt (by omega)))
  have hF : 1 ∈ l.filter (fun x => g x = x) := List.mem_filter.2 ⟨h1l, by simpa using hg1⟩
  have hFn : (l.filter (fun x => g x = x)).Nodup := hnd.sublist List.filter_sublist
  obtain ⟨r, hr, hne⟩ : ∃ r, r ∈ l.filter (fun x => g x = x) ∧ r ≠ 1 := by
    match hq : l.filter (fun x => g x = x), hF, hFn with
    | [a], h, _ => rw [hq] at hpar; simp at hpar; omega
    | a :: b :: t, h, hn =>
      by_cases ha : a = 1
      · refine ⟨b, by simp, ?_⟩
        intro hb
        subst ha hb
        simp at hn
      · exact ⟨a, by simp, ha⟩
  obtain ⟨hrl, hrg⟩ := List.mem_filter.1 hr
  have hrg : g r = r := by simpa using hrg
  obtain ⟨r0, r1⟩ := (hl r).1 hrl
  obtain ⟨_, _, g2⟩ := hg r r0 (by omega)
  rw [hrg] at g2
  refine ⟨r, by omega, by omega, ?_⟩
  rcases g2 with e | e
  · exfalso
    -- (r - 1)(r + 1) is a multiple of p
    have e3 : (r - 1) * (r + 1) % p = (r - 1) * 0 % p := by
      have e5 : (r - 1) * (r + 1) = r * r - 1 := by
        obtain ⟨m, rfl⟩ : ∃ m, r = m + 1 := ⟨r - 1, by omega⟩
        simp only [Nat.add_sub_cancel]
        rw [Nat.add_mul, Nat.mul_add m, Nat.mul_add m]
        simp only [Nat.one_mul, Nat.mul_one]
        omega
      rw [e5, Nat.mul_zero, Nat.zero_mod]
      have e6 := Nat.div_add_mod (r * r) p
      rw [e] at e6
      rw [← e6, Nat.add_sub_cancel]
      exact Nat.mul_mod_right p _
    have := cancel h (by omega) (by omega) e3
    rw [Nat.mod_eq_of_lt (by omega), Nat.zero_mod] at this
    omega
  · rw [Nat.add_mod, e, Nat.mod_eq_of_lt (show 1 < p by omega)]
    rw [show p - 1 + 1 = p by omega, Nat.mod_self]

end Go.Proofs.Ytkchoccicpbbfaa.RootMinus

/- Several parts in one text: What both programs' functions for four squares come to. Which numbers up to 40001 are sums of three squares. Told by the kernel's own reckoning on bits, and by remainders by 8. Three squares, and the numbers that 8 refuses. The search for divisors. Choices drawn from bytes: each comes to a number within its bounds. The draws of chapter 9: a number up to a bound, and a prime number. The laws' test of their codes' sizes. The laws' own comparisons of lists. Reads of a row, and of its numbers, by what stands there. laws.vSquares: the sum of the squares. -/
import Derived.Test.YtpmbffchkcemoaaHx2
import Derived.Test.YtpmbffchkcemoaaHx3
import Derived.Test.YtpmbffchkcemoaaHx4
import Derived.Test.YtpmbffchkcemoaaHQ1
import Derived.Test.YtpmbffchkcemoaaHx5
import Derived.Test.YtpmbffchkcemoaaHx1
import Derived.Test.YtpmbffchkcemoaaHQEv
import Derived.Laws.BitsAllLaws
namespace Go.Proofs.Ytpmbffchkcemoaa.Pure
open Go.RowKit Go.Proofs.Ytpmbffchkcemoaa.P Go.Proofs.YtpmbffchkcemoaaW.PrintWords Go.Proofs.YtpmbffchkcemoaaW.PrintLast Go.Proofs.Ytpmbffchkcemoaa.Q
open Go.Proofs.Ytpmbffchkcemoaa.DivPair
def allFourAns (a : Int) : List (List Int) × Bool := if 0 ≤ a ∧ a ≤ 2000 then (allL 4 a.toNat a.toNat, true) else ([], false)
def fourAns (a : Int) : List Int × Bool := if 0 ≤ a ∧ a ≤ 2000 then firstOf (allL 4 a.toNat a.toNat) else ([], false)
def countAns (a : Int) : Int × Bool := if 0 ≤ a ∧ a ≤ 2000 then (((sumSigns (allL 4 a.toNat a.toNat) : Nat) : Int), true) else (0, false)
theorem few4 {n : Nat} (h : n ≤ 2000) : (allL 4 n n).length ≤ 1000000 := by
  have := allL_four (n := n) h n
  omega
theorem allFour_ev (a : Int) : Ev (fun k => spec_AllFourSquares.f k a) (allFourAns a) ∧ Ev (fun k => impl_AllFourSquares.f k a) (allFourAns a) := by
  unfold spec_AllFourSquares.f impl_AllFourSquares.f allFourAns
  rw [l1In_eq, isFour_eq]
  simp only [Option.bind_some]
  by_cases h : 0 ≤ a ∧ a ≤ 2000
  · obtain ⟨n, rfl⟩ := Int.eq_ofNat_of_zero_le h.1
    rw [if_pos h, Int.toNat_natCast]
    refine ⟨Ev_true (by simpa using h) ?_, Ev_true (by simpa using h) ?_⟩
    · exact Ev.bind (f := fun _ t => some (t, true)) (sqAllAll_ev (p := 4) (n := n) (by omega) (by omega) (few4 (by omega))) Ev_some
    · exact Ev.bind (f := fun _ t => some (t, true)) (allSq_ev (p := 4) (n := n) (by omega) (by omega) (few4 (by omega))) Ev_some
  · rw [if_neg h]
    exact ⟨Ev_false (by simpa using h) Ev_some, Ev_false (by simpa using h) Ev_some⟩
theorem fourSq_ev (a : Int) : Ev (fun k => spec_FourSquares.f k a) (fourAns a) ∧ Ev (fun k => impl_FourSquares.f k a) (fourAns a) := by
  unfold spec_FourSquares.f impl_FourSquares.f fourAns
  rw [l1In_eq, isFour_eq]
  simp only [Option.bind_some]
  by_cases h : 0 ≤ a ∧ a ≤ 2000
  · obtain ⟨n, rfl⟩ := Int.eq_ofNat_of_zero_le h.1
    rw [if_pos h, Int.toNat_natCast]
    refine ⟨Ev_true (by simpa using h) ?_, Ev_true (by simpa using h) ?_⟩
    · exact Ev.bind (f := fun _ (t : List Int × Bool) => some (t.1, t.2)) (sqFirst_ev (p := 4) (n := n) (by omega) (by omega)) Ev_some
    · exact Ev.bind (f := fun _ (t : List Int × Bool) => some (t.1, t.2)) (firstSq_ev (p := 4) (n := n) (by omega) (by omega)) Ev_some
  · rw [if_neg h]
    exact ⟨Ev_false (by simpa using h) Ev_some, Ev_false (by simpa using h) Ev_some⟩
theorem cfour_l0 {L : List (List Int)} (hL : L.length ≤ 1000000) (h4 : ∀ l ∈ L, l.length ≤ 4 ∧ ∀ x ∈ l, 0 ≤ x) (d : Nat) : ∀ (i acc : Nat), i + d = L.length → acc ≤ 4096 * i →
    Ev (fun k => spec_CountFour.l0 k (acc : Int) L (L.length : Int) (i : Int)) (((acc + sumSigns (L.drop i) : Nat) : Int), true) := by
  induction d with
  | zero =>
    intro i acc h1 h2
    refine Ev_succ ?_
    simp only [spec_CountFour.l0]
    rw [List.drop_of_length_le (by omega)]
    exact Ev_false (by omega) Ev_some
  | succ d ih =>
    intro i acc h1 h2
    have hi : i < L.length := by omega
    obtain ⟨hl, hp⟩ := h4 L[i] (List.getElem_mem hi)
    have hs := signs_le hl
    refine Ev_succ ?_
    simp only [spec_CountFour.l0]
    rw [rdLL hi, List.drop_eq_getElem_cons hi, w64 (x := (i : Int) + 1) (by omega) (by omega)]
    refine Ev_true (by omega) (Ev_true (by omega) (Ev_true (by omega) (Ev.bind (sqSigns_ev hl hp) ?_)))
    rw [w64 (x := (acc : Int) + ((signs L[i] : Nat) : Int)) (by omega) (by omega)]
    have h := ih (i + 1) (acc + signs L[i]) (by omega) (by omega)
    have e : acc + sumSigns (L[i] :: L.drop (i + 1)) = acc + signs L[i] + sumSigns (L.drop (i + 1)) := by
      show acc + (signs L[i] + sumSigns (L.drop (i + 1))) = _
      omega
    rw [e]
    simpa using h

theorem cfour_ev (a : Int) : Ev (fun k => spec_CountFour.f k a) (countAns a) ∧ Ev (fun k => impl_CountFour.f k a) (countAns a) := by
  unfold spec_CountFour.f impl_CountFour.f countAns
  rw [l1In_eq, isFour_eq]
  simp only [Option.bind_some]
  by_cases h : 0 ≤ a ∧ a ≤ 2000
  · obtain ⟨n, rfl⟩ := Int.eq_ofNat_of_zero_le h.1
    rw [if_pos h, Int.toNat_natCast]
    refine ⟨Ev_true (by simpa using h) ?_, Ev_true (by simpa using h) ?_⟩
    · refine Ev.bind (sqAllAll_ev (p := 4) (n := n) (by omega) (by omega) (few4 (by omega))) ?_
      have h := cfour_l0 (few4 (n := n) (by omega)) (fun l hl => ⟨by have := allL_len hl; omega, allL_pos hl⟩) (allL 4 n n).length 0 0 (by omega) (by omega)
      simpa using h
    · exact Ev.bind (f := fun _ t => some (t, true)) (countSq_ev (p := 4) (n := n) (by omega) (by omega) (few4 (by omega))) Ev_some
  · rw [if_neg h]
    exact ⟨Ev_false (by simpa using h) Ev_some, Ev_false (by simpa using h) Ev_some⟩
def g4 (d : Nat) : Int := if d % 4 = 0 then 0 else 8 * (d : Int)
def s4 (d : Nat) : Int := if d % 4 = 0 then 0 else (d : Int)

theorem tmod4 (d : Nat) : Int.tmod (d : Int) 4 = ((d % 4 : Nat) : Int) := tmod_cast d 4

/-- The sum over the list, as the loop makes it. -/
theorem sum_l0 {l : List Int} (hl : l.length ≤ 5000) (hm : ∀ x ∈ l, 1 ≤ x ∧ x ≤ 1000000) (j : Nat) : ∀ (i : Nat) (acc : Int), i + j = l.length → 0 ≤ acc → acc ≤ 8000000 * (i : Int) →
    Ev (fun k => impl_DivisorSumFour.l0 k acc l (l.length : Int) (i : Int)) (acc + sumL g4 (l.drop i), true) := by
  induction j with
  | zero =>
    intro i acc h1 h2 h3
    refine Ev_succ ?_
    simp only [impl_DivisorSumFour.l0]
    rw [List.drop_of_length_le (by omega)]
    simp only [sumL, Int.add_zero]
    exact Ev_false (by omega) Ev_some
  | succ j ih =>
    intro i acc h1 h2 h3
    have hi : i < l.length := by omega
    obtain ⟨b1, b2⟩ := hm l[i] (List.getElem_mem hi)
    refine Ev_succ ?_
    simp only [impl_DivisorSumFour.l0]
    rw [rd_nat hi, drop_at hi]
    obtain ⟨x, hx⟩ := Int.eq_ofNat_of_zero_le (show 0 ≤ l[i] by omega)
    rw [hx] at b1 b2 ⊢
    rw [tmod4, w64 (x := 8 * (x : Int)) (by omega) (by omega), w64 (x := acc + _) (by omega) (by omega), w64 (x := (i : Int) + 1) (by omega) (by omega)]
    have e : sumL g4 ((x : Int) :: l.drop (i + 1)) = g4 x + sumL g4 (l.drop (i + 1)) := rfl
    refine Ev_true (by omega) (Ev_true (by omega) (Ev_true (by omega) ?_))
    by_cases h4 : x % 4 = 0
    · have hg : g4 x = 0 := if_pos h4
      rw [e, hg, Int.zero_add]
      exact Ev_true (by omega) (ih (i + 1) acc (by omega) h2 (by omega))
    · have hg : g4 x = 8 * (x : Int) := if_neg h4
      have h5 := ih (i + 1) (acc + 8 * (x : Int)) (by omega) (by omega) (by omega)
      rw [e, hg, ← Int.add_assoc]
      exact Ev_false (by omega) h5

/-- The sum over all numbers, as the other loop makes it. -/
theorem all_l0 (n : Nat) (hn : n ≤ 1000000) (j : Nat) : ∀ (d : Nat) (acc : Int), 1 ≤ d → d + j = n + 1 → 0 ≤ acc → acc ≤ 1000000 * (d : Int) →
    Ev (fun k => spec_DivisorSumFour.l0 k (n : Int) acc (d : Int)) (8 * (acc + (sumTo (fun d => if d ∣ n then s4 d else 0) n - sumTo (fun d => if d ∣ n then s4 d else 0) (d - 1))), true) := by
  induction j with
  | zero =>
    intro d acc h1 h2 h3 h4
    obtain rfl : d = n + 1 := by omega
    refine Ev_succ ?_
    simp only [spec_DivisorSumFour.l0]
    rw [Nat.add_sub_cancel, Int.sub_self, Int.add_zero, w64 (x := 8 * acc) (by omega) (by omega)]
    exact Ev_false (by omega) Ev_some
  | succ j ih =>
    intro d acc h1 h2 h3 h4
    refine Ev_succ ?_
    simp only [spec_DivisorSumFour.l0]
    rw [tmod_cast, tmod4, w64 (x := acc + _) (by omega) (by omega), w64 (x := (d : Int) + 1) (by omega) (by omega)]
    have e : sumTo (fun d => if d ∣ n then s4 d else 0) (d + 1 - 1) = sumTo (fun d => if d ∣ n then s4 d else 0) (d - 1) + (if d ∣ n then s4 d else 0) := by
      obtain ⟨q, rfl⟩ : ∃ q, d = q + 1 := ⟨d - 1, by omega⟩
      rfl
    refine Ev_true (by omega) (Ev_false (by omega) ?_)
    by_cases hdv : d ∣ n
    · have hz : n % d = 0 := Nat.mod_eq_zero_of_dvd hdv
      rw [if_pos hdv] at e
      refine Ev_true (by omega) ?_
      by_cases h5 : d % 4 = 0
      · have hg : s4 d = 0 := if_pos h5
        have h6 := ih (d + 1) acc (by omega) (by omega) h3 (by omega)
        rw [e, hg, Int.add_zero] at h6
        exact Ev_false (by omega) h6
      · have hg : s4 d = (d : Int) := if_neg h5
        have h6 := ih (d + 1) (acc + d) (by omega) (by omega) (by omega) (by omega)
        rw [e, hg] at h6
        refine Ev_true (by omega) ?_
        have e2 : ∀ A B : Int, acc + d + (A - (B + d)) = acc + (A - B) := fun A B => by omega
        rw [e2] at h6
        exact h6
    · have hz : n % d ≠ 0 := fun h => hdv (Nat.dvd_of_mod_eq_zero h)
      rw [if_neg hdv, Int.add_zero] at e
      have h6 := ih (d + 1) acc (by omega) (by omega) h3 (by omega)
      rw [e] at h6
      exact Ev_false (by omega) h6

def dsumAns (a : Int) : Int × Bool := if 1 ≤ a ∧ a ≤ 2000 then (0 + sumL g4 ((divL a.toNat 1001 1).drop 0), true) else (0, false)
theorem sum_ev (a : Int) : Ev (fun k => spec_DivisorSumFour.f k a) (dsumAns a) ∧ Ev (fun k => impl_DivisorSumFour.f k a) (dsumAns a) := by
  have hno : Ev (fun k => impl_DivisorSumFour.j0 k a true) (0, false) := by
    refine Ev_succ ?_
    simp only [impl_DivisorSumFour.j0]
    exact Ev_true trivial Ev_some
  unfold spec_DivisorSumFour.f impl_DivisorSumFour.f dsumAns
  rw [isFour_eq, l1In_eq]
  simp only [Option.bind_some]
  by_cases h : 1 ≤ a ∧ a ≤ 2000
  · obtain ⟨n, rfl⟩ := Int.eq_ofNat_of_zero_le (show 0 ≤ a by omega)
    have h1 := all_l0 n (by omega) n 1 0 (by omega) (by omega) (by omega) (by omega)
    have h2 := sum_l0 (l := divL n 1001 1) (by have := divL_len n 1001 1; omega) (fun x hx => by have := divL_mem (n := n) (by omega) 1001 1 (by omega) x hx; omega) (divL n 1001 1).length 0 0 (by omega) (by omega) (by omega)
    have e : 8 * (0 + (sumTo (fun d => if d ∣ n then s4 d else 0) n - sumTo (fun d => if d ∣ n then s4 d else 0) (1 - 1))) = 0 + sumL g4 ((divL n 1001 1).drop 0) := by
      have e0 : sumTo (fun d => if d ∣ n then s4 d else 0) (1 - 1) = 0 := rfl
      rw [List.drop_zero, divL_all g4 (by omega) (by omega), e0, Int.zero_add, Int.zero_add, Int.sub_zero, ← sumTo_scale]
      refine sumTo_congr n fun d _ _ => ?_
      by_cases hd : d ∣ n
      · simp only [if_pos hd]
        unfold s4 g4
        split <;> rfl
      · simp only [if_neg hd]
        rfl
    rw [e] at h1
    rw [if_pos h, Int.toNat_natCast]
    refine ⟨Ev_true (by simpa using h) h1, Ev_true (by simp; omega) ?_⟩
    have e1 : ((n : Int) == 0) = false := by rw [beq_eq_false_iff_ne]; omega
    rw [e1]
    refine Ev_succ ?_
    simp only [impl_DivisorSumFour.j0]
    refine Ev_false (by simp) ?_
    exact Ev.bind (f := fun k t => impl_DivisorSumFour.l0 k 0 t (t.length : Int) 0) (divisors_ev (n := n) (by omega)) h2
  · rw [if_neg h]
    refine ⟨Ev_false (by simpa using h) Ev_some, ?_⟩
    by_cases h0 : a = 0
    · subst h0
      exact Ev_true (by simp) hno
    · exact Ev_false (by simp; omega) hno

end Go.Proofs.Ytpmbffchkcemoaa.Pure
namespace Go.Proofs.Ytpmbffchkcemoaa.ThreeSq

def sqBits : Nat → Nat
  | 0 => 0
  | k + 1 => sqBits k ||| (1 <<< (k * k))
def sumBits (t : Nat) : Nat → Nat
  | 0 => 0
  | k + 1 => sumBits t k ||| (t <<< (k * k))
def refBits (s : Nat) : Nat → Nat
  | 0 => 0
  | k + 1 => refBits s k ||| (1 <<< (s * (8 * k + 7)))

theorem bit_one (i : Nat) (h : Nat.testBit 1 i = true) : i = 0 := by
  cases i with
  | zero => rfl
  | succ i => simp [Nat.testBit_succ] at h

theorem sqBits_mem (k m : Nat) (h : (sqBits k).testBit m = true) : ∃ a, a * a = m := by
  induction k with
  | zero => simp [sqBits] at h
  | succ k ih =>
    rw [sqBits, Nat.testBit_or, Bool.or_eq_true] at h
    rcases h with h | h
    · exact ih h
    · rw [Nat.testBit_shiftLeft, Bool.and_eq_true] at h
      obtain ⟨h1, h2⟩ := h
      have h1 : k * k ≤ m := by simpa using h1
      have h2 : m - k * k = 0 := bit_one _ h2
      exact ⟨k, by omega⟩
theorem sumBits_mem (t k m : Nat) (h : (sumBits t k).testBit m = true) : ∃ a, a * a ≤ m ∧ t.testBit (m - a * a) = true := by
  induction k with
  | zero => simp [sumBits] at h
  | succ k ih =>
    rw [sumBits, Nat.testBit_or, Bool.or_eq_true] at h
    rcases h with h | h
    · exact ih h
    · rw [Nat.testBit_shiftLeft, Bool.and_eq_true] at h
      obtain ⟨h1, h2⟩ := h
      exact ⟨k, by simpa using h1, h2⟩
theorem refBits_mem (s k m : Nat) (h : (refBits s k).testBit m = true) : ∃ b, s * (8 * b + 7) = m := by
  induction k with
  | zero => simp [refBits] at h
  | succ k ih =>
    rw [refBits, Nat.testBit_or, Bool.or_eq_true] at h
    rcases h with h | h
    · exact ih h
    · rw [Nat.testBit_shiftLeft, Bool.and_eq_true] at h
      obtain ⟨h1, h2⟩ := h
      have h1 : s * (8 * k + 7) ≤ m := by simpa using h1
      have h2 : m - s * (8 * k + 7) = 0 := bit_one _ h2
      exact ⟨k, by omega⟩

def refs : Nat → Nat → Nat
  | 0, _ => 0
  | a + 1, s => refBits s (5001 / s + 1) ||| refs a (4 * s)

/-- Told as the program tells it: 4 is taken out, and then the remainder by 8 is 7. -/
inductive Refused : Nat → Prop
  | seven {m : Nat} : m % 8 = 7 → Refused m
  | four {m : Nat} : 0 < m → Refused m → Refused (4 * m)

theorem refused_mul (a b : Nat) : Refused (4 ^ a * (8 * b + 7)) := by
  induction a with
  | zero => exact .seven (by simp)
  | succ a ih =>
    have e : 4 ^ (a + 1) * (8 * b + 7) = 4 * (4 ^ a * (8 * b + 7)) := by rw [Nat.pow_succ, Nat.mul_comm (4 ^ a) 4, Nat.mul_assoc]
    rw [e]
    exact .four (Nat.mul_pos (Nat.pow_pos (by omega)) (by omega)) ih

theorem refs_mem (n : Nat) : ∀ a m, (refs n (4 ^ a)).testBit m = true → Refused m := by
  induction n with
  | zero => intro a m h; simp [refs] at h
  | succ n ih =>
    intro a m h
    rw [refs, Nat.testBit_or, Bool.or_eq_true] at h
    rcases h with h | h
    · obtain ⟨b, rfl⟩ := refBits_mem _ _ _ h
      exact refused_mul a b
    · refine ih (a + 1) m ?_
      rwa [Nat.pow_succ, Nat.mul_comm]

theorem no_three {m : Nat} (h : Refused m) : ∀ a b c : Nat, a * a + b * b + c * c ≠ m := by
  have sq : ∀ a : Nat, a * a % 8 = 0 ∨ a * a % 8 = 1 ∨ a * a % 8 = 4 := by
    intro a
    rw [Nat.mul_mod]
    have := Nat.mod_lt a (show 8 > 0 by omega)
    generalize a % 8 = z at *
    match z with
    | 0 | 1 | 2 | 3 | 4 | 5 | 6 | 7 => simp
    | n + 8 => omega
  have ev : ∀ a : Nat, a * a % 4 = 0 ∧ (∃ x, a = 2 * x) ∨ a * a % 4 = 1 := by
    intro a
    rcases Nat.mod_two_eq_zero_or_one a with e | e
    · left
      refine ⟨?_, a / 2, by omega⟩
      obtain ⟨x, rfl⟩ : ∃ x, a = 2 * x := ⟨a / 2, by omega⟩
      rw [show 2 * x * (2 * x) = 4 * (x * x) by rw [Nat.mul_mul_mul_comm]]
      omega
    · right
      obtain ⟨x, rfl⟩ : ∃ x, a = 2 * x + 1 := ⟨a / 2, by omega⟩
      rw [show (2 * x + 1) * (2 * x + 1) = 4 * (x * x + x) + 1 by
        rw [Nat.add_mul, Nat.mul_add, Nat.mul_mul_mul_comm]
        omega]
      omega
  induction h with
  | seven h =>
    intro a b c e
    have := sq a; have := sq b; have := sq c
    omega
  | @four m _ _ ih =>
    intro a b c e
    have h1 := ev a; have h2 := ev b; have h3 := ev c
    rcases h1 with ⟨_, x, rfl⟩ | h1 <;> rcases h2 with ⟨_, y, rfl⟩ | h2 <;> rcases h3 with ⟨_, z, rfl⟩ | h3 <;> try omega
    refine ih x y z ?_
    rw [Nat.mul_mul_mul_comm, Nat.mul_mul_mul_comm 2 y, Nat.mul_mul_mul_comm 2 z] at e
    omega

def mask (k : Nat) : Nat := 2 ^ k - 1
theorem mask_bit (k i : Nat) : (mask k).testBit i = decide (i < k) := Nat.testBit_two_pow_sub_one k i
theorem covered : (sumBits (sumBits (sqBits 201) 201) 201 ||| refs 8 1) &&& mask 40002 = mask 40002 := by decide +kernel

/-- Each number below 40002 that is not refused is a sum of three squares. -/
theorem three_or_refused (m : Nat) (h : m < 40002) : (∃ a b c : Nat, a * a + b * b + c * c = m) ∨ Refused m := by
  have hb : ((sumBits (sumBits (sqBits 201) 201) 201 ||| refs 8 1) &&& mask 40002).testBit m = true := by
    rw [covered, mask_bit]
    simpa using h
  rw [Nat.testBit_and, Bool.and_eq_true, Nat.testBit_or, Bool.or_eq_true] at hb
  rcases hb.1 with hb | hb
  · left
    obtain ⟨a, ha, hb⟩ := sumBits_mem _ _ _ hb
    obtain ⟨b, hb2, hb⟩ := sumBits_mem _ _ _ hb
    obtain ⟨c, hc⟩ := sqBits_mem _ _ hb
    exact ⟨a, b, c, by omega⟩
  · right
    exact refs_mem 8 0 m (by simpa using hb)

#print axioms three_or_refused
end Go.Proofs.Ytpmbffchkcemoaa.ThreeSq
namespace Go.Proofs.Ytpmbffchkcemoaa.Pure
open Go.RowKit Go.Proofs.Ytpmbffchkcemoaa.P Go.Proofs.YtpmbffchkcemoaaW.PrintWords Go.Proofs.YtpmbffchkcemoaaW.PrintLast Go.Proofs.Ytpmbffchkcemoaa.Q Go.Proofs.Ytpmbffchkcemoaa.ThreeSq
def threeAns (a : Int) : List Int × Bool := if 0 ≤ a ∧ a ≤ 1000000 then firstOf (allL 3 a.toNat a.toNat) else ([], false)
theorem three_ev (a : Int) : Ev (fun k => spec_ThreeSquares.f k a) (threeAns a) ∧ Ev (fun k => impl_ThreeSquares.f k a) (threeAns a) := by
  unfold spec_ThreeSquares.f impl_ThreeSquares.f threeAns
  rw [sqNumber_eq, isTwo_eq]
  simp only [Option.bind_some]
  by_cases h : 0 ≤ a ∧ a ≤ 1000000
  · obtain ⟨n, rfl⟩ := Int.eq_ofNat_of_zero_le h.1
    rw [if_pos h, Int.toNat_natCast]
    refine ⟨Ev_true (by simpa using h) ?_, Ev_true (by simpa using h) ?_⟩
    · exact Ev.bind (f := fun _ (t : List Int × Bool) => some (t.1, t.2)) (sqFirst_ev (p := 3) (n := n) (by omega) (by omega)) Ev_some
    · exact Ev.bind (f := fun _ (t : List Int × Bool) => some (t.1, t.2)) (firstSq_ev (p := 3) (n := n) (by omega) (by omega)) Ev_some
  · rw [if_neg h]
    exact ⟨Ev_false (by simpa using h) Ev_some, Ev_false (by simpa using h) Ev_some⟩
theorem eight_same : ∀ k x, spec_IsRefusedByEight.l0 k x = impl_IsRefusedByEight.l0 k x := by
  intro k
  induction k with
  | zero => intro x; rfl
  | succ k ih => intro x; simp only [spec_IsRefusedByEight.l0, impl_IsRefusedByEight.l0, ih]
theorem not_refused_zero : ¬ Refused 0 := by
  intro h
  generalize e : (0 : Nat) = z at h
  cases h with
  | seven q => omega
  | four q _ => omega
theorem refused_four {m : Nat} : Refused (4 * m) ↔ 0 < m ∧ Refused m := by
  constructor
  · intro h
    generalize e : 4 * m = z at h
    cases h with
    | seven q => omega
    | @four x q r =>
      have : x = m := by omega
      subst this
      exact ⟨q, r⟩
  · exact fun h => .four h.1 h.2
theorem refused_odd {n : Nat} (h : n % 4 ≠ 0) : Refused n ↔ n % 8 = 7 := by
  constructor
  · intro r
    cases r with
    | seven q => exact q
    | four q _ => omega
  · exact .seven
theorem eight_ev : ∀ (d n : Nat), n ≤ d → d ≤ 1000000 → ∃ b, Ev (fun k => impl_IsRefusedByEight.l0 k (n : Int)) (b, true) ∧ (b = true ↔ Refused n)
  | d, 0, _, _ => by
    refine ⟨false, ?_, by simp; exact not_refused_zero⟩
    refine Ev_succ ?_
    simp only [impl_IsRefusedByEight.l0]
    exact Ev_false (by omega) Ev_some
  | 0, n + 1, h, _ => by omega
  | d + 1, n + 1, h, hd => by
    have e4 : Int.tmod ((n + 1 : Nat) : Int) 4 = (((n + 1) % 4 : Nat) : Int) := tmod_cast (n + 1) 4
    have e8 : Int.tmod ((n + 1 : Nat) : Int) 8 = (((n + 1) % 8 : Nat) : Int) := tmod_cast (n + 1) 8
    by_cases h4 : (n + 1) % 4 = 0
    · obtain ⟨b, hb, hr⟩ := eight_ev d ((n + 1) / 4) (by omega) (by omega)
      refine ⟨b, ?_, ?_⟩
      · refine Ev_succ ?_
        simp only [impl_IsRefusedByEight.l0]
        rw [e4, show wrap64 (Int.tdiv ((n + 1 : Nat) : Int) 4) = (((n + 1) / 4 : Nat) : Int) from by rw [show Int.tdiv ((n + 1 : Nat) : Int) 4 = (((n + 1) / 4 : Nat) : Int) from tdiv_cast (n + 1) 4]; exact w64 (by omega) (by omega)]
        exact Ev_true (by omega) (Ev_true (by omega) hb)
      · rw [hr]
        have e : n + 1 = 4 * ((n + 1) / 4) := by omega
        constructor
        · intro q
          rw [e]
          exact refused_four.2 ⟨by omega, q⟩
        · intro q
          rw [e] at q
          exact (refused_four.1 q).2
    · refine ⟨decide ((n + 1) % 8 = 7), ?_, by rw [refused_odd h4]; exact decide_eq_true_iff⟩
      refine Ev_succ ?_
      simp only [impl_IsRefusedByEight.l0]
      rw [e4, e8]
      refine Ev_true (by omega) (Ev_false (by omega) ?_)
      have : ((((n + 1) % 8 : Nat) : Int) == 7) = decide ((n + 1) % 8 = 7) := by
        rw [Bool.eq_iff_iff, beq_iff_eq, decide_eq_true_iff]
        omega
      rw [this]
      exact Ev_some
theorem refused_ev (a : Int) : ∃ b, Ev (fun k => impl_IsRefusedByEight.f k a) (b, decide (0 ≤ a ∧ a ≤ 1000000)) ∧ Ev (fun k => spec_IsRefusedByEight.f k a) (b, decide (0 ≤ a ∧ a ≤ 1000000)) ∧ (0 ≤ a ∧ a ≤ 1000000 → (b = true ↔ Refused a.toNat)) := by
  unfold impl_IsRefusedByEight.f spec_IsRefusedByEight.f
  rw [isTwo_eq, sqNumber_eq]
  simp only [Option.bind_some, eight_same]
  by_cases h : 0 ≤ a ∧ a ≤ 1000000
  · obtain ⟨n, rfl⟩ := Int.eq_ofNat_of_zero_le h.1
    obtain ⟨b, hb, hr⟩ := eight_ev n n (Nat.le_refl _) (by omega)
    rw [decide_eq_true h]
    exact ⟨b, Ev_true rfl hb, Ev_true rfl hb, fun _ => by rw [Int.toNat_natCast]; exact hr⟩
  · rw [decide_eq_false h]
    exact ⟨false, Ev_false (by simp) Ev_some, Ev_false (by simp) Ev_some, fun q => absurd q h⟩
theorem sort3 (a b c : Nat) : ∃ x y z : Nat, x * x + y * y + z * z = a * a + b * b + c * c ∧ z ≤ y ∧ y ≤ x := by
  rcases Nat.le_total a b with h1 | h1 <;> rcases Nat.le_total b c with h2 | h2 <;> rcases Nat.le_total a c with h3 | h3
  · exact ⟨c, b, a, by omega, h1, h2⟩
  · exact ⟨c, b, a, by omega, h1, h2⟩
  · exact ⟨b, c, a, by omega, h3, h2⟩
  · exact ⟨b, a, c, by omega, h3, h1⟩
  · exact ⟨c, a, b, by omega, h1, h3⟩
  · exact ⟨a, c, b, by omega, h2, h3⟩
  · exact ⟨a, b, c, by omega, h2, h1⟩
  · exact ⟨a, b, c, by omega, h2, h1⟩
/-- Three squares are found where the number is not refused. -/
theorem three_found {n : Nat} : (firstOf (allL 3 n n)).2 = true ↔ ∃ a b c : Nat, a * a + b * b + c * c = n := by
  constructor
  · intro h
    cases hL : allL 3 n n with
    | nil => rw [hL] at h; exact absurd h (by simp [firstOf])
    | cons l L =>
      have hm : l ∈ allL 3 n n := by rw [hL]; exact List.mem_cons_self
      have h1 := allL_len hm
      obtain ⟨h2, h3⟩ := allL_fall hm
      match l, h1 with
      | [x, y, z], _ =>
        obtain ⟨x0, _, y0, _, z0, _, _⟩ := h3
        obtain ⟨a, rfl⟩ := Int.eq_ofNat_of_zero_le x0
        obtain ⟨b, rfl⟩ := Int.eq_ofNat_of_zero_le y0
        obtain ⟨c, rfl⟩ := Int.eq_ofNat_of_zero_le z0
        refine ⟨a, b, c, ?_⟩
        simp only [sqs] at h2
        have : ((a * a + b * b + c * c : Nat) : Int) = n := by
          simp
          omega
        omega
  · rintro ⟨a, b, c, h⟩
    obtain ⟨x, y, z, e, h1, h2⟩ := sort3 a b c
    have hx : x ≤ n := by
      have : x * x ≤ n := by omega
      rcases Nat.eq_zero_or_pos x with q | q
      · omega
      · have := Nat.le_mul_of_pos_left x q
        omega
    have hm := allL_has [(x : Int), (y : Int), (z : Int)] (most := n) (n := n) (by
      simp only [sqs]
      have : ((x * x + y * y + z * z : Nat) : Int) = n := by omega
      simp at this
      omega) ⟨by omega, by omega, by omega, by omega, by omega, by omega, trivial⟩
    cases hL : allL 3 n n with
    | nil =>
      rw [show ([(x : Int), (y : Int), (z : Int)]).length = 3 from rfl, hL] at hm
      exact absurd hm (by simp)
    | cons l L => rfl
end Go.Proofs.Ytpmbffchkcemoaa.Pure
namespace Go.Proofs.Ytpmbffchkcemoaa.Q
open Go.RowKit Go.Proofs.Ytpmbffchkcemoaa.P Go.Proofs.YtpmbffchkcemoaaW.PrintWords Go.Proofs.YtpmbffchkcemoaaW.PrintLast

/-- The number is prime: no number from d on whose square is at most it divides it. -/
def noDivFrom (n d : Nat) : Prop := ∀ e, d ≤ e → e * e ≤ n → ¬ e ∣ n
def isPr (n : Nat) : Prop := 2 ≤ n ∧ noDivFrom n 2

theorem noDiv_end {n d : Nat} (h : ¬ d * d ≤ n) : noDivFrom n d := by
  intro e h1 h2
  have h3 : d * d ≤ e * e := Nat.mul_le_mul h1 h1
  omega
theorem noDiv_step {n d : Nat} (h : ¬ d ∣ n) (hn : noDivFrom n (d + 1)) : noDivFrom n d := by
  intro e h1 h2 h3
  by_cases he : e = d
  · subst he; exact h h3
  · exact hn e (by omega) h2 h3
theorem noDiv_iff {n d : Nat} (h : ¬ d ∣ n) : noDivFrom n d ↔ noDivFrom n (d + 1) :=
  ⟨fun hn e h1 h2 h3 => hn e (by omega) h2 h3, noDiv_step h⟩

open Classical in
noncomputable def ndB (n d : Nat) : Bool := @decide (2 ≤ n ∧ noDivFrom n d) (propDecidable _)
noncomputable def prB (n : Nat) : Bool := ndB n 2
theorem ndB_iff (n d : Nat) : ndB n d = true ↔ 2 ≤ n ∧ noDivFrom n d := by unfold ndB; exact @decide_eq_true_iff _ (Classical.propDecidable _)
theorem prB_iff (n : Nat) : prB n = true ↔ isPr n := ndB_iff n 2
theorem ndB_hit {n d : Nat} (h : d * d ≤ n) (hd : d ∣ n) : ndB n d = false := by
  rw [← Bool.not_eq_true, ndB_iff]
  intro h2
  exact h2.2 d (Nat.le_refl _) h hd
theorem ndB_miss {n d : Nat} (h : ¬ d ∣ n) : ndB n d = ndB n (d + 1) := by
  rw [Bool.eq_iff_iff, ndB_iff, ndB_iff, noDiv_iff h]
theorem ndB_end {n d : Nat} (h : ¬ d * d ≤ n) : ndB n d = decide ((n : Int) > 1) := by
  rw [Bool.eq_iff_iff, ndB_iff, decide_eq_true_iff]
  exact ⟨fun h => by omega, fun h2 => ⟨by omega, noDiv_end h⟩⟩



end Go.Proofs.Ytpmbffchkcemoaa.Q
namespace Go.Proofs.Ytpmbffchkcemoaa.Q
open Go.RowKit Go.Proofs.Ytpmbffchkcemoaa.P Go.Proofs.YtpmbffchkcemoaaW.PrintWords Go.Proofs.YtpmbffchkcemoaaW.PrintLast

/-- Bytes. -/
def Bytes (l : List Int) : Prop := l.length ≤ 1000000000000000 ∧ ∀ x ∈ l, 0 ≤ x ∧ x ≤ 255
theorem Bytes.of {l : List Int} (h1 : l.length * 1 ≤ 140737488351232) (h2 : ∀ x ∈ l, (Lit.int .u8 x).wf = true) : Bytes l := by
  refine ⟨by omega, fun x hx => ?_⟩
  have h := h2 x hx
  simp [Lit.wf, IntKind.min, IntKind.max, IntKind.signed, IntKind.bits] at h
  omega
theorem seed_bound (x : Int) : 0 ≤ wrap64 (Go.bits .and .u64 (IntKind.u64.wrap x / 1099511627776) 255) ∧ wrap64 (Go.bits .and .u64 (IntKind.u64.wrap x / 1099511627776) 255) ≤ 255 := by
  have e := IntKind.wrap_u64 x
  have h1 : 0 ≤ IntKind.u64.wrap x / 1099511627776 ∧ IntKind.u64.wrap x / 1099511627776 < 18446744073709551616 := by
    rw [e]
    omega
  rw [u64_and _ _ h1.1 h1.2 (by omega) (by omega)]
  have h2 : (IntKind.u64.wrap x / 1099511627776).toNat &&& (255 : Int).toNat ≤ 255 := Nat.and_le_right
  rw [w64 (by omega) (by omega)]
  omega
theorem next_eq {l : List Int} (hl : Bytes l) (t s : Int) (h0 : 0 ≤ t) (h1 : t ≤ 1000000000000000) : ∃ v s', spec_l1Cur_next.f l t s = some (v, t + 1, s') ∧ 0 ≤ v ∧ v ≤ 255 := by
  have hn := hl.1
  unfold spec_l1Cur_next.f
  rw [w64 (x := t + 1) (by omega) (by omega)]
  by_cases h : t < (l.length : Int)
  · have hm : 0 ≤ rd l t ∧ rd l t ≤ 255 := by
      have h2 : t.toNat < l.length := by omega
      have h3 : rd l t = l[t.toNat] := by simp [rd, List.getD_eq_getElem?_getD, List.getElem?_eq_getElem h2]
      rw [h3]
      exact hl.2 _ (List.getElem_mem h2)
    rw [if_pos h, if_pos h0, if_pos (by omega), w64 (x := rd l t) (by omega) (by omega)]
    exact ⟨_, _, rfl, hm.1, hm.2⟩
  · rw [if_neg h, if_neg (by omega)]
    have h2 := seed_bound (IntKind.u64.wrap (IntKind.u64.wrap (s * 6364136223846793005)) + 1442695040888963407)
    exact ⟨_, _, rfl, h2.1, h2.2⟩
theorem pick_eq {l : List Int} (hl : Bytes l) (t s n : Int) (h0 : 0 ≤ t) (h1 : t ≤ 100000000000000) (hn : n ≤ 1000000000000) :
    ∃ v t' s', spec_l1Cur_pick.f l t s n = some (v, t', s') ∧ 0 ≤ v ∧ (1 ≤ n → v < n) ∧ t ≤ t' ∧ t' ≤ t + 2 := by
  unfold spec_l1Cur_pick.f
  by_cases h : n ≤ 1
  · rw [if_pos h]
    exact ⟨_, _, _, rfl, by omega, by omega, by omega, by omega⟩
  · rw [if_neg h]
    obtain ⟨v, s1, e1, v0, v1⟩ := next_eq hl t s h0 (by omega)
    rw [e1]
    simp only [Option.bind_some]
    by_cases h2 : n > 200
    · rw [if_pos h2]
      obtain ⟨u, s2, e2, u0, u1⟩ := next_eq hl (t + 1) s1 (by omega) (by omega)
      rw [e2]
      simp only [Option.bind_some]
      rw [if_neg (by omega), w64 (x := v * 256) (by omega) (by omega), w64 (x := v * 256 + u) (by omega) (by omega), Int.tmod_eq_emod_of_nonneg (by omega)]
      have h3 := Int.emod_nonneg (v * 256 + u) (show n ≠ 0 by omega)
      have h4 := Int.emod_lt_of_pos (v * 256 + u) (show 0 < n by omega)
      exact ⟨_, _, _, rfl, h3, fun _ => h4, by omega, by omega⟩
    · rw [if_neg h2, if_neg (by omega), Int.tmod_eq_emod_of_nonneg v0]
      have h3 := Int.emod_nonneg v (show n ≠ 0 by omega)
      have h4 := Int.emod_lt_of_pos v (show 0 < n by omega)
      exact ⟨_, _, _, rfl, h3, fun _ => h4, by omega, by omega⟩
theorem among_eq {l : List Int} (hl : Bytes l) (t s : Int) (m : List Int) (h0 : 0 ≤ t) (h1 : t ≤ 100000000000000) (hm : 1 ≤ m.length) (hm2 : m.length ≤ 1000000000) :
    ∃ v t' s', spec_l1Cur_among.f l t s m = some (v, t', s') ∧ v ∈ m ∧ t ≤ t' ∧ t' ≤ t + 2 := by
  unfold spec_l1Cur_among.f
  obtain ⟨v, t', s', e, v0, v1, ht, ht'⟩ := pick_eq hl t s (m.length : Int) h0 h1 (by omega)
  rw [e]
  simp only [Option.bind_some]
  have h2 := v1 (by omega)
  rw [if_pos v0, if_pos h2]
  have h3 : v.toNat < m.length := by omega
  have h4 : rd m v = m[v.toNat] := by simp [rd, List.getD_eq_getElem?_getD, List.getElem?_eq_getElem h3]
  exact ⟨_, _, _, rfl, by rw [h4]; exact List.getElem_mem h3, ht, ht'⟩
end Go.Proofs.Ytpmbffchkcemoaa.Q
namespace Go.Proofs.Ytpmbffchkcemoaa.Q
open Go.RowKit Go.Proofs.Ytpmbffchkcemoaa.P Go.Proofs.YtpmbffchkcemoaaW.PrintWords Go.Proofs.YtpmbffchkcemoaaW.PrintLast
theorem pick_low {l : List Int} (hl : Bytes l) (t s n : Int) (h0 : 0 ≤ t) (h1 : t ≤ 100000000000000) (hn : n ≤ 1000000000000) :
    ∃ v t' s', spec_l1Cur_pick.f l t s n = some (v, t', s') ∧ 0 ≤ v ∧ (1 ≤ n → v < n) ∧ v ≤ 65535 ∧ t ≤ t' ∧ t' ≤ t + 2 := by
  unfold spec_l1Cur_pick.f
  by_cases h : n ≤ 1
  · rw [if_pos h]
    exact ⟨_, _, _, rfl, by omega, by omega, by omega, by omega, by omega⟩
  · rw [if_neg h]
    obtain ⟨v, s1, e1, v0, v1⟩ := next_eq hl t s h0 (by omega)
    rw [e1]
    simp only [Option.bind_some]
    by_cases h2 : n > 200
    · rw [if_pos h2]
      obtain ⟨u, s2, e2, u0, u1⟩ := next_eq hl (t + 1) s1 (by omega) (by omega)
      rw [e2]
      simp only [Option.bind_some]
      rw [if_neg (by omega), w64 (x := v * 256) (by omega) (by omega), w64 (x := v * 256 + u) (by omega) (by omega), Int.tmod_eq_emod_of_nonneg (by omega)]
      have h3 := Int.emod_nonneg (v * 256 + u) (show n ≠ 0 by omega)
      have h4 := Int.emod_lt_of_pos (v * 256 + u) (show 0 < n by omega)
      have h5 : (v * 256 + u) % n ≤ v * 256 + u := by
        have k1 := Int.mul_ediv_add_emod (v * 256 + u) n
        have k2 := Int.mul_nonneg (show 0 ≤ n by omega) (Int.ediv_nonneg (show 0 ≤ v * 256 + u by omega) (show 0 ≤ n by omega))
        omega
      exact ⟨_, _, _, rfl, h3, fun _ => h4, by omega, by omega, by omega⟩
    · rw [if_neg h2, if_neg (by omega), Int.tmod_eq_emod_of_nonneg v0]
      have h3 := Int.emod_nonneg v (show n ≠ 0 by omega)
      have h4 := Int.emod_lt_of_pos v (show 0 < n by omega)
      exact ⟨_, _, _, rfl, h3, fun _ => h4, by omega, by omega, by omega⟩
theorem one_any {l : List Int} (hl : Bytes l) (t s n : Int) (h0 : 0 ≤ t) (h1 : t ≤ 100000000000000) (hn : n ≤ 1000000000000) : ∃ v t' s', spec_l1Cur_one.f l t s n = some (v, t', s') ∧ t ≤ t' ∧ t' ≤ t + 2 := by
  unfold spec_l1Cur_one.f
  obtain ⟨v, t1, s1, e1, v0, v1, ht, ht'⟩ := pick_eq hl t s n h0 h1 hn
  rw [e1]
  exact ⟨_, _, _, rfl, ht, ht'⟩
theorem least_eq (a b : Int) : spec_l1Least.f a b = some (if a < b then a else b) := by
  unfold spec_l1Least.f
  split <;> rfl
/-- The numbers that are drawn. -/
def Drawn9 (n v : Int) : Prop := v ∈ ([-1, 0, 1, 2, 3, 7, n, n + 1] : List Int) ∨ (0 ≤ v ∧ v < n ∧ v ≤ 65535)
theorem number9_eq {l : List Int} (hl : Bytes l) {n : Int} (h1 : 600 ≤ n) (h2 : n ≤ 1000000000) :
    ∃ v t' s', spec_l1Cur_number9.f l 0 0 n = some (v, t', s') ∧ Drawn9 n v ∧ 0 ≤ t' ∧ t' ≤ 10 := by
  unfold spec_l1Cur_number9.f
  obtain ⟨v, t1, s1, e1, _, _, ht, ht'⟩ := pick_eq hl 0 0 8 (by omega) (by omega) (by omega)
  rw [e1]
  simp only [Option.bind_some]
  split
  · obtain ⟨u, t2, s2, e2, hu, _, _⟩ := among_eq hl t1 s1 ([(-1), 0, 1, 2, 3, 7, n, wrap64 (n + 1)] : List Int) (by omega) (by omega) (by simp) (by simp)
    rw [e2]
    rw [w64 (by omega) (by omega)] at hu
    exact ⟨u, t2, s2, rfl, Or.inl hu, by omega, by omega⟩
  · split
    · obtain ⟨u, t2, s2, e2, u0, u1, u2, _, _⟩ := pick_low hl t1 s1 n (by omega) (by omega) (by omega)
      rw [e2]
      exact ⟨u, t2, s2, rfl, Or.inr ⟨u0, u1 (by omega), u2⟩, by omega, by omega⟩
    · rw [least_eq]
      simp only [Option.bind_some]
      have hq : (if n < 600 then n else 600) = 600 := if_neg (by omega)
      rw [hq]
      obtain ⟨u, t2, s2, e2, u0, u1, u2, _, _⟩ := pick_low hl t1 s1 600 (by omega) (by omega) (by omega)
      rw [e2]
      have := u1 (by omega)
      exact ⟨u, t2, s2, rfl, Or.inr ⟨u0, by omega, u2⟩, by omega, by omega⟩
theorem pr_two : isPr 2 := by
  refine ⟨by omega, fun e h1 h2 _ => ?_⟩
  have := Nat.mul_le_mul h1 h1
  omega
end Go.Proofs.Ytpmbffchkcemoaa.Q
namespace Go.Proofs.Ytpmbffchkcemoaa.Q
open Go.RowKit Go.Proofs.Ytpmbffchkcemoaa.P Go.Proofs.YtpmbffchkcemoaaW.PrintWords Go.Proofs.YtpmbffchkcemoaaW.PrintLast

theorem big_eq (l m : List Int) : ∃ b, laws_big.f l m = some b := by
  unfold laws_big.f
  split <;> exact ⟨_, rfl⟩
end Go.Proofs.Ytpmbffchkcemoaa.Q
namespace Go.Proofs.Ytpmbffchkcemoaa.Q
open Go.RowKit Go.Proofs.Ytpmbffchkcemoaa.P Go.Proofs.YtpmbffchkcemoaaW.PrintWords Go.Proofs.YtpmbffchkcemoaaW.PrintLast

theorem rdv {l : List Int} {i : Nat} (h : i < l.length) : rd l (i : Int) = l[i] := by
  simp [rd, List.getD_eq_getElem?_getD, List.getElem?_eq_getElem h]
theorem rdvRow {l : List (List Int)} {i : Nat} (h : i < l.length) : rd_L2 l (i : Int) = l[i] := by
  simp [rd_L2, List.getD_eq_getElem?_getD, List.getElem?_eq_getElem h]
theorem vSame_l0 {l m : List Int} (hl : l.length = m.length) (hn : l.length ≤ 4611686018427387904) (d : Nat) : ∀ i : Nat, i + d = l.length → Ev (fun k => laws_vSame.l0 k l m (l.length : Int) (i : Int)) (decide (l.drop i = m.drop i)) := by
  induction d with
  | zero =>
    intro i hi
    refine Ev_succ ?_
    simp only [laws_vSame.l0]
    rw [List.drop_of_length_le (by omega), List.drop_of_length_le (by omega)]
    exact Ev_false (by omega) Ev_some
  | succ d ih =>
    intro i hi
    have h1 : i < l.length := by omega
    have h2 : i < m.length := by omega
    refine Ev_succ ?_
    simp only [laws_vSame.l0]
    rw [rdv h1, rdv h2, List.drop_eq_getElem_cons h1, List.drop_eq_getElem_cons h2, w64 (by omega) (by omega)]
    refine Ev_true (by omega) (Ev_true (by omega) (Ev_true (by omega) (Ev_true (by omega) ?_)))
    by_cases he : l[i] = m[i]
    · have e : decide (l[i] :: l.drop (i + 1) = m[i] :: m.drop (i + 1)) = decide (l.drop (i + 1) = m.drop (i + 1)) :=
        decide_eq_decide.2 ⟨fun h => (List.cons.inj h).2, fun h => by rw [he, h]⟩
      rw [e]
      exact Ev_true he (ih (i + 1) (by omega))
    · have e : decide (l[i] :: l.drop (i + 1) = m[i] :: m.drop (i + 1)) = false := by
        rw [decide_eq_false_iff_not]
        intro h
        exact he (List.cons.inj h).1
      rw [e]
      exact Ev_false he Ev_some
theorem vSame_ev {l m : List Int} (hn : l.length ≤ 4611686018427387904) : Ev (fun k => laws_vSame.f k l m) (decide (l = m)) := by
  unfold laws_vSame.f
  by_cases h : l.length = m.length
  · exact Ev_true (by omega) (vSame_l0 h hn l.length 0 (by omega))
  · have e : decide (l = m) = false := by
      rw [decide_eq_false_iff_not]
      intro he
      exact h (by rw [he])
    rw [e]
    exact Ev_false (by omega) Ev_some
theorem vSame_same {l : List Int} (hn : l.length ≤ 4611686018427387904) : Ev (fun k => laws_vSame.f k l l) true := by
  have h := vSame_ev (m := l) hn
  simpa using h
theorem vSameLists_l0 {L : List (List Int)} (hn : L.length ≤ 4611686018427387904) (hx : ∀ x ∈ L, x.length ≤ 4611686018427387904) (d : Nat) : ∀ i : Nat, i + d = L.length → Ev (fun k => laws_vSameLists.l0 k L L (L.length : Int) (i : Int)) true := by
  induction d with
  | zero =>
    intro i hi
    refine Ev_succ ?_
    simp only [laws_vSameLists.l0]
    exact Ev_false (by omega) Ev_some
  | succ d ih =>
    intro i hi
    have h1 : i < L.length := by omega
    refine Ev_succ ?_
    simp only [laws_vSameLists.l0]
    rw [rdvRow h1, w64 (by omega) (by omega)]
    exact Ev_true (by omega) (Ev_true (by omega) (Ev_true (by omega) (Ev_true (by omega) (Ev.bind (vSame_same (hx _ (List.getElem_mem h1))) (Ev_true rfl (ih (i + 1) (by omega)))))))
theorem vSameLists_same {L : List (List Int)} (hn : L.length ≤ 4611686018427387904) (hx : ∀ x ∈ L, x.length ≤ 4611686018427387904) : Ev (fun k => laws_vSameLists.f k L L) true := by
  unfold laws_vSameLists.f
  exact Ev_true rfl (vSameLists_l0 hn hx L.length 0 (by omega))
end Go.Proofs.Ytpmbffchkcemoaa.Q
namespace Go.Proofs.Ytpmbffchkcemoaa.Q
open Go.RowKit Go.Proofs.Ytpmbffchkcemoaa.P Go.Proofs.YtpmbffchkcemoaaW.PrintWords Go.Proofs.YtpmbffchkcemoaaW.PrintLast
theorem rdRow {L : List (List Int)} {i : Nat} {x : List Int} (h : L[i]? = some x) : rd_L2 L (i : Int) = x ∧ i < L.length := by
  obtain ⟨h1, h2⟩ := List.getElem?_eq_some_iff.1 h
  exact ⟨(rdvRow h1).trans h2, h1⟩
theorem rdRow0 {L : List (List Int)} {x : List Int} (h : L[0]? = some x) : rd_L2 L 0 = x ∧ 0 < L.length := rdRow (i := 0) h
theorem rd30 (x y z : Int) : rd [x, y, z] 0 = x := rfl
theorem rd31 (x y z : Int) : rd [x, y, z] 1 = y := rfl
theorem rd32 (x y z : Int) : rd [x, y, z] 2 = z := rfl
theorem len3 (x y z : Int) : (([x, y, z] : List Int).length : Int) = 3 := rfl
end Go.Proofs.Ytpmbffchkcemoaa.Q
namespace Go.Proofs.Ytpmbffchkcemoaa.Q
open Go.RowKit Go.Proofs.Ytpmbffchkcemoaa.P Go.Proofs.YtpmbffchkcemoaaW.PrintWords Go.Proofs.YtpmbffchkcemoaaW.PrintLast
theorem vSq_l0 {l : List Int} (hn : l.length ≤ 4611686018427387904) (d : Nat) : ∀ (i : Nat) (acc : Int), i + d = l.length → 0 ≤ acc → acc + sqs (l.drop i) ≤ 9000000000000000000 →
    Ev (fun k => laws_vSquares.l0 k acc l (l.length : Int) (i : Int)) (acc + sqs (l.drop i)) := by
  induction d with
  | zero =>
    intro i acc hi _ _
    refine Ev_succ ?_
    simp only [laws_vSquares.l0]
    refine Ev_false (by omega) ?_
    rw [List.drop_of_length_le (by omega)]
    simp only [sqs, Int.add_zero]
    exact Ev_some
  | succ d ih =>
    intro i acc hi h0 hb
    have h1 : i < l.length := by omega
    refine Ev_succ ?_
    simp only [laws_vSquares.l0]
    rw [List.drop_eq_getElem_cons h1] at hb ⊢
    simp only [sqs] at hb ⊢
    have k1 := sq_nn l[i]
    have k2 := sqs_nn (l.drop (i + 1))
    rw [rdv h1, w64 (x := l[i] * l[i]) (by omega) (by omega), w64 (x := acc + l[i] * l[i]) (by omega) (by omega), w64 (x := (i : Int) + 1) (by omega) (by omega)]
    have := ih (i + 1) (acc + l[i] * l[i]) (by omega) (by omega) (by omega)
    rw [show acc + (l[i] * l[i] + sqs (l.drop (i + 1))) = acc + l[i] * l[i] + sqs (l.drop (i + 1)) by omega]
    exact Ev_true (by omega) (Ev_true (by omega) (Ev_true (by omega) this))
theorem vSq_ev {l : List Int} (hn : l.length ≤ 4611686018427387904) (hb : sqs l ≤ 9000000000000000000) : Ev (fun k => laws_vSquares.f k l) (sqs l) := by
  have h := vSq_l0 hn l.length 0 0 (by omega) (by omega) (by simpa using hb)
  simpa [laws_vSquares.f] using h
end Go.Proofs.Ytpmbffchkcemoaa.Q

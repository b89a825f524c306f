/- Several parts in one text: What the program's TwoSquares and AllTwoSquares come to. What both programs' CountTwo come to. What both programs' DivisorBalance come to. The prime number that refuses two squares: what both programs answer, and what it says of the divisors. Products of two lists: both programs test and multiply alike. Two lists of two. The sum of the squares of a list. The product of two lists of two numbers, and the sum of its squares. -/
import Derived.Test.YtpmbffchkcemoaaIx1
import Derived.Test.YtpmbffchkcemoaaIx3
import Derived.Test.YtpmbffchkcemoaaIQ1
import Derived.Test.YtpmbffchkcemoaaIx4
import Derived.Test.YtpmbffchkcemoaaIx5
import Derived.Test.YtpmbffchkcemoaaIQ2
import Derived.Test.YtpmbffchkcemoaaIx2
import Derived.Test.YtpmbffchkcemoaaIx6
import Derived.Test.YtpmbffchkcemoaaIx7
import Derived.Test.YtpmbffchkcemoaaIQEv
namespace Go.Proofs.Ytpmbffchkcemoaa.Q
open Go.RowKit Go.Proofs.Ytpmbffchkcemoaa.P Go.Proofs.YtpmbffchkcemoaaW.PrintWords Go.Proofs.YtpmbffchkcemoaaW.PrintLast
def twoAns (a : Int) : List Int × Bool := if 0 ≤ a ∧ a ≤ 1000000 then firstOf (allL 2 a.toNat a.toNat) else ([], false)
def allTwoAns (a : Int) : List (List Int) × Bool := if 0 ≤ a ∧ a ≤ 1000000 then (allL 2 a.toNat a.toNat, true) else ([], false)
theorem impl_two_ev (a : Int) : Ev (fun k => impl_TwoSquares.f k a) (twoAns a) := by
 unfold impl_TwoSquares.f twoAns
 rw [isTwo_eq]
 simp only [Option.bind_some]
 by_cases h : 0 ≤ a ∧ a ≤ 1000000
 ·
  rw [if_pos h]
  obtain ⟨n, rfl⟩ := Int.eq_ofNat_of_zero_le h.1
  refine Ev_true (by simpa using h) ?_
  exact Ev.bind (f := fun _ (t : List Int × Bool) => some (t.1, t.2)) (firstSq_ev (p := 2) (n := n) (by omega) (by omega)) Ev_some
 ·
  rw [if_neg h]
  exact Ev_false (by simpa using h) Ev_some
theorem impl_allTwo_ev (a : Int) : Ev (fun k => impl_AllTwoSquares.f k a) (allTwoAns a) := by
 unfold impl_AllTwoSquares.f allTwoAns
 rw [isTwo_eq]
 simp only [Option.bind_some]
 by_cases h : 0 ≤ a ∧ a ≤ 1000000
 ·
  rw [if_pos h]
  obtain ⟨n, rfl⟩ := Int.eq_ofNat_of_zero_le h.1
  have hfew := allL_two (n := n) (by omega) n
  refine Ev_true (by simpa using h) ?_
  exact Ev.bind (f := fun _ t => some (t, true)) (allSq_ev (p := 2) (n := n) (by omega) (by omega) (by omega)) Ev_some
 ·
  rw [if_neg h]
  exact Ev_false (by simpa using h) Ev_some
theorem spec_two_ev (a : Int) : Ev (fun k => spec_TwoSquares.f k a) (twoAns a) := by
 unfold spec_TwoSquares.f twoAns
 rw [sqNumber_eq]
 simp only [Option.bind_some]
 by_cases h : 0 ≤ a ∧ a ≤ 1000000
 ·
  rw [if_pos h]
  obtain ⟨n, rfl⟩ := Int.eq_ofNat_of_zero_le h.1
  refine Ev_true (by simpa using h) ?_
  exact Ev.bind (f := fun _ (t : List Int × Bool) => some (t.1, t.2)) (sqFirst_ev (p := 2) (n := n) (by omega) (by omega)) Ev_some
 ·
  rw [if_neg h]
  exact Ev_false (by simpa using h) Ev_some
theorem spec_allTwo_ev (a : Int) : Ev (fun k => spec_AllTwoSquares.f k a) (allTwoAns a) := by
 unfold spec_AllTwoSquares.f allTwoAns
 rw [sqNumber_eq]
 simp only [Option.bind_some]
 by_cases h : 0 ≤ a ∧ a ≤ 1000000
 ·
  rw [if_pos h]
  obtain ⟨n, rfl⟩ := Int.eq_ofNat_of_zero_le h.1
  have hfew := allL_two (n := n) (by omega) n
  refine Ev_true (by simpa using h) ?_
  exact Ev.bind (f := fun _ t => some (t, true)) (sqAllAll_ev (p := 2) (n := n) (by omega) (by omega) (by omega)) Ev_some
 ·
  rw [if_neg h]
  exact Ev_false (by simpa using h) Ev_some
end Go.Proofs.Ytpmbffchkcemoaa.Q
namespace Go.Proofs.Ytpmbffchkcemoaa.Q
open Go.RowKit Go.Proofs.Ytpmbffchkcemoaa.P Go.Proofs.YtpmbffchkcemoaaW.PrintWords Go.Proofs.YtpmbffchkcemoaaW.PrintLast
theorem ctwo_l0 {L : List (List Int)} (hL : L.length ≤ 1000000) (h4 : ∀ l ∈ L, l.length ≤ 4 ∧ ∀ x ∈ l, 0 ≤ x) (d : Nat) : ∀ (i acc : Nat), i + d = L.length → acc ≤ 4096 * i →
 Ev (fun k => spec_CountTwo.l0 k (acc : Int) L (L.length : Int) (i : Int)) (((acc + sumSigns (L.drop i) : Nat) : Int), true) := by
 induction d with
 | zero =>
  intro i acc h1 h2
  refine Ev_succ ?_
  simp only [spec_CountTwo.l0]
  rw [List.drop_of_length_le (by omega)]
  exact Ev_false (by omega) Ev_some
 | succ d ih =>
  intro i acc h1 h2
  have hi : i < L.length := by omega
  obtain ⟨hl, hp⟩ := h4 L[i] (List.getElem_mem hi)
  have hs := signs_le hl
  refine Ev_succ ?_
  simp only [spec_CountTwo.l0]
  rw [rdLL hi, List.drop_eq_getElem_cons hi, w64 (x := (i : Int) + 1) (by omega) (by omega)]
  refine Ev_true (by omega) (Ev_true (by omega) (Ev_true (by omega) (Ev.bind (sqSigns_ev hl hp) ?_)))
  rw [w64 (x := (acc : Int) + ((signs L[i] : Nat) : Int)) (by omega) (by omega)]
  have h := ih (i + 1) (acc + signs L[i]) (by omega) (by omega)
  have e : acc + sumSigns (L[i] :: L.drop (i + 1)) = acc + signs L[i] + sumSigns (L.drop (i + 1)) := by
   show acc + (signs L[i] + sumSigns (L.drop (i + 1))) = _
   omega
  rw [e]
  simpa using h

def countTwoAns (a : Int) : Int × Bool := if 0 ≤ a ∧ a ≤ 1000000 then (((sumSigns (allL 2 a.toNat a.toNat) : Nat) : Int), true) else (0, false)
theorem ctwo_ev (a : Int) : Ev (fun k => spec_CountTwo.f k a) (countTwoAns a) ∧ Ev (fun k => impl_CountTwo.f k a) (countTwoAns a) := by
 unfold spec_CountTwo.f impl_CountTwo.f countTwoAns
 rw [sqNumber_eq, isTwo_eq]
 simp only [Option.bind_some]
 by_cases h : 0 ≤ a ∧ a ≤ 1000000
 ·
  rw [if_pos h]
  obtain ⟨n, rfl⟩ := Int.eq_ofNat_of_zero_le h.1
  rw [Int.toNat_natCast]
  have hfew : (allL 2 n n).length ≤ 1000000 := by
   have := allL_two (n := n) (by omega) n
   omega
  refine ⟨Ev_true (by simpa using h) ?_, Ev_true (by simpa using h) ?_⟩
  ·
   refine Ev.bind (sqAllAll_ev (p := 2) (n := n) (by omega) (by omega) hfew) ?_
   have h := ctwo_l0 hfew (fun l hl => ⟨by have := allL_len hl; omega, allL_pos hl⟩) (allL 2 n n).length 0 0 (by omega) (by omega)
   simpa using h
  ·
   exact Ev.bind (f := fun _ t => some (t, true)) (countSq_ev (p := 2) (n := n) (by omega) (by omega) hfew) Ev_some
 ·
  rw [if_neg h]
  exact ⟨Ev_false (by simpa using h) Ev_some, Ev_false (by simpa using h) Ev_some⟩
end Go.Proofs.Ytpmbffchkcemoaa.Q
namespace Go.Proofs.Ytpmbffchkcemoaa.Q
open Go.RowKit Go.Proofs.Ytpmbffchkcemoaa.P Go.Proofs.YtpmbffchkcemoaaW.PrintWords Go.Proofs.YtpmbffchkcemoaaW.PrintLast Go.Proofs.Ytpmbffchkcemoaa.DivPair Go.Proofs.Ytpmbffchkcemoaa.Ref
def gb (d : Nat) : Int := if d % 4 = 1 then 4 else if d % 4 = 3 then -4 else 0
def sb (d : Nat) : Int := if d % 2 = 1 then 2 - ((d % 4 : Nat) : Int) else 0
theorem gb_sb (d : Nat) : gb d = 4 * sb d := by
 unfold gb sb
 have : d % 4 < 4 := Nat.mod_lt _ (by omega)
 by_cases h1 : d % 4 = 1
 ·
  rw [if_pos h1, if_pos (by omega), h1]; rfl
 ·
  rw [if_neg h1]
  by_cases h3 : d % 4 = 3
  ·
   rw [if_pos h3, if_pos (by omega), h3]; rfl
  ·
   rw [if_neg h3, if_neg (by omega)]; rfl
theorem sb_bd (d : Nat) : -1 ≤ sb d ∧ sb d ≤ 1 := by
 unfold sb
 split <;> omega

theorem btmod4 (d : Nat) : Int.tmod (d : Int) 4 = ((d % 4 : Nat) : Int) := tmod_cast d 4
theorem btmod2 (d : Nat) : Int.tmod (d : Int) 2 = ((d % 2 : Nat) : Int) := tmod_cast d 2

theorem bal_l0 {l : List Int} (hl : l.length ≤ 5000) (hm : ∀ x ∈ l, 1 ≤ x ∧ x ≤ 1000000) (j : Nat) : ∀ (i : Nat) (acc : Int), i + j = l.length → -4 * (i : Int) ≤ acc → acc ≤ 4 * (i : Int) →
 Ev (fun k => impl_DivisorBalance.l0 k acc l (l.length : Int) (i : Int)) (acc + sumL gb (l.drop i), true) := by
 induction j with
 | zero =>
  intro i acc h1 h2 h3
  refine Ev_succ ?_
  simp only [impl_DivisorBalance.l0]
  rw [List.drop_of_length_le (by omega)]
  simp only [sumL, Int.add_zero]
  exact Ev_false (by omega) Ev_some
 | succ j ih =>
  intro i acc h1 h2 h3
  have hi : i < l.length := by omega
  obtain ⟨b1, b2⟩ := hm l[i] (List.getElem_mem hi)
  refine Ev_succ ?_
  simp only [impl_DivisorBalance.l0]
  rw [rd_nat hi, drop_at hi]
  obtain ⟨x, hx⟩ := Int.eq_ofNat_of_zero_le (show 0 ≤ l[i] by omega)
  rw [hx] at b1 b2 ⊢
  rw [btmod4, w64 (x := acc + 4) (by omega) (by omega), w64 (x := acc - 4) (by omega) (by omega), w64 (x := (i : Int) + 1) (by omega) (by omega)]
  have e : sumL gb ((x : Int) :: l.drop (i + 1)) = gb x + sumL gb (l.drop (i + 1)) := rfl
  refine Ev_true (by omega) (Ev_true (by omega) (Ev_true (by omega) ?_))
  rw [e, ← Int.add_assoc]
  by_cases h4 : x % 4 = 1
  ·
   have hg : gb x = 4 := if_pos h4
   rw [hg]
   exact Ev_true (by omega) (ih (i + 1) (acc + 4) (by omega) (by omega) (by omega))
  ·
   by_cases h5 : x % 4 = 3
   ·
    have hg : gb x = -4 := by unfold gb; rw [if_neg h4, if_pos h5]
    rw [hg]
    exact Ev_false (by omega) (Ev_true (by omega) (ih (i + 1) (acc - 4) (by omega) (by omega) (by omega)))
   ·
    have hg : gb x = 0 := by unfold gb; rw [if_neg h4, if_neg h5]
    rw [hg, Int.add_zero]
    exact Ev_false (by omega) (Ev_false (by omega) (ih (i + 1) acc (by omega) (by omega) (by omega)))

theorem ball_l0 (n : Nat) (hn : n ≤ 1000000) (j : Nat) : ∀ (d : Nat) (acc : Int), 1 ≤ d → d + j = n + 1 → -(d : Int) ≤ acc → acc ≤ (d : Int) →
 Ev (fun k => spec_DivisorBalance.l0 k (n : Int) acc (d : Int)) (4 * (acc + (sumTo (fun d => if d ∣ n then sb d else 0) n - sumTo (fun d => if d ∣ n then sb d else 0) (d - 1))), true) := by
 induction j with
 | zero =>
  intro d acc h1 h2 h3 h4
  obtain rfl : d = n + 1 := by omega
  refine Ev_succ ?_
  simp only [spec_DivisorBalance.l0]
  rw [Nat.add_sub_cancel, Int.sub_self, Int.add_zero, w64 (x := 4 * acc) (by omega) (by omega)]
  exact Ev_false (by omega) Ev_some
 | succ j ih =>
  intro d acc h1 h2 h3 h4
  have hm4 : d % 4 < 4 := Nat.mod_lt _ (by omega)
  refine Ev_succ ?_
  simp only [spec_DivisorBalance.l0]
  rw [tmod_cast, btmod4, btmod2, w64 (x := 2 - _) (by omega) (by omega), w64 (x := acc + _) (by omega) (by omega), w64 (x := (d : Int) + 1) (by omega) (by omega)]
  have e : sumTo (fun d => if d ∣ n then sb d else 0) (d + 1 - 1) = sumTo (fun d => if d ∣ n then sb d else 0) (d - 1) + (if d ∣ n then sb d else 0) := by
   obtain ⟨q, rfl⟩ : ∃ q, d = q + 1 := ⟨d - 1, by omega⟩
   rfl
  refine Ev_true (by omega) (Ev_false (by omega) ?_)
  by_cases hdv : d ∣ n
  ·
   have hz : n % d = 0 := Nat.mod_eq_zero_of_dvd hdv
   rw [if_pos hdv] at e
   refine Ev_true (by omega) ?_
   by_cases h5 : d % 2 = 1
   ·
    have hg : sb d = 2 - ((d % 4 : Nat) : Int) := if_pos h5
    have hb := sb_bd d
    rw [hg] at hb
    have h6 := ih (d + 1) (acc + (2 - ((d % 4 : Nat) : Int))) (by omega) (by omega) (by omega) (by omega)
    rw [e, hg] at h6
    refine Ev_true (by omega) ?_
    have e2 : ∀ A B C : Int, acc + C + (A - (B + C)) = acc + (A - B) := fun A B C => by omega
    rw [e2] at h6
    exact h6
   ·
    have hg : sb d = 0 := if_neg h5
    have h6 := ih (d + 1) acc (by omega) (by omega) (by omega) (by omega)
    rw [e, hg, Int.add_zero] at h6
    exact Ev_false (by omega) h6
  ·
   have hz : n % d ≠ 0 := fun h => hdv (Nat.dvd_of_mod_eq_zero h)
   rw [if_neg hdv, Int.add_zero] at e
   have h6 := ih (d + 1) acc (by omega) (by omega) (by omega) (by omega)
   rw [e] at h6
   exact Ev_false (by omega) h6

theorem gb_cc (d : Nat) : gb d = 4 * cc d := by
 unfold gb cc
 by_cases h1 : d % 4 = 1
 ·
  rw [if_pos h1, if_pos h1]; rfl
 ·
  rw [if_neg h1, if_neg h1]
  by_cases h3 : d % 4 = 3
  ·
   rw [if_pos h3, if_pos h3]; rfl
  ·
   rw [if_neg h3, if_neg h3]; rfl
theorem gb_sg (n : Nat) : sumTo (fun d => if d ∣ n then gb d else 0) n = 4 * sg n := by
 unfold sg
 rw [← sumTo_scale]
 refine sumTo_congr n fun d _ _ => ?_
 by_cases hd : d ∣ n
 ·
  simp only [if_pos hd, gb_cc]
 ·
  simp only [if_neg hd]
  rfl
def balAns (a : Int) : Int × Bool := if 1 ≤ a ∧ a ≤ 1000000 then (4 * sg a.toNat, true) else (0, false)
theorem balance_ev (a : Int) : Ev (fun k => spec_DivisorBalance.f k a) (balAns a) ∧ Ev (fun k => impl_DivisorBalance.f k a) (balAns a) := by
 have hno : Ev (fun k => impl_DivisorBalance.j0 k a true) (0, false) := by
  refine Ev_succ ?_
  simp only [impl_DivisorBalance.j0]
  exact Ev_true trivial Ev_some
 unfold spec_DivisorBalance.f impl_DivisorBalance.f balAns
 rw [isTwo_eq, l1In_eq]
 simp only [Option.bind_some]
 by_cases h : 1 ≤ a ∧ a ≤ 1000000
 ·
  rw [if_pos h]
  obtain ⟨n, rfl⟩ := Int.eq_ofNat_of_zero_le (show 0 ≤ a by omega)
  rw [Int.toNat_natCast]
  have h1 := ball_l0 n (by omega) n 1 0 (by omega) (by omega) (by omega) (by omega)
  have h2 := bal_l0 (l := divL n 1001 1) (by have := divL_len n 1001 1; omega) (fun x hx => by have := divL_mem (n := n) (by omega) 1001 1 (by omega) x hx; omega) (divL n 1001 1).length 0 0 (by omega) (by omega) (by omega)
  have e2 : 0 + sumL gb ((divL n 1001 1).drop 0) = 4 * sg n := by
   rw [List.drop_zero, divL_all gb (by omega) (by omega), Int.zero_add, gb_sg]
  have e : 4 * (0 + (sumTo (fun d => if d ∣ n then sb d else 0) n - sumTo (fun d => if d ∣ n then sb d else 0) (1 - 1))) = 4 * sg n := by
   have e0 : sumTo (fun d => if d ∣ n then sb d else 0) (1 - 1) = 0 := rfl
   rw [e0, Int.zero_add, Int.sub_zero, ← sumTo_scale, ← gb_sg]
   refine sumTo_congr n fun d _ _ => ?_
   by_cases hd : d ∣ n
   ·
    simp only [if_pos hd, gb_sb]
   ·
    simp only [if_neg hd]
    rfl
  rw [e] at h1
  rw [e2] at h2
  refine ⟨Ev_true (by simpa using h) h1, Ev_true (by simp; omega) ?_⟩
  have e1 : ((n : Int) == 0) = false := by rw [beq_eq_false_iff_ne]; omega
  rw [e1]
  refine Ev_succ ?_
  simp only [impl_DivisorBalance.j0]
  refine Ev_false (by simp) ?_
  exact Ev.bind (f := fun k t => impl_DivisorBalance.l0 k 0 t (t.length : Int) 0) (divisors_ev (n := n) (by omega)) h2
 ·
  rw [if_neg h]
  refine ⟨Ev_false (by simpa using h) Ev_some, ?_⟩
  by_cases h0 : a = 0
  ·
   subst h0
   exact Ev_true (by simp) hno
  ·
   exact Ev_false (by simp; omega) hno
end Go.Proofs.Ytpmbffchkcemoaa.Q
namespace Go.Proofs.Ytpmbffchkcemoaa.Q
open Go.RowKit Go.Proofs.Ytpmbffchkcemoaa.P Go.Proofs.YtpmbffchkcemoaaW.PrintWords Go.Proofs.YtpmbffchkcemoaaW.PrintLast Go.Proofs.Ytpmbffchkcemoaa.Ref

/-- What one answer says of the other. -/
def same (s : Int) (r : Int × Bool) : Prop := r = (if s = 0 then (0, false) else (s, true))
def HA (Q : Int × Bool → Prop) (n p : Nat) : Prop := ∃ s r, Ev (fun k => spec_sqRefusing.l0 k (n : Int) (p : Int)) s ∧ Ev (fun k => impl_RefusingPrime.l0 k (n : Int) (p : Int)) r ∧ same s r ∧ Q r
def HB (Q : Int × Bool → Prop) (n p t : Nat) : Prop := ∃ s r, Ev (fun k => spec_sqRefusing.l1 k (n : Int) (p : Int) (t % 2 == 1)) s ∧ Ev (fun k => impl_RefusingPrime.l1 k (n : Int) (p : Int) (t : Int)) r ∧ same s r ∧ Q r
theorem odd_not (t : Nat) : (!(t % 2 == 1)) = ((t + 1) % 2 == 1) := by
 rcases Nat.mod_two_eq_zero_or_one t with h | h
 ·
  have h2 : (t + 1) % 2 = 1 := by omega
  rw [h, h2]; rfl
 ·
  have h2 : (t + 1) % 2 = 0 := by omega
  rw [h, h2]; rfl
/-- A round that takes p out. -/
theorem hb_div {Q : Int × Bool → Prop} {n p t : Nat} (hp : 2 ≤ p) (hn : 1 ≤ n) (hn2 : n ≤ 1000000) (ht : t ≤ 2000000) (hd : n % p = 0) (h : HB Q (n / p) p (t + 1)) : HB Q n p t := by
 obtain ⟨s, r, h1, h2, h3⟩ := h
 have hq : n / p ≤ n := Nat.div_le_self n p
 refine ⟨s, r, Ev_succ ?_, Ev_succ ?_, h3⟩
 ·
  simp only [spec_sqRefusing.l1]
  rw [tmod_cast, tdiv_cast, w64_nat (n / p) (by omega), odd_not]
  exact Ev_false (by omega) (Ev_true (by omega) h1)
 ·
  simp only [impl_RefusingPrime.l1]
  rw [tmod_cast, tdiv_cast, w64_nat (n / p) (by omega), w64 (x := (t : Int) + 1) (by omega) (by omega)]
  exact Ev_false (by omega) (Ev_true (by omega) h2)
/-- Behind the last round: the answer, or the next number. -/
theorem hb_stop {Q : Int × Bool → Prop} {n p t : Nat} (hp : 2 ≤ p) (hp2 : p ≤ 1000000) (hd : n % p ≠ 0) (hbad : t % 2 = 1 → p % 4 = 3 → Q (p, true)) (h : ¬ (t % 2 = 1 ∧ p % 4 = 3) → HA Q n (p + 1)) : HB Q n p t := by
 have e1 : Int.tmod (t : Int) 2 = ((t % 2 : Nat) : Int) := tmod_cast t 2
 have e2 : Int.tmod (p : Int) 4 = ((p % 4 : Nat) : Int) := tmod_cast p 4
 rcases Nat.mod_two_eq_zero_or_one t with hm | hm
 ·
  obtain ⟨s, r, h1, h2, h3⟩ := h (by omega)
  refine ⟨s, r, Ev_succ ?_, Ev_succ ?_, h3⟩
  ·
   simp only [spec_sqRefusing.l1]
   rw [tmod_cast, hm, w64 (x := (p : Int) + 1) (by omega) (by omega)]
   exact Ev_false (by omega) (Ev_false (by omega) (Ev_false (by simp) h1))
  ·
   simp only [impl_RefusingPrime.l1]
   rw [tmod_cast, e1, hm, w64 (x := (p : Int) + 1) (by omega) (by omega)]
   exact Ev_false (by omega) (Ev_false (by omega) (Ev_false (by simp) h2))
 ·
  by_cases h4 : p % 4 = 3
  ·
   refine ⟨p, (p, true), Ev_succ ?_, Ev_succ ?_, ?_, hbad hm h4⟩
   ·
    simp only [spec_sqRefusing.l1]
    rw [tmod_cast, hm, e2, h4]
    exact Ev_false (by omega) (Ev_false (by omega) (Ev_true (by simp) (Ev_true (by simp) Ev_some)))
   ·
    simp only [impl_RefusingPrime.l1]
    rw [tmod_cast, e1, hm, e2, h4]
    exact Ev_false (by omega) (Ev_false (by omega) (Ev_true (by simp) (Ev_true (by simp) Ev_some)))
   ·
    unfold same
    rw [if_neg (by omega)]
  ·
   obtain ⟨s, r, h1, h2, h3⟩ := h (by omega)
   refine ⟨s, r, Ev_succ ?_, Ev_succ ?_, h3⟩
   ·
    simp only [spec_sqRefusing.l1]
    rw [tmod_cast, hm, e2, w64 (x := (p : Int) + 1) (by omega) (by omega)]
    exact Ev_false (by omega) (Ev_false (by omega) (Ev_true (by simp) (Ev_false (by omega) h1)))
   ·
    simp only [impl_RefusingPrime.l1]
    rw [tmod_cast, e1, hm, e2, w64 (x := (p : Int) + 1) (by omega) (by omega)]
    exact Ev_false (by omega) (Ev_false (by omega) (Ev_true (by simp) (Ev_false (by omega) h2)))
theorem ha_one {Q : Int × Bool → Prop} {n p : Nat} (hn : n ≤ 1) (hQ : Q (0, false)) : HA Q n p := by
 refine ⟨0, (0, false), Ev_succ ?_, Ev_succ ?_, by simp [same], hQ⟩
 ·
  simp only [spec_sqRefusing.l0]
  exact Ev_false (by omega) Ev_some
 ·
  simp only [impl_RefusingPrime.l0]
  exact Ev_false (by omega) Ev_some
theorem ha_of {Q : Int × Bool → Prop} {n p q : Nat} (hn : 1 < n) (hp : p ≤ 1001) (hq : (n < p * p ∧ q = n) ∨ (p * p ≤ n ∧ q = p)) (h : HB Q n q 0) : HA Q n p := by
 obtain ⟨s, r, h1, h2, h3⟩ := h
 refine ⟨s, r, Ev_succ ?_, Ev_succ ?_, h3⟩
 ·
  simp only [spec_sqRefusing.l0]
  rw [w64_mul (c := 1001) (d := 1001) hp hp (by omega)]
  have hj : Ev (fun k => spec_sqRefusing.j1 k (n : Int) (q : Int)) s := by
   refine Ev_succ ?_
   simp only [spec_sqRefusing.j1]
   exact h1
  rcases hq with ⟨h, rfl⟩ | ⟨h, rfl⟩
  ·
   exact Ev_true (by omega) (Ev_true (by omega) hj)
  ·
   exact Ev_true (by omega) (Ev_false (by omega) hj)
 ·
  simp only [impl_RefusingPrime.l0]
  rw [w64_mul (c := 1001) (d := 1001) hp hp (by omega)]
  have hj : Ev (fun k => impl_RefusingPrime.j2 k (n : Int) (q : Int)) r := by
   refine Ev_succ ?_
   simp only [impl_RefusingPrime.j2]
   exact h2
  rcases hq with ⟨h, rfl⟩ | ⟨h, rfl⟩
  ·
   exact Ev_true (by omega) (Ev_true (by omega) hj)
  ·
   exact Ev_true (by omega) (Ev_false (by omega) hj)
theorem less_measure {q n c m : Nat} (h : q < n) (h6 : 2 * (2000 * n + c) ≤ m + 1) : 2 * (2000 * q + c) ≤ m := by omega

/-- What an answer says of the number. -/
def RQ (N : Nat) (r : Int × Bool) : Prop := (r = (0, false) ∧ 1 ≤ sg N) ∨ (∃ p t m : Nat, r = ((p : Int), true) ∧ 2 ≤ p ∧ p ≤ 1000000 ∧ p % 4 = 3 ∧ t % 2 = 1 ∧ N = p ^ t * m ∧ 1 ≤ m ∧ ¬ p ∣ m ∧ sg N = 0)
theorem told_end (N : Nat) (m : Nat) : (∀ n p t c : Nat, RJ N n p t c → n ≤ 1000000 → p ≤ 1000 → t + n ≤ 2000000 → 2 * (2000 * n + (1002 - p)) ≤ m → HB (RQ N) n p t) ∧
 (∀ n p c : Nat, RI N n p c → n ≤ 1000000 → 2 ≤ p → p ≤ 1001 → 2 * (2000 * n + (1002 - p)) + 1 ≤ m → HA (RQ N) n p) := by
 have hbad : ∀ n p t c : Nat, RJ N n p t c → n % p ≠ 0 → p ≤ 1000000 → t % 2 = 1 → p % 4 = 3 → RQ N (p, true) := by
  intro n p t c hR hd hp ht h4
  obtain ⟨m, q1, q2, q3, q4⟩ := RJ_bad hR hd ht h4
  exact Or.inr ⟨p, t, m, rfl, hR.p2, hp, h4, ht, q1, q3, q2, q4⟩
 induction m with
 | zero => exact ⟨fun n p t c h1 h2 h4 h5 h6 => by have := h1.n1; omega, fun n p c h1 h2 h3 h4 h5 => by omega⟩
 | succ m ih =>
  constructor
  ·
   intro n p t c hR h2 h4 h5 h6
   have h1 := hR.n1
   have h3 := hR.p2
   by_cases hd : n % p = 0
   ·
    have hR2 := RJ_div hR hd
    have hlt : n / p < n := Nat.div_lt_self h1 h3
    have k1 : t + 1 + n / p ≤ 2000000 := by omega
    have k2 : 2 * (2000 * (n / p) + (1002 - p)) ≤ m := by
     exact less_measure hlt h6
    exact hb_div h3 h1 h2 (by omega) hd (ih.1 (n / p) p (t + 1) c hR2 (by omega) h4 k1 k2)
   ·
    exact hb_stop h3 (by omega) hd (hbad n p t c hR hd (by omega)) (fun hok => ih.2 n (p + 1) _ (RJ_next hR hd hok) h2 (by omega) (by omega) (by omega))
  ·
   intro n p c hR h2 h3 h4 h5
   have h1 := hR.n1
   by_cases hn : n ≤ 1
   ·
    exact ha_one hn (Or.inl ⟨rfl, RI_one hR hn⟩)
   ·
    by_cases hpp : p * p ≤ n
    ·
     have hp : p ≤ 1000 := by
      rcases Nat.lt_or_ge 1000 p with h | h
      ·
       have : 1001 * 1001 ≤ p * p := Nat.mul_le_mul h h
       omega
      ·
       exact h
     exact ha_of (by omega) h4 (.inr ⟨hpp, rfl⟩) (ih.1 n p 0 c (RI_in hR h3) h2 hp (by omega) (by omega))
    ·
     refine ha_of (by omega) h4 (.inl ⟨by omega, rfl⟩) ?_
     have hS := RI_self hR (by omega) (by omega)
     refine hb_div (by omega) h1 h2 (by omega) (Nat.mod_self n) ?_
     have hS2 := RJ_div hS (Nat.mod_self n)
     rw [Nat.div_self h1] at hS2 ⊢
     have hd : 1 % n ≠ 0 := by
      rw [Nat.mod_eq_of_lt (by omega)]
      omega
     exact hb_stop (by omega) h2 hd (hbad 1 n (0 + 1) c hS2 hd h2) (fun hok => ha_one (by omega) (Or.inl ⟨rfl, RI_one (RJ_next hS2 hd hok) (by omega)⟩))
theorem told_all (N : Nat) (h1 : 1 ≤ N) (h2 : N ≤ 1000000) : HA (RQ N) N 2 :=
 (told_end N (2 * (2000 * N + 1000) + 1)).2 N 2 1 (RI_start h1) h2 (by decide) (by decide) (by omega)
theorem refusing_told (a : Int) : ∃ r, Ev (fun k => spec_RefusingPrime.f k a) r ∧ Ev (fun k => impl_RefusingPrime.f k a) r ∧ (1 ≤ a → a ≤ 1000000 → RQ a.toNat r) ∧ (¬ (1 ≤ a ∧ a ≤ 1000000) → r = (0, false)) := by
 have hno : Ev (fun k => impl_RefusingPrime.j0 k a true) (0, false) := by
  refine Ev_succ ?_
  simp only [impl_RefusingPrime.j0]
  exact Ev_true trivial Ev_some
 unfold spec_RefusingPrime.f impl_RefusingPrime.f
 rw [isTwo_eq, l1In_eq]
 simp only [Option.bind_some]
 by_cases h : 1 ≤ a ∧ a ≤ 1000000
 ·
  obtain ⟨n, rfl⟩ := Int.eq_ofNat_of_zero_le (show 0 ≤ a by omega)
  obtain ⟨s, r, h1, h2, h3, h4⟩ := told_all n (by omega) (by omega)
  refine ⟨r, Ev_true (by simpa using h) ?_, Ev_true (by simp; omega) ?_, fun _ _ => h4, fun q => absurd h q⟩
  ·
   refine Ev.bind (f := fun k t => if t = 0 then some (0, false) else (spec_sqRefusing.f k (n : Int)).bind fun t149 => some (t149, true)) h1 ?_
   unfold same at h3
   rw [h3]
   by_cases hs : s = 0
   ·
    rw [if_pos hs]
    exact Ev_true hs Ev_some
   ·
    rw [if_neg hs]
    exact Ev_false hs (Ev.bind (f := fun _ t => some (t, true)) h1 Ev_some)
  ·
   have e : ((n : Int) == 0) = false := by rw [beq_eq_false_iff_ne]; omega
   rw [e]
   refine Ev_succ ?_
   simp only [impl_RefusingPrime.j0]
   exact Ev_false (by simp) h2
 ·
  refine ⟨(0, false), Ev_false (by simpa using h) Ev_some, ?_, fun q1 q2 => absurd ⟨q1, q2⟩ h, fun _ => rfl⟩
  by_cases h0 : a = 0
  ·
   subst h0
   exact Ev_true (by simp) hno
  ·
   exact Ev_false (by simp; omega) hno
end Go.Proofs.Ytpmbffchkcemoaa.Q
namespace Go.Proofs.Ytpmbffchkcemoaa.Q
open Go.RowKit Go.Proofs.Ytpmbffchkcemoaa.P Go.Proofs.YtpmbffchkcemoaaW.PrintWords Go.Proofs.YtpmbffchkcemoaaW.PrintLast Go.Proofs.Ytpmbffchkcemoaa.G

theorem rd_mg {l : List Int} {i : Nat} (h : i < l.length) : rd l (i : Int) = l[i] := by
 simp [rd, List.getD_eq_getElem?_getD, List.getElem?_eq_getElem h]
theorem mulIn_eq (a lo hi : Int) : spec_l1In.f a lo hi = some (decide (lo ≤ a ∧ a ≤ hi)) := by
 unfold spec_l1In.f
 by_cases h : lo ≤ a
 ·
  rw [if_pos h]
  simp [h]
 ·
  rw [if_neg h]
  simp [h]
theorem l1All_l0 {l : List Int} (hn : l.length ≤ 4611686018427387904) (lo up : Int) (d : Nat) : ∀ i : Nat, i + d = l.length → Ev (fun k => spec_l1All.l0 k lo up l (l.length : Int) (i : Int)) ((l.drop i).all (inB lo up)) := by
 induction d with
 | zero =>
  intro i hi
  refine Ev_succ ?_
  simp only [spec_l1All.l0]
  rw [List.drop_of_length_le (by omega)]
  exact Ev_false (by omega) Ev_some
 | succ d ih =>
  intro i h1
  have hi : i < l.length := by omega
  refine Ev_succ ?_
  simp only [spec_l1All.l0]
  rw [rd_mg hi, List.drop_eq_getElem_cons hi, w64 (x := (i : Int) + 1) (by omega) (by omega), mulIn_eq]
  refine Ev_true (by omega) (Ev_true (by omega) (Ev_true (by omega) ?_))
  simp only [Option.bind_some, List.all_cons]
  by_cases hb : lo ≤ l[i] ∧ l[i] ≤ up
  ·
   have hin : inB lo up l[i] = true := by unfold inB; simp [hb]
   rw [hin, Bool.true_and]
   exact Ev_true (by simpa using hb) (ih (i + 1) (by omega))
  ·
   have hin : inB lo up l[i] = false := by
    unfold inB
    rw [← Bool.not_eq_true]
    intro h
    exact hb (by simpa using h)
   rw [hin, Bool.false_and]
   exact Ev_false (by simpa using hb) Ev_some
theorem l1All_ev {l : List Int} (hn : l.length ≤ 4611686018427387904) (lo up : Int) : Ev (fun k => spec_l1All.f k l lo up) (l.all (inB lo up)) :=
 l1All_l0 hn lo up l.length 0 (by omega)
theorem parts_ev {l : List Int} (hn : l.length ≤ 4611686018427387904) (m : Int) : Ev (fun k => spec_sqParts.f k l m) (decide ((l.length : Int) = m) && l.all (inB (-10000) 10000)) := by
 unfold spec_sqParts.f
 by_cases h : (l.length : Int) = m
 ·
  rw [decide_eq_true h, Bool.true_and]
  exact Ev_true h (Ev.bind (f := fun _ t => some t) (l1All_ev hn _ _) Ev_some)
 ·
  rw [decide_eq_false h, Bool.false_and]
  exact Ev_false h Ev_some
theorem areMul_eq (l m : List Int) (p : Int) : impl_areMultiplied.f l m p = some ((decide ((l.length : Int) = p) && l.all (inB (-10000) 10000)) && (decide ((m.length : Int) = p) && m.all (inB (-10000) 10000))) := by
 unfold impl_areMultiplied.f impl_allWithin.f
 by_cases h1 : (l.length : Int) = p
 ·
  by_cases h2 : (m.length : Int) = p
  ·
   rw [if_pos h1, if_pos h2]
   simp only [Option.bind_some, decide_eq_true h1, decide_eq_true h2, Bool.true_and]
   cases l.all (inB (-10000) 10000) <;> simp
  ·
   rw [if_pos h1, if_neg h2]
   simp [h1, h2]
 ·
  rw [if_neg h1]
  simp [h1]
end Go.Proofs.Ytpmbffchkcemoaa.Q
namespace Go.Proofs.Ytpmbffchkcemoaa.Q
open Go.RowKit Go.Proofs.Ytpmbffchkcemoaa.P Go.Proofs.YtpmbffchkcemoaaW.PrintWords Go.Proofs.YtpmbffchkcemoaaW.PrintLast Go.Proofs.Ytpmbffchkcemoaa.G

/-- Both come to the same product of two lists of two. -/
theorem mulTwo_ev {l m : List Int} (hl : l.length ≤ 4611686018427387904) (hm : m.length ≤ 4611686018427387904) : ∃ r : List Int × Bool, r.1.length ≤ 4 ∧ Ev (fun k => spec_MultiplyTwo.f k l m) r ∧ impl_MultiplyTwo.f l m = some r := by
 unfold spec_MultiplyTwo.f impl_MultiplyTwo.f
 rw [areMul_eq]
 have h1 := parts_ev hl 2
 have h2 := parts_ev hm 2
 cases c1 : (decide ((l.length : Int) = 2) && l.all (inB (-10000) 10000)) with
 | false =>
  rw [c1] at h1
  exact ⟨([], false), by simp, Ev.bind h1 (Ev_false (by simp) Ev_some), by simp⟩
 | true =>
  rw [c1] at h1
  cases c2 : (decide ((m.length : Int) = 2) && m.all (inB (-10000) 10000)) with
  | false =>
   rw [c2] at h2
   exact ⟨([], false), by simp, Ev.bind h1 (Ev_true rfl (Ev.bind h2 (Ev_false (by simp) Ev_some))), by simp⟩
  | true =>
   rw [c2] at h2
   have l1 : (l.length : Int) = 2 := by
    have := (Bool.and_eq_true_iff.mp c1).1
    exact of_decide_eq_true this
   have l2 : (m.length : Int) = 2 := by
    have := (Bool.and_eq_true_iff.mp c2).1
    exact of_decide_eq_true this
   refine ⟨_, ?_, Ev.bind h1 (Ev_true rfl (Ev.bind h2 (Ev_true rfl (Ev_true (by omega) (Ev_true (by omega) (Ev_true (by omega) (Ev_true (by omega) Ev_some))))))), ?_⟩
   ·
    simp
   ·
    simp only [Bool.and_self, Option.bind_some]
    rw [if_pos trivial, if_pos (by omega), if_pos (by omega), if_pos (by omega), if_pos (by omega)]
end Go.Proofs.Ytpmbffchkcemoaa.Q
namespace Go.Proofs.Ytpmbffchkcemoaa.Q
/-- The sum of the squares. -/
def sqs : List Int → Int
 | [] => 0
 | x :: l => x * x + sqs l
theorem sq_nn (x : Int) : 0 ≤ x * x := by
 rcases Int.le_total 0 x with h | h
 ·
  exact Int.mul_nonneg h h
 ·
  exact Int.mul_nonneg_of_nonpos_of_nonpos h h
theorem sqs_nn : ∀ l : List Int, 0 ≤ sqs l
 | [] => by simp [sqs]
 | x :: l => by
  have h1 := sqs_nn l
  have h2 := sq_nn x
  simp only [sqs]
  omega
end Go.Proofs.Ytpmbffchkcemoaa.Q
namespace Go.Proofs.Ytpmbffchkcemoaa.Q
open Go.RowKit Go.Proofs.Ytpmbffchkcemoaa.P Go.Proofs.YtpmbffchkcemoaaW.PrintWords Go.Proofs.YtpmbffchkcemoaaW.PrintLast Go.Proofs.Ytpmbffchkcemoaa.G
def b4 (x : Int) : Prop := -10000 ≤ x ∧ x ≤ 10000
theorem mulB {x y : Int} {A B : Int} (hx : -A ≤ x ∧ x ≤ A) (hy : -B ≤ y ∧ y ≤ B) : -(A * B) ≤ x * y ∧ x * y ≤ A * B := by
 have k1 := Int.mul_nonneg (show 0 ≤ A - x by omega) (show 0 ≤ B + y by omega)
 have k2 := Int.mul_nonneg (show 0 ≤ A + x by omega) (show 0 ≤ B - y by omega)
 have k3 := Int.mul_nonneg (show 0 ≤ A - x by omega) (show 0 ≤ B - y by omega)
 have k4 := Int.mul_nonneg (show 0 ≤ A + x by omega) (show 0 ≤ B + y by omega)
 have e1 : (A - x) * (B + y) = A * B + A * y - x * B - x * y := by grind
 have e2 : (A + x) * (B - y) = A * B - A * y + x * B - x * y := by grind
 have e3 : (A - x) * (B - y) = A * B - A * y - x * B + x * y := by grind
 have e4 : (A + x) * (B + y) = A * B + A * y + x * B + x * y := by grind
 omega
theorem prB4 {x y : Int} (hx : b4 x) (hy : b4 y) : -100000000 ≤ x * y ∧ x * y ≤ 100000000 := by
 have := mulB (A := 10000) (B := 10000) hx hy
 omega
theorem sq_small {x : Int} (h : b4 x) : 0 ≤ x * x ∧ x * x ≤ 100000000 := by
 have h1 := prB4 h h
 have h2 := sq_nn x
 omega
theorem two_list {l : List Int} (h1 : (l.length : Int) = 2) (h2 : l.all (inB (-10000) 10000) = true) : ∃ a b, l = [a, b] ∧ b4 a ∧ b4 b := by
 match l, h1 with
 | [a, b], _ =>
  simp only [List.all_cons, List.all_nil, Bool.and_true, Bool.and_eq_true, inB, decide_eq_true_eq] at h2
  obtain ⟨⟨a1, a2⟩, b1, b2⟩ := h2
  exact ⟨a, b, rfl, ⟨a1, a2⟩, b1, b2⟩
theorem brahma (a b u v : Int) : sqs [a * u - b * v, a * v + b * u] = sqs [a, b] * sqs [u, v] := by
 simp only [sqs, Int.add_zero]
 grind
/-- The product, and that its squares' sum is the product of the sums. -/
theorem mulTwo_val {l m : List Int} (hl : l.length ≤ 4611686018427387904) (hm : m.length ≤ 4611686018427387904) : ∃ r : List Int × Bool, r.1.length ≤ 4 ∧ Ev (fun k => spec_MultiplyTwo.f k l m) r ∧ impl_MultiplyTwo.f l m = some r ∧
 (r.2 = true → sqs r.1 = sqs l * sqs m ∧ 0 ≤ sqs l ∧ sqs l ≤ 400000000 ∧ 0 ≤ sqs m ∧ sqs m ≤ 400000000) := by
 obtain ⟨r, h1, h2, h3⟩ := mulTwo_ev hl hm
 refine ⟨r, h1, h2, h3, fun hr => ?_⟩
 unfold impl_MultiplyTwo.f at h3
 rw [areMul_eq] at h3
 simp only [Option.bind_some] at h3
 split at h3
 ·
  rename_i hc
  simp only [Bool.and_eq_true, decide_eq_true_eq] at hc
  obtain ⟨⟨c1, c2⟩, c3, c4⟩ := hc
  obtain ⟨a, b, rfl, ha, hb⟩ := two_list c1 c2
  obtain ⟨u, v, rfl, hu, hv⟩ := two_list c3 c4
  rw [if_pos (by simp), if_pos (by simp), if_pos (by simp), if_pos (by simp)] at h3
  have k1 := prB4 ha hu
  have k2 := prB4 hb hv
  have k3 := prB4 ha hv
  have k4 := prB4 hb hu
  have h3 : some ([wrap64 (wrap64 (a * u) - wrap64 (b * v)), wrap64 (wrap64 (a * v) + wrap64 (b * u))], true) = some r := h3
  rw [w64 (x := a * u) (by omega) (by omega), w64 (x := b * v) (by omega) (by omega), w64 (x := a * v) (by omega) (by omega), w64 (x := b * u) (by omega) (by omega), w64 (x := a * u - b * v) (by omega) (by omega), w64 (x := a * v + b * u) (by omega) (by omega)] at h3
  have h3 := Option.some.inj h3
  subst h3
  refine ⟨brahma a b u v, sqs_nn _, ?_, sqs_nn _, ?_⟩
  ·
   have k1 := sq_small ha
   have k2 := sq_small hb
   simp only [sqs]
   omega
  ·
   have k1 := sq_small hu
   have k2 := sq_small hv
   simp only [sqs]
   omega
 ·
  have h3 := Option.some.inj h3
  subst h3
  exact absurd hr (by simp)
end Go.Proofs.Ytpmbffchkcemoaa.Q

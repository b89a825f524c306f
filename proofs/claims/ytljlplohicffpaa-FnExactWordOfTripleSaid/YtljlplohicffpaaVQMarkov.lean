/- Triples: both programs' tests agree, and what they hold for one is one. (Part of QDesk, with what a triple is.) -/
import Derived.Test.YtljlplohicffpaaVx5
import Derived.Test.YtljlplohicffpaaVx9
import Derived.Test.YtljlplohicffpaaVQAll
namespace Go.Proofs.Ytljlplohicffpaa.Q
open Go.RowKit Go.Proofs.Ytljlplohicffpaa.P Go.Proofs.YtljlplohicffpaaW.PrintWords Go.Proofs.YtljlplohicffpaaW.PrintLast Go.Proofs.Ytljlplohicffpaa.G

theorem less_eq (a b : Int) : cmp_Less_int.f a b = some (decide (a < b)) := by
  unfold cmp_Less_int.f cmp_isNaN_int.f
  simp
theorem sorted3 (a b c : Int) : Ev (fun k => slices_IsSorted_int_int.f k [a, b, c]) (decide (a ≤ b ∧ b ≤ c)) := by
  refine ⟨3, fun k hk => ?_⟩
  obtain ⟨j, rfl⟩ : ∃ j, k = j + 3 := ⟨k - 3, by omega⟩
  have w2 : wrap64 ((([a, b, c] : List Int).length : Int) - 1) = 2 := by simp; exact w64 (by omega) (by omega)
  have w1 : wrap64 (2 - 1) = 1 := w64 (by omega) (by omega)
  have w0 : wrap64 (1 - 1) = 0 := w64 (by omega) (by omega)
  have r2 : rd [a, b, c] 2 = c := rfl
  have r1 : rd [a, b, c] 1 = b := rfl
  have r0 : rd [a, b, c] 0 = a := rfl
  show slices_IsSorted_int_int.l0 (j + 3) [a, b, c] (wrap64 ((([a, b, c] : List Int).length : Int) - 1)) = _
  rw [w2]
  simp only [slices_IsSorted_int_int.l0, w1, w0, r2, r1, r0, less_eq, Option.bind_some]
  by_cases h1 : b ≤ c
  · by_cases h2 : a ≤ b
    · simp [h1, h2, show ¬ c < b by omega, show ¬ b < a by omega]
    · simp [h1, h2, show ¬ c < b by omega, show b < a by omega]
  · simp [h1, show c < b by omega]
theorem mul_bound {a b A B : Int} (h1 : 0 ≤ a) (h2 : a ≤ A) (h3 : 0 ≤ b) (h4 : b ≤ B) : 0 ≤ a * b ∧ a * b ≤ A * B :=
  ⟨Int.mul_nonneg h1 h3, Int.mul_le_mul h2 h4 h3 (by omega)⟩
/-- The equation, as the reference tests it. -/
theorem spec_solves {a b c : Int} (ha : 1 ≤ a ∧ a ≤ 1000000000) (hb : 1 ≤ b ∧ b ≤ 1000000000) (hc : 1 ≤ c ∧ c ≤ 1000000000) : spec_mkSolves.f a b c = some (decide (a * a + b * b + c * c = 3 * (a * b) * c)) := by
  have q1 := mul_bound (a := a) (b := a) (A := 1000000000) (B := 1000000000) (by omega) (by omega) (by omega) (by omega)
  have q2 := mul_bound (a := b) (b := b) (A := 1000000000) (B := 1000000000) (by omega) (by omega) (by omega) (by omega)
  have q3 := mul_bound (a := a) (b := b) (A := 1000000000) (B := 1000000000) (by omega) (by omega) (by omega) (by omega)
  have e3 : 3 * a * b = 3 * (a * b) := Int.mul_assoc _ _ _
  unfold spec_mkSolves.f
  rw [if_neg (by omega), w64 (x := a * a) (by omega) (by omega), w64 (x := b * b) (by omega) (by omega), w64 (x := a * a + b * b) (by omega) (by omega), w64 (x := 3 * a) (by omega) (by omega), e3, w64 (x := 3 * (a * b)) (by omega) (by omega), w64 (x := 3 * (a * b) - c) (by omega) (by omega),
    Int.tmod_eq_emod_of_nonneg (by omega), Int.tdiv_eq_ediv_of_nonneg (by omega)]
  generalize hs : a * a + b * b = s at *
  generalize hp : a * b = p at *
  have hd : s / c ≤ s := Int.ediv_le_self _ (by omega)
  have hd0 : 0 ≤ s / c := Int.ediv_nonneg (by omega) (by omega)
  rw [w64 (x := s / c) (by omega) (by omega)]
  have he := Int.emod_add_mul_ediv s c
  have key : s + c * c = 3 * p * c ↔ s % c = 0 ∧ s / c = 3 * p - c := by
    constructor
    · intro h
      have h1 : s = c * (3 * p - c) := by
        rw [Int.mul_sub, Int.mul_comm c (3 * p)]
        omega
      exact ⟨by rw [h1]; exact Int.mul_emod_right _ _, by rw [h1]; exact Int.mul_ediv_cancel_left _ (by omega)⟩
    · rintro ⟨h1, h2⟩
      rw [h1, h2, Int.mul_sub, Int.mul_comm c (3 * p)] at he
      omega
  by_cases h : s % c = 0
  · rw [if_pos h]
    congr 1
    rw [Bool.eq_iff_iff, beq_iff_eq, decide_eq_true_iff, key]
    exact ⟨fun h2 => ⟨h, h2⟩, fun h2 => h2.2⟩
  · rw [if_neg h]
    congr 1
    symm
    rw [decide_eq_false_iff_not, key]
    exact fun h2 => h h2.1
theorem impl_solves3 {a b c : Int} (ha : 1 ≤ a ∧ a ≤ 1000000000) (hb : 1 ≤ b ∧ b ≤ 1000000000) (hc : 1 ≤ c ∧ c ≤ 1000000000) : impl_solves.f [a, b, c] = some (decide (a * a + b * b + c * c = 3 * (a * b) * c)) := by
  have q1 := mul_bound (a := a) (b := a) (A := 1000000000) (B := 1000000000) (by omega) (by omega) (by omega) (by omega)
  have q2 := mul_bound (a := b) (b := b) (A := 1000000000) (B := 1000000000) (by omega) (by omega) (by omega) (by omega)
  have q4 := mul_bound (a := c) (b := c) (A := 1000000000) (B := 1000000000) (by omega) (by omega) (by omega) (by omega)
  have q3 : 1 ≤ a * b ∧ a * b ≤ 1000000000 * 1000000000 := ⟨by have := Int.mul_le_mul (show 1 ≤ a by omega) (show 1 ≤ b by omega) (by omega) (by omega); omega, (mul_bound (by omega) ha.2 (by omega) hb.2).2⟩
  have r2 : rd [a, b, c] 2 = c := rfl
  have r1 : rd [a, b, c] 1 = b := rfl
  have r0 : rd [a, b, c] 0 = a := rfl
  unfold impl_solves.f
  rw [if_pos (by simp), if_pos (by simp), if_pos (by simp)]
  simp only [r2, r1, r0]
  rw [w64 (x := a * a) (by omega) (by omega), w64 (x := b * b) (by omega) (by omega), w64 (x := c * c) (by omega) (by omega), w64 (x := a * a + b * b) (by omega) (by omega), w64 (x := a * a + b * b + c * c) (by omega) (by omega), w64 (x := a * b) (by omega) (by omega),
    Int.tdiv_eq_ediv_of_nonneg (a := a * a + b * b + c * c) (by omega)]
  generalize hs : a * a + b * b + c * c = s at *
  generalize hp : a * b = p at *
  rw [w64 (x := s / 3) (by omega) (by omega)]
  by_cases h0 : p ≤ s / 3
  · rw [if_pos h0, w64 (x := 3 * p) (by omega) (by omega), if_neg (by omega), Int.tmod_eq_emod_of_nonneg (by omega), Int.tdiv_eq_ediv_of_nonneg (by omega)]
    have hd : s / (3 * p) ≤ s := Int.ediv_le_self _ (by omega)
    have hd0 : 0 ≤ s / (3 * p) := Int.ediv_nonneg (by omega) (by omega)
    rw [w64 (x := s / (3 * p)) (by omega) (by omega)]
    have he := Int.emod_add_mul_ediv s (3 * p)
    have key : s = 3 * p * c ↔ s % (3 * p) = 0 ∧ s / (3 * p) = c := by
      constructor
      · intro h
        exact ⟨by rw [h]; exact Int.mul_emod_right _ _, by rw [h]; exact Int.mul_ediv_cancel_left _ (by omega)⟩
      · rintro ⟨h1, h2⟩
        rw [h1, h2] at he
        omega
    by_cases h : s % (3 * p) = 0
    · rw [if_pos h]
      congr 1
      rw [Bool.eq_iff_iff, beq_iff_eq, decide_eq_true_iff, key]
      exact ⟨fun h2 => ⟨h, h2⟩, fun h2 => h2.2⟩
    · rw [if_neg h]
      congr 1
      symm
      rw [decide_eq_false_iff_not, key]
      exact fun h2 => h h2.1
  · rw [if_neg h0]
    congr 1
    symm
    rw [decide_eq_false_iff_not]
    intro h
    have h1 : 3 * p * 1 ≤ 3 * p * c := Int.mul_le_mul_of_nonneg_left (by omega) (by omega)
    omega
theorem three_of {l : List Int} (h : l.length = 3) : ∃ a b c, l = [a, b, c] := by
  match l, h with
  | [a, b, c], _ => exact ⟨a, b, c, rfl⟩
theorem all3 {a b c lo hi : Int} : [a, b, c].all (inB lo hi) = true ↔ (lo ≤ a ∧ a ≤ hi) ∧ (lo ≤ b ∧ b ≤ hi) ∧ (lo ≤ c ∧ c ≤ hi) := by
  simp [inB]
/-- Whether three numbers are a triple. -/
theorem markov_ev {l : List Int} (hl : l.length ≤ 4611686018427387904) : ∃ r, (r = true → ∃ a b c : Int, l = [a, b, c] ∧ 1 ≤ a ∧ a ≤ b ∧ b ≤ c ∧ c ≤ 1000000000 ∧ a * a + b * b + c * c = 3 * (a * b) * c) ∧ Ev (fun k => spec_mkGood.f k l) r ∧ Ev (fun k => impl_IsMarkov.f k l) r := by
  unfold spec_mkGood.f impl_IsMarkov.f impl_areThree.f
  by_cases h3 : l.length = 3
  · obtain ⟨a, b, c, rfl⟩ := three_of h3
    have hs := l1All_ev hl 1 1000000000
    cases hall : [a, b, c].all (inB 1 1000000000) with
    | false =>
      rw [hall] at hs
      refine ⟨false, (by simp), Ev_true (by simp) (Ev.bind hs (Ev_false (by simp) Ev_some)), ?_⟩
      rw [if_pos (by simp)]
      unfold impl_allWithin.f
      rw [hall]
      simp only [Option.bind_some]
      exact Ev_false (by simp) Ev_some
    | true =>
      rw [hall] at hs
      obtain ⟨ha, hb, hc⟩ := all3.1 hall
      have r2 : rd [a, b, c] 2 = c := rfl
      have r1 : rd [a, b, c] 1 = b := rfl
      have r0 : rd [a, b, c] 0 = a := rfl
      have hso := sorted3 a b c
      refine ⟨decide (a ≤ b ∧ b ≤ c) && decide (a * a + b * b + c * c = 3 * (a * b) * c), (fun h => by rw [Bool.and_eq_true, decide_eq_true_iff, decide_eq_true_iff] at h; exact ⟨a, b, c, rfl, ha.1, h.1.1, h.1.2, hc.2, h.2⟩), Ev_true (by simp) (Ev.bind hs (Ev_true rfl (Ev_true (by simp) (Ev_true (by simp) ?_)))), ?_⟩
      · rw [r0, r1, r2]
        by_cases h1 : a ≤ b
        · refine Ev_true h1 (Ev_true (by simp) ?_)
          by_cases h2 : b ≤ c
          · refine Ev_true h2 ?_
            rw [spec_solves ha hb hc]
            simp only [h1, h2, and_self, decide_true, Bool.true_and, Option.bind_some]
            exact Ev_some
          · simp only [h2, and_false, decide_false, Bool.false_and]
            exact Ev_false (by simp) Ev_some
        · simp only [h1, false_and, decide_false, Bool.false_and]
          exact Ev_false (by simp) Ev_some
      · rw [if_pos (by simp)]
        unfold impl_allWithin.f
        rw [hall]
        simp only [Option.bind_some]
        refine Ev_true (by simp) (Ev.bind hso ?_)
        rw [impl_solves3 ha hb hc]
        cases decide (a ≤ b ∧ b ≤ c)
        · exact Ev_false (by simp) Ev_some
        · simp only [Option.bind_some, Bool.true_and]
          exact Ev_true (by simp) Ev_some
  · refine ⟨false, (by simp), Ev_false (by omega) Ev_some, ?_⟩
    rw [if_neg (by omega)]
    simp only [Option.bind_some]
    exact Ev_false (by simp) Ev_some
end Go.Proofs.Ytljlplohicffpaa.Q

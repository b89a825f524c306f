/- Runs of quotients, of both programs. -/
import Derived.Test.YtaphbbnoadjplaaPx1
import Derived.Test.YtaphbbnoadjplaaQJump
namespace Go.Proofs.Ytaphbbnoadjplaa.Q
open Go.RowKit Go.Proofs.Ytaphbbnoadjplaa.P Go.Proofs.YtaphbbnoadjplaaW.PrintWords Go.Proofs.YtaphbbnoadjplaaW.PrintLast

theorem quotient_some {a b : Int} (h : (quotientR a b).2 = true) : (0 ≤ a ∧ a ≤ 1000000) ∧ (0 ≤ b ∧ b ≤ 1000000) ∧ a + b ≠ 0 ∧ (a * a + b * b) % (a * b + 1) = 0 ∧ quotientR a b = ((a * a + b * b) / (a * b + 1), true) := by
  unfold quotientR at h ⊢
  by_cases ha : 0 ≤ a ∧ a ≤ 1000000
  · rw [if_pos ha] at h ⊢
    by_cases hb : 0 ≤ b ∧ b ≤ 1000000
    · rw [if_pos hb] at h ⊢
      by_cases h1 : a + b = 0
      · rw [if_pos h1] at h
        cases h
      · rw [if_neg h1] at h ⊢
        by_cases h2 : (a * a + b * b) % (a * b + 1) = 0
        · rw [if_pos h2]
          exact ⟨ha, hb, h1, h2, rfl⟩
        · rw [if_neg h2] at h
          cases h
    · rw [if_neg hb] at h
      cases h
  · rw [if_neg ha] at h
    cases h
/-- The greater and the lesser one. -/
theorem PQ.ofR {a b : Int} (h : (quotientR a b).2 = true) : PQ (quotientR a b).1 (max a b) (min a b) ∧ max a b ≤ 1000000 ∧ min a b < (3 : Int) ^ 13 := by
  obtain ⟨ha, hb, h1, h2, e⟩ := quotient_some h
  rw [e]
  have h3 : (3 : Int) ^ 13 = 1594323 := by decide
  rw [h3]
  by_cases hab : b ≤ a
  · rw [show max a b = a by omega, show min a b = b by omega]
    exact ⟨PQ.of ha (by omega) h1 h2, by omega, by omega⟩
  · rw [show max a b = b by omega, show min a b = a by omega]
    rw [Int.add_comm (a * a), Int.mul_comm a b] at h2 ⊢
    exact ⟨PQ.of hb (by omega) (by omega) h2, by omega, by omega⟩
/-- The run, as both programs answer. -/
def quotRunR (a b : Int) : List (List Int) × Bool := if (quotientR a b).2 = true then (runQ (quotientR a b).1 13 (max a b) (min a b), true) else ([], false)
theorem most_eq (a b : Int) : spec_l1Most.f a b = some (max a b) := by
  unfold spec_l1Most.f
  by_cases h : a > b
  · rw [if_pos h, show max a b = a by omega]
  · rw [if_neg h, show max a b = b by omega]
theorem least_eq (a b : Int) : spec_l1Least.f a b = some (min a b) := by
  unfold spec_l1Least.f
  by_cases h : a < b
  · rw [if_pos h, show min a b = a by omega]
  · rw [if_neg h, show min a b = b by omega]
theorem foQuotRun_ev (a b : Int) : Ev (fun k => spec_QuotientRun.f k a b) (quotRunR a b) := by
  unfold spec_QuotientRun.f
  rw [juQuotient_eq, most_eq, least_eq]
  simp only [Option.bind_some]
  by_cases h : (quotientR a b).2 = true
  · rw [show quotRunR a b = (runQ (quotientR a b).1 13 (max a b) (min a b), true) from if_pos h]
    obtain ⟨h1, h2, h3⟩ := PQ.ofR h
    refine Ev_true h (Ev.bind (f := fun _ t => some (t, true)) ?_ Ev_some)
    unfold spec_juRun.f
    exact juRun_ev 13 _ _ [] h1 h2 h3 (by simp)
  · rw [show quotRunR a b = ([], false) from if_neg h]
    exact Ev_false h Ev_some
theorem quotRun_ev (a b : Int) : Ev (fun k => impl_QuotientRun.f k a b) (quotRunR a b) := by
  unfold impl_QuotientRun.f
  rw [squareQuotient_eq, show mx a b = max a b by unfold mx; omega, show mn a b = min a b by unfold mn; omega]
  simp only [Option.bind_some]
  by_cases h : (quotientR a b).2 = true
  · rw [show quotRunR a b = (runQ (quotientR a b).1 13 (max a b) (min a b), true) from if_pos h]
    obtain ⟨h1, h2, h3⟩ := PQ.ofR h
    refine Ev_true h (Ev.bind (a := (runQ (quotientR a b).1 13 (max a b) (min a b), true)) (f := fun _ (t : List (List Int) × Bool) => some (t.1, t.2)) ?_ Ev_some)
    unfold impl_descend.f
    exact descend_ev 13 _ _ [] h1 h2 h3 (by simp)
  · rw [show quotRunR a b = ([], false) from if_neg h]
    exact Ev_false h Ev_some
theorem quotRun_ok {a b : Int} (h : (quotientR a b).2 = true) : quotRunR a b = (runQ (quotientR a b).1 13 (max a b) (min a b), true) ∧ RunOk (quotientR a b).1 14 (max a b) (min a b) (runQ (quotientR a b).1 13 (max a b) (min a b)) := by
  obtain ⟨h1, h2, h3⟩ := PQ.ofR h
  exact ⟨if_pos h, runQ_ok 13 _ _ h1 h2 h3⟩
theorem quotRun_len (a b : Int) : (quotRunR a b).1.length ≤ 14 ∧ ∀ x ∈ (quotRunR a b).1, x.length ≤ 2 := by
  by_cases h : (quotientR a b).2 = true
  · obtain ⟨h1, h2⟩ := quotRun_ok h
    rw [h1]
    refine ⟨h2.1, fun x hx => ?_⟩
    obtain ⟨i, hi, rfl⟩ := List.mem_iff_getElem.1 hx
    obtain ⟨a, b, e, _⟩ := h2.2.2.1 i _ (List.getElem?_eq_getElem hi)
    rw [e]
    simp
  · rw [show quotRunR a b = ([], false) from if_neg h]
    simp
end Go.Proofs.Ytaphbbnoadjplaa.Q

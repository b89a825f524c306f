/- The check of Christoffel words up to forty letters. -/
import Derived.Test.YtljlplohicffpaaQChr
namespace Go.Proofs.Ytljlplohicffpaa.Q
open Go.RowKit Go.Proofs.Ytljlplohicffpaa.P Go.Proofs.YtljlplohicffpaaW.PrintWords Go.Proofs.YtljlplohicffpaaW.PrintLast Go.Proofs.Ytljlplohicffpaa.G
theorem chk_b : (List.range 10).all (fun i => chkN (21 + i)) = true := by decide +kernel
theorem chk_c : (List.range 5).all (fun i => chkN (31 + i)) = true := by decide +kernel
theorem chk_d : (List.range 5).all (fun i => chkN (36 + i)) = true := by decide +kernel
theorem chk_all {n : Nat} (h : n ≤ 40) : chkN n = true := by
  by_cases h1 : n < 21
  · exact List.all_eq_true.1 chk_a n (List.mem_range.2 h1)
  by_cases h2 : n < 31
  · have := List.all_eq_true.1 chk_b (n - 21) (List.mem_range.2 (by omega))
    rwa [show 21 + (n - 21) = n from by omega] at this
  by_cases h3 : n < 36
  · have := List.all_eq_true.1 chk_c (n - 31) (List.mem_range.2 (by omega))
    rwa [show 31 + (n - 31) = n from by omega] at this
  have := List.all_eq_true.1 chk_d (n - 36) (List.mem_range.2 (by omega))
  rwa [show 36 + (n - 36) = n from by omega] at this
/-- A Christoffel word of two letters and more can be cut; and if its matrix is small, so are its parts'. -/
theorem chr_all {l : List Int} (h : l.length ≤ 40) (h2 : 2 ≤ l.length) (hc : isChr l = true) : 1 ≤ splitL l ∧ (fineL l = true → fineL (l.take (splitL l)) = true ∧ fineL (l.drop (splitL l)) = true) := by
  unfold isChr at hc
  rw [Bool.and_eq_true, decide_eq_true_iff, decide_eq_true_iff] at hc
  have hle : cntL 98 l ≤ l.length := by
    clear h h2 hc
    induction l with
    | nil => exact Nat.le_refl _
    | cons x l ih => unfold cntL; split <;> simp only [List.length_cons] <;> omega
  have h1 := List.all_eq_true.1 (chk_all h) (cntL 98 l) (List.mem_range.2 (by omega))
  rw [hc.2, decide_eq_true hc.1] at h1
  have h3 : chkW l = true := by simpa using h1
  unfold chkW at h3
  rw [decide_eq_false (by omega), Bool.false_or, Bool.and_eq_true, decide_eq_true_iff] at h3
  refine ⟨h3.1, fun hf => ?_⟩
  have h4 := h3.2
  rw [hf] at h4
  simpa using h4
end Go.Proofs.Ytljlplohicffpaa.Q

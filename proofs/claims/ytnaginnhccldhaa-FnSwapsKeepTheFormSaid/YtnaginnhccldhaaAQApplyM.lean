/- ApplyMatrix of the program. -/
import Derived.Test.YtnaginnhccldhaaAx12
import Derived.Test.YtnaginnhccldhaaAQApplyP
import Derived.Test.YtnaginnhccldhaaAQIsVec
namespace Go.Proofs.Ytnaginnhccldhaa.Q
open Go.RowKit Go.Proofs.Ytnaginnhccldhaa.P Go.Proofs.YtnaginnhccldhaaW.PrintWords Go.Proofs.YtnaginnhccldhaaW.PrintLast Go.Proofs.Ytnaginnhccldhaa.G

/-- What both programs answer. -/
def applyR (L : List (List Int)) (v : List Int) : List Int × Bool := if isMat L = true then (if isVec L.length v = true then (if isVec L.length (applyL L v) = true then (applyL L v, true) else ([], false)) else ([], false)) else ([], false)
theorem applyR_len (L : List (List Int)) (v : List Int) : (applyR L v).1.length ≤ 4 := by
  unfold applyR
  split
  · rename_i h
    have := isMat_len h
    split
    · split
      · show (applyL L v).length ≤ 4
        rw [applyL_length]
        omega
      · simp
    · simp
  · simp
theorem applyMatrix_ev (L : List (List Int)) (v : List Int) : Ev (fun k => impl_ApplyMatrix.f k L v) (applyR L v) := by
  unfold impl_ApplyMatrix.f impl_IsMatrix.f impl_Matrix_size.f applyR
  simp only [Option.bind_some, isVector_eq]
  by_cases h : isMat L = true
  · rw [if_pos h]
    refine Ev_true h (Ev_succ ?_)
    simp only [impl_ApplyMatrix.j0, impl_Matrix_size.f, Option.bind_some, isVector_eq]
    by_cases hv : isVec L.length v = true
    · rw [if_pos hv]
      refine Ev_false (by rw [hv]; simp) ?_
      have hl : (v.length : Int) = L.length := of_decide_eq_true (Bool.and_eq_true_iff.1 (by unfold isVec at hv; exact hv)).1
      refine Ev.bind (apply_ev (isMat_sq h) (by omega)) ?_
      by_cases hb : isVec L.length (applyL L v) = true
      · simp only [if_pos hb]
        exact Ev_some
      · simp only [if_neg hb]
        exact Ev_some
    · rw [if_neg hv]
      exact Ev_true (by rw [Bool.eq_false_iff.2 hv]; rfl) Ev_some
  · rw [if_neg h]
    refine Ev_false h (Ev_succ ?_)
    simp only [impl_ApplyMatrix.j0]
    first | exact Ev_some | exact Ev_true rfl Ev_some
end Go.Proofs.Ytnaginnhccldhaa.Q

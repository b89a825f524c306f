/- ProductAt, of both programs. -/
import Derived.Test.YtojclcknndpdgaaPx10
import Derived.Test.YtojclcknndpdgaaPx11
import Derived.Test.YtojclcknndpdgaaQA
namespace Go.Proofs.Ytojclcknndpdgaa.Q
open Go.RowKit Go.Proofs.Ytojclcknndpdgaa.P Go.Proofs.YtojclcknndpdgaaW.PrintWords Go.Proofs.YtojclcknndpdgaaW.PrintLast Go.Proofs.Ytojclcknndpdgaa.G

theorem foProductAt_ev {L : List (List Int)} {v w : List Int} (hL : Fits L) (hv : v.length ≤ 1048576) (hw : w.length ≤ 1048576) : Ev (fun k => spec_ProductAt.f k L v w) (productR L v w) := by
  unfold spec_ProductAt.f
  refine Ev.bind (foForm_ev hL) ?_
  by_cases hf : isFormB L = true
  · have hm := (isForm_mat hf).1
    refine Ev_true hf (Ev.bind (foVector_ev hL hv) ?_)
    rw [hm, Bool.true_and]
    by_cases h1 : isVec L.length v = true
    · refine Ev_true h1 (Ev.bind (foVector_ev hL hw) ?_)
      rw [hm, Bool.true_and]
      by_cases h2 : isVec L.length w = true
      · rw [show productR L v w = (dotV v (applyL L w) L.length, true) from by unfold productR; rw [if_pos hf, if_pos h1, if_pos h2]]
        exact Ev_true h2 (Ev.bind (f := fun _ t => some (t, true)) (foProduct_ev (isMat_sq hm) (isVec_len h1) (isVec_len h2)) Ev_some)
      · rw [show productR L v w = (0, false) from by unfold productR; rw [if_pos hf, if_pos h1, if_neg h2]]
        exact Ev_false h2 Ev_some
    · rw [show productR L v w = (0, false) from by unfold productR; rw [if_pos hf, if_neg h1]]
      exact Ev_false h1 Ev_some
  · rw [show productR L v w = (0, false) from by unfold productR; rw [if_neg hf]]
    exact Ev_false hf Ev_some
theorem productAt_ev (L : List (List Int)) (v w : List Int) : Ev (fun k => impl_ProductAt.f k L v w) (productR L v w) := by
  unfold impl_ProductAt.f impl_Matrix_size.f
  rw [isForm_eq]
  simp only [Option.bind_some, isVector_eq]
  have hno : ∀ b : Bool, b = true → Ev (fun k => impl_ProductAt.j0 k v w b L) (0, false) := fun b hb => by
    subst hb
    refine Ev_succ ?_
    simp only [impl_ProductAt.j0]
    first | exact Ev_some | exact Ev_true rfl Ev_some
  by_cases hf : isFormB L = true
  · have hm := (isForm_mat hf).1
    have hn := isMat_len hm
    refine Ev_true hf ?_
    by_cases h1 : isVec L.length v = true
    · refine Ev_true h1 ?_
      have hv := isVec_len h1
      by_cases h2 : isVec L.length w = true
      · rw [show productR L v w = (dotV v (applyL L w) L.length, true) from by unfold productR; rw [if_pos hf, if_pos h1, if_pos h2]]
        refine Ev_succ ?_
        simp only [impl_ProductAt.j0]
        refine Ev_false (by rw [h2]; simp) (Ev.bind (apply_ev (isMat_sq hm) (isVec_len h2)) (Ev.bind (f := fun _ t => some (t, true)) (a := dotV v (applyL L w) L.length) ?_ Ev_some))
        have h := dot_ev (v := v) (u := applyL L w) (by omega) (by rw [applyL_length]; omega)
        rw [hv] at h
        exact h
      · rw [show productR L v w = (0, false) from by unfold productR; rw [if_pos hf, if_pos h1, if_neg h2]]
        exact hno _ (by rw [Bool.eq_false_iff.2 h2]; rfl)
    · rw [show productR L v w = (0, false) from by unfold productR; rw [if_pos hf, if_neg h1]]
      exact Ev_false h1 (hno _ rfl)
  · rw [show productR L v w = (0, false) from by unfold productR; rw [if_neg hf]]
    exact Ev_false hf (hno _ rfl)
end Go.Proofs.Ytojclcknndpdgaa.Q

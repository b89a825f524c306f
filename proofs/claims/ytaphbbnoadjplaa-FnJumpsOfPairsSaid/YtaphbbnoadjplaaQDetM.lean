/- DeterminantOf of the program. -/
import Derived.Test.YtaphbbnoadjplaaPx4
import Derived.Test.YtaphbbnoadjplaaQDetP
import Derived.Test.YtaphbbnoadjplaaGA
namespace Go.Proofs.Ytaphbbnoadjplaa.Q
open Go.RowKit Go.Proofs.Ytaphbbnoadjplaa.P Go.Proofs.YtaphbbnoadjplaaW.PrintWords Go.Proofs.YtaphbbnoadjplaaW.PrintLast Go.Proofs.Ytaphbbnoadjplaa.G

def determinantR (L : List (List Int)) : Int × Bool := if (isMat L && L.all (isLow 1000)) = true then (detN L.length L, true) else (0, false)
theorem determinantOf_ev (L : List (List Int)) : Ev (fun k => impl_DeterminantOf.f k L) (determinantR L) := by
  unfold impl_DeterminantOf.f determinantR impl_IsMatrix.f impl_Matrix_isSmall.f
  simp only [Option.bind_some]
  by_cases hm : isMat L = true
  · have h4 := isMat_len hm
    by_cases hs : L.all (isLow 1000) = true
    · rw [hm, hs, if_pos (by rfl)]
      exact Ev_true rfl (Ev_true rfl (Ev.bind (f := fun _ t => some (t, true)) (det_ev L.length L (by omega) (isMat_sq hm) rfl) Ev_some))
    · rw [hm, Bool.eq_false_iff.2 hs, if_neg (by simp)]
      exact Ev_true rfl (Ev_false (by simp) Ev_some)
  · rw [Bool.eq_false_iff.2 hm, if_neg (by simp)]
    exact Ev_false (by simp) Ev_some
end Go.Proofs.Ytaphbbnoadjplaa.Q

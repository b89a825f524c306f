/- The product of two matrices: what both sides come to. -/
import Derived.Test.YtbchhpplglllmaaPx2
import Derived.Test.YtbchhpplglllmaaPx3
import Derived.Test.YtbchhpplglllmaaPx4
import Derived.Test.YtbchhpplglllmaaPx5
import Derived.Test.YtbchhpplglllmaaQProd
import Derived.Test.YtbchhpplglllmaaQGood
namespace Go.Proofs.Ytbchhpplglllmaa.Q
open Go.RowKit Go.Proofs.Ytbchhpplglllmaa.P Go.Proofs.YtbchhpplglllmaaW.PrintWords Go.Proofs.YtbchhpplglllmaaW.PrintLast Go.Proofs.Ytbchhpplglllmaa.G
def alikeB (L M : List (List Int)) : Bool := isMat L && (isMat M && decide (L.length = M.length))
theorem alikeB_iff {L M : List (List Int)} : alikeB L M = true ↔ isMat L = true ∧ isMat M = true ∧ L.length = M.length := by
  simp [alikeB]
theorem areAlike_eq (L M : List (List Int)) : impl_areAlike.f L M = some (alikeB L M) := by
  unfold impl_areAlike.f impl_IsMatrix.f impl_Matrix_size.f alikeB
  simp only [Option.bind_some]
  cases isMat L <;> cases isMat M <;> simp
  by_cases h : L.length = M.length
  · simp [h]
  · simp [h]
    omega
def multR (L M : List (List Int)) : List (List Int) × Bool := if alikeB L M = true then (if isMat (prodL L M) = true then (prodL L M, true) else ([], false)) else ([], false)
theorem multR_sq (L M : List (List Int)) : isSq (multR L M).1 = true ∨ (multR L M).1 = [] := by
  unfold multR
  by_cases h : alikeB L M = true
  · rw [if_pos h]
    by_cases h2 : isMat (prodL L M) = true
    · rw [if_pos h2]
      exact .inl (isMat_sq h2)
    · rw [if_neg h2]
      exact .inr rfl
  · rw [if_neg h]
    exact .inr rfl
theorem foPair_ev {L M : List (List Int)} (hL : Fits L) (hM : Fits M) : Ev (fun k => spec_foPair.f k L M) (alikeB L M) := by
  unfold spec_foPair.f alikeB
  refine Ev.bind (foGood_ev hL) ?_
  cases isMat L with
  | false => exact Ev_false (by simp) Ev_some
  | true =>
    refine Ev_true rfl (Ev.bind (foGood_ev hM) ?_)
    cases isMat M with
    | false => exact Ev_false (by simp) Ev_some
    | true =>
      refine Ev_true rfl ?_
      have h : ((L.length : Int) == (M.length : Int)) = (true && (true && decide (L.length = M.length))) := by
        by_cases h : L.length = M.length
        · simp [h]
        · simp [h]
          omega
      rw [h]
      exact Ev_some
theorem foMult_ev {L M : List (List Int)} (hL : Fits L) (hM : Fits M) : Ev (fun k => spec_MultiplyMatrices.f k L M) (multR L M) := by
  unfold spec_MultiplyMatrices.f multR
  refine Ev.bind (foPair_ev hL hM) ?_
  by_cases h : alikeB L M = true
  · rw [if_pos h]
    obtain ⟨h1, h2, h3⟩ := alikeB_iff.1 h
    refine Ev_true h (Ev.bind (foTimes_ev (isMat_sq h1) (isMat_sq h2) h3) ?_)
    have hs : isSq (prodL L M) = true := isSq_rowsOf _ (isSq_le (isMat_sq h1))
    unfold spec_foIf.f
    by_cases h4 : isMat (prodL L M) = true
    · rw [if_pos h4]
      exact Ev.bind (a := (prodL L M, true)) (Ev.bind (foGood_ev (fits_sq hs)) (Ev_true h4 Ev_some)) Ev_some
    · rw [if_neg h4]
      exact Ev.bind (a := (([] : List (List Int)), false)) (Ev.bind (foGood_ev (fits_sq hs)) (Ev_false h4 Ev_some)) Ev_some
  · rw [if_neg h]
    exact Ev_false h Ev_some
end Go.Proofs.Ytbchhpplglllmaa.Q

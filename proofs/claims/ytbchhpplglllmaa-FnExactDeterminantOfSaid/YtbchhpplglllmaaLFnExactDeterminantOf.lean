/- The law FnExactDeterminantOf. -/
import Derived.Test.YtbchhpplglllmaaPx8
import Derived.Test.YtbchhpplglllmaaPx9
import Derived.Test.YtbchhpplglllmaaQDet
namespace Go.Proofs.Ytbchhpplglllmaa.G
open Go.RowKit Go.Proofs.Ytbchhpplglllmaa.P Go.Proofs.YtbchhpplglllmaaW.PrintWords Go.Proofs.YtbchhpplglllmaaW.PrintLast Go.Proofs.Ytbchhpplglllmaa.Q
def determinantR (L : List (List Int)) : Int × Bool := if (isMat L && L.all (isLow 1000)) = true then (detN L.length L, true) else (0, false)
theorem foDeterminantOf_ev {L : List (List Int)} (hL : Fits L) : Ev (fun k => spec_DeterminantOf.f k L) (determinantR L) := by
  unfold spec_DeterminantOf.f determinantR
  refine Ev.bind (foSmall_ev hL 1000) ?_
  by_cases h : (isMat L && L.all (isLow 1000)) = true
  · rw [if_pos h]
    have hm := (Bool.and_eq_true_iff.1 h).1
    have h4 := isMat_len hm
    exact Ev_true h (Ev.bind (f := fun _ t => some (t, true)) (foDet_ev L.length L (by omega) (isMat_sq hm) rfl) Ev_some)
  · rw [if_neg h]
    exact Ev_false h Ev_some
theorem determinantOf_ev (L : List (List Int)) : Ev (fun k => impl_DeterminantOf.f k L) (determinantR L) := by
  unfold impl_DeterminantOf.f determinantR impl_IsMatrix.f impl_Matrix_isSmall.f
  simp only [Option.bind_some]
  by_cases hm : isMat L = true
  · have h4 := isMat_len hm
    by_cases hs : L.all (isLow 1000) = true
    · rw [hm, hs, if_pos (by rfl)]
      exact Ev_true rfl (Ev_true rfl (Ev.bind (f := fun _ t => some (t, true)) (det_ev L.length L (by omega) (isMat_sq hm) rfl) Ev_some))
    · rw [hm, Bool.eq_false_iff.2 hs, if_neg (by simp)]
      exact Ev_true rfl (Ev_false (by simp) Ev_some)
  · rw [Bool.eq_false_iff.2 hm, if_neg (by simp)]
    exact Ev_false (by simp) Ev_some
theorem FnExactDeterminantOf_pure (L : List (List Int)) (hl : L.length ≤ maxLen) (hx : ∀ x ∈ L, x.length ≤ maxLen) : ∃ k, laws_FnExactDeterminantOf.f k L = some true := by
  refine Ev_out (g := fun k => laws_FnExactDeterminantOf.f k L) ?_
  unfold laws_FnExactDeterminantOf.f
  obtain ⟨r, h1, h2⟩ := szMat_ev (L := L) (a := 1048576) (by omega) (by omega) hl hx
  refine Ev.bind h1 ?_
  rcases h2 with h2 | ⟨hL, h2, _⟩
  · exact Ev_true h2 Ev_some
  · refine Ev_false (by omega) (Ev.bind (toMat_ev hL) (Ev.bind (foDeterminantOf_ev hL) (Ev.bind (toMat_ev hL) (Ev.bind (determinantOf_ev L) (Ev_true rfl ?_)))))
    refine Ev_succ ?_
    simp only [laws_FnExactDeterminantOf.j0]
    exact Ev_false (by simp) (Ev.bind (toMat_ev hL) (Ev.bind (eqMat_same hL) (Ev_true rfl Ev_some)))
theorem FnExactDeterminantOf_walk (A0 : Option Addr) (c0 : Nat) (l0 : List (List Int)) (w : World) (hr0 : Kd.C (Kd.slice 3 (Kd.int .i64)) w A0 l0.length l0) (hc0 : l0.length ≤ c0) (hm0 : l0.length ≤ maxLen) (hw0 : ∀ x ∈ l0, x.length ≤ maxLen ∧ ∀ a ∈ x, (Lit.int .i64 a).wf = true) :
    Calls Try.prog 7 #[.agg #[.slice A0 l0.length c0]] w fun e w' => e = .returned (.bool true) ∧ Below w.heap.size w w' := by
  obtain ⟨k, h⟩ := FnExactDeterminantOf_pure l0 hm0 (fun x hx => (hw0 x hx).1)
  exact laws_FnExactDeterminantOf.calls k A0 c0 l0 true w hr0 hc0 h
end Go.Proofs.Ytbchhpplglllmaa.G

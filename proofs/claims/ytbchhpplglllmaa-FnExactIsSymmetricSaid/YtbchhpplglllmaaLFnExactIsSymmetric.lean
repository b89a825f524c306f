/- The law FnExactIsSymmetric. -/
import Derived.Test.YtbchhpplglllmaaPx10
import Derived.Test.YtbchhpplglllmaaPx11
import Derived.Test.YtbchhpplglllmaaQMatB
namespace Go.Proofs.Ytbchhpplglllmaa.G
open Go.RowKit Go.Proofs.Ytbchhpplglllmaa.P Go.Proofs.YtbchhpplglllmaaW.PrintWords Go.Proofs.YtbchhpplglllmaaW.PrintLast Go.Proofs.Ytbchhpplglllmaa.Q
def symmetricR (L : List (List Int)) : Bool × Bool := if isMat L = true then (decide (L = transL L), true) else (false, false)
theorem foSymmetric_ev {L : List (List Int)} (hL : Fits L) : Ev (fun k => spec_IsSymmetric.f k L) (symmetricR L) := by
  unfold spec_IsSymmetric.f symmetricR
  refine Ev.bind (foGood_ev hL) ?_
  by_cases h : isMat L = true
  · rw [if_pos h]
    exact Ev_true h (Ev.bind (foTranspose_ev (isMat_sq h)) (Ev.bind (f := fun _ t => some (t, true)) (foSame_ev (by unfold transL; rw [rowsOf_length]) hL) Ev_some))
  · rw [if_neg h]
    exact Ev_false h Ev_some
theorem symmetric_eq (L : List (List Int)) : impl_IsSymmetric.f L = some (symmetricR L) := by
  unfold impl_IsSymmetric.f symmetricR impl_IsMatrix.f impl_Matrix_transposed.f impl_sameMatrix.f
  simp only [Option.bind_some]
  by_cases h : isMat L = true
  · rw [if_pos h, if_pos h, if_pos (isMat_sq h)]
    rfl
  · rw [if_neg h, if_neg h]
theorem FnExactIsSymmetric_pure (L : List (List Int)) (hl : L.length ≤ maxLen) (hx : ∀ x ∈ L, x.length ≤ maxLen) : ∃ k, laws_FnExactIsSymmetric.f k L = some true := by
  refine Ev_out (g := fun k => laws_FnExactIsSymmetric.f k L) ?_
  unfold laws_FnExactIsSymmetric.f
  obtain ⟨r, h1, h2⟩ := szMat_ev (L := L) (a := 1048576) (by omega) (by omega) hl hx
  refine Ev.bind h1 ?_
  rcases h2 with h2 | ⟨hL, h2, _⟩
  · exact Ev_true h2 Ev_some
  · refine Ev_false (by omega) (Ev.bind (toMat_ev hL) (Ev.bind (foSymmetric_ev hL) (Ev.bind (toMat_ev hL) (Ev.bind (Ev_const (symmetric_eq L)) (Ev_false (by simp) ?_)))))
    refine Ev_succ ?_
    simp only [laws_FnExactIsSymmetric.j0]
    exact Ev_false (by simp) (Ev.bind (toMat_ev hL) (Ev.bind (eqMat_same hL) (Ev_true rfl Ev_some)))
theorem FnExactIsSymmetric_walk (A0 : Option Addr) (c0 : Nat) (l0 : List (List Int)) (w : World) (hr0 : Kd.C (Kd.slice 3 (Kd.int .i64)) w A0 l0.length l0) (hc0 : l0.length ≤ c0) (hm0 : l0.length ≤ maxLen) (hw0 : ∀ x ∈ l0, x.length ≤ maxLen ∧ ∀ a ∈ x, (Lit.int .i64 a).wf = true) :
    Calls Try.prog 9 #[.agg #[.slice A0 l0.length c0]] w fun e w' => e = .returned (.bool true) ∧ Below w.heap.size w w' := by
  obtain ⟨k, h⟩ := FnExactIsSymmetric_pure l0 hm0 (fun x hx => (hw0 x hx).1)
  exact laws_FnExactIsSymmetric.calls k A0 c0 l0 true w hr0 hc0 h
end Go.Proofs.Ytbchhpplglllmaa.G

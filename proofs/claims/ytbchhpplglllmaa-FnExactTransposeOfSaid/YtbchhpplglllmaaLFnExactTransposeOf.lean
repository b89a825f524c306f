/- The law FnExactTransposeOf. -/
import Derived.Test.YtbchhpplglllmaaPx9
import Derived.Test.YtbchhpplglllmaaQMatB
import Derived.Test.YtbchhpplglllmaaQGok
import Derived.Test.YtbchhpplglllmaaWFnExactTransposeOf
namespace Go.Proofs.Ytbchhpplglllmaa.G
open Go.RowKit Go.Proofs.Ytbchhpplglllmaa.P Go.Proofs.YtbchhpplglllmaaW.PrintWords Go.Proofs.YtbchhpplglllmaaW.PrintLast Go.Proofs.Ytbchhpplglllmaa.Q
theorem transpose_both {L : List (List Int)} (hL : Fits L) : ∃ G b, Ev (fun k => spec_TransposeOf.f k L) (G, b) ∧ impl_TransposeOf.f L = some (G, b) ∧ (isSq G = true ∨ G = []) := by
  unfold spec_TransposeOf.f impl_TransposeOf.f impl_IsMatrix.f impl_Matrix_transposed.f
  simp only [Option.bind_some]
  by_cases h : isMat L = true
  · have hs := isMat_sq h
    refine ⟨transL L, true, Ev.bind (foGood_ev hL) (Ev_true h (Ev.bind (f := fun _ t => some (t, true)) (foTranspose_ev hs) Ev_some)), ?_, .inl (isSq_rowsOf _ (isSq_le hs))⟩
    rw [if_pos h, if_pos hs]
    rfl
  · exact ⟨[], false, Ev.bind (foGood_ev hL) (Ev_false h Ev_some), by rw [if_neg h], .inr rfl⟩
theorem FnExactTransposeOf_walk (A0 : Option Addr) (c0 : Nat) (l0 : List (List Int)) (w : World) (hr0 : Kd.C (Kd.slice 3 (Kd.int .i64)) w A0 l0.length l0) (hc0 : l0.length ≤ c0) (hm0 : l0.length ≤ maxLen) (hw0 : ∀ x ∈ l0, x.length ≤ maxLen ∧ ∀ a ∈ x, (Lit.int .i64 a).wf = true) :
    Calls Try.prog 8 #[.agg #[.slice A0 l0.length c0]] w fun e w' => e = .returned (.bool true) ∧ Below w.heap.size w w' := by
  obtain ⟨r, h1, h2⟩ := szMat_ev (L := l0) (a := 1048576) (by omega) (by omega) hm0 (fun x hx => (hw0 x hx).1)
  obtain ⟨kz, hz⟩ := Ev_out h1
  rcases h2 with h2 | ⟨hL, h0, _⟩
  · exact FnExactTransposeOf_less0 A0 c0 l0 w hr0 hc0 kz r hz h2
  · obtain ⟨G, b, hs, hi, hg⟩ := transpose_both hL
    obtain ⟨ks, hs⟩ := Ev_out hs
    refine FnExactTransposeOf_calls A0 c0 l0 G b w hr0 hc0 hL kz r hz h0 (fun W B0 d0 hC hl => (spec_TransposeOf.calls ks B0 d0 l0 G b W hC hl hs).mono ?_) (fun W B0 d0 hC hl => impl_TransposeOf.calls B0 d0 l0 G b W hC hl hi) (gOk hg)
    rintro e w' ⟨v, rfl, hS, hb⟩
    obtain ⟨A, c, rfl, h1, h2⟩ := Kd.S_reads hS
    exact ⟨A, c, rfl, h1, h2, hb⟩
end Go.Proofs.Ytbchhpplglllmaa.G

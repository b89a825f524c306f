/- The law FnExactInverseOf. -/
import Derived.Test.YtldkkfpodldbgaaPx3
import Derived.Test.YtldkkfpodldbgaaQM
import Derived.Test.YtldkkfpodldbgaaGI
import Derived.Test.YtldkkfpodldbgaaQGok
import Derived.Test.YtldkkfpodldbgaaWFnExactInverseOf
namespace Go.Proofs.Ytldkkfpodldbgaa.G
open Go.RowKit Go.Proofs.Ytldkkfpodldbgaa.P Go.Proofs.YtldkkfpodldbgaaW.PrintWords Go.Proofs.YtldkkfpodldbgaaW.PrintLast Go.Proofs.Ytldkkfpodldbgaa.Q
theorem FnExactInverseOf_walk (A0 : Option Addr) (c0 : Nat) (l0 : List (List Int)) (w : World) (hr0 : Kd.C (Kd.slice 3 (Kd.int .i64)) w A0 l0.length l0) (hc0 : l0.length ≤ c0) (hm0 : l0.length ≤ maxLen) (hw0 : ∀ x ∈ l0, x.length ≤ maxLen ∧ ∀ a ∈ x, (Lit.int .i64 a).wf = true) :
    Calls Try.prog 3 #[.agg #[.slice A0 l0.length c0]] w fun e w' => e = .returned (.bool true) ∧ Below w.heap.size w w' := by
  obtain ⟨r, h1, h2⟩ := szMat_ev (L := l0) (a := 1048576) (by omega) (by omega) hm0 (fun x hx => (hw0 x hx).1)
  obtain ⟨kz, hz⟩ := Ev_out h1
  rcases h2 with h2 | ⟨hL, h0, _⟩
  · exact FnExactInverseOf_less0 A0 c0 l0 w hr0 hc0 kz r hz h2
  · have hg := invR_sq l0
    obtain ⟨ks, hs⟩ := Ev_out (specInv_ev hL)
    have HI := fun W B0 d0 hC hl => inverse_any B0 d0 l0 W hC hl
    generalize invR l0 = R at hg hs HI
    obtain ⟨G, b⟩ := R
    refine FnExactInverseOf_calls A0 c0 l0 G b w hr0 hc0 hL kz r hz h0 (fun W B0 d0 hC hl => (spec_InverseOf.calls ks B0 d0 l0 G b W hC hl hs).mono ?_) HI (gOk hg)
    rintro e w' ⟨v, rfl, hS, hb⟩
    obtain ⟨A, c, rfl, h1, hF⟩ := hS
    exact ⟨A, c, rfl, h1, Kd.F_now hF, hb⟩
end Go.Proofs.Ytldkkfpodldbgaa.G

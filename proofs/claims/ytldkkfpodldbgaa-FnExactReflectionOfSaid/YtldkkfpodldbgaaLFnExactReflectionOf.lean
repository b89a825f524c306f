/- The law FnExactReflectionOf. -/
import Derived.Test.YtldkkfpodldbgaaPx6
import Derived.Test.YtldkkfpodldbgaaQS
import Derived.Test.YtldkkfpodldbgaaGI
import Derived.Test.YtldkkfpodldbgaaQGok
import Derived.Test.YtldkkfpodldbgaaWFnExactReflectionOf
namespace Go.Proofs.Ytldkkfpodldbgaa.G
open Go.RowKit Go.Proofs.Ytldkkfpodldbgaa.P Go.Proofs.YtldkkfpodldbgaaW.PrintWords Go.Proofs.YtldkkfpodldbgaaW.PrintLast Go.Proofs.Ytldkkfpodldbgaa.Q
theorem FnExactReflectionOf_walk (A0 : Option Addr) (c0 : Nat) (l0 : List (List Int)) (A1 : Option Addr) (c1 : Nat) (l1 : List Int) (w : World) (hr0 : Kd.C (Kd.slice 3 (Kd.int .i64)) w A0 l0.length l0) (hc0 : l0.length ≤ c0) (hm0 : l0.length ≤ maxLen) (hw0 : ∀ x ∈ l0, x.length ≤ maxLen ∧ ∀ a ∈ x, (Lit.int .i64 a).wf = true)
    (hr1 : Kd.C (Kd.int .i64) w A1 l1.length l1) (hc1 : l1.length ≤ c1) (_hm1 : l1.length ≤ maxLen) (_hw1 : ∀ x ∈ l1, (Lit.int .i64 x).wf = true) :
    Calls Try.prog 5 #[.agg #[.slice A0 l0.length c0], .slice A1 l1.length c1] w fun e w' => e = .returned (.bool true) ∧ Below w.heap.size w w' := by
  by_cases hl : 1048576 < l1.length
  · exact FnExactReflectionOf_out1 A0 c0 l0 A1 c1 l1 w hl
  · obtain ⟨r, h1, h2⟩ := szMat_ev (L := l0) (a := 1048576) (by omega) (by omega) hm0 (fun x hx => (hw0 x hx).1)
    obtain ⟨kz, hz⟩ := Ev_out h1
    rcases h2 with h2 | ⟨hL, h0, _⟩
    · exact FnExactReflectionOf_less0 A0 c0 l0 A1 c1 l1 w hr0 hc0 hr1 hc1 (by omega) kz r hz h2
    · have hg := refR_sq l0 l1
      obtain ⟨ks, hs⟩ := Ev_out (specRef_ev hL (v := l1) (by omega))
      have HI := fun W B0 d0 B1 d1 hC hl hC1 hl1 => reflection_any B0 d0 l0 B1 d1 l1 W hC hl hC1 hl1
      generalize refR l0 l1 = R at hg hs HI
      obtain ⟨G, b⟩ := R
      refine FnExactReflectionOf_calls A0 c0 l0 A1 c1 l1 G b w hr0 hc0 hr1 hc1 hL (by omega) kz r hz h0 (fun W B0 d0 B1 d1 hC hl hC1 hl1 => (spec_ReflectionOf.calls ks B0 d0 l0 B1 d1 l1 G b W hC hl hC1 hl1 hs).mono ?_) HI (gOk hg)
      rintro e w' ⟨v, rfl, hS, hb⟩
      obtain ⟨A, c, rfl, h1, hF⟩ := hS
      exact ⟨A, c, rfl, h1, Kd.F_now hF, hb⟩
end Go.Proofs.Ytldkkfpodldbgaa.G

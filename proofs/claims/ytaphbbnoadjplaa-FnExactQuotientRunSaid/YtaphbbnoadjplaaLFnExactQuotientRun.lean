/- The law FnExactQuotientRun. -/
import Derived.Test.YtaphbbnoadjplaaQQuotRun
import Derived.Test.YtaphbbnoadjplaaWFnExactQuotientRun
namespace Go.Proofs.Ytaphbbnoadjplaa.G
open Go.RowKit Go.Proofs.Ytaphbbnoadjplaa.P Go.Proofs.YtaphbbnoadjplaaW.PrintWords Go.Proofs.YtaphbbnoadjplaaW.PrintLast Go.Proofs.Ytaphbbnoadjplaa.Q
theorem FnExactQuotientRun_walk (a0 a1 : Int) (w : World) (_w0 : (Lit.int .i64 a0).wf = true) (_w1 : (Lit.int .i64 a1).wf = true) :
    Calls Try.prog 3 #[.int .i64 a0, .int .i64 a1] w fun e w' => e = .returned (.bool true) ∧ Below w.heap.size w w' := by
  obtain ⟨ks, hs⟩ := Ev_out (foQuotRun_ev a0 a1)
  obtain ⟨ki, hi⟩ := Ev_out (quotRun_ev a0 a1)
  have hg := quotRun_len a0 a1
  have ht : tot (quotRunR a0 a1).1 ≤ (quotRunR a0 a1).1.length * 2 := tot_bound _ hg.2
  refine FnExactQuotientRun_calls a0 a1 (quotRunR a0 a1).1 (quotRunR a0 a1).2 w (fun W => (spec_QuotientRun.calls ks a0 a1 _ _ W hs).mono ?_) (fun W => impl_QuotientRun.calls ki a0 a1 _ _ W hi) ⟨by omega, by omega, by omega, fun x hx => by have := hg.2 x hx; omega⟩
  rintro e w' ⟨v, rfl, hS, hb⟩
  obtain ⟨A, c, rfl, h1, h2⟩ := Kd.N_reads hS
  exact ⟨A, c, rfl, h1, h2, hb⟩
end Go.Proofs.Ytaphbbnoadjplaa.G

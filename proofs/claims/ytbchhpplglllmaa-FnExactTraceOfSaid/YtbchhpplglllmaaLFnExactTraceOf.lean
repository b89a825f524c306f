/- The law FnExactTraceOf. -/
import Derived.Test.YtbchhpplglllmaaPx3
import Derived.Test.YtbchhpplglllmaaQTrace
namespace Go.Proofs.Ytbchhpplglllmaa.G
open Go.RowKit Go.Proofs.Ytbchhpplglllmaa.P Go.Proofs.YtbchhpplglllmaaW.PrintWords Go.Proofs.YtbchhpplglllmaaW.PrintLast Go.Proofs.Ytbchhpplglllmaa.Q

theorem FnExactTraceOf_pure (L : List (List Int)) (hl : L.length ≤ maxLen) (hx : ∀ x ∈ L, x.length ≤ maxLen) : ∃ k, laws_FnExactTraceOf.f k L = some true := by
  refine Ev_out (g := fun k => laws_FnExactTraceOf.f k L) ?_
  unfold laws_FnExactTraceOf.f
  obtain ⟨r, h1, h2⟩ := szMat_ev (L := L) (a := 1048576) (by omega) (by omega) hl hx
  refine Ev.bind h1 ?_
  rcases h2 with h2 | ⟨hL, h2, _⟩
  · exact Ev_true h2 Ev_some
  · refine Ev_false (by omega) (Ev.bind (toMat_ev hL) (Ev.bind (foTrace_ev hL) (Ev.bind (toMat_ev hL) (Ev.bind (trace_ev L) (Ev_true rfl ?_)))))
    refine Ev_succ ?_
    simp only [laws_FnExactTraceOf.j0]
    exact Ev_false (by simp) (Ev.bind (toMat_ev hL) (Ev.bind (eqMat_same hL) (Ev_true rfl Ev_some)))
theorem FnExactTraceOf_walk (A0 : Option Addr) (c0 : Nat) (l0 : List (List Int)) (w : World) (hr0 : Kd.C (Kd.slice 3 (Kd.int .i64)) w A0 l0.length l0) (hc0 : l0.length ≤ c0) (hm0 : l0.length ≤ maxLen) (hw0 : ∀ x ∈ l0, x.length ≤ maxLen ∧ ∀ a ∈ x, (Lit.int .i64 a).wf = true) :
    Calls Try.prog 4 #[.agg #[.slice A0 l0.length c0]] w fun e w' => e = .returned (.bool true) ∧ Below w.heap.size w w' := by
  obtain ⟨k, h⟩ := FnExactTraceOf_pure l0 hm0 (fun x hx => (hw0 x hx).1)
  exact laws_FnExactTraceOf.calls k A0 c0 l0 true w hr0 hc0 h
end Go.Proofs.Ytbchhpplglllmaa.G

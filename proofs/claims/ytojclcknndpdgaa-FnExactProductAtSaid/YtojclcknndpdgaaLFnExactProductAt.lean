/- The law FnExactProductAt. -/
import Derived.Test.YtojclcknndpdgaaPx12
import Derived.Test.YtojclcknndpdgaaQA
import Derived.Test.YtojclcknndpdgaaQProdAt
namespace Go.Proofs.Ytojclcknndpdgaa.G
open Go.RowKit Go.Proofs.Ytojclcknndpdgaa.P Go.Proofs.YtojclcknndpdgaaW.PrintWords Go.Proofs.YtojclcknndpdgaaW.PrintLast Go.Proofs.Ytojclcknndpdgaa.Q
theorem productAt_pure (L : List (List Int)) (v w : List Int) (hl : L.length ≤ maxLen) (hx : ∀ x ∈ L, x.length ≤ maxLen) : ∃ k, laws_FnExactProductAt.f k L v w = some true := by
  refine Ev_out (g := fun k => laws_FnExactProductAt.f k L v w) ?_
  unfold laws_FnExactProductAt.f
  by_cases hv : (v.length : Int) > 1048576
  · exact Ev_true hv Ev_some
  · by_cases hw : (w.length : Int) > 1048576
    · exact Ev_false hv (Ev_true hw Ev_some)
    · refine Ev_false hv (Ev_false hw ?_)
      have tv := toIntS_ev (x := v) (by omega)
      have tw := toIntS_ev (x := w) (by omega)
      obtain ⟨r, h1, h2⟩ := szMat_ev (L := L) (a := 1048576) (by omega) (by omega) hl hx
      refine Ev.bind h1 ?_
      rcases h2 with h2 | ⟨hL, h2, _⟩
      · exact Ev_true h2 Ev_some
      · refine Ev_false (by omega) (Ev.bind (toMat_ev hL) (Ev.bind tv (Ev.bind tw (Ev.bind (foProductAt_ev hL (v := v) (w := w) (by omega) (by omega)) (Ev.bind (toMat_ev hL) (Ev.bind tv (Ev.bind tw (Ev.bind (productAt_ev L v w) (Ev_true rfl ?_)))))))))
        refine Ev_succ ?_
        simp only [laws_FnExactProductAt.j0]
        exact Ev_false (by simp) (Ev.bind (toMat_ev hL) (Ev.bind (eqMat_same hL) (Ev_true rfl (Ev.bind tv (Ev.bind (eqIntS_same (l := v) (by omega)) (Ev_true rfl (Ev.bind tw (Ev.bind (eqIntS_same (l := w) (by omega)) (Ev_true rfl Ev_some)))))))))
theorem FnExactProductAt_walk (A0 : Option Addr) (c0 : Nat) (l0 : List (List Int)) (A1 : Option Addr) (c1 : Nat) (l1 : List Int) (A2 : Option Addr) (c2 : Nat) (l2 : List Int) (w : World) (hr0 : Kd.C (Kd.slice 3 (Kd.int .i64)) w A0 l0.length l0) (hc0 : l0.length ≤ c0) (hm0 : l0.length ≤ maxLen) (hw0 : ∀ x ∈ l0, x.length ≤ maxLen ∧ ∀ a ∈ x, (Lit.int .i64 a).wf = true)
    (hr1 : Kd.C (Kd.int .i64) w A1 l1.length l1) (hc1 : l1.length ≤ c1) (_hm1 : l1.length ≤ maxLen) (_hw1 : ∀ x ∈ l1, (Lit.int .i64 x).wf = true)
    (hr2 : Kd.C (Kd.int .i64) w A2 l2.length l2) (hc2 : l2.length ≤ c2) (_hm2 : l2.length ≤ maxLen) (_hw2 : ∀ x ∈ l2, (Lit.int .i64 x).wf = true) :
    Calls Try.prog 4 #[.agg #[.slice A0 l0.length c0], .slice A1 l1.length c1, .slice A2 l2.length c2] w fun e w' => e = .returned (.bool true) ∧ Below w.heap.size w w' := by
  obtain ⟨k, h⟩ := productAt_pure l0 l1 l2 hm0 (fun x hx => (hw0 x hx).1)
  exact laws_FnExactProductAt.calls k A0 c0 l0 A1 c1 l1 A2 c2 l2 true w hr0 hc0 hr1 hc1 hr2 hc2 h
end Go.Proofs.Ytojclcknndpdgaa.G

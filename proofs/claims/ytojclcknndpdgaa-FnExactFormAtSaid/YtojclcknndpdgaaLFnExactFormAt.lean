/- The law FnExactFormAt. -/
import Derived.Test.YtojclcknndpdgaaPx13
import Derived.Test.YtojclcknndpdgaaQA
import Derived.Test.YtojclcknndpdgaaQProdAt
namespace Go.Proofs.Ytojclcknndpdgaa.G
open Go.RowKit Go.Proofs.Ytojclcknndpdgaa.P Go.Proofs.YtojclcknndpdgaaW.PrintWords Go.Proofs.YtojclcknndpdgaaW.PrintLast Go.Proofs.Ytojclcknndpdgaa.Q
theorem foFormAt_ev {L : List (List Int)} {v : List Int} (hL : Fits L) (hv : v.length ≤ 1048576) : Ev (fun k => spec_FormAt.f k L v) (productR L v v) := by
  unfold spec_FormAt.f
  refine Ev.bind (foForm_ev hL) ?_
  by_cases hf : isFormB L = true
  · have hm := (isForm_mat hf).1
    refine Ev_true hf (Ev.bind (foVector_ev hL hv) ?_)
    rw [hm, Bool.true_and]
    by_cases h1 : isVec L.length v = true
    · rw [show productR L v v = (dotV v (applyL L v) L.length, true) from by unfold productR; rw [if_pos hf, if_pos h1, if_pos h1]]
      exact Ev_true h1 (Ev.bind (f := fun _ t => some (t, true)) (foProduct_ev (isMat_sq hm) (isVec_len h1) (isVec_len h1)) Ev_some)
    · rw [show productR L v v = (0, false) from by unfold productR; rw [if_pos hf, if_neg h1]]
      exact Ev_false h1 Ev_some
  · rw [show productR L v v = (0, false) from by unfold productR; rw [if_neg hf]]
    exact Ev_false hf Ev_some
theorem formAt_ev (L : List (List Int)) (v : List Int) : Ev (fun k => impl_FormAt.f k L v) (productR L v v) := by
  unfold impl_FormAt.f
  exact Ev.bind (f := fun _ t => some (t.1, t.2)) (productAt_ev L v v) Ev_some
theorem formAt_pure (L : List (List Int)) (v : List Int) (hl : L.length ≤ maxLen) (hx : ∀ x ∈ L, x.length ≤ maxLen) : ∃ k, laws_FnExactFormAt.f k L v = some true := by
  refine Ev_out (g := fun k => laws_FnExactFormAt.f k L v) ?_
  unfold laws_FnExactFormAt.f
  by_cases hv : (v.length : Int) > 1048576
  · exact Ev_true hv Ev_some
  · refine Ev_false hv ?_
    have tv := toIntS_ev (x := v) (by omega)
    obtain ⟨r, h1, h2⟩ := szMat_ev (L := L) (a := 1048576) (by omega) (by omega) hl hx
    refine Ev.bind h1 ?_
    rcases h2 with h2 | ⟨hL, h2, _⟩
    · exact Ev_true h2 Ev_some
    · refine Ev_false (by omega) (Ev.bind (toMat_ev hL) (Ev.bind tv (Ev.bind (foFormAt_ev hL (v := v) (by omega)) (Ev.bind (toMat_ev hL) (Ev.bind tv (Ev.bind (formAt_ev L v) (Ev_true rfl ?_)))))))
      refine Ev_succ ?_
      simp only [laws_FnExactFormAt.j0]
      exact Ev_false (by simp) (Ev.bind (toMat_ev hL) (Ev.bind (eqMat_same hL) (Ev_true rfl (Ev.bind tv (Ev.bind (eqIntS_same (l := v) (by omega)) (Ev_true rfl Ev_some))))))
theorem FnExactFormAt_walk (A0 : Option Addr) (c0 : Nat) (l0 : List (List Int)) (A1 : Option Addr) (c1 : Nat) (l1 : List Int) (w : World) (hr0 : Kd.C (Kd.slice 3 (Kd.int .i64)) w A0 l0.length l0) (hc0 : l0.length ≤ c0) (hm0 : l0.length ≤ maxLen) (hw0 : ∀ x ∈ l0, x.length ≤ maxLen ∧ ∀ a ∈ x, (Lit.int .i64 a).wf = true)
    (hr1 : Kd.C (Kd.int .i64) w A1 l1.length l1) (hc1 : l1.length ≤ c1) (_hm1 : l1.length ≤ maxLen) (_hw1 : ∀ x ∈ l1, (Lit.int .i64 x).wf = true) :
    Calls Try.prog 5 #[.agg #[.slice A0 l0.length c0], .slice A1 l1.length c1] w fun e w' => e = .returned (.bool true) ∧ Below w.heap.size w w' := by
  obtain ⟨k, h⟩ := formAt_pure l0 l1 hm0 (fun x hx => (hw0 x hx).1)
  exact laws_FnExactFormAt.calls k A0 c0 l0 A1 c1 l1 true w hr0 hc0 hr1 hc1 h
end Go.Proofs.Ytojclcknndpdgaa.G

/- The law FnExactFourStart, pure: both programs find the first two numbers, and there are such for each prime number up to 2000. -/
import Derived.Test.YtkchoccicpbbfaaPx8
import Derived.Test.YtkchoccicpbbfaaQFourComp
import Derived.Test.YtkchoccicpbbfaaQStart
import Derived.Test.YtkchoccicpbbfaaQLaws
namespace Go.Proofs.Ytkchoccicpbbfaa.Pure
open Go.RowKit Go.Proofs.Ytkchoccicpbbfaa.P Go.Proofs.YtkchoccicpbbfaaW.PrintWords Go.Proofs.YtkchoccicpbbfaaW.PrintLast Go.Proofs.Ytkchoccicpbbfaa.Q

theorem FnExactFourStart : laws_FnExactFourStart.Pure := by
  intro a _
  refine Ev_out (g := fun k => laws_FnExactFourStart.f k a) ?_
  unfold laws_FnExactFourStart.f
  obtain ⟨⟨r, q⟩, hr, hs, hi⟩ := start_ev a
  have hr : r.length ≤ 4 := hr
  have er := eqIntS_same (l := r) (by omega)
  refine Ev.bind hs (Ev.bind hi (Ev.bind er (Ev_true rfl ?_)))
  simp only [bne_self_eq_false]
  refine Ev_succ ?_
  simp only [laws_FnExactFourStart.j0]
  refine Ev_false (by simp) ?_
  refine Ev.bind (markIntS_ev (by omega) (by omega) (by omega)) (Ev.bind (heldIntS_ev (by omega) (by omega) (by omega)) (Ev_false (by omega) (Ev_true rfl ?_)))
  refine Ev.bind hi (Ev.bind er (Ev_true rfl ?_))
  simp only [bne_self_eq_false]
  refine Ev_succ ?_
  simp only [laws_FnExactFourStart.j1]
  refine Ev_false (by simp) ?_
  exact Ev.bind (heldIntS_ev (by omega) (by omega) (by omega)) (Ev_false (by omega) (Ev_true rfl Ev_some))
end Go.Proofs.Ytkchoccicpbbfaa.Pure

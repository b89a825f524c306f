/- The law FnExactMultiplyTwo, pure: both programs come to the same product, and what they hand back is their own. -/
import Derived.Test.YtkchoccicpbbfaaPx7
import Derived.Test.YtkchoccicpbbfaaQMulTwo
namespace Go.Proofs.Ytkchoccicpbbfaa.Pure
open Go.RowKit Go.Proofs.Ytkchoccicpbbfaa.P Go.Proofs.YtkchoccicpbbfaaW.PrintWords Go.Proofs.YtkchoccicpbbfaaW.PrintLast Go.Proofs.Ytkchoccicpbbfaa.Q

theorem FnExactMultiplyTwo : laws_FnExactMultiplyTwo.Pure := by
  intro a b _ _ _ _ _ _
  refine Ev_out (g := fun k => laws_FnExactMultiplyTwo.f k a b) ?_
  unfold laws_FnExactMultiplyTwo.f
  by_cases h1 : (a.length : Int) > 1048576
  · exact Ev_true h1 Ev_some
  by_cases h2 : (b.length : Int) > 1048576
  · exact Ev_false h1 (Ev_true h2 Ev_some)
  have ta := toIntS_ev (x := a) (by omega)
  have tb := toIntS_ev (x := b) (by omega)
  obtain ⟨⟨r, q⟩, hr, hs, hi⟩ := mulTwo_ev (l := a) (m := b) (by omega) (by omega)
  have hr : r.length ≤ 4 := hr
  have er := eqIntS_same (l := r) (by omega)
  refine Ev_false h1 (Ev_false h2 ?_)
  refine Ev.bind ta (Ev.bind tb (Ev.bind hs (Ev.bind ta (Ev.bind tb (Ev.bind (Ev_const hi) (Ev.bind er (Ev_true rfl ?_)))))))
  simp only [bne_self_eq_false]
  refine Ev_succ ?_
  simp only [laws_FnExactMultiplyTwo.j0]
  refine Ev_false (by simp) ?_
  refine Ev.bind ta (Ev.bind (eqIntS_same (by omega)) (Ev_true rfl (Ev.bind tb (Ev.bind (eqIntS_same (by omega)) (Ev_true rfl ?_)))))
  refine Ev.bind (markIntS_ev (by omega) (by omega) (by omega)) (Ev.bind (markIntS_ev (by omega) (by dsimp only; omega) (by dsimp only; omega)) (Ev_false (by dsimp only; omega) ?_))
  refine Ev.bind er (Ev_true rfl ?_)
  simp only [bne_self_eq_false]
  refine Ev_succ ?_
  simp only [laws_FnExactMultiplyTwo.j1]
  refine Ev_false (by simp) ?_
  refine Ev.bind (markIntS_ev (by omega) (by omega) (by omega)) (Ev.bind (heldIntS_ev (by omega) (by omega) (by omega)) (Ev_false (by omega) (Ev_true rfl ?_)))
  refine Ev.bind ta (Ev.bind tb (Ev.bind (Ev_const hi) (Ev.bind er (Ev_true rfl ?_))))
  simp only [bne_self_eq_false]
  refine Ev_succ ?_
  simp only [laws_FnExactMultiplyTwo.j2]
  refine Ev_false (by simp) ?_
  exact Ev.bind (heldIntS_ev (by omega) (by omega) (by omega)) (Ev_false (by omega) (Ev_true rfl Ev_some))
end Go.Proofs.Ytkchoccicpbbfaa.Pure

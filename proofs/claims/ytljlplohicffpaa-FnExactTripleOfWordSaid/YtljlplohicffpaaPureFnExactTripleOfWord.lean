/- The law FnExactTripleOfWord, pure. -/
import Derived.Test.YtljlplohicffpaaTx14
import Derived.Test.YtljlplohicffpaaQTrip
import Derived.Test.YtljlplohicffpaaQLaws
namespace Go.Proofs.Ytljlplohicffpaa.Pure
open Go.RowKit Go.Proofs.Ytljlplohicffpaa.P Go.Proofs.YtljlplohicffpaaW.PrintWords Go.Proofs.YtljlplohicffpaaW.PrintLast Go.Proofs.Ytljlplohicffpaa.Q Go.Proofs.Ytljlplohicffpaa.G
theorem FnExactTripleOfWord : laws_FnExactTripleOfWord.Pure := by
  intro a0 _
  refine Ev_out (g := fun k => laws_FnExactTripleOfWord.f k a0) ?_
  unfold laws_FnExactTripleOfWord.f
  by_cases h : (a0.size : Int) > 1048576
  · exact Ev_true h Ev_some
  · have hs := foTriple_ev a0
    have hi := triple_ev a0
    have hn := tripleR_len a0
    have er := eqIntS_same (l := (tripleR a0).1) (by omega)
    refine Ev_false h (Ev.bind hs (Ev.bind hi (Ev.bind er (Ev_true rfl ?_))))
    simp only [bne_self_eq_false]
    refine Ev_succ ?_
    simp only [laws_FnExactTripleOfWord.j0]
    refine Ev_false (by simp) (Ev.bind (markIntS_ev (by omega) (by omega) (by omega)) (Ev.bind (heldIntS_ev (by omega) (by omega) (by omega)) (Ev_false (by omega) (Ev_true rfl ?_))))
    refine Ev.bind hi (Ev.bind er (Ev_true rfl ?_))
    simp only [bne_self_eq_false]
    refine Ev_succ ?_
    simp only [laws_FnExactTripleOfWord.j1]
    exact Ev_false (by simp) (Ev.bind (heldIntS_ev (by omega) (by omega) (by omega)) (Ev_false (by omega) (Ev_true rfl Ev_some)))
end Go.Proofs.Ytljlplohicffpaa.Pure

/- The law FnExactFourSquares, pure: both programs find the same first list, and what they hand back is their own. -/
import Derived.Test.YtokachiofpfagaaPx2
import Derived.Test.YtokachiofpfagaaQCount
import Derived.Test.YtokachiofpfagaaQNum
import Derived.Test.YtokachiofpfagaaQLaws
namespace Go.Proofs.Ytokachiofpfagaa.Pure
open Go.RowKit Go.Proofs.Ytokachiofpfagaa.P Go.Proofs.YtokachiofpfagaaW.PrintWords Go.Proofs.YtokachiofpfagaaW.PrintLast Go.Proofs.Ytokachiofpfagaa.Q

theorem FourSquares_ev (a : Int) : ∃ r : List Int × Bool, r.1.length ≤ 4 ∧ Ev (fun k => spec_FourSquares.f k a) r ∧ Ev (fun k => impl_FourSquares.f k a) r := by
  unfold spec_FourSquares.f impl_FourSquares.f
  rw [l1In_eq, isFour_eq]
  simp only [Option.bind_some]
  by_cases h : 0 ≤ a ∧ a ≤ 2000
  · obtain ⟨n, rfl⟩ := Int.eq_ofNat_of_zero_le h.1
    refine ⟨firstOf (allL 4 n n), ?_, Ev_true (by simpa using h) ?_, Ev_true (by simpa using h) ?_⟩
    · have := firstOf_len (p := 4) (most := n) (n := n)
      omega
    · exact Ev.bind (f := fun _ t => some (t.1, t.2)) (sqFirst_ev (p := 4) (n := n) (by omega) (by omega)) Ev_some
    · exact Ev.bind (f := fun _ t => some (t.1, t.2)) (firstSq_ev (p := 4) (n := n) (by omega) (by omega)) Ev_some
  · exact ⟨([], false), by simp, Ev_false (by simpa using h) Ev_some, Ev_false (by simpa using h) Ev_some⟩

theorem FnExactFourSquares : laws_FnExactFourSquares.Pure := by
  intro a _
  refine Ev_out (g := fun k => laws_FnExactFourSquares.f k a) ?_
  unfold laws_FnExactFourSquares.f
  obtain ⟨⟨r, q⟩, hr, hs, hi⟩ := FourSquares_ev a
  have hr : r.length ≤ 4 := hr
  have er := eqIntS_same (l := r) (by omega)
  refine Ev.bind hs (Ev.bind hi (Ev.bind er (Ev_true rfl ?_)))
  simp only [bne_self_eq_false]
  refine Ev_succ ?_
  simp only [laws_FnExactFourSquares.j0]
  refine Ev_false (by simp) ?_
  refine Ev.bind (markIntS_ev (by omega) (by omega) (by omega)) (Ev.bind (heldIntS_ev (by omega) (by omega) (by omega)) (Ev_false (by omega) (Ev_true rfl ?_)))
  refine Ev.bind hi (Ev.bind er (Ev_true rfl ?_))
  simp only [bne_self_eq_false]
  refine Ev_succ ?_
  simp only [laws_FnExactFourSquares.j1]
  refine Ev_false (by simp) ?_
  exact Ev.bind (heldIntS_ev (by omega) (by omega) (by omega)) (Ev_false (by omega) (Ev_true rfl Ev_some))
end Go.Proofs.Ytokachiofpfagaa.Pure

/- The law FnExactThreeSquares, pure: both programs find the same first list, and what they hand back is their own. -/
import Derived.Test.YtokachiofpfagaaPx3
import Derived.Test.YtokachiofpfagaaQCount
import Derived.Test.YtokachiofpfagaaQNum
import Derived.Test.YtokachiofpfagaaQLaws
namespace Go.Proofs.Ytokachiofpfagaa.Pure
open Go.RowKit Go.Proofs.Ytokachiofpfagaa.P Go.Proofs.YtokachiofpfagaaW.PrintWords Go.Proofs.YtokachiofpfagaaW.PrintLast Go.Proofs.Ytokachiofpfagaa.Q

theorem ThreeSquares_ev (a : Int) : ∃ r : List Int × Bool, r.1.length ≤ 4 ∧ Ev (fun k => spec_ThreeSquares.f k a) r ∧ Ev (fun k => impl_ThreeSquares.f k a) r := by
  unfold spec_ThreeSquares.f impl_ThreeSquares.f
  rw [sqNumber_eq, isTwo_eq]
  simp only [Option.bind_some]
  by_cases h : 0 ≤ a ∧ a ≤ 1000000
  · obtain ⟨n, rfl⟩ := Int.eq_ofNat_of_zero_le h.1
    refine ⟨firstOf (allL 3 n n), ?_, Ev_true (by simpa using h) ?_, Ev_true (by simpa using h) ?_⟩
    · have := firstOf_len (p := 3) (most := n) (n := n)
      omega
    · exact Ev.bind (f := fun _ t => some (t.1, t.2)) (sqFirst_ev (p := 3) (n := n) (by omega) (by omega)) Ev_some
    · exact Ev.bind (f := fun _ t => some (t.1, t.2)) (firstSq_ev (p := 3) (n := n) (by omega) (by omega)) Ev_some
  · exact ⟨([], false), by simp, Ev_false (by simpa using h) Ev_some, Ev_false (by simpa using h) Ev_some⟩

theorem FnExactThreeSquares : laws_FnExactThreeSquares.Pure := by
  intro a _
  refine Ev_out (g := fun k => laws_FnExactThreeSquares.f k a) ?_
  unfold laws_FnExactThreeSquares.f
  obtain ⟨⟨r, q⟩, hr, hs, hi⟩ := ThreeSquares_ev a
  have hr : r.length ≤ 4 := hr
  have er := eqIntS_same (l := r) (by omega)
  refine Ev.bind hs (Ev.bind hi (Ev.bind er (Ev_true rfl ?_)))
  simp only [bne_self_eq_false]
  refine Ev_succ ?_
  simp only [laws_FnExactThreeSquares.j0]
  refine Ev_false (by simp) ?_
  refine Ev.bind (markIntS_ev (by omega) (by omega) (by omega)) (Ev.bind (heldIntS_ev (by omega) (by omega) (by omega)) (Ev_false (by omega) (Ev_true rfl ?_)))
  refine Ev.bind hi (Ev.bind er (Ev_true rfl ?_))
  simp only [bne_self_eq_false]
  refine Ev_succ ?_
  simp only [laws_FnExactThreeSquares.j1]
  refine Ev_false (by simp) ?_
  exact Ev.bind (heldIntS_ev (by omega) (by omega) (by omega)) (Ev_false (by omega) (Ev_true rfl Ev_some))
end Go.Proofs.Ytokachiofpfagaa.Pure

/- The law FnExactAllFourSquares: both programs give the same rows. -/
import Derived.Test.YtokachiofpfagaaLAllFour
import Derived.Test.YtokachiofpfagaaQCount
import Derived.Test.YtokachiofpfagaaQNum
namespace Go.Proofs.Ytokachiofpfagaa.G
open Go.RowKit Go.Proofs.Ytokachiofpfagaa.P Go.Proofs.YtokachiofpfagaaW.PrintWords Go.Proofs.YtokachiofpfagaaW.PrintLast Go.Proofs.Ytokachiofpfagaa.Q
theorem allFour_ev (a : Int) : ∃ r, Ev (fun k => spec_AllFourSquares.f k a) r ∧ Ev (fun k => impl_AllFourSquares.f k a) r ∧ r.1.length ≤ 1000000000000 ∧ ∀ x ∈ r.1, x.length ≤ 1000 := by
  unfold spec_AllFourSquares.f impl_AllFourSquares.f
  rw [l1In_eq, isFour_eq]
  simp only [Option.bind_some]
  by_cases h : 0 ≤ a ∧ a ≤ 2000
  · obtain ⟨n, rfl⟩ := Int.eq_ofNat_of_zero_le h.1
    have hfew : (allL 4 n n).length ≤ 1000000 := by
      have := allL_four (n := n) (by omega) n
      omega
    refine ⟨(allL 4 n n, true), Ev_true (by simpa using h) ?_, Ev_true (by simpa using h) ?_, ?_, ?_⟩
    · exact Ev.bind (f := fun _ t => some (t, true)) (sqAllAll_ev (p := 4) (n := n) (by omega) (by omega) hfew) Ev_some
    · exact Ev.bind (f := fun _ t => some (t, true)) (allSq_ev (p := 4) (n := n) (by omega) (by omega) hfew) Ev_some
    · show (allL 4 n n).length ≤ _
      omega
    · intro x hx
      have := allL_len (show x ∈ allL 4 n n from hx)
      omega
  · exact ⟨([], false), Ev_false (by simpa using h) Ev_some, Ev_false (by simpa using h) Ev_some, by simp, by simp⟩
theorem FnExactAllFourSquares_walk (a0 : Int) (w : World) :
    Calls Try.prog 8 #[.int .i64 a0] w fun e w' => e = .returned (.bool true) ∧ Below w.heap.size w w' := by
  obtain ⟨⟨L, b⟩, ⟨k1, h1⟩, ⟨k2, h2⟩, h3, h4⟩ := allFour_ev a0
  exact FnExactAllFourSquares_calls (k1 + k2) a0 L b w (h1 _ (by omega)) (h2 _ (by omega)) h3 h4
end Go.Proofs.Ytokachiofpfagaa.G

/- The law FnExactTwoDescent: both programs give the same rows. -/
import Derived.Test.YtkchoccicpbbfaaLCFnExactTwoDescent
import Derived.Test.YtkchoccicpbbfaaQTwoDesc
namespace Go.Proofs.Ytkchoccicpbbfaa.G
open Go.RowKit Go.Proofs.Ytkchoccicpbbfaa.P Go.Proofs.YtkchoccicpbbfaaW.PrintWords Go.Proofs.YtkchoccicpbbfaaW.PrintLast Go.Proofs.Ytkchoccicpbbfaa.Q
theorem FnExactTwoDescent_walk (a0 : Int) (w : World) :
    Calls Try.prog 12 #[.int .i64 a0] w fun e w' => e = .returned (.bool true) ∧ Below w.heap.size w w' := by
  obtain ⟨⟨L, b⟩, ⟨k1, h1⟩, ⟨k2, h2⟩, h3, h4, h5⟩ := two_ev a0
  refine FnExactTwoDescent_calls (k1 + k2) a0 L b w (h1 _ (by omega)) (h2 _ (by omega)) ?_ ?_
  · cases b with
    | false => rw [show L = [] from h4 rfl]; simp
    | true =>
      obtain ⟨m, g1, g2, _, _, g3⟩ := h5 rfl
      rw [show L = _ from g3]
      have := (trun_len a0 a0.toNat (Pure.rootAns a0).1 1 m).1
      omega
  · cases b with
    | false => rw [show L = [] from h4 rfl]; simp
    | true =>
      obtain ⟨m, g1, g2, _, _, g3⟩ := h5 rfl
      rw [show L = _ from g3]
      intro x hx
      have := (trun_len a0 a0.toNat (Pure.rootAns a0).1 1 m).2 x hx
      omega
end Go.Proofs.Ytkchoccicpbbfaa.G

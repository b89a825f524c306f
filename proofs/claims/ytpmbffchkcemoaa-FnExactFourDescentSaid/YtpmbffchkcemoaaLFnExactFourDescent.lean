/- The law FnExactFourDescent: both programs give the same rows. -/
import Derived.Test.YtpmbffchkcemoaaLCFnExactFourDescent
import Derived.Test.YtpmbffchkcemoaaFQ1
namespace Go.Proofs.Ytpmbffchkcemoaa.G
open Go.RowKit Go.Proofs.Ytpmbffchkcemoaa.P Go.Proofs.YtpmbffchkcemoaaW.PrintWords Go.Proofs.YtpmbffchkcemoaaW.PrintLast Go.Proofs.Ytpmbffchkcemoaa.Q
theorem FnExactFourDescent_walk (a0 : Int) (w : World) :
    Calls Try.prog 3 #[.int .i64 a0] w fun e w' => e = .returned (.bool true) ∧ Below w.heap.size w w' := by
  obtain ⟨⟨L, b⟩, ⟨k1, h1⟩, ⟨k2, h2⟩, h4, h5⟩ := four_ev a0
  have hl : L.length ≤ 1000000000000 ∧ ∀ x ∈ L, x.length ≤ 1000 := by
    cases b with
    | false => rw [show L = [] from (h4 rfl).1]; simp
    | true =>
      obtain ⟨p, x, y, _, _, _, g5, _⟩ := h5 rfl
      rw [show L = _ from g5]
      have h6 := FourRun.frun_len p 60 x y 1 0 ((x * x + y * y + 1) / p)
      exact ⟨by have := h6.1; omega, fun z hz => by have := h6.2 z hz; omega⟩
  exact FnExactFourDescent_calls (k1 + k2) a0 L b w (h1 _ (by omega)) (h2 _ (by omega)) hl.1 hl.2
end Go.Proofs.Ytpmbffchkcemoaa.G

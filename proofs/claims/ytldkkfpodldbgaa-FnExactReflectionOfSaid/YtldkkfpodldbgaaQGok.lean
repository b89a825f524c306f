/- What the laws' walks ask of an answer's size. -/
import Derived.Test.YtldkkfpodldbgaaQM
import Derived.Test.YtldkkfpodldbgaaGLaw
namespace Go.Proofs.Ytldkkfpodldbgaa.G
open Go.RowKit Go.Proofs.Ytldkkfpodldbgaa.P Go.Proofs.YtldkkfpodldbgaaW.PrintWords Go.Proofs.YtldkkfpodldbgaaW.PrintLast Go.Proofs.Ytldkkfpodldbgaa.Q
theorem gOk {L : List (List Int)} (h : isSq L = true ∨ L = []) : L.length ≤ 4611686018427387904 ∧ (1 : Int) + tot L ≤ 4611686018427387904 ∧ Fits L := by
  rcases h with h | rfl
  · have h1 := isSq_le h
    have h2 : tot L ≤ L.length * 1000 := tot_bound L (fun x hx => by
      obtain ⟨i, hi, rfl⟩ := List.mem_iff_getElem.1 hx
      have := isSq_at h hi
      omega)
    exact ⟨by omega, by omega, fits_sq h⟩
  · exact ⟨by simp, by simp [tot], by simp, by simp⟩
end Go.Proofs.Ytldkkfpodldbgaa.G

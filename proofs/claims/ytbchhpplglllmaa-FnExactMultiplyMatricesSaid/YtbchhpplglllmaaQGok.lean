/- What the laws' walks ask of an answer's size. -/
import Derived.Test.YtbchhpplglllmaaQRows
import Derived.Test.YtbchhpplglllmaaGLaw
namespace Go.Proofs.Ytbchhpplglllmaa.G
open Go.RowKit Go.Proofs.Ytbchhpplglllmaa.P Go.Proofs.YtbchhpplglllmaaW.PrintWords Go.Proofs.YtbchhpplglllmaaW.PrintLast Go.Proofs.Ytbchhpplglllmaa.Q
theorem gOk {L : List (List Int)} (h : isSq L = true ∨ L = []) : L.length ≤ 4611686018427387904 ∧ (1 : Int) + tot L ≤ 4611686018427387904 ∧ Fits L := by
  rcases h with h | rfl
  · have h1 := isSq_le h
    have h2 : tot L ≤ L.length * 1000 := tot_bound L (fun x hx => by
      obtain ⟨i, hi, rfl⟩ := List.mem_iff_getElem.1 hx
      have := isSq_at h hi
      omega)
    exact ⟨by omega, by omega, fits_sq h⟩
  · exact ⟨by simp, by simp [tot], by simp, by simp⟩
end Go.Proofs.Ytbchhpplglllmaa.G

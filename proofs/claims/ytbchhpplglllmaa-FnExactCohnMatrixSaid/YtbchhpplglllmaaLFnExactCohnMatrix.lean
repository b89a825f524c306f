/- The law FnExactCohnMatrix. -/
import Derived.Test.YtbchhpplglllmaaPx4
import Derived.Test.YtbchhpplglllmaaQRows
import Derived.Test.YtbchhpplglllmaaGCohn
import Derived.Test.YtbchhpplglllmaaWFnExactCohnMatrix
namespace Go.Proofs.Ytbchhpplglllmaa.G
open Go.RowKit Go.Proofs.Ytbchhpplglllmaa.P Go.Proofs.YtbchhpplglllmaaW.PrintWords Go.Proofs.YtbchhpplglllmaaW.PrintLast Go.Proofs.Ytbchhpplglllmaa.Q
theorem gOk {L : List (List Int)} (h : isSq L = true ∨ L = []) : L.length ≤ 4611686018427387904 ∧ (1 : Int) + tot L ≤ 4611686018427387904 ∧ Fits L := by
  rcases h with h | rfl
  · have h1 := isSq_le h
    have h2 : tot L ≤ L.length * 1000 := tot_bound L (fun x hx => by
      obtain ⟨i, hi, rfl⟩ := List.mem_iff_getElem.1 hx
      have := isSq_at h hi
      omega)
    exact ⟨by omega, by omega, fits_sq h⟩
  · exact ⟨by simp, by simp [tot], by simp, by simp⟩
theorem FnExactCohnMatrix_walk (a0 : ByteArray) (w : World) (_hw : a0.size ≤ 140737488351232) :
    Calls Try.prog 10 #[.string a0] w fun e w' => e = .returned (.bool true) ∧ Below w.heap.size w w' := by
  by_cases hz : 1048576 < a0.size
  · exact FnExactCohnMatrix_out0 a0 w hz
  · have hg : isSq (cohnR a0).1 = true ∨ (cohnR a0).1 = [] := by
      have h1 := cohnR_ok a0
      cases h : (cohnR a0).2 with
      | true => exact .inl (h1.1 h).1
      | false => exact .inr (h1.2 h)
    obtain ⟨ks, hs⟩ := Ev_out (foCohn_ev a0)
    have HI := fun W => cohnMatrix_any a0 W
    generalize cohnR a0 = R at hg hs HI
    obtain ⟨G, b⟩ := R
    refine FnExactCohnMatrix_calls a0 G b w (by omega) (fun W => (spec_CohnMatrix.calls ks a0 _ _ W hs).mono ?_) HI (gOk hg)
    rintro e w' ⟨v, rfl, hS, hb⟩
    obtain ⟨A, c, rfl, h1, h2⟩ := Kd.N_reads hS
    exact ⟨A, c, rfl, h1, h2, hb⟩
end Go.Proofs.Ytbchhpplglllmaa.G

/- Rows and matrices: reads, sizes, what a matrix is. -/
import Derived.Test.YtnaginnhccldhaaAx0
import Derived.Test.YtnaginnhccldhaaAQEv
import Derived.Test.YtnaginnhccldhaaGA
namespace Go.Proofs.Ytnaginnhccldhaa.Q
open Go.RowKit Go.Proofs.Ytnaginnhccldhaa.P Go.Proofs.YtnaginnhccldhaaW.PrintWords Go.Proofs.YtnaginnhccldhaaW.PrintLast Go.Proofs.Ytnaginnhccldhaa.G

theorem rd_at {l : List Int} {i : Nat} (h : i < l.length) : rd l (i : Int) = l[i] := by
  simp [rd, List.getD_eq_getElem?_getD, List.getElem?_eq_getElem h]
theorem rdRow {l : List (List Int)} {i : Nat} (h : i < l.length) : rd_L2 l (i : Int) = l[i] := by
  simp [rd_L2, List.getD_eq_getElem?_getD, List.getElem?_eq_getElem h]
/-- What a law's test of sizes leaves. -/
def Fits (L : List (List Int)) : Prop := L.length ≤ 1048576 ∧ ∀ x ∈ L, x.length ≤ 1048576
theorem isMat_len {L : List (List Int)} (h : isMat L = true) : 1 ≤ L.length ∧ L.length ≤ 4 := by
  unfold isMat at h
  rw [Bool.and_eq_true, Bool.and_eq_true, decide_eq_true_iff, decide_eq_true_iff] at h
  omega
theorem isMat_row {L : List (List Int)} (h : isMat L = true) {x : List Int} (hx : x ∈ L) : x.length = L.length ∧ ∀ a ∈ x, -1000000 ≤ a ∧ a ≤ 1000000 := by
  unfold isMat at h
  rw [Bool.and_eq_true] at h
  have h2 := List.all_eq_true.1 h.2 x hx
  unfold isVec at h2
  rw [Bool.and_eq_true, decide_eq_true_iff] at h2
  refine ⟨by omega, fun a ha => ?_⟩
  have h3 := List.all_eq_true.1 h2.2 a ha
  unfold inB at h3
  rw [Bool.and_eq_true, decide_eq_true_iff, decide_eq_true_iff] at h3
  exact h3
end Go.Proofs.Ytnaginnhccldhaa.Q

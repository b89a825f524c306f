/- The law FnExactMultiplyMatrices. -/
import Derived.Test.YtbchhpplglllmaaPx4
import Derived.Test.YtbchhpplglllmaaGMult
import Derived.Test.YtbchhpplglllmaaQGok
import Derived.Test.YtbchhpplglllmaaWFnExactMultiplyMatrices
namespace Go.Proofs.Ytbchhpplglllmaa.G
open Go.RowKit Go.Proofs.Ytbchhpplglllmaa.P Go.Proofs.YtbchhpplglllmaaW.PrintWords Go.Proofs.YtbchhpplglllmaaW.PrintLast Go.Proofs.Ytbchhpplglllmaa.Q
theorem FnExactMultiplyMatrices_walk (A0 : Option Addr) (c0 : Nat) (l0 : List (List Int)) (A1 : Option Addr) (c1 : Nat) (l1 : List (List Int)) (w : World) (hr0 : Kd.C (Kd.slice 3 (Kd.int .i64)) w A0 l0.length l0) (hc0 : l0.length ≤ c0) (hm0 : l0.length ≤ maxLen) (hw0 : ∀ x ∈ l0, x.length ≤ maxLen ∧ ∀ a ∈ x, (Lit.int .i64 a).wf = true)
    (hr1 : Kd.C (Kd.slice 3 (Kd.int .i64)) w A1 l1.length l1) (hc1 : l1.length ≤ c1) (hm1 : l1.length ≤ maxLen) (hw1 : ∀ x ∈ l1, x.length ≤ maxLen ∧ ∀ a ∈ x, (Lit.int .i64 a).wf = true) :
    Calls Try.prog 11 #[.agg #[.slice A0 l0.length c0], .agg #[.slice A1 l1.length c1]] w fun e w' => e = .returned (.bool true) ∧ Below w.heap.size w w' := by
  obtain ⟨r, h1, h2⟩ := szMat_ev (L := l0) (a := 1048576) (by omega) (by omega) hm0 (fun x hx => (hw0 x hx).1)
  obtain ⟨kz, hz⟩ := Ev_out h1
  rcases h2 with h2 | ⟨hL, h0, hle⟩
  · exact FnExactMultiplyMatrices_less0 A0 c0 l0 A1 c1 l1 w hr0 hc0 hr1 hc1 kz r hz h2
  · obtain ⟨r', g1, g2⟩ := szMat_ev (L := l1) (a := r) h0 hle hm1 (fun x hx => (hw1 x hx).1)
    obtain ⟨kz', hz'⟩ := Ev_out g1
    rcases g2 with g2 | ⟨hM, h0', _⟩
    · exact FnExactMultiplyMatrices_less1 A0 c0 l0 A1 c1 l1 w hr0 hc0 hr1 hc1 kz r hz h0 kz' r' hz' g2
    · obtain ⟨ks, hs⟩ := Ev_out (foMult_ev hL hM)
      have hg := multR_sq l0 l1
      have HI := fun (W : World) (B0 : Option Addr) (d0 : Nat) (B1 : Option Addr) (d1 : Nat) hC hl hC1 hl1 => multiply_any B0 d0 l0 B1 d1 l1 W hC hl hC1 hl1
      generalize multR l0 l1 = R at hg hs HI
      obtain ⟨G, b⟩ := R
      refine FnExactMultiplyMatrices_calls A0 c0 l0 A1 c1 l1 G b w hr0 hc0 hr1 hc1 hL hM kz r hz kz' r' hz' h0 h0' (fun W B0 d0 B1 d1 hC hl hC1 hl1 => (spec_MultiplyMatrices.calls ks B0 d0 l0 B1 d1 l1 _ _ W hC hl hC1 hl1 hs).mono ?_) HI (gOk hg)
      rintro e w' ⟨v, rfl, ⟨A, c, rfl, h1, h2⟩, hb⟩
      exact ⟨A, c, rfl, h1, h2, hb⟩
end Go.Proofs.Ytbchhpplglllmaa.G

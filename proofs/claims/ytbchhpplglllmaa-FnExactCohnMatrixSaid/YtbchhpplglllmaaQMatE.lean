/- Equal matrices are told equal. -/
import Derived.Test.YtbchhpplglllmaaPx1
import Derived.Test.YtbchhpplglllmaaQLaws
import Derived.Test.YtbchhpplglllmaaQGood
namespace Go.Proofs.Ytbchhpplglllmaa.Q
open Go.RowKit Go.Proofs.Ytbchhpplglllmaa.P Go.Proofs.YtbchhpplglllmaaW.PrintWords Go.Proofs.YtbchhpplglllmaaW.PrintLast Go.Proofs.Ytbchhpplglllmaa.G

theorem eqRows_l0 {L : List (List Int)} (hL : Fits L) (d : Nat) : ∀ i : Nat, i + d = L.length → Ev (fun k => laws_eqIntSS.l0 k L L (i : Int)) true := by
  have hl := hL.1
  induction d with
  | zero =>
    intro i hi
    refine Ev_succ ?_
    simp only [laws_eqIntSS.l0]
    exact Ev_false (by omega) Ev_some
  | succ d ih =>
    intro i hi
    have h1 : i < L.length := by omega
    have hxi := hL.2 _ (List.getElem_mem h1)
    refine Ev_succ ?_
    simp only [laws_eqIntSS.l0]
    rw [rdRow h1, w64 (x := (i : Int) + 1) (by omega) (by omega)]
    exact Ev_true (by omega) (Ev_true (by omega) (Ev_true (by omega) (Ev.bind (eqIntS_same (l := L[i]) (by omega)) (Ev_true rfl (ih (i + 1) (by omega))))))
theorem eqRows_same {L : List (List Int)} (hL : Fits L) : Ev (fun k => laws_eqIntSS.f k L L) true := by
  unfold laws_eqIntSS.f
  exact Ev_true rfl (eqRows_l0 hL L.length 0 (by omega))
theorem eqMat_same {L : List (List Int)} (hL : Fits L) : Ev (fun k => laws_eqMatrix.f k L L) true := by
  unfold laws_eqMatrix.f
  exact Ev.bind (eqRows_same hL) (Ev_true rfl Ev_some)

end Go.Proofs.Ytbchhpplglllmaa.Q

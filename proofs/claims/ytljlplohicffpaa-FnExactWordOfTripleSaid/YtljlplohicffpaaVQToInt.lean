/- A law's copy of a list. -/
import Derived.Test.YtljlplohicffpaaVx8
import Derived.Test.YtljlplohicffpaaVQEq
namespace Go.Proofs.Ytljlplohicffpaa.Q
open Go.RowKit Go.Proofs.Ytljlplohicffpaa.P Go.Proofs.YtljlplohicffpaaW.PrintWords Go.Proofs.YtljlplohicffpaaW.PrintLast

theorem toIntS_l0 {x : List Int} (hn : x.length ≤ 4611686018427387904) (d : Nat) : ∀ (y : List Int) (i : Nat), y.length = x.length → i + d = x.length → y.take i = x.take i → Ev (fun k => laws_toIntS.l0 k x y (i : Int)) x := by
  induction d with
  | zero =>
    intro y i h1 h2 h3
    refine Ev_succ ?_
    simp only [laws_toIntS.l0]
    rw [List.take_of_length_le (by omega), List.take_of_length_le (by omega)] at h3
    subst h3
    exact Ev_false (by omega) Ev_some
  | succ d ih =>
    intro y i h1 h2 h3
    have hi : i < x.length := by omega
    refine Ev_succ ?_
    simp only [laws_toIntS.l0]
    rw [rd_get hi, w64 (x := (i : Int) + 1) (by omega) (by omega)]
    refine Ev_true (by omega) (Ev_true (by omega) (Ev_true (by omega) ?_))
    refine ih (y.set i x[i]) (i + 1) (by simp [h1]) (by omega) ?_
    rw [List.take_succ_eq_append_getElem (by simp; omega), List.getElem_set_self, List.take_set_of_le (Nat.le_refl _), h3, ← List.take_succ_eq_append_getElem hi]
theorem toIntS_ev {x : List Int} (hn : x.length ≤ 35184372088832) : Ev (fun k => laws_toIntS.f k x) x := by
  unfold laws_toIntS.f
  refine Ev_true (by omega) (Ev_true (by omega) ?_)
  exact toIntS_l0 (by omega) x.length (List.replicate ((x.length : Int)).toNat 0) 0 (by simp) (by omega) (by simp)
end Go.Proofs.Ytljlplohicffpaa.Q

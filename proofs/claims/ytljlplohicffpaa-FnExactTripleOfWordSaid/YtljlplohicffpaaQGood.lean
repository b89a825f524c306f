/- Matrices: the reference's test of a matrix. -/
import Derived.Test.YtljlplohicffpaaTx4
import Derived.Test.YtljlplohicffpaaTx5
import Derived.Test.YtljlplohicffpaaQAll
import Derived.Test.YtljlplohicffpaaGA
namespace Go.Proofs.Ytljlplohicffpaa.Q
open Go.RowKit Go.Proofs.Ytljlplohicffpaa.P Go.Proofs.YtljlplohicffpaaW.PrintWords Go.Proofs.YtljlplohicffpaaW.PrintLast Go.Proofs.Ytljlplohicffpaa.G

theorem foGood_l0 {L : List (List Int)} (hL : Fits L) (d : Nat) : ∀ i : Nat, i + d = L.length → Ev (fun k => spec_foGood.l0 k L (L.length : Int) (i : Int) L) ((L.drop i).all (isVec L.length)) := by
  have hl := hL.1
  induction d with
  | zero =>
    intro i hi
    refine Ev_succ ?_
    simp only [spec_foGood.l0]
    rw [List.drop_of_length_le (by omega)]
    exact Ev_false (by omega) Ev_some
  | succ d ih =>
    intro i hi
    have h1 : i < L.length := by omega
    have hxi := hL.2 _ (List.getElem_mem h1)
    refine Ev_succ ?_
    simp only [spec_foGood.l0]
    rw [rdRow h1, w64 (x := (i : Int) + 1) (by omega) (by omega), List.drop_eq_getElem_cons h1, List.all_cons]
    refine Ev_true (by omega) (Ev_true (by omega) (Ev_true (by omega) ?_))
    unfold isVec
    by_cases hn : (L[i].length : Int) = L.length
    · refine Ev_true hn (Ev.bind (l1All_ev (l := L[i]) (by omega) (-1000000) 1000000) ?_)
      rw [decide_eq_true hn, Bool.true_and]
      cases hb : L[i].all (inB (-1000000) 1000000) with
      | true => exact Ev_true rfl (ih (i + 1) (by omega))
      | false => exact Ev_false (by simp) Ev_some
    · rw [decide_eq_false hn, Bool.false_and, Bool.false_and]
      exact Ev_false hn Ev_some
theorem foGood_ev {L : List (List Int)} (hL : Fits L) : Ev (fun k => spec_foGood.f k L) (isMat L) := by
  unfold spec_foGood.f isMat
  rw [allIn_eq]
  simp only [Option.bind_some]
  by_cases h : (1 : Int) ≤ L.length ∧ (L.length : Int) ≤ 4
  · rw [decide_eq_true h.1, decide_eq_true h.2]
    exact Ev_true (by simpa using h) (foGood_l0 hL L.length 0 (by omega))
  · have e : (decide ((1 : Int) ≤ L.length) && decide ((L.length : Int) ≤ 4)) = false := by
      rw [← Bool.not_eq_true, Bool.and_eq_true, decide_eq_true_iff, decide_eq_true_iff]
      exact h
    rw [e, Bool.false_and]
    exact Ev_false (by simpa using h) Ev_some
end Go.Proofs.Ytljlplohicffpaa.Q

/- All of a list lie between two numbers. -/
import Derived.Test.YtljlplohicffpaaVx1
import Derived.Test.YtljlplohicffpaaVx3
import Derived.Test.YtljlplohicffpaaVQBase
namespace Go.Proofs.Ytljlplohicffpaa.Q
open Go.RowKit Go.Proofs.Ytljlplohicffpaa.P Go.Proofs.YtljlplohicffpaaW.PrintWords Go.Proofs.YtljlplohicffpaaW.PrintLast Go.Proofs.Ytljlplohicffpaa.G

theorem allIn_eq (a lo hi : Int) : spec_l1In.f a lo hi = some (decide (lo ≤ a ∧ a ≤ hi)) := by
  unfold spec_l1In.f
  by_cases h : lo ≤ a
  · rw [if_pos h]
    simp [h]
  · rw [if_neg h]
    simp [h]
theorem l1All_l0 {l : List Int} (hn : l.length ≤ 4611686018427387904) (lo up : Int) (d : Nat) : ∀ i : Nat, i + d = l.length → Ev (fun k => spec_l1All.l0 k lo up l (l.length : Int) (i : Int)) ((l.drop i).all (inB lo up)) := by
  induction d with
  | zero =>
    intro i hi
    refine Ev_succ ?_
    simp only [spec_l1All.l0]
    rw [List.drop_of_length_le (by omega)]
    exact Ev_false (by omega) Ev_some
  | succ d ih =>
    intro i h1
    have hi : i < l.length := by omega
    refine Ev_succ ?_
    simp only [spec_l1All.l0]
    rw [rd_at hi, List.drop_eq_getElem_cons hi, w64 (x := (i : Int) + 1) (by omega) (by omega), allIn_eq]
    refine Ev_true (by omega) (Ev_true (by omega) (Ev_true (by omega) ?_))
    simp only [Option.bind_some, List.all_cons]
    by_cases hb : lo ≤ l[i] ∧ l[i] ≤ up
    · have hin : inB lo up l[i] = true := by unfold inB; simp [hb]
      rw [hin, Bool.true_and]
      exact Ev_true (by simpa using hb) (ih (i + 1) (by omega))
    · have hin : inB lo up l[i] = false := by
        unfold inB
        rw [← Bool.not_eq_true]
        intro h
        exact hb (by simpa using h)
      rw [hin, Bool.false_and]
      exact Ev_false (by simpa using hb) Ev_some
theorem l1All_ev {l : List Int} (hn : l.length ≤ 4611686018427387904) (lo up : Int) : Ev (fun k => spec_l1All.f k l lo up) (l.all (inB lo up)) :=
  l1All_l0 hn lo up l.length 0 (by omega)
end Go.Proofs.Ytljlplohicffpaa.Q

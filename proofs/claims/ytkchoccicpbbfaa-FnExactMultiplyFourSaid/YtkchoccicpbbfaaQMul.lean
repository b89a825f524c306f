/- Products of two lists: both programs test and multiply alike. -/
import Derived.Test.YtkchoccicpbbfaaPx1
import Derived.Test.YtkchoccicpbbfaaPx4
import Derived.Test.YtkchoccicpbbfaaPx5
import Derived.Test.YtkchoccicpbbfaaQLaws
namespace Go.Proofs.Ytkchoccicpbbfaa.Q
open Go.RowKit Go.Proofs.Ytkchoccicpbbfaa.P Go.Proofs.YtkchoccicpbbfaaW.PrintWords Go.Proofs.YtkchoccicpbbfaaW.PrintLast Go.Proofs.Ytkchoccicpbbfaa.G

theorem mulIn_eq (a lo hi : Int) : spec_l1In.f a lo hi = some (decide (lo ≤ a ∧ a ≤ hi)) := by
  unfold spec_l1In.f
  by_cases h : lo ≤ a
  · rw [if_pos h]
    simp [h]
  · rw [if_neg h]
    simp [h]
theorem l1All_l0 {l : List Int} (hn : l.length ≤ 4611686018427387904) (lo up : Int) (d : Nat) : ∀ i : Nat, i + d = l.length → Ev (fun k => spec_l1All.l0 k lo up l (l.length : Int) (i : Int)) ((l.drop i).all (inB lo up)) := by
  induction d with
  | zero =>
    intro i hi
    refine Ev_succ ?_
    simp only [spec_l1All.l0]
    rw [List.drop_of_length_le (by omega)]
    exact Ev_false (by omega) Ev_some
  | succ d ih =>
    intro i h1
    have hi : i < l.length := by omega
    refine Ev_succ ?_
    simp only [spec_l1All.l0]
    rw [rd_get hi, List.drop_eq_getElem_cons hi, w64 (x := (i : Int) + 1) (by omega) (by omega), mulIn_eq]
    refine Ev_true (by omega) (Ev_true (by omega) (Ev_true (by omega) ?_))
    simp only [Option.bind_some, List.all_cons]
    by_cases hb : lo ≤ l[i] ∧ l[i] ≤ up
    · have hin : inB lo up l[i] = true := by unfold inB; simp [hb]
      rw [hin, Bool.true_and]
      exact Ev_true (by simpa using hb) (ih (i + 1) (by omega))
    · have hin : inB lo up l[i] = false := by
        unfold inB
        rw [← Bool.not_eq_true]
        intro h
        exact hb (by simpa using h)
      rw [hin, Bool.false_and]
      exact Ev_false (by simpa using hb) Ev_some
theorem l1All_ev {l : List Int} (hn : l.length ≤ 4611686018427387904) (lo up : Int) : Ev (fun k => spec_l1All.f k l lo up) (l.all (inB lo up)) :=
  l1All_l0 hn lo up l.length 0 (by omega)
theorem parts_ev {l : List Int} (hn : l.length ≤ 4611686018427387904) (m : Int) : Ev (fun k => spec_sqParts.f k l m) (decide ((l.length : Int) = m) && l.all (inB (-10000) 10000)) := by
  unfold spec_sqParts.f
  by_cases h : (l.length : Int) = m
  · rw [decide_eq_true h, Bool.true_and]
    exact Ev_true h (Ev.bind (f := fun _ t => some t) (l1All_ev hn _ _) Ev_some)
  · rw [decide_eq_false h, Bool.false_and]
    exact Ev_false h Ev_some
theorem areMul_eq (l m : List Int) (p : Int) : impl_areMultiplied.f l m p = some ((decide ((l.length : Int) = p) && l.all (inB (-10000) 10000)) && (decide ((m.length : Int) = p) && m.all (inB (-10000) 10000))) := by
  unfold impl_areMultiplied.f impl_allWithin.f
  by_cases h1 : (l.length : Int) = p
  · by_cases h2 : (m.length : Int) = p
    · rw [if_pos h1, if_pos h2]
      simp only [Option.bind_some, decide_eq_true h1, decide_eq_true h2, Bool.true_and]
      cases l.all (inB (-10000) 10000) <;> simp
    · rw [if_pos h1, if_neg h2]
      simp [h1, h2]
  · rw [if_neg h1]
    simp [h1]
end Go.Proofs.Ytkchoccicpbbfaa.Q

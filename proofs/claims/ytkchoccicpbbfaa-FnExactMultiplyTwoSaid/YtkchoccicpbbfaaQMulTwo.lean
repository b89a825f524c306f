/- Two lists of two. -/
import Derived.Test.YtkchoccicpbbfaaPx5
import Derived.Test.YtkchoccicpbbfaaPx6
import Derived.Test.YtkchoccicpbbfaaQMul
namespace Go.Proofs.Ytkchoccicpbbfaa.Q
open Go.RowKit Go.Proofs.Ytkchoccicpbbfaa.P Go.Proofs.YtkchoccicpbbfaaW.PrintWords Go.Proofs.YtkchoccicpbbfaaW.PrintLast Go.Proofs.Ytkchoccicpbbfaa.G

/-- Both come to the same product of two lists of two. -/
theorem mulTwo_ev {l m : List Int} (hl : l.length ≤ 4611686018427387904) (hm : m.length ≤ 4611686018427387904) : ∃ r : List Int × Bool, r.1.length ≤ 4 ∧ Ev (fun k => spec_MultiplyTwo.f k l m) r ∧ impl_MultiplyTwo.f l m = some r := by
  unfold spec_MultiplyTwo.f impl_MultiplyTwo.f
  rw [areMul_eq]
  have h1 := parts_ev hl 2
  have h2 := parts_ev hm 2
  cases c1 : (decide ((l.length : Int) = 2) && l.all (inB (-10000) 10000)) with
  | false =>
    rw [c1] at h1
    exact ⟨([], false), by simp, Ev.bind h1 (Ev_false (by simp) Ev_some), by simp⟩
  | true =>
    rw [c1] at h1
    cases c2 : (decide ((m.length : Int) = 2) && m.all (inB (-10000) 10000)) with
    | false =>
      rw [c2] at h2
      exact ⟨([], false), by simp, Ev.bind h1 (Ev_true rfl (Ev.bind h2 (Ev_false (by simp) Ev_some))), by simp⟩
    | true =>
      rw [c2] at h2
      have l1 : (l.length : Int) = 2 := by
        have := (Bool.and_eq_true_iff.mp c1).1
        exact of_decide_eq_true this
      have l2 : (m.length : Int) = 2 := by
        have := (Bool.and_eq_true_iff.mp c2).1
        exact of_decide_eq_true this
      refine ⟨_, ?_, Ev.bind h1 (Ev_true rfl (Ev.bind h2 (Ev_true rfl (Ev_true (by omega) (Ev_true (by omega) (Ev_true (by omega) (Ev_true (by omega) Ev_some))))))), ?_⟩
      · simp
      · simp only [Bool.and_self, Option.bind_some]
        rw [if_pos trivial, if_pos (by omega), if_pos (by omega), if_pos (by omega), if_pos (by omega)]
end Go.Proofs.Ytkchoccicpbbfaa.Q

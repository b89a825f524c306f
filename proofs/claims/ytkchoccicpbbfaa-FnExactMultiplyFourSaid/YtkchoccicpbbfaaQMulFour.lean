/- Two lists of four. -/
import Derived.Test.YtkchoccicpbbfaaPx10
import Derived.Test.YtkchoccicpbbfaaPx12
import Derived.Test.YtkchoccicpbbfaaQMul
namespace Go.Proofs.Ytkchoccicpbbfaa.Q
open Go.RowKit Go.Proofs.Ytkchoccicpbbfaa.P Go.Proofs.YtkchoccicpbbfaaW.PrintWords Go.Proofs.YtkchoccicpbbfaaW.PrintLast Go.Proofs.Ytkchoccicpbbfaa.G

theorem mulFour_ev {l m : List Int} (hl : l.length ≤ 4611686018427387904) (hm : m.length ≤ 4611686018427387904) : ∃ r : List Int × Bool, r.1.length ≤ 4 ∧ Ev (fun k => spec_MultiplyFour.f k l m) r ∧ impl_MultiplyFour.f l m = some r := by
  unfold spec_MultiplyFour.f impl_MultiplyFour.f
  rw [areMul_eq]
  have h1 := parts_ev hl 4
  have h2 := parts_ev hm 4
  cases c1 : (decide ((l.length : Int) = 4) && l.all (inB (-10000) 10000)) with
  | false =>
    rw [c1] at h1
    exact ⟨([], false), by simp, Ev.bind h1 (Ev_false (by simp) Ev_some), by simp⟩
  | true =>
    rw [c1] at h1
    cases c2 : (decide ((m.length : Int) = 4) && m.all (inB (-10000) 10000)) with
    | false =>
      rw [c2] at h2
      exact ⟨([], false), by simp, Ev.bind h1 (Ev_true rfl (Ev.bind h2 (Ev_false (by simp) Ev_some))), by simp⟩
    | true =>
      rw [c2] at h2
      have l1 : (l.length : Int) = 4 := by
        have := (Bool.and_eq_true_iff.mp c1).1
        exact of_decide_eq_true this
      have l2 : (m.length : Int) = 4 := by
        have := (Bool.and_eq_true_iff.mp c2).1
        exact of_decide_eq_true this
      have hf : spec_sqFour.f l m = impl_multiplyFour.f l m := rfl
      have hs : ∃ p : List Int, p.length = 4 ∧ impl_multiplyFour.f l m = some p := by
        unfold impl_multiplyFour.f
        rw [if_pos (by omega), if_pos (by omega), if_pos (by omega), if_pos (by omega), if_pos (by omega), if_pos (by omega), if_pos (by omega), if_pos (by omega)]
        exact ⟨_, rfl, rfl⟩
      obtain ⟨p, hp, he⟩ := hs
      rw [hf, he]
      refine ⟨(p, true), by show p.length ≤ 4; omega, Ev.bind h1 (Ev_true rfl (Ev.bind h2 (Ev_true rfl (Ev.bind (Ev_const rfl) Ev_some)))), ?_⟩
      simp
end Go.Proofs.Ytkchoccicpbbfaa.Q

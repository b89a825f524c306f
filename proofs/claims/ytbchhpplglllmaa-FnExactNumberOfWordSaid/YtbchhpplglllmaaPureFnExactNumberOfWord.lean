/- The program's NumberOfWord answers what the reference's does, for all letters. -/
import Derived.Test.YtbchhpplglllmaaPx3
import Derived.Test.YtbchhpplglllmaaPx4
import Derived.Test.YtbchhpplglllmaaQCohn
namespace Go.Proofs.Ytbchhpplglllmaa.Pure
open Go.RowKit Go.Proofs.Ytbchhpplglllmaa.P Go.Proofs.YtbchhpplglllmaaW.PrintWords Go.Proofs.YtbchhpplglllmaaW.PrintLast Go.Proofs.Ytbchhpplglllmaa.Q Go.Proofs.Ytbchhpplglllmaa.G
def numberR (s : ByteArray) : Int × Bool := if (cohnR s).2 = true then (at2 (cohnR s).1 0 1, true) else (0, false)
theorem foNumber_ev (s : ByteArray) : Ev (fun k => spec_NumberOfWord.f k s) (numberR s) := by
  unfold spec_NumberOfWord.f
  refine Ev.bind (foCohn_ev s) ?_
  by_cases h : (cohnR s).2 = true
  · have h1 := (cohnR_ok s).1 h
    rw [show numberR s = (at2 (cohnR s).1 0 1, true) from if_pos h]
    have e : (rd_L1 (cohnR s).1 0).length = 2 := row_len (i := 0) h1.1 h1.2 (by omega)
    refine Ev_true h (Ev_true (by omega) (Ev_true (by omega) ?_))
    rw [show rd (rd_L1 (cohnR s).1 0) 1 = at2 (cohnR s).1 0 1 from rd2 _ 0 1]
    exact Ev_some
  · rw [show numberR s = (0, false) from if_neg h]
    exact Ev_false h Ev_some
theorem number_ev (s : ByteArray) : Ev (fun k => impl_NumberOfWord.f k s) (numberR s) := by
  unfold impl_NumberOfWord.f
  refine Ev.bind (cohn_ev s) ?_
  by_cases h : (cohnR s).2 = true
  · have h1 := (cohnR_ok s).1 h
    rw [show numberR s = (at2 (cohnR s).1 0 1, true) from if_pos h]
    have e : (rd_L1 (cohnR s).1 0).length = 2 := row_len (i := 0) h1.1 h1.2 (by omega)
    refine Ev_true h (Ev_true (by omega) (Ev_true (by omega) ?_))
    rw [show rd (rd_L1 (cohnR s).1 0) 1 = at2 (cohnR s).1 0 1 from rd2 _ 0 1]
    exact Ev_some
  · rw [show numberR s = (0, false) from if_neg h]
    exact Ev_false h Ev_some
theorem FnExactNumberOfWord : laws_FnExactNumberOfWord.Pure := by
  intro a0 _
  refine Ev_out (g := fun k => laws_FnExactNumberOfWord.f k a0) ?_
  unfold laws_FnExactNumberOfWord.f
  by_cases h : (a0.size : Int) > 1048576
  · exact Ev_true h Ev_some
  · refine Ev_false h (Ev.bind (foNumber_ev a0) (Ev.bind (number_ev a0) (Ev_true rfl (Ev_false (by simp) Ev_some))))
end Go.Proofs.Ytbchhpplglllmaa.Pure

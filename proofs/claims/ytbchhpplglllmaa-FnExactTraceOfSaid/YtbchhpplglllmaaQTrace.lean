/- Traces, of both programs. -/
import Derived.Test.YtbchhpplglllmaaPx3
import Derived.Test.YtbchhpplglllmaaQRows
namespace Go.Proofs.Ytbchhpplglllmaa.Q
open Go.RowKit Go.Proofs.Ytbchhpplglllmaa.P Go.Proofs.YtbchhpplglllmaaW.PrintWords Go.Proofs.YtbchhpplglllmaaW.PrintLast Go.Proofs.Ytbchhpplglllmaa.G

def trK (L : List (List Int)) : Nat → Int
  | 0 => 0
  | k + 1 => wrap64 (trK L k + at2 L k k)

theorem foTrace_l0 {L : List (List Int)} (hL : isSq L = true) (d : Nat) : ∀ i : Nat, i + d = L.length → Ev (fun k => spec_TraceOf.l0 k (trK L i) L (L.length : Int) (i : Int)) (trK L L.length, true) := by
  have hn := isSq_le hL
  induction d with
  | zero =>
    intro i hi
    obtain rfl : i = L.length := by omega
    refine Ev_succ ?_
    simp only [spec_TraceOf.l0]
    exact Ev_false (by omega) Ev_some
  | succ d ih =>
    intro i hi
    refine Ev_succ ?_
    simp only [spec_TraceOf.l0]
    rw [row_len hL rfl (by omega), rd2, w64 (x := (i : Int) + 1) (by omega) (by omega)]
    exact Ev_true (by omega) (Ev_true (by omega) (Ev_true (by omega) (Ev_true (by omega) (ih (i + 1) (by omega)))))

theorem trace_l0 {L : List (List Int)} (hL : isSq L = true) (d : Nat) : ∀ i : Nat, i + d = L.length → Ev (fun k => impl_TraceOf.l0 k (trK L i) L (L.length : Int) (i : Int)) (trK L L.length, true) := by
  have hn := isSq_le hL
  induction d with
  | zero =>
    intro i hi
    obtain rfl : i = L.length := by omega
    refine Ev_succ ?_
    simp only [impl_TraceOf.l0]
    exact Ev_false (by omega) Ev_some
  | succ d ih =>
    intro i hi
    refine Ev_succ ?_
    simp only [impl_TraceOf.l0]
    rw [row_len hL rfl (by omega), rd2, w64 (x := (i : Int) + 1) (by omega) (by omega)]
    exact Ev_true (by omega) (Ev_true (by omega) (Ev_true (by omega) (Ev_true (by omega) (ih (i + 1) (by omega)))))

def traceR (L : List (List Int)) : Int × Bool := if isMat L = true then (trK L L.length, true) else (0, false)
theorem foTrace_ev {L : List (List Int)} (hL : Fits L) : Ev (fun k => spec_TraceOf.f k L) (traceR L) := by
  unfold spec_TraceOf.f traceR
  refine Ev.bind (foGood_ev hL) ?_
  by_cases h : isMat L = true
  · rw [if_pos h]
    exact Ev_true h (foTrace_l0 (isMat_sq h) L.length 0 (by omega))
  · rw [if_neg h]
    exact Ev_false h Ev_some
theorem trace_ev (L : List (List Int)) : Ev (fun k => impl_TraceOf.f k L) (traceR L) := by
  unfold impl_TraceOf.f traceR impl_IsMatrix.f
  simp only [Option.bind_some]
  by_cases h : isMat L = true
  · rw [if_pos h]
    exact Ev_true h (trace_l0 (isMat_sq h) L.length 0 (by omega))
  · rw [if_neg h]
    exact Ev_false h Ev_some
end Go.Proofs.Ytbchhpplglllmaa.Q

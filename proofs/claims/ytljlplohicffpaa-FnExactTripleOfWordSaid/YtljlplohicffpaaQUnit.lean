/- Matrices: units of the reference. -/
import Derived.Test.YtljlplohicffpaaTx2
import Derived.Test.YtljlplohicffpaaQProd
import Derived.Test.YtljlplohicffpaaGA
namespace Go.Proofs.Ytljlplohicffpaa.Q
open Go.RowKit Go.Proofs.Ytljlplohicffpaa.P Go.Proofs.YtljlplohicffpaaW.PrintWords Go.Proofs.YtljlplohicffpaaW.PrintLast Go.Proofs.Ytljlplohicffpaa.G

theorem foUnit_l0 {n : Nat} (hn : n ≤ 1000) (d : Nat) : ∀ i : Nat, i + d = n → Ev (fun k => spec_foUnit.l0 k (n : Int) (i : Int) (rowsOf (fun a b => if a = b ∧ a < i then 1 else 0) n n)) (unitL n) := by
  induction d with
  | zero =>
    intro i hi
    obtain rfl : i = n := by omega
    refine Ev_succ ?_
    simp only [spec_foUnit.l0]
    have e : rowsOf (fun a b => if a = b ∧ a < i then 1 else 0) i i = unitL i := rowsOf_congr fun a b ha _ => by
      by_cases h : a = b
      · rw [if_pos ⟨h, ha⟩, if_pos h]
      · rw [if_neg (fun c => h c.1), if_neg h]
    rw [e]
    exact Ev_false (by omega) Ev_some
  | succ d ih =>
    intro i hi
    refine Ev_succ ?_
    simp only [spec_foUnit.l0]
    rw [rdRow_rowsOf (by omega), rowsOf_length, rowOf_length, Int.toNat_natCast, rowsOf_set, w64 (x := (i : Int) + 1) (by omega) (by omega)]
    have e : upd (fun a b => if a = b ∧ a < i then 1 else 0) i i 1 = fun a b => if a = b ∧ a < i + 1 then 1 else 0 := by
      funext a b
      unfold upd
      by_cases h : a = i ∧ b = i
      · rw [if_pos h, if_pos (by omega)]
      · rw [if_neg h]
        show (if a = b ∧ a < i then (1 : Int) else 0) = if a = b ∧ a < i + 1 then 1 else 0
        by_cases h2 : a = b ∧ a < i
        · rw [if_pos h2, if_pos (by omega)]
        · rw [if_neg h2, if_neg (by omega)]
    rw [e]
    exact Ev_true (by omega) (Ev_true (by omega) (Ev_true (by omega) (Ev_true (by omega) (ih (i + 1) (by omega)))))
theorem foUnit_ev {n : Nat} (hn : n ≤ 1000) : Ev (fun k => spec_foUnit.f k (n : Int)) (unitL n) := by
  unfold spec_foUnit.f
  refine Ev.bind (foZero_ev hn) ?_
  rw [rowsOf_length]
  have h := foUnit_l0 hn n 0 (by omega)
  have e : (fun a b : Nat => if a = b ∧ a < 0 then (1 : Int) else 0) = fun _ _ => 0 := by
    funext a b
    rw [if_neg (by omega)]
  rw [e] at h
  exact h

end Go.Proofs.Ytljlplohicffpaa.Q

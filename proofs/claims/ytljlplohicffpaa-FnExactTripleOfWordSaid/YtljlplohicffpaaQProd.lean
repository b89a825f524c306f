/- Matrices: zeros and products of the reference. -/
import Derived.Test.YtljlplohicffpaaTx2
import Derived.Test.YtljlplohicffpaaTx3
import Derived.Test.YtljlplohicffpaaQRows
import Derived.Test.YtljlplohicffpaaGA
namespace Go.Proofs.Ytljlplohicffpaa.Q
open Go.RowKit Go.Proofs.Ytljlplohicffpaa.P Go.Proofs.YtljlplohicffpaaW.PrintWords Go.Proofs.YtljlplohicffpaaW.PrintLast Go.Proofs.Ytljlplohicffpaa.G

theorem foZero_l0 {n : Nat} (hn : n ≤ 1000) (d : Nat) : ∀ i : Nat, i + d = n → Ev (fun k => spec_foZero.l0 k (n : Int) (i : Int) (rowsOf (fun _ _ => 0) n i)) (rowsOf (fun _ _ => 0) n n) := by
  induction d with
  | zero =>
    intro i hi
    obtain rfl : i = n := by omega
    refine Ev_succ ?_
    simp only [spec_foZero.l0]
    exact Ev_false (by omega) Ev_some
  | succ d ih =>
    intro i hi
    refine Ev_succ ?_
    simp only [spec_foZero.l0]
    have e : rowsOf (fun _ _ => 0) n i ++ [List.replicate ((n : Int)).toNat 0] = rowsOf (fun _ _ => 0) n (i + 1) := by
      rw [rowsOf_succ]
      congr 2
      unfold rowOf
      rw [Int.toNat_natCast]
      apply List.ext_getElem <;> simp
    rw [e, w64 (x := (i : Int) + 1) (by omega) (by omega)]
    refine Ev_true (by omega) (Ev_true (by omega) (Ev_true (by omega) (Ev_true (by rw [rowsOf_length]; omega) (ih (i + 1) (by omega)))))
theorem foZero_ev {n : Nat} (hn : n ≤ 1000) : Ev (fun k => spec_foZero.f k (n : Int)) (rowsOf (fun _ _ => 0) n n) :=
  foZero_l0 hn n 0 (by omega)

theorem foTimes_l2 {L M : List (List Int)} {n : Nat} (hn : n ≤ 1000) (hL : isSq L = true) (hM : isSq M = true) (eL : L.length = n) (eM : M.length = n) {i j : Nat} (hi : i < n) (hj : j < n) {r : List (List Int)} (d : Nat) :
    ∀ (q : Nat) (F : Nat → Nat → Int), q + d = n → F i j = dotK L M i j q → Ev (fun k => spec_foTimes.l1 k (i : Int) (n : Int) (i : Int) (n : Int) ((j + 1 : Nat) : Int) L M (rowsOf (upd F i j (dotK L M i j n)) n n)) r →
      Ev (fun k => spec_foTimes.l2 k (i : Int) (j : Int) (n : Int) (i : Int) (n : Int) (j : Int) (n : Int) (q : Int) L M (rowsOf F n n)) r := by
  induction d with
  | zero =>
    intro q F hq hF h
    obtain rfl : q = n := by omega
    rw [upd_self F i j hF] at h
    refine Ev_succ ?_
    simp only [spec_foTimes.l2]
    rw [w64 (x := (j : Int) + 1) (by omega) (by omega)]
    exact Ev_false (by omega) h
  | succ d ih =>
    intro q F hq hF h
    have hq' : q < n := by omega
    refine Ev_succ ?_
    simp only [spec_foTimes.l2]
    rw [rdRow_rowsOf hi, rowsOf_length, rowOf_length, rd_rowOf hj, row_len hL eL hi, row_len hM eM hq', rd2, rd2, Int.toNat_natCast, Int.toNat_natCast, rowsOf_set, hF, w64 (x := (q : Int) + 1) (by omega) (by omega), eL, eM]
    refine Ev_true (by omega) (Ev_true (by omega) (Ev_true (by omega) (Ev_true (by omega) (Ev_true (by omega) (Ev_true (by omega) (Ev_true (by omega) (Ev_true (by omega) (Ev_true (by omega) (Ev_true (by omega) ?_)))))))))
    refine ih (q + 1) (upd F i j (wrap64 (dotK L M i j q + wrap64 (at2 L i q * at2 M q j)))) (by omega) (upd_at _ _ _ _) ?_
    rw [upd_upd]
    exact h
/-- How far a matrix has been written, row by row. -/
def stage (H : Nat → Nat → Int) (i j : Nat) : Nat → Nat → Int := fun a b => if a < i ∨ (a = i ∧ b < j) then H a b else 0
theorem stage_next (H : Nat → Nat → Int) (i j : Nat) : upd (stage H i j) i j (H i j) = stage H i (j + 1) := by
  funext a b
  unfold upd stage
  by_cases h : a = i ∧ b = j
  · rw [if_pos h, if_pos (by omega), h.1, h.2]
  · rw [if_neg h]
    by_cases h2 : a < i ∨ (a = i ∧ b < j)
    · rw [if_pos h2, if_pos (by omega)]
    · rw [if_neg h2, if_neg (by omega)]
theorem stage_row (H : Nat → Nat → Int) {n m : Nat} (i : Nat) : rowsOf (stage H i n) n m = rowsOf (stage H (i + 1) 0) n m := rowsOf_congr fun a b _ hb => by
  unfold stage
  by_cases h : a < i ∨ (a = i ∧ b < n)
  · rw [if_pos h, if_pos (by omega)]
  · rw [if_neg h, if_neg (by omega)]
theorem stage_end (H : Nat → Nat → Int) (n : Nat) : rowsOf (stage H n 0) n n = rowsOf H n n := rowsOf_congr fun a b ha _ => by
  unfold stage
  rw [if_pos (.inl ha)]
theorem stage_start (H : Nat → Nat → Int) (n : Nat) : rowsOf (fun _ _ => 0) n n = rowsOf (stage H 0 0) n n := rowsOf_congr fun a b _ _ => by
  unfold stage
  rw [if_neg (by omega)]
theorem foTimes_l1 {L M : List (List Int)} {n : Nat} (hn : n ≤ 1000) (hL : isSq L = true) (hM : isSq M = true) (eL : L.length = n) (eM : M.length = n) {i : Nat} (hi : i < n) {r : List (List Int)} (d : Nat) :
    ∀ j : Nat, j + d = n → Ev (fun k => spec_foTimes.l0 k (n : Int) ((i + 1 : Nat) : Int) L M (rowsOf (stage (fun i j => dotK L M i j n) (i + 1) 0) n n)) r →
      Ev (fun k => spec_foTimes.l1 k (i : Int) (n : Int) (i : Int) (n : Int) (j : Int) L M (rowsOf (stage (fun i j => dotK L M i j n) i j) n n)) r := by
  induction d with
  | zero =>
    intro j hj h
    obtain rfl : j = n := by omega
    refine Ev_succ ?_
    simp only [spec_foTimes.l1]
    rw [w64 (x := (i : Int) + 1) (by omega) (by omega), stage_row]
    exact Ev_false (by omega) h
  | succ d ih =>
    intro j hj h
    refine Ev_succ ?_
    simp only [spec_foTimes.l1]
    rw [eL]
    refine Ev_true (by omega) ?_
    refine foTimes_l2 hn hL hM eL eM hi (by omega) n 0 _ (by omega) ?_ ?_
    · show stage _ i j i j = 0
      unfold stage
      rw [if_neg (by omega)]
    · have e := stage_next (fun i j => dotK L M i j n) i j
      rw [e]
      exact ih (j + 1) (by omega) h
theorem foTimes_l0 {L M : List (List Int)} {n : Nat} (hn : n ≤ 1000) (hL : isSq L = true) (hM : isSq M = true) (eL : L.length = n) (eM : M.length = n) (d : Nat) :
    ∀ i : Nat, i + d = n → Ev (fun k => spec_foTimes.l0 k (n : Int) (i : Int) L M (rowsOf (stage (fun i j => dotK L M i j n) i 0) n n)) (rowsOf (fun i j => dotK L M i j n) n n) := by
  induction d with
  | zero =>
    intro i hi
    obtain rfl : i = n := by omega
    refine Ev_succ ?_
    simp only [spec_foTimes.l0]
    rw [stage_end]
    exact Ev_false (by omega) Ev_some
  | succ d ih =>
    intro i hi
    refine Ev_succ ?_
    simp only [spec_foTimes.l0]
    rw [eL]
    refine Ev_true (by omega) ?_
    exact foTimes_l1 hn hL hM eL eM (by omega) n 0 (by omega) (ih (i + 1) (by omega))
theorem foTimes_ev {L M : List (List Int)} (hL : isSq L = true) (hM : isSq M = true) (e : L.length = M.length) : Ev (fun k => spec_foTimes.f k L M) (prodL L M) := by
  unfold spec_foTimes.f prodL
  have hn := isSq_le hL
  refine Ev.bind (foZero_ev hn) ?_
  rw [stage_start (fun i j => dotK L M i j L.length)]
  exact foTimes_l0 hn hL hM rfl e.symm L.length 0 (by omega)

end Go.Proofs.Ytljlplohicffpaa.Q

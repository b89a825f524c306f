/- Several parts in one text: Matrices: zeros and products of the reference. All of a list lie between two numbers. Matrices: the reference's test of a matrix. Traces, of both programs. Matrices: units of the reference. Products of matrices with small numbers: sums without an overflow, and three factors. Determinants up to the wrap: products and inverses (sizes up to 4). Products of matrices go with transposes, traces and determinants; a matrix times its inverse. Matrices: the reference's test of small numbers. The product of two matrices: what both sides come to. Matrices: minors and determinants of the reference. The inverse of a matrix: what the reference comes to. DeterminantOf of the program. -/
import Derived.Test.YtldkkfpodldbgaaMx2
import Derived.Test.YtldkkfpodldbgaaMx7
import Derived.Test.YtldkkfpodldbgaaQM
import Derived.Test.YtldkkfpodldbgaaGA
import Derived.Test.YtldkkfpodldbgaaMx1
import Derived.Test.YtldkkfpodldbgaaMx3
import Derived.Test.YtldkkfpodldbgaaMx8
import Derived.Test.YtldkkfpodldbgaaMx9
import Derived.Test.YtldkkfpodldbgaaMx4
import Derived.Test.YtldkkfpodldbgaaMx6
namespace Go.Proofs.Ytldkkfpodldbgaa.Q
open Go.RowKit Go.Proofs.Ytldkkfpodldbgaa.P Go.Proofs.YtldkkfpodldbgaaW.PrintWords Go.Proofs.YtldkkfpodldbgaaW.PrintLast Go.Proofs.Ytldkkfpodldbgaa.G

theorem foZero_l0 {n : Nat} (hn : n ≤ 1000) (d : Nat) : ∀ i : Nat, i + d = n → Ev (fun k => spec_foZero.l0 k (n : Int) (i : Int) (rowsOf (fun _ _ => 0) n i)) (rowsOf (fun _ _ => 0) n n) := by
  induction d with
  | zero =>
    intro i hi
    obtain rfl : i = n := by omega
    refine Ev_succ ?_
    simp only [spec_foZero.l0]
    exact Ev_false (by omega) Ev_some
  | succ d ih =>
    intro i hi
    refine Ev_succ ?_
    simp only [spec_foZero.l0]
    have e : rowsOf (fun _ _ => 0) n i ++ [List.replicate ((n : Int)).toNat 0] = rowsOf (fun _ _ => 0) n (i + 1) := by
      rw [rowsOf_succ]
      congr 2
      unfold rowOf
      rw [Int.toNat_natCast]
      apply List.ext_getElem <;> simp
    rw [e, w64 (x := (i : Int) + 1) (by omega) (by omega)]
    refine Ev_true (by omega) (Ev_true (by omega) (Ev_true (by omega) (Ev_true (by rw [rowsOf_length]; omega) (ih (i + 1) (by omega)))))
theorem foZero_ev {n : Nat} (hn : n ≤ 1000) : Ev (fun k => spec_foZero.f k (n : Int)) (rowsOf (fun _ _ => 0) n n) :=
  foZero_l0 hn n 0 (by omega)

theorem foTimes_l2 {L M : List (List Int)} {n : Nat} (hn : n ≤ 1000) (hL : isSq L = true) (hM : isSq M = true) (eL : L.length = n) (eM : M.length = n) {i j : Nat} (hi : i < n) (hj : j < n) {r : List (List Int)} (d : Nat) :
    ∀ (q : Nat) (F : Nat → Nat → Int), q + d = n → F i j = dotK L M i j q → Ev (fun k => spec_foTimes.l1 k (i : Int) (n : Int) (i : Int) (n : Int) ((j + 1 : Nat) : Int) L M (rowsOf (upd F i j (dotK L M i j n)) n n)) r →
      Ev (fun k => spec_foTimes.l2 k (i : Int) (j : Int) (n : Int) (i : Int) (n : Int) (j : Int) (n : Int) (q : Int) L M (rowsOf F n n)) r := by
  induction d with
  | zero =>
    intro q F hq hF h
    obtain rfl : q = n := by omega
    rw [upd_self F i j hF] at h
    refine Ev_succ ?_
    simp only [spec_foTimes.l2]
    rw [w64 (x := (j : Int) + 1) (by omega) (by omega)]
    exact Ev_false (by omega) h
  | succ d ih =>
    intro q F hq hF h
    have hq' : q < n := by omega
    refine Ev_succ ?_
    simp only [spec_foTimes.l2]
    rw [rdRow_rowsOf hi, rowsOf_length, rowOf_length, rd_rowOf hj, row_len hL eL hi, row_len hM eM hq', rd2, rd2, Int.toNat_natCast, Int.toNat_natCast, rowsOf_set, hF, w64 (x := (q : Int) + 1) (by omega) (by omega), eL, eM]
    refine Ev_true (by omega) (Ev_true (by omega) (Ev_true (by omega) (Ev_true (by omega) (Ev_true (by omega) (Ev_true (by omega) (Ev_true (by omega) (Ev_true (by omega) (Ev_true (by omega) (Ev_true (by omega) ?_)))))))))
    refine ih (q + 1) (upd F i j (wrap64 (dotK L M i j q + wrap64 (at2 L i q * at2 M q j)))) (by omega) (upd_at _ _ _ _) ?_
    rw [upd_upd]
    exact h
/-- How far a matrix has been written, row by row. -/
def stage (H : Nat → Nat → Int) (i j : Nat) : Nat → Nat → Int := fun a b => if a < i ∨ (a = i ∧ b < j) then H a b else 0
theorem stage_next (H : Nat → Nat → Int) (i j : Nat) : upd (stage H i j) i j (H i j) = stage H i (j + 1) := by
  funext a b
  unfold upd stage
  by_cases h : a = i ∧ b = j
  · rw [if_pos h, if_pos (by omega), h.1, h.2]
  · rw [if_neg h]
    by_cases h2 : a < i ∨ (a = i ∧ b < j)
    · rw [if_pos h2, if_pos (by omega)]
    · rw [if_neg h2, if_neg (by omega)]
theorem stage_row (H : Nat → Nat → Int) {n m : Nat} (i : Nat) : rowsOf (stage H i n) n m = rowsOf (stage H (i + 1) 0) n m := rowsOf_congr fun a b _ hb => by
  unfold stage
  by_cases h : a < i ∨ (a = i ∧ b < n)
  · rw [if_pos h, if_pos (by omega)]
  · rw [if_neg h, if_neg (by omega)]
theorem stage_end (H : Nat → Nat → Int) (n : Nat) : rowsOf (stage H n 0) n n = rowsOf H n n := rowsOf_congr fun a b ha _ => by
  unfold stage
  rw [if_pos (.inl ha)]
theorem stage_start (H : Nat → Nat → Int) (n : Nat) : rowsOf (fun _ _ => 0) n n = rowsOf (stage H 0 0) n n := rowsOf_congr fun a b _ _ => by
  unfold stage
  rw [if_neg (by omega)]
theorem foTimes_l1 {L M : List (List Int)} {n : Nat} (hn : n ≤ 1000) (hL : isSq L = true) (hM : isSq M = true) (eL : L.length = n) (eM : M.length = n) {i : Nat} (hi : i < n) {r : List (List Int)} (d : Nat) :
    ∀ j : Nat, j + d = n → Ev (fun k => spec_foTimes.l0 k (n : Int) ((i + 1 : Nat) : Int) L M (rowsOf (stage (fun i j => dotK L M i j n) (i + 1) 0) n n)) r →
      Ev (fun k => spec_foTimes.l1 k (i : Int) (n : Int) (i : Int) (n : Int) (j : Int) L M (rowsOf (stage (fun i j => dotK L M i j n) i j) n n)) r := by
  induction d with
  | zero =>
    intro j hj h
    obtain rfl : j = n := by omega
    refine Ev_succ ?_
    simp only [spec_foTimes.l1]
    rw [w64 (x := (i : Int) + 1) (by omega) (by omega), stage_row]
    exact Ev_false (by omega) h
  | succ d ih =>
    intro j hj h
    refine Ev_succ ?_
    simp only [spec_foTimes.l1]
    rw [eL]
    refine Ev_true (by omega) ?_
    refine foTimes_l2 hn hL hM eL eM hi (by omega) n 0 _ (by omega) ?_ ?_
    · show stage _ i j i j = 0
      unfold stage
      rw [if_neg (by omega)]
    · have e := stage_next (fun i j => dotK L M i j n) i j
      rw [e]
      exact ih (j + 1) (by omega) h
theorem foTimes_l0 {L M : List (List Int)} {n : Nat} (hn : n ≤ 1000) (hL : isSq L = true) (hM : isSq M = true) (eL : L.length = n) (eM : M.length = n) (d : Nat) :
    ∀ i : Nat, i + d = n → Ev (fun k => spec_foTimes.l0 k (n : Int) (i : Int) L M (rowsOf (stage (fun i j => dotK L M i j n) i 0) n n)) (rowsOf (fun i j => dotK L M i j n) n n) := by
  induction d with
  | zero =>
    intro i hi
    obtain rfl : i = n := by omega
    refine Ev_succ ?_
    simp only [spec_foTimes.l0]
    rw [stage_end]
    exact Ev_false (by omega) Ev_some
  | succ d ih =>
    intro i hi
    refine Ev_succ ?_
    simp only [spec_foTimes.l0]
    rw [eL]
    refine Ev_true (by omega) ?_
    exact foTimes_l1 hn hL hM eL eM (by omega) n 0 (by omega) (ih (i + 1) (by omega))
theorem foTimes_ev {L M : List (List Int)} (hL : isSq L = true) (hM : isSq M = true) (e : L.length = M.length) : Ev (fun k => spec_foTimes.f k L M) (prodL L M) := by
  unfold spec_foTimes.f prodL
  have hn := isSq_le hL
  refine Ev.bind (foZero_ev hn) ?_
  rw [stage_start (fun i j => dotK L M i j L.length)]
  exact foTimes_l0 hn hL hM rfl e.symm L.length 0 (by omega)

end Go.Proofs.Ytldkkfpodldbgaa.Q
namespace Go.Proofs.Ytldkkfpodldbgaa.Q
open Go.RowKit Go.Proofs.Ytldkkfpodldbgaa.P Go.Proofs.YtldkkfpodldbgaaW.PrintWords Go.Proofs.YtldkkfpodldbgaaW.PrintLast Go.Proofs.Ytldkkfpodldbgaa.G

theorem allIn_eq (a lo hi : Int) : spec_l1In.f a lo hi = some (decide (lo ≤ a ∧ a ≤ hi)) := by
  unfold spec_l1In.f
  by_cases h : lo ≤ a
  · rw [if_pos h]
    simp [h]
  · rw [if_neg h]
    simp [h]
theorem l1All_l0 {l : List Int} (hn : l.length ≤ 4611686018427387904) (lo up : Int) (d : Nat) : ∀ i : Nat, i + d = l.length → Ev (fun k => spec_l1All.l0 k lo up l (l.length : Int) (i : Int)) ((l.drop i).all (inB lo up)) := by
  induction d with
  | zero =>
    intro i hi
    refine Ev_succ ?_
    simp only [spec_l1All.l0]
    rw [List.drop_of_length_le (by omega)]
    exact Ev_false (by omega) Ev_some
  | succ d ih =>
    intro i h1
    have hi : i < l.length := by omega
    refine Ev_succ ?_
    simp only [spec_l1All.l0]
    rw [rd_at hi, List.drop_eq_getElem_cons hi, w64 (x := (i : Int) + 1) (by omega) (by omega), allIn_eq]
    refine Ev_true (by omega) (Ev_true (by omega) (Ev_true (by omega) ?_))
    simp only [Option.bind_some, List.all_cons]
    by_cases hb : lo ≤ l[i] ∧ l[i] ≤ up
    · have hin : inB lo up l[i] = true := by unfold inB; simp [hb]
      rw [hin, Bool.true_and]
      exact Ev_true (by simpa using hb) (ih (i + 1) (by omega))
    · have hin : inB lo up l[i] = false := by
        unfold inB
        rw [← Bool.not_eq_true]
        intro h
        exact hb (by simpa using h)
      rw [hin, Bool.false_and]
      exact Ev_false (by simpa using hb) Ev_some
theorem l1All_ev {l : List Int} (hn : l.length ≤ 4611686018427387904) (lo up : Int) : Ev (fun k => spec_l1All.f k l lo up) (l.all (inB lo up)) :=
  l1All_l0 hn lo up l.length 0 (by omega)
end Go.Proofs.Ytldkkfpodldbgaa.Q
namespace Go.Proofs.Ytldkkfpodldbgaa.Q
open Go.RowKit Go.Proofs.Ytldkkfpodldbgaa.P Go.Proofs.YtldkkfpodldbgaaW.PrintWords Go.Proofs.YtldkkfpodldbgaaW.PrintLast Go.Proofs.Ytldkkfpodldbgaa.G

theorem foGood_l0 {L : List (List Int)} (hL : Fits L) (d : Nat) : ∀ i : Nat, i + d = L.length → Ev (fun k => spec_foGood.l0 k L (L.length : Int) (i : Int) L) ((L.drop i).all (isVec L.length)) := by
  have hl := hL.1
  induction d with
  | zero =>
    intro i hi
    refine Ev_succ ?_
    simp only [spec_foGood.l0]
    rw [List.drop_of_length_le (by omega)]
    exact Ev_false (by omega) Ev_some
  | succ d ih =>
    intro i hi
    have h1 : i < L.length := by omega
    have hxi := hL.2 _ (List.getElem_mem h1)
    refine Ev_succ ?_
    simp only [spec_foGood.l0]
    rw [rdRow h1, w64 (x := (i : Int) + 1) (by omega) (by omega), List.drop_eq_getElem_cons h1, List.all_cons]
    refine Ev_true (by omega) (Ev_true (by omega) (Ev_true (by omega) ?_))
    unfold isVec
    by_cases hn : (L[i].length : Int) = L.length
    · refine Ev_true hn (Ev.bind (l1All_ev (l := L[i]) (by omega) (-1000000) 1000000) ?_)
      rw [decide_eq_true hn, Bool.true_and]
      cases hb : L[i].all (inB (-1000000) 1000000) with
      | true => exact Ev_true rfl (ih (i + 1) (by omega))
      | false => exact Ev_false (by simp) Ev_some
    · rw [decide_eq_false hn, Bool.false_and, Bool.false_and]
      exact Ev_false hn Ev_some
theorem foGood_ev {L : List (List Int)} (hL : Fits L) : Ev (fun k => spec_foGood.f k L) (isMat L) := by
  unfold spec_foGood.f isMat
  rw [allIn_eq]
  simp only [Option.bind_some]
  by_cases h : (1 : Int) ≤ L.length ∧ (L.length : Int) ≤ 4
  · rw [decide_eq_true h.1, decide_eq_true h.2]
    exact Ev_true (by simpa using h) (foGood_l0 hL L.length 0 (by omega))
  · have e : (decide ((1 : Int) ≤ L.length) && decide ((L.length : Int) ≤ 4)) = false := by
      rw [← Bool.not_eq_true, Bool.and_eq_true, decide_eq_true_iff, decide_eq_true_iff]
      exact h
    rw [e, Bool.false_and]
    exact Ev_false (by simpa using h) Ev_some
end Go.Proofs.Ytldkkfpodldbgaa.Q
namespace Go.Proofs.Ytldkkfpodldbgaa.Q
open Go.RowKit Go.Proofs.Ytldkkfpodldbgaa.P Go.Proofs.YtldkkfpodldbgaaW.PrintWords Go.Proofs.YtldkkfpodldbgaaW.PrintLast Go.Proofs.Ytldkkfpodldbgaa.G

def trK (L : List (List Int)) : Nat → Int
  | 0 => 0
  | k + 1 => wrap64 (trK L k + at2 L k k)

theorem foTrace_l0 {L : List (List Int)} (hL : isSq L = true) (d : Nat) : ∀ i : Nat, i + d = L.length → Ev (fun k => spec_TraceOf.l0 k (trK L i) L (L.length : Int) (i : Int)) (trK L L.length, true) := by
  have hn := isSq_le hL
  induction d with
  | zero =>
    intro i hi
    obtain rfl : i = L.length := by omega
    refine Ev_succ ?_
    simp only [spec_TraceOf.l0]
    exact Ev_false (by omega) Ev_some
  | succ d ih =>
    intro i hi
    refine Ev_succ ?_
    simp only [spec_TraceOf.l0]
    rw [row_len hL rfl (by omega), rd2, w64 (x := (i : Int) + 1) (by omega) (by omega)]
    exact Ev_true (by omega) (Ev_true (by omega) (Ev_true (by omega) (Ev_true (by omega) (ih (i + 1) (by omega)))))

theorem trace_l0 {L : List (List Int)} (hL : isSq L = true) (d : Nat) : ∀ i : Nat, i + d = L.length → Ev (fun k => impl_TraceOf.l0 k (trK L i) L (L.length : Int) (i : Int)) (trK L L.length, true) := by
  have hn := isSq_le hL
  induction d with
  | zero =>
    intro i hi
    obtain rfl : i = L.length := by omega
    refine Ev_succ ?_
    simp only [impl_TraceOf.l0]
    exact Ev_false (by omega) Ev_some
  | succ d ih =>
    intro i hi
    refine Ev_succ ?_
    simp only [impl_TraceOf.l0]
    rw [row_len hL rfl (by omega), rd2, w64 (x := (i : Int) + 1) (by omega) (by omega)]
    exact Ev_true (by omega) (Ev_true (by omega) (Ev_true (by omega) (Ev_true (by omega) (ih (i + 1) (by omega)))))

def traceR (L : List (List Int)) : Int × Bool := if isMat L = true then (trK L L.length, true) else (0, false)
theorem foTrace_ev {L : List (List Int)} (hL : Fits L) : Ev (fun k => spec_TraceOf.f k L) (traceR L) := by
  unfold spec_TraceOf.f traceR
  refine Ev.bind (foGood_ev hL) ?_
  by_cases h : isMat L = true
  · rw [if_pos h]
    exact Ev_true h (foTrace_l0 (isMat_sq h) L.length 0 (by omega))
  · rw [if_neg h]
    exact Ev_false h Ev_some
theorem trace_ev (L : List (List Int)) : Ev (fun k => impl_TraceOf.f k L) (traceR L) := by
  unfold impl_TraceOf.f traceR impl_IsMatrix.f
  simp only [Option.bind_some]
  by_cases h : isMat L = true
  · rw [if_pos h]
    exact Ev_true h (trace_l0 (isMat_sq h) L.length 0 (by omega))
  · rw [if_neg h]
    exact Ev_false h Ev_some
end Go.Proofs.Ytldkkfpodldbgaa.Q
namespace Go.Proofs.Ytldkkfpodldbgaa.Q
open Go.RowKit Go.Proofs.Ytldkkfpodldbgaa.P Go.Proofs.YtldkkfpodldbgaaW.PrintWords Go.Proofs.YtldkkfpodldbgaaW.PrintLast Go.Proofs.Ytldkkfpodldbgaa.G

theorem foUnit_l0 {n : Nat} (hn : n ≤ 1000) (d : Nat) : ∀ i : Nat, i + d = n → Ev (fun k => spec_foUnit.l0 k (n : Int) (i : Int) (rowsOf (fun a b => if a = b ∧ a < i then 1 else 0) n n)) (unitL n) := by
  induction d with
  | zero =>
    intro i hi
    obtain rfl : i = n := by omega
    refine Ev_succ ?_
    simp only [spec_foUnit.l0]
    have e : rowsOf (fun a b => if a = b ∧ a < i then 1 else 0) i i = unitL i := rowsOf_congr fun a b ha _ => by
      by_cases h : a = b
      · rw [if_pos ⟨h, ha⟩, if_pos h]
      · rw [if_neg (fun c => h c.1), if_neg h]
    rw [e]
    exact Ev_false (by omega) Ev_some
  | succ d ih =>
    intro i hi
    refine Ev_succ ?_
    simp only [spec_foUnit.l0]
    rw [rdRow_rowsOf (by omega), rowsOf_length, rowOf_length, Int.toNat_natCast, rowsOf_set, w64 (x := (i : Int) + 1) (by omega) (by omega)]
    have e : upd (fun a b => if a = b ∧ a < i then 1 else 0) i i 1 = fun a b => if a = b ∧ a < i + 1 then 1 else 0 := by
      funext a b
      unfold upd
      by_cases h : a = i ∧ b = i
      · rw [if_pos h, if_pos (by omega)]
      · rw [if_neg h]
        show (if a = b ∧ a < i then (1 : Int) else 0) = if a = b ∧ a < i + 1 then 1 else 0
        by_cases h2 : a = b ∧ a < i
        · rw [if_pos h2, if_pos (by omega)]
        · rw [if_neg h2, if_neg (by omega)]
    rw [e]
    exact Ev_true (by omega) (Ev_true (by omega) (Ev_true (by omega) (Ev_true (by omega) (ih (i + 1) (by omega)))))
theorem foUnit_ev {n : Nat} (hn : n ≤ 1000) : Ev (fun k => spec_foUnit.f k (n : Int)) (unitL n) := by
  unfold spec_foUnit.f
  refine Ev.bind (foZero_ev hn) ?_
  rw [rowsOf_length]
  have h := foUnit_l0 hn n 0 (by omega)
  have e : (fun a b : Nat => if a = b ∧ a < 0 then (1 : Int) else 0) = fun _ _ => 0 := by
    funext a b
    rw [if_neg (by omega)]
  rw [e] at h
  exact h

end Go.Proofs.Ytldkkfpodldbgaa.Q
namespace Go.Proofs.Ytldkkfpodldbgaa.Q
open Go.RowKit Go.Proofs.Ytldkkfpodldbgaa.P Go.Proofs.YtldkkfpodldbgaaW.PrintWords Go.Proofs.YtldkkfpodldbgaaW.PrintLast Go.Proofs.Ytldkkfpodldbgaa.G

def sumZ (f : Nat → Int) : Nat → Int
  | 0 => 0
  | k + 1 => sumZ f k + f k
theorem sumZ_congr {f g : Nat → Int} : ∀ n, (∀ t, t < n → f t = g t) → sumZ f n = sumZ g n
  | 0, _ => rfl
  | n + 1, h => by
    show sumZ f n + f n = sumZ g n + g n
    rw [sumZ_congr n (fun t ht => h t (by omega)), h n (by omega)]
theorem sumZ_add (f g : Nat → Int) : ∀ n, sumZ (fun t => f t + g t) n = sumZ f n + sumZ g n
  | 0 => rfl
  | n + 1 => by
    show sumZ (fun t => f t + g t) n + (f n + g n) = (sumZ f n + f n) + (sumZ g n + g n)
    rw [sumZ_add f g n]
    omega
theorem sumZ_mul_left (a : Int) (f : Nat → Int) : ∀ n, sumZ (fun t => a * f t) n = a * sumZ f n
  | 0 => by simp [sumZ]
  | n + 1 => by
    show sumZ (fun t => a * f t) n + a * f n = a * (sumZ f n + f n)
    rw [sumZ_mul_left a f n, Int.mul_add]
theorem sumZ_zero : ∀ n, sumZ (fun _ => 0) n = 0
  | 0 => rfl
  | n + 1 => by
    show sumZ (fun _ => 0) n + 0 = 0
    rw [sumZ_zero n]
    rfl
theorem sumZ_swap (f : Nat → Nat → Int) (n : Nat) : ∀ m, sumZ (fun s => sumZ (fun t => f t s) n) m = sumZ (fun t => sumZ (fun s => f t s) m) n
  | 0 => (sumZ_zero n).symm
  | m + 1 => by
    show sumZ (fun s => sumZ (fun t => f t s) n) m + sumZ (fun t => f t m) n = sumZ (fun t => sumZ (fun s => f t s) m + f t m) n
    rw [sumZ_swap f n m, sumZ_add]
end Go.Proofs.Ytldkkfpodldbgaa.Q
namespace Go.Proofs.Ytldkkfpodldbgaa.Q
open Go.RowKit Go.Proofs.Ytldkkfpodldbgaa.P Go.Proofs.YtldkkfpodldbgaaW.PrintWords Go.Proofs.YtldkkfpodldbgaaW.PrintLast Go.Proofs.Ytldkkfpodldbgaa.G
/-- Equal up to the wrap. -/
def Cg (x y : Int) : Prop := ∃ t : Int, x = y + 18446744073709551616 * t
theorem Cg.refl (x : Int) : Cg x x := ⟨0, by omega⟩
theorem Cg.symm {x y : Int} : Cg x y → Cg y x := fun ⟨t, h⟩ => ⟨-t, by omega⟩
theorem Cg.trans {x y z : Int} : Cg x y → Cg y z → Cg x z := fun ⟨t, h⟩ ⟨s, g⟩ => ⟨t + s, by omega⟩
theorem Cg.of_eq {x y : Int} (h : x = y) : Cg x y := h ▸ Cg.refl x
theorem Cg.add {x y a b : Int} : Cg x y → Cg a b → Cg (x + a) (y + b) := fun ⟨t, h⟩ ⟨s, g⟩ => ⟨t + s, by omega⟩
theorem Cg.neg {x y : Int} : Cg x y → Cg (-x) (-y) := fun ⟨t, h⟩ => ⟨-t, by omega⟩
theorem Cg.mul {x y a b : Int} : Cg x y → Cg a b → Cg (x * a) (y * b) := fun ⟨t, h⟩ ⟨s, g⟩ => ⟨y * s + t * b + 18446744073709551616 * (t * s), by subst h; subst g; grind⟩
theorem Cg.w (x : Int) : Cg (wrap64 x) x := ⟨-((x + 9223372036854775808) / 18446744073709551616), by unfold wrap64; omega⟩
theorem Cg.eq {x y : Int} : Cg x y → wrap64 x = wrap64 y := fun ⟨t, h⟩ => by unfold wrap64; omega
theorem Cg.sum {f g : Nat → Int} : ∀ n, (∀ t, t < n → Cg (f t) (g t)) → Cg (sumZ f n) (sumZ g n)
  | 0, _ => Cg.refl _
  | n + 1, h => (Cg.sum n fun t ht => h t (by omega)).add (h n (by omega))
theorem dotK_w (L M : List (List Int)) (i j : Nat) : ∀ k, dotK L M i j k = wrap64 (sumZ (fun t => at2 L i t * at2 M t j) k)
  | 0 => by exact (w64 (x := 0) (by omega) (by omega)).symm
  | k + 1 => (((Cg.of_eq (dotK_w L M i j k)).trans (Cg.w _)).add (Cg.w _)).eq
theorem prod_cg (L M : List (List Int)) {i j : Nat} (hi : i < L.length) (hj : j < L.length) : Cg (at2 (prodL L M) i j) (sumZ (fun t => at2 L i t * at2 M t j) L.length) := by
  unfold prodL
  rw [at2_rowsOf hi hj, dotK_w]
  exact Cg.w _
/-- The determinant of a function of two places. -/
def detF : Nat → (Nat → Nat → Int) → Int
  | 0, _ => 1
  | n + 1, f => sumZ (fun j => sgn j * f 0 j * detF n (fun a b => f (skip 0 a) (skip (j : Int) b))) (n + 1)
theorem skip_lt {a : Int} {b n : Nat} (h : b < n) : skip a b < n + 1 := by unfold skip; split <;> omega
theorem detF_cg : ∀ (n : Nat) {f g : Nat → Nat → Int}, (∀ i j, i < n → j < n → Cg (f i j) (g i j)) → Cg (detF n f) (detF n g)
  | 0, _, _, _ => Cg.refl _
  | n + 1, f, g, h => Cg.sum (n + 1) fun j hj => ((Cg.refl _).mul (h 0 j (by omega) hj)).mul (detF_cg n fun a b ha hb => h _ _ (skip_lt ha) (skip_lt hb))
theorem detN_cg : ∀ (n : Nat) (L : List (List Int)), L.length = n → Cg (detN n L) (detF n (at2 L))
  | 0, _, _ => Cg.refl _
  | n + 1, L, e => by
    have hm : ∀ j : Nat, Cg (detN n (minorL L 0 (j : Int))) (detF n (fun a b => at2 L (skip 0 a) (skip (j : Int) b))) := fun j => by
      refine (detN_cg n _ (by rw [minor_len]; omega)).trans (detF_cg n fun a b ha hb => ?_)
      unfold minorL
      rw [at2_rowsOf (by omega) (by omega)]
      exact Cg.refl _
    have hs : ∀ k, Cg (detS (detN n) L k) (sumZ (fun j => sgn j * at2 L 0 j * detF n (fun a b => at2 L (skip 0 a) (skip (j : Int) b))) k) := by
      intro k
      induction k with
      | zero => exact Cg.refl _
      | succ k ih => exact (Cg.w _).trans (ih.add ((Cg.w _).trans ((Cg.w _).mul (hm k))))
    exact hs (n + 1)
def d2 (a b c d : Int) : Int := a * d - b * c
def d3 (a b c d e f g h i : Int) : Int := a * d2 e f h i - b * d2 d f g i + c * d2 d e g h
theorem detF1 (f : Nat → Nat → Int) : detF 1 f = f 0 0 := by simp [detF, sumZ, sgn]
theorem detF2 (f : Nat → Nat → Int) : detF 2 f = d2 (f 0 0) (f 0 1) (f 1 0) (f 1 1) := by
  simp [detF, sumZ, sgn, skip, d2]
  grind
theorem detF3 (f : Nat → Nat → Int) : detF 3 f = d3 (f 0 0) (f 0 1) (f 0 2) (f 1 0) (f 1 1) (f 1 2) (f 2 0) (f 2 1) (f 2 2) := by
  have e : detF 3 f = sumZ (fun j => sgn j * f 0 j * detF 2 (fun a b => f (skip 0 a) (skip (j : Int) b))) 3 := rfl
  rw [e]
  simp only [detF2]
  simp [sumZ, sgn, skip, d3]
  grind
theorem detF4 (f : Nat → Nat → Int) : detF 4 f = f 0 0 * d3 (f 1 1) (f 1 2) (f 1 3) (f 2 1) (f 2 2) (f 2 3) (f 3 1) (f 3 2) (f 3 3) - f 0 1 * d3 (f 1 0) (f 1 2) (f 1 3) (f 2 0) (f 2 2) (f 2 3) (f 3 0) (f 3 2) (f 3 3)
    + f 0 2 * d3 (f 1 0) (f 1 1) (f 1 3) (f 2 0) (f 2 1) (f 2 3) (f 3 0) (f 3 1) (f 3 3) - f 0 3 * d3 (f 1 0) (f 1 1) (f 1 2) (f 2 0) (f 2 1) (f 2 2) (f 3 0) (f 3 1) (f 3 2) := by
  have e : detF 4 f = sumZ (fun j => sgn j * f 0 j * detF 3 (fun a b => f (skip 0 a) (skip (j : Int) b))) 4 := rfl
  rw [e]
  simp only [detF3]
  simp [sumZ, sgn, skip]
  grind
/-- Minors of two rows and two columns of a product. -/
theorem d2_mul (a0 a1 a2 a3 b0 b1 b2 b3 p0 p1 p2 p3 q0 q1 q2 q3 : Int) :
    d2 (a0 * p0 + a1 * p1 + a2 * p2 + a3 * p3) (a0 * q0 + a1 * q1 + a2 * q2 + a3 * q3) (b0 * p0 + b1 * p1 + b2 * p2 + b3 * p3) (b0 * q0 + b1 * q1 + b2 * q2 + b3 * q3) =
      d2 a0 a1 b0 b1 * d2 p0 q0 p1 q1 + d2 a0 a2 b0 b2 * d2 p0 q0 p2 q2 + d2 a0 a3 b0 b3 * d2 p0 q0 p3 q3 + d2 a1 a2 b1 b2 * d2 p1 q1 p2 q2 + d2 a1 a3 b1 b3 * d2 p1 q1 p3 q3 + d2 a2 a3 b2 b3 * d2 p2 q2 p3 q3 := by
  unfold d2; grind
/-- Four rows by their first two and last two. -/
def d4 (a b c d : Nat → Int) : Int :=
  d2 (a 0) (a 1) (b 0) (b 1) * d2 (c 2) (c 3) (d 2) (d 3) - d2 (a 0) (a 2) (b 0) (b 2) * d2 (c 1) (c 3) (d 1) (d 3) + d2 (a 0) (a 3) (b 0) (b 3) * d2 (c 1) (c 2) (d 1) (d 2)
  + d2 (a 1) (a 2) (b 1) (b 2) * d2 (c 0) (c 3) (d 0) (d 3) - d2 (a 1) (a 3) (b 1) (b 3) * d2 (c 0) (c 2) (d 0) (d 2) + d2 (a 2) (a 3) (b 2) (b 3) * d2 (c 0) (c 1) (d 0) (d 1)
theorem detF4_d4 (f : Nat → Nat → Int) : detF 4 f = d4 (f 0) (f 1) (f 2) (f 3) := by
  rw [detF4]
  unfold d4 d3 d2
  grind
theorem d4_01 (a b c d : Nat → Int) : d4 b a c d = -d4 a b c d := by unfold d4 d2; grind
theorem d4_12 (a b c d : Nat → Int) : d4 a c b d = -d4 a b c d := by unfold d4 d2; grind
theorem d4_23 (a b c d : Nat → Int) : d4 a b d c = -d4 a b c d := by unfold d4 d2; grind
theorem d4_02 (a b d : Nat → Int) : d4 a b a d = 0 := by unfold d4 d2; grind
theorem d4_03 (a b c : Nat → Int) : d4 a b c a = 0 := by unfold d4 d2; grind
theorem d4_11 (a b d : Nat → Int) : d4 a b b d = 0 := by unfold d4 d2; grind
theorem d4_13 (a b c : Nat → Int) : d4 a b c b = 0 := by unfold d4 d2; grind
/-- The sum of the first two rows' minors with the last two's. -/
theorem six (x01 x02 x03 x12 x13 x23 y01 y02 y03 y12 y13 y23 : Int) (g : Nat → Nat → Int) (m : Nat → Nat → Nat → Nat → Int) (hm : m = fun k l i j => d2 (g k i) (g k j) (g l i) (g l j)) :
    (x01 * m 0 1 0 1 + x02 * m 0 2 0 1 + x03 * m 0 3 0 1 + x12 * m 1 2 0 1 + x13 * m 1 3 0 1 + x23 * m 2 3 0 1) * (y01 * m 0 1 2 3 + y02 * m 0 2 2 3 + y03 * m 0 3 2 3 + y12 * m 1 2 2 3 + y13 * m 1 3 2 3 + y23 * m 2 3 2 3) - (x01 * m 0 1 0 2 + x02 * m 0 2 0 2 + x03 * m 0 3 0 2 + x12 * m 1 2 0 2 + x13 * m 1 3 0 2 + x23 * m 2 3 0 2) * (y01 * m 0 1 1 3 + y02 * m 0 2 1 3 + y03 * m 0 3 1 3 + y12 * m 1 2 1 3 + y13 * m 1 3 1 3 + y23 * m 2 3 1 3) + (x01 * m 0 1 0 3 + x02 * m 0 2 0 3 + x03 * m 0 3 0 3 + x12 * m 1 2 0 3 + x13 * m 1 3 0 3 + x23 * m 2 3 0 3) * (y01 * m 0 1 1 2 + y02 * m 0 2 1 2 + y03 * m 0 3 1 2 + y12 * m 1 2 1 2 + y13 * m 1 3 1 2 + y23 * m 2 3 1 2) + (x01 * m 0 1 1 2 + x02 * m 0 2 1 2 + x03 * m 0 3 1 2 + x12 * m 1 2 1 2 + x13 * m 1 3 1 2 + x23 * m 2 3 1 2) * (y01 * m 0 1 0 3 + y02 * m 0 2 0 3 + y03 * m 0 3 0 3 + y12 * m 1 2 0 3 + y13 * m 1 3 0 3 + y23 * m 2 3 0 3) - (x01 * m 0 1 1 3 + x02 * m 0 2 1 3 + x03 * m 0 3 1 3 + x12 * m 1 2 1 3 + x13 * m 1 3 1 3 + x23 * m 2 3 1 3) * (y01 * m 0 1 0 2 + y02 * m 0 2 0 2 + y03 * m 0 3 0 2 + y12 * m 1 2 0 2 + y13 * m 1 3 0 2 + y23 * m 2 3 0 2) + (x01 * m 0 1 2 3 + x02 * m 0 2 2 3 + x03 * m 0 3 2 3 + x12 * m 1 2 2 3 + x13 * m 1 3 2 3 + x23 * m 2 3 2 3) * (y01 * m 0 1 0 1 + y02 * m 0 2 0 1 + y03 * m 0 3 0 1 + y12 * m 1 2 0 1 + y13 * m 1 3 0 1 + y23 * m 2 3 0 1)
    = (x01 * y23 - x02 * y13 + x03 * y12 + x12 * y03 - x13 * y02 + x23 * y01) * d4 (g 0) (g 1) (g 2) (g 3) := by
  have G : ∀ k l p q, m k l 0 1 * m p q 2 3 - m k l 0 2 * m p q 1 3 + m k l 0 3 * m p q 1 2 + m k l 1 2 * m p q 0 3 - m k l 1 3 * m p q 0 2 + m k l 2 3 * m p q 0 1 = d4 (g k) (g l) (g p) (g q) := by
    intro k l p q; subst hm; rfl
  have a2 : d4 (g 0) (g 2) (g 1) (g 3) = -d4 (g 0) (g 1) (g 2) (g 3) := d4_12 _ _ _ _
  have a3 : d4 (g 0) (g 3) (g 1) (g 2) = d4 (g 0) (g 1) (g 2) (g 3) := by rw [d4_12, d4_23]; omega
  have a4 : d4 (g 1) (g 2) (g 0) (g 3) = d4 (g 0) (g 1) (g 2) (g 3) := by rw [d4_12, d4_01]; omega
  have a5 : d4 (g 1) (g 3) (g 0) (g 2) = -d4 (g 0) (g 1) (g 2) (g 3) := by rw [d4_12, d4_01, d4_23]; omega
  have a6 : d4 (g 2) (g 3) (g 0) (g 1) = d4 (g 0) (g 1) (g 2) (g 3) := by rw [d4_12, d4_01, d4_23, d4_12]; omega
  have G0101 := (G 0 1 0 1).trans (d4_02 _ _ _)
  have G0102 := (G 0 1 0 2).trans (d4_02 _ _ _)
  have G0103 := (G 0 1 0 3).trans (d4_02 _ _ _)
  have G0112 := (G 0 1 1 2).trans (d4_11 _ _ _)
  have G0113 := (G 0 1 1 3).trans (d4_11 _ _ _)
  have G0123 := G 0 1 2 3
  have G0201 := (G 0 2 0 1).trans (d4_02 _ _ _)
  have G0202 := (G 0 2 0 2).trans (d4_02 _ _ _)
  have G0203 := (G 0 2 0 3).trans (d4_02 _ _ _)
  have G0212 := (G 0 2 1 2).trans (d4_13 _ _ _)
  have G0213 := (G 0 2 1 3).trans a2
  have G0223 := (G 0 2 2 3).trans (d4_11 _ _ _)
  have G0301 := (G 0 3 0 1).trans (d4_02 _ _ _)
  have G0302 := (G 0 3 0 2).trans (d4_02 _ _ _)
  have G0303 := (G 0 3 0 3).trans (d4_02 _ _ _)
  have G0312 := (G 0 3 1 2).trans a3
  have G0313 := (G 0 3 1 3).trans (d4_13 _ _ _)
  have G0323 := (G 0 3 2 3).trans (d4_13 _ _ _)
  have G1201 := (G 1 2 0 1).trans (d4_03 _ _ _)
  have G1202 := (G 1 2 0 2).trans (d4_13 _ _ _)
  have G1203 := (G 1 2 0 3).trans a4
  have G1212 := (G 1 2 1 2).trans (d4_02 _ _ _)
  have G1213 := (G 1 2 1 3).trans (d4_02 _ _ _)
  have G1223 := (G 1 2 2 3).trans (d4_11 _ _ _)
  have G1301 := (G 1 3 0 1).trans (d4_03 _ _ _)
  have G1302 := (G 1 3 0 2).trans a5
  have G1303 := (G 1 3 0 3).trans (d4_13 _ _ _)
  have G1312 := (G 1 3 1 2).trans (d4_02 _ _ _)
  have G1313 := (G 1 3 1 3).trans (d4_02 _ _ _)
  have G1323 := (G 1 3 2 3).trans (d4_13 _ _ _)
  have G2301 := (G 2 3 0 1).trans a6
  have G2302 := (G 2 3 0 2).trans (d4_03 _ _ _)
  have G2303 := (G 2 3 0 3).trans (d4_13 _ _ _)
  have G2312 := (G 2 3 1 2).trans (d4_03 _ _ _)
  have G2313 := (G 2 3 1 3).trans (d4_13 _ _ _)
  have G2323 := (G 2 3 2 3).trans (d4_02 _ _ _)
  clear hm G a2 a3 a4 a5 a6
  generalize d4 (g 0) (g 1) (g 2) (g 3) = D at *
  have e : ∀ L : Int, L = x01 * y01 * (m 0 1 0 1 * m 0 1 2 3 - m 0 1 0 2 * m 0 1 1 3 + m 0 1 0 3 * m 0 1 1 2 + m 0 1 1 2 * m 0 1 0 3 - m 0 1 1 3 * m 0 1 0 2 + m 0 1 2 3 * m 0 1 0 1) + x01 * y02 * (m 0 1 0 1 * m 0 2 2 3 - m 0 1 0 2 * m 0 2 1 3 + m 0 1 0 3 * m 0 2 1 2 + m 0 1 1 2 * m 0 2 0 3 - m 0 1 1 3 * m 0 2 0 2 + m 0 1 2 3 * m 0 2 0 1) + x01 * y03 * (m 0 1 0 1 * m 0 3 2 3 - m 0 1 0 2 * m 0 3 1 3 + m 0 1 0 3 * m 0 3 1 2 + m 0 1 1 2 * m 0 3 0 3 - m 0 1 1 3 * m 0 3 0 2 + m 0 1 2 3 * m 0 3 0 1) + x01 * y12 * (m 0 1 0 1 * m 1 2 2 3 - m 0 1 0 2 * m 1 2 1 3 + m 0 1 0 3 * m 1 2 1 2 + m 0 1 1 2 * m 1 2 0 3 - m 0 1 1 3 * m 1 2 0 2 + m 0 1 2 3 * m 1 2 0 1) + x01 * y13 * (m 0 1 0 1 * m 1 3 2 3 - m 0 1 0 2 * m 1 3 1 3 + m 0 1 0 3 * m 1 3 1 2 + m 0 1 1 2 * m 1 3 0 3 - m 0 1 1 3 * m 1 3 0 2 + m 0 1 2 3 * m 1 3 0 1) + x01 * y23 * (m 0 1 0 1 * m 2 3 2 3 - m 0 1 0 2 * m 2 3 1 3 + m 0 1 0 3 * m 2 3 1 2 + m 0 1 1 2 * m 2 3 0 3 - m 0 1 1 3 * m 2 3 0 2 + m 0 1 2 3 * m 2 3 0 1) + x02 * y01 * (m 0 2 0 1 * m 0 1 2 3 - m 0 2 0 2 * m 0 1 1 3 + m 0 2 0 3 * m 0 1 1 2 + m 0 2 1 2 * m 0 1 0 3 - m 0 2 1 3 * m 0 1 0 2 + m 0 2 2 3 * m 0 1 0 1) + x02 * y02 * (m 0 2 0 1 * m 0 2 2 3 - m 0 2 0 2 * m 0 2 1 3 + m 0 2 0 3 * m 0 2 1 2 + m 0 2 1 2 * m 0 2 0 3 - m 0 2 1 3 * m 0 2 0 2 + m 0 2 2 3 * m 0 2 0 1) + x02 * y03 * (m 0 2 0 1 * m 0 3 2 3 - m 0 2 0 2 * m 0 3 1 3 + m 0 2 0 3 * m 0 3 1 2 + m 0 2 1 2 * m 0 3 0 3 - m 0 2 1 3 * m 0 3 0 2 + m 0 2 2 3 * m 0 3 0 1) + x02 * y12 * (m 0 2 0 1 * m 1 2 2 3 - m 0 2 0 2 * m 1 2 1 3 + m 0 2 0 3 * m 1 2 1 2 + m 0 2 1 2 * m 1 2 0 3 - m 0 2 1 3 * m 1 2 0 2 + m 0 2 2 3 * m 1 2 0 1) + x02 * y13 * (m 0 2 0 1 * m 1 3 2 3 - m 0 2 0 2 * m 1 3 1 3 + m 0 2 0 3 * m 1 3 1 2 + m 0 2 1 2 * m 1 3 0 3 - m 0 2 1 3 * m 1 3 0 2 + m 0 2 2 3 * m 1 3 0 1) + x02 * y23 * (m 0 2 0 1 * m 2 3 2 3 - m 0 2 0 2 * m 2 3 1 3 + m 0 2 0 3 * m 2 3 1 2 + m 0 2 1 2 * m 2 3 0 3 - m 0 2 1 3 * m 2 3 0 2 + m 0 2 2 3 * m 2 3 0 1) + x03 * y01 * (m 0 3 0 1 * m 0 1 2 3 - m 0 3 0 2 * m 0 1 1 3 + m 0 3 0 3 * m 0 1 1 2 + m 0 3 1 2 * m 0 1 0 3 - m 0 3 1 3 * m 0 1 0 2 + m 0 3 2 3 * m 0 1 0 1) + x03 * y02 * (m 0 3 0 1 * m 0 2 2 3 - m 0 3 0 2 * m 0 2 1 3 + m 0 3 0 3 * m 0 2 1 2 + m 0 3 1 2 * m 0 2 0 3 - m 0 3 1 3 * m 0 2 0 2 + m 0 3 2 3 * m 0 2 0 1) + x03 * y03 * (m 0 3 0 1 * m 0 3 2 3 - m 0 3 0 2 * m 0 3 1 3 + m 0 3 0 3 * m 0 3 1 2 + m 0 3 1 2 * m 0 3 0 3 - m 0 3 1 3 * m 0 3 0 2 + m 0 3 2 3 * m 0 3 0 1) + x03 * y12 * (m 0 3 0 1 * m 1 2 2 3 - m 0 3 0 2 * m 1 2 1 3 + m 0 3 0 3 * m 1 2 1 2 + m 0 3 1 2 * m 1 2 0 3 - m 0 3 1 3 * m 1 2 0 2 + m 0 3 2 3 * m 1 2 0 1) + x03 * y13 * (m 0 3 0 1 * m 1 3 2 3 - m 0 3 0 2 * m 1 3 1 3 + m 0 3 0 3 * m 1 3 1 2 + m 0 3 1 2 * m 1 3 0 3 - m 0 3 1 3 * m 1 3 0 2 + m 0 3 2 3 * m 1 3 0 1) + x03 * y23 * (m 0 3 0 1 * m 2 3 2 3 - m 0 3 0 2 * m 2 3 1 3 + m 0 3 0 3 * m 2 3 1 2 + m 0 3 1 2 * m 2 3 0 3 - m 0 3 1 3 * m 2 3 0 2 + m 0 3 2 3 * m 2 3 0 1) + x12 * y01 * (m 1 2 0 1 * m 0 1 2 3 - m 1 2 0 2 * m 0 1 1 3 + m 1 2 0 3 * m 0 1 1 2 + m 1 2 1 2 * m 0 1 0 3 - m 1 2 1 3 * m 0 1 0 2 + m 1 2 2 3 * m 0 1 0 1) + x12 * y02 * (m 1 2 0 1 * m 0 2 2 3 - m 1 2 0 2 * m 0 2 1 3 + m 1 2 0 3 * m 0 2 1 2 + m 1 2 1 2 * m 0 2 0 3 - m 1 2 1 3 * m 0 2 0 2 + m 1 2 2 3 * m 0 2 0 1) + x12 * y03 * (m 1 2 0 1 * m 0 3 2 3 - m 1 2 0 2 * m 0 3 1 3 + m 1 2 0 3 * m 0 3 1 2 + m 1 2 1 2 * m 0 3 0 3 - m 1 2 1 3 * m 0 3 0 2 + m 1 2 2 3 * m 0 3 0 1) + x12 * y12 * (m 1 2 0 1 * m 1 2 2 3 - m 1 2 0 2 * m 1 2 1 3 + m 1 2 0 3 * m 1 2 1 2 + m 1 2 1 2 * m 1 2 0 3 - m 1 2 1 3 * m 1 2 0 2 + m 1 2 2 3 * m 1 2 0 1) + x12 * y13 * (m 1 2 0 1 * m 1 3 2 3 - m 1 2 0 2 * m 1 3 1 3 + m 1 2 0 3 * m 1 3 1 2 + m 1 2 1 2 * m 1 3 0 3 - m 1 2 1 3 * m 1 3 0 2 + m 1 2 2 3 * m 1 3 0 1) + x12 * y23 * (m 1 2 0 1 * m 2 3 2 3 - m 1 2 0 2 * m 2 3 1 3 + m 1 2 0 3 * m 2 3 1 2 + m 1 2 1 2 * m 2 3 0 3 - m 1 2 1 3 * m 2 3 0 2 + m 1 2 2 3 * m 2 3 0 1) + x13 * y01 * (m 1 3 0 1 * m 0 1 2 3 - m 1 3 0 2 * m 0 1 1 3 + m 1 3 0 3 * m 0 1 1 2 + m 1 3 1 2 * m 0 1 0 3 - m 1 3 1 3 * m 0 1 0 2 + m 1 3 2 3 * m 0 1 0 1) + x13 * y02 * (m 1 3 0 1 * m 0 2 2 3 - m 1 3 0 2 * m 0 2 1 3 + m 1 3 0 3 * m 0 2 1 2 + m 1 3 1 2 * m 0 2 0 3 - m 1 3 1 3 * m 0 2 0 2 + m 1 3 2 3 * m 0 2 0 1) + x13 * y03 * (m 1 3 0 1 * m 0 3 2 3 - m 1 3 0 2 * m 0 3 1 3 + m 1 3 0 3 * m 0 3 1 2 + m 1 3 1 2 * m 0 3 0 3 - m 1 3 1 3 * m 0 3 0 2 + m 1 3 2 3 * m 0 3 0 1) + x13 * y12 * (m 1 3 0 1 * m 1 2 2 3 - m 1 3 0 2 * m 1 2 1 3 + m 1 3 0 3 * m 1 2 1 2 + m 1 3 1 2 * m 1 2 0 3 - m 1 3 1 3 * m 1 2 0 2 + m 1 3 2 3 * m 1 2 0 1) + x13 * y13 * (m 1 3 0 1 * m 1 3 2 3 - m 1 3 0 2 * m 1 3 1 3 + m 1 3 0 3 * m 1 3 1 2 + m 1 3 1 2 * m 1 3 0 3 - m 1 3 1 3 * m 1 3 0 2 + m 1 3 2 3 * m 1 3 0 1) + x13 * y23 * (m 1 3 0 1 * m 2 3 2 3 - m 1 3 0 2 * m 2 3 1 3 + m 1 3 0 3 * m 2 3 1 2 + m 1 3 1 2 * m 2 3 0 3 - m 1 3 1 3 * m 2 3 0 2 + m 1 3 2 3 * m 2 3 0 1) + x23 * y01 * (m 2 3 0 1 * m 0 1 2 3 - m 2 3 0 2 * m 0 1 1 3 + m 2 3 0 3 * m 0 1 1 2 + m 2 3 1 2 * m 0 1 0 3 - m 2 3 1 3 * m 0 1 0 2 + m 2 3 2 3 * m 0 1 0 1) + x23 * y02 * (m 2 3 0 1 * m 0 2 2 3 - m 2 3 0 2 * m 0 2 1 3 + m 2 3 0 3 * m 0 2 1 2 + m 2 3 1 2 * m 0 2 0 3 - m 2 3 1 3 * m 0 2 0 2 + m 2 3 2 3 * m 0 2 0 1) + x23 * y03 * (m 2 3 0 1 * m 0 3 2 3 - m 2 3 0 2 * m 0 3 1 3 + m 2 3 0 3 * m 0 3 1 2 + m 2 3 1 2 * m 0 3 0 3 - m 2 3 1 3 * m 0 3 0 2 + m 2 3 2 3 * m 0 3 0 1) + x23 * y12 * (m 2 3 0 1 * m 1 2 2 3 - m 2 3 0 2 * m 1 2 1 3 + m 2 3 0 3 * m 1 2 1 2 + m 2 3 1 2 * m 1 2 0 3 - m 2 3 1 3 * m 1 2 0 2 + m 2 3 2 3 * m 1 2 0 1) + x23 * y13 * (m 2 3 0 1 * m 1 3 2 3 - m 2 3 0 2 * m 1 3 1 3 + m 2 3 0 3 * m 1 3 1 2 + m 2 3 1 2 * m 1 3 0 3 - m 2 3 1 3 * m 1 3 0 2 + m 2 3 2 3 * m 1 3 0 1) + x23 * y23 * (m 2 3 0 1 * m 2 3 2 3 - m 2 3 0 2 * m 2 3 1 3 + m 2 3 0 3 * m 2 3 1 2 + m 2 3 1 2 * m 2 3 0 3 - m 2 3 1 3 * m 2 3 0 2 + m 2 3 2 3 * m 2 3 0 1) → L = (x01 * y23 - x02 * y13 + x03 * y12 + x12 * y03 - x13 * y02 + x23 * y01) * D := by
    intro L h
    rw [h, G0101, G0102, G0103, G0112, G0113, G0123, G0201, G0202, G0203, G0212, G0213, G0223, G0301, G0302, G0303, G0312, G0313, G0323, G1201, G1202, G1203, G1212, G1213, G1223, G1301, G1302, G1303, G1312, G1313, G1323, G2301, G2302, G2303, G2312, G2313, G2323]
    clear h G0101 G0102 G0103 G0112 G0113 G0123 G0201 G0202 G0203 G0212 G0213 G0223 G0301 G0302 G0303 G0312 G0313 G0323 G1201 G1202 G1203 G1212 G1213 G1223 G1301 G1302 G1303 G1312 G1313 G1323 G2301 G2302 G2303 G2312 G2313 G2323
    grind
  apply e
  clear G0101 G0102 G0103 G0112 G0113 G0123 G0201 G0202 G0203 G0212 G0213 G0223 G0301 G0302 G0303 G0312 G0313 G0323 G1201 G1202 G1203 G1212 G1213 G1223 G1301 G1302 G1303 G1312 G1313 G1323 G2301 G2302 G2303 G2312 G2313 G2323 e
  grind
theorem detF_mul4 (f g : Nat → Nat → Int) : detF 4 (fun i j => sumZ (fun t => f i t * g t j) 4) = detF 4 f * detF 4 g := by
  have h := six (d2 (f 0 0) (f 0 1) (f 1 0) (f 1 1)) (d2 (f 0 0) (f 0 2) (f 1 0) (f 1 2)) (d2 (f 0 0) (f 0 3) (f 1 0) (f 1 3)) (d2 (f 0 1) (f 0 2) (f 1 1) (f 1 2)) (d2 (f 0 1) (f 0 3) (f 1 1) (f 1 3)) (d2 (f 0 2) (f 0 3) (f 1 2) (f 1 3)) (d2 (f 2 0) (f 2 1) (f 3 0) (f 3 1)) (d2 (f 2 0) (f 2 2) (f 3 0) (f 3 2)) (d2 (f 2 0) (f 2 3) (f 3 0) (f 3 3)) (d2 (f 2 1) (f 2 2) (f 3 1) (f 3 2)) (d2 (f 2 1) (f 2 3) (f 3 1) (f 3 3)) (d2 (f 2 2) (f 2 3) (f 3 2) (f 3 3)) g (fun k l i j => d2 (g k i) (g k j) (g l i) (g l j)) rfl
  rw [detF4_d4, detF4_d4 f, detF4_d4 g]
  refine Eq.trans ?_ h
  unfold d4
  simp only [sumZ, Int.zero_add]
  simp only [d2_mul]
theorem detF_mul (n : Nat) (h1 : 1 ≤ n) (h4 : n ≤ 4) (f g : Nat → Nat → Int) : detF n (fun i j => sumZ (fun t => f i t * g t j) n) = detF n f * detF n g := by
  obtain rfl | rfl | rfl | rfl : n = 1 ∨ n = 2 ∨ n = 3 ∨ n = 4 := by omega
  · simp [detF1, sumZ]
  · simp only [detF2, sumZ, d2]; grind
  · simp only [detF3, sumZ, d3, d2]; grind
  · exact detF_mul4 f g
/-- The sign of a place. -/
def par (m : Nat) : Int := if m % 2 = 1 then -1 else 1
def cofF (n : Nat) (f : Nat → Nat → Int) (i j : Nat) : Int := detF n (fun a b => f (skip (i : Int) a) (skip (j : Int) b))
theorem cof_row4 (f : Nat → Nat → Int) (i j : Nat) (hi : i < 4) (hj : j < 4) : sumZ (fun k => f i k * (par (k + j) * cofF 3 f j k)) 4 = if i = j then detF 4 f else 0 := by
  obtain rfl | rfl | rfl | rfl : i = 0 ∨ i = 1 ∨ i = 2 ∨ i = 3 := by omega
  all_goals
    obtain rfl | rfl | rfl | rfl : j = 0 ∨ j = 1 ∨ j = 2 ∨ j = 3 := by omega
    all_goals
      simp [sumZ, cofF, detF3, detF4, skip, par, d3, d2]
      grind
theorem cof_col4 (f : Nat → Nat → Int) (i j : Nat) (hi : i < 4) (hj : j < 4) : sumZ (fun k => par (i + k) * cofF 3 f k i * f k j) 4 = if i = j then detF 4 f else 0 := by
  obtain rfl | rfl | rfl | rfl : i = 0 ∨ i = 1 ∨ i = 2 ∨ i = 3 := by omega
  all_goals
    obtain rfl | rfl | rfl | rfl : j = 0 ∨ j = 1 ∨ j = 2 ∨ j = 3 := by omega
    all_goals
      simp [sumZ, cofF, detF3, detF4, skip, par, d3, d2]
      grind
theorem cof_row (n : Nat) (h4 : n ≤ 3) (f : Nat → Nat → Int) (i j : Nat) (hi : i < n + 1) (hj : j < n + 1) : sumZ (fun k => f i k * (par (k + j) * cofF n f j k)) (n + 1) = if i = j then detF (n + 1) f else 0 := by
  obtain rfl | rfl | rfl | rfl : n = 0 ∨ n = 1 ∨ n = 2 ∨ n = 3 := by omega
  · obtain rfl : i = 0 := by omega
    obtain rfl : j = 0 := by omega
    simp [sumZ, cofF, detF, sgn, par]
  · obtain rfl | rfl : i = 0 ∨ i = 1 := by omega
    all_goals
      obtain rfl | rfl : j = 0 ∨ j = 1 := by omega
      all_goals
        simp [sumZ, cofF, detF1, detF2, skip, par, d2]
        try grind
  · obtain rfl | rfl | rfl : i = 0 ∨ i = 1 ∨ i = 2 := by omega
    all_goals
      obtain rfl | rfl | rfl : j = 0 ∨ j = 1 ∨ j = 2 := by omega
      all_goals
        simp [sumZ, cofF, detF2, detF3, skip, par, d3, d2]
        try grind
  · exact cof_row4 f i j hi hj
theorem cof_col (n : Nat) (h4 : n ≤ 3) (f : Nat → Nat → Int) (i j : Nat) (hi : i < n + 1) (hj : j < n + 1) : sumZ (fun k => par (i + k) * cofF n f k i * f k j) (n + 1) = if i = j then detF (n + 1) f else 0 := by
  obtain rfl | rfl | rfl | rfl : n = 0 ∨ n = 1 ∨ n = 2 ∨ n = 3 := by omega
  · obtain rfl : i = 0 := by omega
    obtain rfl : j = 0 := by omega
    simp [sumZ, cofF, detF, sgn, par]
  · obtain rfl | rfl : i = 0 ∨ i = 1 := by omega
    all_goals
      obtain rfl | rfl : j = 0 ∨ j = 1 := by omega
      all_goals
        simp [sumZ, cofF, detF1, detF2, skip, par, d2]
        try grind
  · obtain rfl | rfl | rfl : i = 0 ∨ i = 1 ∨ i = 2 := by omega
    all_goals
      obtain rfl | rfl | rfl : j = 0 ∨ j = 1 ∨ j = 2 := by omega
      all_goals
        simp [sumZ, cofF, detF2, detF3, skip, par, d3, d2]
        try grind
  · exact cof_col4 f i j hi hj
end Go.Proofs.Ytldkkfpodldbgaa.Q
namespace Go.Proofs.Ytldkkfpodldbgaa.Q
open Go.RowKit Go.Proofs.Ytldkkfpodldbgaa.P Go.Proofs.YtldkkfpodldbgaaW.PrintWords Go.Proofs.YtldkkfpodldbgaaW.PrintLast Go.Proofs.Ytldkkfpodldbgaa.G
theorem ww (x : Int) : wrap64 (wrap64 x) = wrap64 x := (Cg.w x).eq
theorem prod_len (L M : List (List Int)) : (prodL L M).length = L.length := rowsOf_length _ _ _
theorem trans_len (L : List (List Int)) : (transL L).length = L.length := rowsOf_length _ _ _
theorem at2_trans {L : List (List Int)} {i j : Nat} (hi : i < L.length) (hj : j < L.length) : at2 (transL L) i j = at2 L j i := by
  unfold transL
  rw [at2_rowsOf hi hj]
theorem prod_trans {M N : List (List Int)} (e : M.length = N.length) : prodL (transL N) (transL M) = transL (prodL M N) := by
  have hk : ∀ i j, i < M.length → j < M.length → ∀ k, k ≤ M.length → dotK (transL N) (transL M) i j k = dotK M N j i k := by
    intro i j hi hj k
    induction k with
    | zero => intro _; rfl
    | succ k ih =>
      intro hk
      show wrap64 (dotK (transL N) (transL M) i j k + wrap64 (at2 (transL N) i k * at2 (transL M) k j)) = wrap64 (dotK M N j i k + wrap64 (at2 M j k * at2 N k i))
      rw [ih (by omega), at2_trans (by omega) (by omega), at2_trans (by omega) (by omega), Int.mul_comm]
  show rowsOf _ (transL N).length (transL N).length = rowsOf _ (prodL M N).length (prodL M N).length
  rw [trans_len, prod_len, ← e]
  refine rowsOf_congr fun i j hi hj => ?_
  rw [hk i j hi hj _ (Nat.le_refl _)]
  unfold prodL
  rw [at2_rowsOf hj hi]
theorem trK_cg (L : List (List Int)) : ∀ k, Cg (trK L k) (sumZ (fun i => at2 L i i) k)
  | 0 => Cg.refl _
  | k + 1 => (Cg.w _).trans ((trK_cg L k).add (Cg.refl _))
theorem trK_ww (L : List (List Int)) : ∀ k, trK L k = wrap64 (trK L k)
  | 0 => (w64 (x := 0) (by omega) (by omega)).symm
  | k + 1 => (ww _).symm
theorem trace_comm {M N : List (List Int)} (e : M.length = N.length) : trK (prodL M N) (prodL M N).length = trK (prodL N M) (prodL N M).length := by
  rw [prod_len, prod_len, ← e, trK_ww (prodL M N), trK_ww (prodL N M)]
  refine Cg.eq ?_
  have h1 : Cg (trK (prodL M N) M.length) (sumZ (fun i => sumZ (fun t => at2 M i t * at2 N t i) M.length) M.length) :=
    (trK_cg _ _).trans (Cg.sum _ fun i hi => prod_cg M N hi hi)
  have h2 : Cg (trK (prodL N M) M.length) (sumZ (fun i => sumZ (fun t => at2 N i t * at2 M t i) M.length) M.length) :=
    (trK_cg _ _).trans (Cg.sum _ fun i hi => by rw [e]; exact prod_cg N M (by omega) (by omega))
  refine h1.trans (Cg.trans (.of_eq ?_) h2.symm)
  rw [sumZ_swap (fun t i => at2 M i t * at2 N t i)]
  exact sumZ_congr _ fun i _ => sumZ_congr _ fun t _ => Int.mul_comm _ _
theorem detN_ww {n : Nat} (h1 : 1 ≤ n) (L : List (List Int)) : detN n L = wrap64 (detN n L) := by
  obtain ⟨m, rfl⟩ : ∃ m, n = m + 1 := ⟨n - 1, by omega⟩
  exact (ww _).symm
theorem det_prod {M N : List (List Int)} (e : M.length = N.length) (h1 : 1 ≤ M.length) (h4 : M.length ≤ 4) : detN (prodL M N).length (prodL M N) = wrap64 (detN M.length M * detN N.length N) := by
  rw [prod_len, ← e, detN_ww h1 (prodL M N)]
  refine Cg.eq ((detN_cg _ _ (prod_len M N)).trans ((detF_cg _ fun i j hi hj => prod_cg M N hi hj).trans ?_))
  rw [detF_mul M.length h1 h4]
  exact ((detN_cg _ _ rfl).mul (detN_cg _ _ e.symm)).symm
theorem inv_cg {L : List (List Int)} {d : Int} {i j : Nat} (hi : i < L.length) (hj : j < L.length) : Cg (at2 (invL L d) i j) (d * (par (i + j) * cofF (L.length - 1) (at2 L) j i)) := by
  have hm : Cg (detN (L.length - 1) (minorL L (j : Int) (i : Int))) (cofF (L.length - 1) (at2 L) j i) := by
    refine (detN_cg _ _ (by rw [minor_len])).trans (detF_cg _ fun a b ha hb => ?_)
    unfold minorL
    rw [at2_rowsOf ha hb]
    exact Cg.refl _
  unfold invL invAt par
  rw [at2_rowsOf hi hj]
  by_cases hp : (i + j) % 2 = 1
  · rw [if_pos hp, if_pos hp]
    refine (Cg.w _).trans ((Cg.w _).neg.trans (((Cg.refl d).mul hm).neg.trans (.of_eq ?_)))
    grind
  · rw [if_neg hp, if_neg hp]
    refine (Cg.w _).trans (((Cg.refl d).mul hm).trans (.of_eq ?_))
    grind
theorem inv_len (L : List (List Int)) (d : Int) : (invL L d).length = L.length := rowsOf_length _ _ _
/-- A matrix whose entries come to those of the unit matrix. -/
theorem prod_unit {L M : List (List Int)} (h : ∀ i j, i < L.length → j < L.length → Cg (sumZ (fun t => at2 L i t * at2 M t j) L.length) (if i = j then 1 else 0)) : prodL L M = unitL L.length := by
  show rowsOf _ L.length L.length = rowsOf _ L.length L.length
  refine rowsOf_congr fun i j hi hj => ?_
  rw [dotK_w, (h i j hi hj).eq]
  split
  · exact w64 (by omega) (by omega)
  · exact w64 (by omega) (by omega)
theorem det_sq {L : List (List Int)} {n : Nat} {d : Int} (eL : L.length = n) (hd : detN n L = d) (h1 : d = 1 ∨ d = -1) : Cg (d * detF n (at2 L)) 1 := by
  refine ((Cg.refl d).mul (detN_cg n L eL).symm).trans (.of_eq ?_)
  rw [hd]
  obtain rfl | rfl := h1 <;> rfl
theorem inv_right {L : List (List Int)} {d : Int} (h1 : 1 ≤ L.length) (h4 : L.length ≤ 4) (hd : detN L.length L = d) (h2 : d = 1 ∨ d = -1) : prodL L (invL L d) = unitL L.length := by
  obtain ⟨m, em⟩ : ∃ m, L.length = m + 1 := ⟨L.length - 1, by omega⟩
  refine prod_unit fun i j hi hj => ?_
  have hc := cof_row m (by omega) (at2 L) i j (by omega) (by omega)
  refine (Cg.sum _ fun t ht => (Cg.refl (at2 L i t)).mul (inv_cg (d := d) ht hj)).trans ?_
  have e1 : sumZ (fun t => at2 L i t * (d * (par (t + j) * cofF (L.length - 1) (at2 L) j t))) L.length = d * sumZ (fun k => at2 L i k * (par (k + j) * cofF m (at2 L) j k)) (m + 1) := by
    rw [← sumZ_mul_left, em]
    exact sumZ_congr _ fun t _ => by rw [show m + 1 - 1 = m from rfl]; grind
  rw [e1, hc]
  have hs := det_sq em (by rw [← em]; exact hd) h2
  by_cases hij : i = j
  · rw [if_pos hij, if_pos hij]
    exact hs
  · rw [if_neg hij, if_neg hij, Int.mul_zero]
    exact Cg.refl _
theorem inv_left {L : List (List Int)} {d : Int} (h1 : 1 ≤ L.length) (h4 : L.length ≤ 4) (hd : detN L.length L = d) (h2 : d = 1 ∨ d = -1) : prodL (invL L d) L = unitL L.length := by
  obtain ⟨m, em⟩ : ∃ m, L.length = m + 1 := ⟨L.length - 1, by omega⟩
  rw [← inv_len L d]
  refine prod_unit fun i j hi hj => ?_
  rw [inv_len] at hi hj ⊢
  have hc := cof_col m (by omega) (at2 L) i j (by omega) (by omega)
  refine (Cg.sum _ fun t ht => (inv_cg (d := d) hi ht).mul (Cg.refl (at2 L t j))).trans ?_
  have e1 : sumZ (fun t => d * (par (i + t) * cofF (L.length - 1) (at2 L) t i) * at2 L t j) L.length = d * sumZ (fun k => par (i + k) * cofF m (at2 L) k i * at2 L k j) (m + 1) := by
    rw [← sumZ_mul_left, em]
    exact sumZ_congr _ fun t _ => by rw [show m + 1 - 1 = m from rfl]; grind
  rw [e1, hc]
  have hs := det_sq em (by rw [← em]; exact hd) h2
  by_cases hij : i = j
  · rw [if_pos hij, if_pos hij]
    exact hs
  · rw [if_neg hij, if_neg hij, Int.mul_zero]
    exact Cg.refl _
end Go.Proofs.Ytldkkfpodldbgaa.Q
namespace Go.Proofs.Ytldkkfpodldbgaa.Q
open Go.RowKit Go.Proofs.Ytldkkfpodldbgaa.P Go.Proofs.YtldkkfpodldbgaaW.PrintWords Go.Proofs.YtldkkfpodldbgaaW.PrintLast Go.Proofs.Ytldkkfpodldbgaa.G

theorem foSmall_l0 {L : List (List Int)} (hL : Fits L) (m : Int) (d : Nat) : ∀ i : Nat, i + d = L.length → Ev (fun k => spec_foSmall.l0 k m L (L.length : Int) (i : Int)) ((L.drop i).all (isLow m)) := by
  have hl := hL.1
  induction d with
  | zero =>
    intro i hi
    refine Ev_succ ?_
    simp only [spec_foSmall.l0]
    rw [List.drop_of_length_le (by omega)]
    exact Ev_false (by omega) Ev_some
  | succ d ih =>
    intro i hi
    have h1 : i < L.length := by omega
    have hxi := hL.2 _ (List.getElem_mem h1)
    refine Ev_succ ?_
    simp only [spec_foSmall.l0]
    rw [rdRow h1, w64 (x := (i : Int) + 1) (by omega) (by omega), List.drop_eq_getElem_cons h1, List.all_cons]
    refine Ev_true (by omega) (Ev_true (by omega) (Ev_true (by omega) ?_))
    refine Ev.bind (l1All_ev (l := L[i]) (by omega) (wrap64 (-m)) m) ?_
    unfold isLow
    cases hb : L[i].all (inB (wrap64 (-m)) m) with
    | true => exact Ev_true rfl (ih (i + 1) (by omega))
    | false => exact Ev_false (by simp) Ev_some
theorem foSmall_ev {L : List (List Int)} (hL : Fits L) (m : Int) : Ev (fun k => spec_foSmall.f k L m) (isMat L && L.all (isLow m)) := by
  unfold spec_foSmall.f
  refine Ev.bind (foGood_ev hL) ?_
  cases hb : isMat L with
  | true => exact Ev_true rfl (foSmall_l0 hL m L.length 0 (by omega))
  | false => exact Ev_false (by simp) Ev_some
end Go.Proofs.Ytldkkfpodldbgaa.Q
namespace Go.Proofs.Ytldkkfpodldbgaa.Q
open Go.RowKit Go.Proofs.Ytldkkfpodldbgaa.P Go.Proofs.YtldkkfpodldbgaaW.PrintWords Go.Proofs.YtldkkfpodldbgaaW.PrintLast Go.Proofs.Ytldkkfpodldbgaa.G
def alikeB (L M : List (List Int)) : Bool := isMat L && (isMat M && decide (L.length = M.length))
theorem alikeB_iff {L M : List (List Int)} : alikeB L M = true ↔ isMat L = true ∧ isMat M = true ∧ L.length = M.length := by
  simp [alikeB]
theorem areAlike_eq (L M : List (List Int)) : impl_areAlike.f L M = some (alikeB L M) := by
  unfold impl_areAlike.f impl_IsMatrix.f impl_Matrix_size.f alikeB
  simp only [Option.bind_some]
  cases isMat L <;> cases isMat M <;> simp
  by_cases h : L.length = M.length
  · simp [h]
  · simp [h]
    omega
def multR (L M : List (List Int)) : List (List Int) × Bool := if alikeB L M = true then (if isMat (prodL L M) = true then (prodL L M, true) else ([], false)) else ([], false)
theorem multR_sq (L M : List (List Int)) : isSq (multR L M).1 = true ∨ (multR L M).1 = [] := by
  unfold multR
  by_cases h : alikeB L M = true
  · rw [if_pos h]
    by_cases h2 : isMat (prodL L M) = true
    · rw [if_pos h2]
      exact .inl (isMat_sq h2)
    · rw [if_neg h2]
      exact .inr rfl
  · rw [if_neg h]
    exact .inr rfl
theorem foPair_ev {L M : List (List Int)} (hL : Fits L) (hM : Fits M) : Ev (fun k => spec_foPair.f k L M) (alikeB L M) := by
  unfold spec_foPair.f alikeB
  refine Ev.bind (foGood_ev hL) ?_
  cases isMat L with
  | false => exact Ev_false (by simp) Ev_some
  | true =>
    refine Ev_true rfl (Ev.bind (foGood_ev hM) ?_)
    cases isMat M with
    | false => exact Ev_false (by simp) Ev_some
    | true =>
      refine Ev_true rfl ?_
      have h : ((L.length : Int) == (M.length : Int)) = (true && (true && decide (L.length = M.length))) := by
        by_cases h : L.length = M.length
        · simp [h]
        · simp [h]
          omega
      rw [h]
      exact Ev_some
theorem foMult_ev {L M : List (List Int)} (hL : Fits L) (hM : Fits M) : Ev (fun k => spec_MultiplyMatrices.f k L M) (multR L M) := by
  unfold spec_MultiplyMatrices.f multR
  refine Ev.bind (foPair_ev hL hM) ?_
  by_cases h : alikeB L M = true
  · rw [if_pos h]
    obtain ⟨h1, h2, h3⟩ := alikeB_iff.1 h
    refine Ev_true h (Ev.bind (foTimes_ev (isMat_sq h1) (isMat_sq h2) h3) ?_)
    have hs : isSq (prodL L M) = true := isSq_rowsOf _ (isSq_le (isMat_sq h1))
    unfold spec_foIf.f
    by_cases h4 : isMat (prodL L M) = true
    · rw [if_pos h4]
      exact Ev.bind (a := (prodL L M, true)) (Ev.bind (foGood_ev (fits_sq hs)) (Ev_true h4 Ev_some)) Ev_some
    · rw [if_neg h4]
      exact Ev.bind (a := (([] : List (List Int)), false)) (Ev.bind (foGood_ev (fits_sq hs)) (Ev_false h4 Ev_some)) Ev_some
  · rw [if_neg h]
    exact Ev_false h Ev_some
end Go.Proofs.Ytldkkfpodldbgaa.Q
namespace Go.Proofs.Ytldkkfpodldbgaa.Q
open Go.RowKit Go.Proofs.Ytldkkfpodldbgaa.P Go.Proofs.YtldkkfpodldbgaaW.PrintWords Go.Proofs.YtldkkfpodldbgaaW.PrintLast Go.Proofs.Ytldkkfpodldbgaa.G

theorem l1Own_eq {l : List Int} (h : l.length < 17592186044416) : spec_l1Own.f l = some l := by
  unfold spec_l1Own.f
  simp only [Option.bind_some, List.length_nil, Nat.zero_add, List.nil_append]
  rw [if_pos h]
theorem at2_row {L : List (List Int)} {i b : Nat} (h : b < (rd_L1 L (i : Int)).length) : (rd_L1 L (i : Int))[b] = at2 L i b := by rw [← rd2, rd_at h]
theorem cut_row {L : List (List Int)} {n : Nat} (hL : isSq L = true) (eL : L.length = n) {i q : Nat} (hi : i < n) (hq : q < n) :
    (rd_L1 L (i : Int)).take q ++ (rd_L1 L (i : Int)).drop (q + 1) = (List.range (n - 1)).map (fun b => at2 L i (skip (q : Int) b)) := by
  have hr := row_len hL eL hi
  apply List.ext_getElem
  · simp only [List.length_append, List.length_take, List.length_drop, List.length_map, List.length_range, hr]
    omega
  · intro b h1 h2
    rw [List.length_map, List.length_range] at h2
    rw [List.getElem_append]
    simp only [List.getElem_map, List.getElem_range]
    split
    · rename_i hb
      rw [List.length_take] at hb
      rw [List.getElem_take, at2_row, show skip (q : Int) b = b from by unfold skip; rw [if_neg (by omega)]]
    · rename_i hb
      rw [List.length_take, hr] at hb
      rw [List.getElem_drop]
      have e : q + 1 + (b - ((rd_L1 L (i : Int)).take q).length) = b + 1 := by rw [List.length_take, hr]; omega
      simp only [e]
      rw [at2_row, show skip (q : Int) b = b + 1 from by unfold skip; rw [if_pos (by omega)]]
theorem foMinor_l0 {L : List (List Int)} {n : Nat} (hn : n ≤ 1000) (hL : isSq L = true) (eL : L.length = n) {r q : Nat} (hr : r < n) (hq : q < n) (d : Nat) :
    ∀ i : Nat, i + d = n → Ev (fun k => spec_foMinor.l0 k (r : Int) (q : Int) (rowsOf (fun i j => at2 L (skip (r : Int) i) (skip (q : Int) j)) (n - 1) (if i ≤ r then i else i - 1)) L (n : Int) (i : Int)) (minorL L r q) := by
  induction d with
  | zero =>
    intro i hi
    obtain rfl : i = n := by omega
    refine Ev_succ ?_
    simp only [spec_foMinor.l0]
    rw [if_neg (show ¬ i ≤ r by omega)]
    unfold minorL
    rw [eL]
    exact Ev_false (by omega) Ev_some
  | succ d ih =>
    intro i hi
    have hi' : i < n := by omega
    have hrl := row_len hL eL hi'
    refine Ev_succ ?_
    simp only [spec_foMinor.l0]
    rw [w64 (x := (i : Int) + 1) (by omega) (by omega), w64 (x := (q : Int) + 1) (by omega) (by omega), eL]
    refine Ev_true (by omega) (Ev_true (by omega) (Ev_true (by omega) ?_))
    have h := ih (i + 1) (by omega)
    by_cases he : i = r
    · rw [if_neg (show ¬ i + 1 ≤ r by omega)] at h
      rw [if_pos (show i ≤ r by omega)]
      exact Ev_true (by omega) h
    · refine Ev_false (by omega) (Ev_true (by omega) (Ev_true (by omega) ?_))
      rw [show ((q : Int) + 1).toNat = q + 1 from by omega, Int.toNat_natCast, l1Own_eq (by rw [List.length_take]; omega)]
      simp only [Option.bind_some]
      rw [cut_row hL eL hi' hq]
      refine Ev_true (by omega) (Ev_true (by omega) (Ev_true (by rw [List.length_take, List.length_drop]; omega) (Ev_true (by rw [rowsOf_length]; split <;> omega) ?_)))
      have e : rowsOf (fun i j => at2 L (skip (r : Int) i) (skip (q : Int) j)) (n - 1) (if i ≤ r then i else i - 1) ++ [(List.range (n - 1)).map (fun b => at2 L i (skip (q : Int) b))] =
          rowsOf (fun i j => at2 L (skip (r : Int) i) (skip (q : Int) j)) (n - 1) (if i + 1 ≤ r then i + 1 else i + 1 - 1) := by
        by_cases hc : i < r
        · rw [if_pos (show i ≤ r by omega), if_pos (show i + 1 ≤ r by omega), rowsOf_succ]
          congr 2
          unfold rowOf
          dsimp only
          rw [show skip (r : Int) i = i from by unfold skip; rw [if_neg (by omega)]]
        · rw [if_neg (show ¬ i ≤ r by omega), if_neg (show ¬ i + 1 ≤ r by omega), show i + 1 - 1 = (i - 1) + 1 by omega, rowsOf_succ]
          congr 2
          unfold rowOf
          dsimp only
          rw [show skip (r : Int) (i - 1) = i from by unfold skip; rw [if_pos (by omega)]; omega]
      rw [e]
      exact h
theorem foMinor_ev {L : List (List Int)} (hL : isSq L = true) {r q : Nat} (hr : r < L.length) (hq : q < L.length) : Ev (fun k => spec_foMinor.f k L (r : Int) (q : Int)) (minorL L r q) := by
  unfold spec_foMinor.f
  have h := foMinor_l0 (isSq_le hL) hL rfl hr hq L.length 0 (by omega)
  rw [if_pos (Nat.zero_le _)] at h
  exact h
theorem foDet_l0 {L : List (List Int)} {n : Nat} (hn : n + 1 ≤ 1000) (hL : isSq L = true) (eL : L.length = n + 1) (D : List (List Int) → Int)
    (hD : ∀ M, isSq M = true → M.length = n → Ev (fun k => spec_foDeterminant.f k M) (D M)) (d : Nat) :
    ∀ j : Nat, j + d = n + 1 → Ev (fun k => spec_foDeterminant.l0 k L (detS D L j) (sgn j) (rd_L1 L 0) ((n + 1 : Nat) : Int) (j : Int)) (detS D L (n + 1)) := by
  induction d with
  | zero =>
    intro j hj
    obtain rfl : j = n + 1 := by omega
    refine Ev_succ ?_
    simp only [spec_foDeterminant.l0]
    exact Ev_false (by omega) Ev_some
  | succ d ih =>
    intro j hj
    refine Ev_succ ?_
    simp only [spec_foDeterminant.l0]
    rw [row_len0 hL eL (by omega), w64 (x := (j : Int) + 1) (by omega) (by omega), rd2_0, sgn_next]
    refine Ev_true (by omega) (Ev_true (by omega) (Ev_true (by omega) (Ev.bind (foMinor_ev (r := 0) (q := j) hL (by omega) (by omega)) (Ev.bind (hD _ (minor_sq hL _ _) (by rw [minor_len]; omega)) ?_))))
    exact ih (j + 1) (by omega)
theorem foDet_ev : ∀ (n : Nat) (L : List (List Int)), n ≤ 1000 → isSq L = true → L.length = n → Ev (fun k => spec_foDeterminant.f k L) (detN n L)
  | 0, L, _, hL, eL => by
    refine Ev_succ ?_
    simp only [spec_foDeterminant.f]
    rw [eL]
    exact Ev_true rfl Ev_some
  | n + 1, L, hn, hL, eL => by
    refine Ev_succ ?_
    simp only [spec_foDeterminant.f]
    rw [eL, row_len0 hL eL (by omega)]
    refine Ev_false (by omega) (Ev_true (by omega) ?_)
    exact foDet_l0 hn hL eL (detN n) (fun M hM eM => foDet_ev n M (by omega) hM eM) (n + 1) 0 (by omega)
end Go.Proofs.Ytldkkfpodldbgaa.Q
namespace Go.Proofs.Ytldkkfpodldbgaa.Q
open Go.RowKit Go.Proofs.Ytldkkfpodldbgaa.P Go.Proofs.YtldkkfpodldbgaaW.PrintWords Go.Proofs.YtldkkfpodldbgaaW.PrintLast Go.Proofs.Ytldkkfpodldbgaa.G
theorem foIf_ev {L : List (List Int)} (hL : Fits L) : Ev (fun k => spec_foIf.f k L) (if isMat L = true then (L, true) else ([], false)) := by
  unfold spec_foIf.f
  by_cases h : isMat L = true
  · rw [if_pos h]
    exact Ev.bind (foGood_ev hL) (Ev_true h Ev_some)
  · rw [if_neg h]
    exact Ev.bind (foGood_ev hL) (Ev_false h Ev_some)
theorem par_cast (i j : Nat) (hi : i ≤ 1000) (hj : j ≤ 1000) : Int.tmod (wrap64 ((i : Int) + (j : Int))) 2 = (((i + j) % 2 : Nat) : Int) := by
  rw [show wrap64 ((i : Int) + (j : Int)) = ((i + j : Nat) : Int) from (w64 (by omega) (by omega)).trans (by omega), Int.tmod_eq_emod_of_nonneg (by omega)]
  omega
theorem inv_l1 {L : List (List Int)} {n : Nat} (hn : n ≤ 1000) (hL : isSq L = true) (eL : L.length = n) (D : Int) {i : Nat} (hi : i < n) {r : List (List Int) × Bool} (d : Nat) :
    ∀ j : Nat, j + d = n → Ev (fun k => spec_InverseOf.l0 k D (n : Int) ((i + 1 : Nat) : Int) L (rowsOf (fun a b => stage (fun a b => invAt L D b a) (i + 1) 0 b a) n n)) r →
      Ev (fun k => spec_InverseOf.l1 k D (i : Int) (n : Int) (i : Int) (n : Int) (j : Int) L (rowsOf (fun a b => stage (fun a b => invAt L D b a) i j b a) n n)) r := by
  induction d with
  | zero =>
    intro j hj h
    obtain rfl : j = n := by omega
    refine Ev_succ ?_
    simp only [spec_InverseOf.l1]
    have e : rowsOf (fun a b => stage (fun a b => invAt L D b a) i j b a) j j = rowsOf (fun a b => stage (fun a b => invAt L D b a) (i + 1) 0 b a) j j := rowsOf_congr fun a b ha _ => by
      unfold stage
      by_cases h : b < i ∨ (b = i ∧ a < j)
      · rw [if_pos h, if_pos (by omega)]
      · rw [if_neg h, if_neg (by omega)]
    rw [w64 (x := (i : Int) + 1) (by omega) (by omega), e]
    exact Ev_false (by omega) h
  | succ d ih =>
    intro j hj h
    have hmin := foMinor_ev (L := L) (r := i) (q := j) hL (by omega) (by omega)
    have hdet := foDet_ev (n - 1) (minorL L (i : Int) (j : Int)) (by omega) (minor_sq hL _ _) (by rw [minor_len, eL])
    have hin : invAt L D j i = if (i + j) % 2 = 1 then wrap64 (-(wrap64 (D * detN (n - 1) (minorL L (i : Int) (j : Int))))) else wrap64 (D * detN (n - 1) (minorL L (i : Int) (j : Int))) := by
      unfold invAt
      rw [eL, Nat.add_comm j i]
    have hset : ∀ v : Int, v = invAt L D j i → (rowsOf (fun a b => stage (fun a b => invAt L D b a) i j b a) n n).set j ((rowOf (fun a b => stage (fun a b => invAt L D b a) i j b a) j n).set i v) = rowsOf (fun a b => stage (fun a b => invAt L D b a) i (j + 1) b a) n n := by
      rintro v rfl
      rw [rowsOf_set]
      congr 1
      funext a b
      unfold upd stage
      by_cases h : a = j ∧ b = i
      · rw [if_pos h, if_pos (by omega), h.1, h.2]
      · rw [if_neg h]
        show (if b < i ∨ (b = i ∧ a < j) then invAt L D a b else 0) = if b < i ∨ (b = i ∧ a < j + 1) then invAt L D a b else 0
        by_cases h2 : b < i ∨ (b = i ∧ a < j)
        · rw [if_pos h2, if_pos (by omega)]
        · rw [if_neg h2, if_neg (by omega)]
    refine Ev_succ ?_
    simp only [spec_InverseOf.l1]
    rw [rdRow_rowsOf (by omega), rowsOf_length, rowOf_length, Int.toNat_natCast, Int.toNat_natCast, par_cast i j (by omega) (by omega), w64 (x := (j : Int) + 1) (by omega) (by omega)]
    refine Ev_true (by omega) (Ev.bind hmin (Ev.bind hdet ?_))
    have hnext := ih (j + 1) (by omega) h
    by_cases hp : (i + j) % 2 = 1
    · rw [if_pos hp] at hin
      rw [hset _ hin.symm]
      exact Ev_true (by omega) (Ev_true (by omega) (Ev_true (by omega) (Ev_true (by omega) (Ev_true (by omega) hnext))))
    · rw [if_neg hp] at hin
      rw [hset (wrap64 (D * detN (n - 1) (minorL L (i : Int) (j : Int)))) hin.symm]
      exact Ev_false (by omega) (Ev_true (by omega) (Ev_true (by omega) (Ev_true (by omega) (Ev_true (by omega) hnext))))
theorem inv_l0 {L : List (List Int)} {n : Nat} (hn : n ≤ 1000) (hL : isSq L = true) (eL : L.length = n) (D : Int) (d : Nat) :
    ∀ i : Nat, i + d = n → Ev (fun k => spec_InverseOf.l0 k D (n : Int) (i : Int) L (rowsOf (fun a b => stage (fun a b => invAt L D b a) i 0 b a) n n)) (if isMat (rowsOf (invAt L D) n n) = true then (rowsOf (invAt L D) n n, true) else ([], false)) := by
  induction d with
  | zero =>
    intro i hi
    obtain rfl : i = n := by omega
    refine Ev_succ ?_
    simp only [spec_InverseOf.l0]
    have e : rowsOf (fun a b => stage (fun a b => invAt L D b a) i 0 b a) i i = rowsOf (invAt L D) i i := rowsOf_congr fun a b _ hb => by
      unfold stage
      rw [if_pos (.inl hb)]
    rw [e]
    refine Ev_false (by omega) ?_
    exact Ev.bind (f := fun _ (t : List (List Int) × Bool) => some (t.1, t.2)) (foIf_ev (fits_sq (isSq_rowsOf _ hn))) Ev_some
  | succ d ih =>
    intro i hi
    refine Ev_succ ?_
    simp only [spec_InverseOf.l0]
    rw [eL]
    refine Ev_true (by omega) ?_
    exact inv_l1 hn hL eL D (by omega) n 0 (by omega) (ih (i + 1) (by omega))
theorem specInv_ev {L : List (List Int)} (hL : Fits L) : Ev (fun k => spec_InverseOf.f k L) (invR L) := by
  unfold spec_InverseOf.f invR
  refine Ev.bind (foSmall_ev hL 1000) ?_
  by_cases hm : isMat L = true
  · rw [if_pos hm]
    have hs := isMat_sq hm
    have hn := isSq_le hs
    by_cases hl : L.all (isLow 1000) = true
    · rw [if_pos hl]
      refine Ev_true (by rw [hm, hl]; rfl) (Ev.bind (foDet_ev L.length L hn hs rfl) ?_)
      have hgo : (detN L.length L = 1 ∨ detN L.length L = -1) → Ev (fun k => spec_InverseOf.j0 k (detN L.length L) false L) (if isMat (invL L (detN L.length L)) = true then (invL L (detN L.length L), true) else ([], false)) := by
        intro _
        refine Ev_succ ?_
        simp only [spec_InverseOf.j0]
        refine Ev_false (by simp) (Ev.bind (foZero_ev hn) ?_)
        have e : rowsOf (fun _ _ => 0) L.length L.length = rowsOf (fun a b => stage (fun a b => invAt L (detN L.length L) b a) 0 0 b a) L.length L.length := rowsOf_congr fun a b _ _ => by
          unfold stage
          rw [if_neg (by omega)]
        rw [e]
        exact inv_l0 hn hs rfl _ L.length 0 (by omega)
      have hno : Ev (fun k => spec_InverseOf.j0 k (detN L.length L) true L) ([], false) := by
        refine Ev_succ ?_
        simp only [spec_InverseOf.j0]
        exact Ev_true trivial Ev_some
      by_cases h1 : detN L.length L = 1
      · rw [if_pos (.inl h1)]
        exact Ev_true h1 (hgo (.inl h1))
      · refine Ev_false h1 ?_
        by_cases h2 : detN L.length L = -1
        · rw [if_pos (.inr h2), show (detN L.length L != -1) = false from bne_eq_false_iff_eq.mpr h2]
          exact hgo (.inr h2)
        · rw [if_neg (by omega), show (detN L.length L != -1) = true from bne_iff_ne.mpr h2]
          exact hno
    · rw [if_neg hl]
      exact Ev_false (by rw [hm, Bool.eq_false_iff.2 hl]; simp) Ev_some
  · rw [if_neg hm]
    exact Ev_false (by rw [Bool.eq_false_iff.2 hm]; simp) Ev_some
theorem invR_sq (L : List (List Int)) : isSq (invR L).1 = true ∨ (invR L).1 = [] := by
  unfold invR
  split
  · split
    · split
      · split
        · rename_i h
          exact .inl (isMat_sq h)
        · exact .inr rfl
      · exact .inr rfl
    · exact .inr rfl
  · exact .inr rfl
end Go.Proofs.Ytldkkfpodldbgaa.Q
namespace Go.Proofs.Ytldkkfpodldbgaa.Q
open Go.RowKit Go.Proofs.Ytldkkfpodldbgaa.P Go.Proofs.YtldkkfpodldbgaaW.PrintWords Go.Proofs.YtldkkfpodldbgaaW.PrintLast Go.Proofs.Ytldkkfpodldbgaa.G

def determinantR (L : List (List Int)) : Int × Bool := if (isMat L && L.all (isLow 1000)) = true then (detN L.length L, true) else (0, false)
theorem determinantOf_ev (L : List (List Int)) : Ev (fun k => impl_DeterminantOf.f k L) (determinantR L) := by
  unfold impl_DeterminantOf.f determinantR impl_IsMatrix.f impl_Matrix_isSmall.f
  simp only [Option.bind_some]
  by_cases hm : isMat L = true
  · have h4 := isMat_len hm
    by_cases hs : L.all (isLow 1000) = true
    · rw [hm, hs, if_pos (by rfl)]
      exact Ev_true rfl (Ev_true rfl (Ev.bind (f := fun _ t => some (t, true)) (det_ev L.length L (by omega) (isMat_sq hm) rfl) Ev_some))
    · rw [hm, Bool.eq_false_iff.2 hs, if_neg (by simp)]
      exact Ev_true rfl (Ev_false (by simp) Ev_some)
  · rw [Bool.eq_false_iff.2 hm, if_neg (by simp)]
    exact Ev_false (by simp) Ev_some
end Go.Proofs.Ytldkkfpodldbgaa.Q

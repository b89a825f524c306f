/- impl.made, by hand: what all its closures share. -/
import Derived.Test.YtbchhpplglllmaaGSame
namespace Go.Proofs.Ytbchhpplglllmaa.G
open Go.RowKit Go.Proofs.YtbchhpplglllmaaW.PrintWords Go.Proofs.YtbchhpplglllmaaW.PrintLast Go.Proofs.YtbchhpplglllmaaW.PrintMore
set_option linter.unusedVariables false
set_option linter.unusedSimpArgs false

theorem rinfo : (Try.prog.info? 35).map (fun i => (i.zero, i.size, i.bytes)) = some (some (.slice none 0 0), 1, 24) := by kernel_rfl
theorem iinfo : (Try.prog.info? 3).map (fun i => (i.zero, i.size, i.bytes)) = some (some (.int .i64 0), 1, 8) := by kernel_rfl
def rowOf (g : Nat → Nat → Int) (i m : Nat) : List Int := (List.range m).map (g i)
def rowsOf (g : Nat → Nat → Int) (n m : Nat) : List (List Int) := (List.range m).map fun i => rowOf g i n
theorem rowOf_succ (g : Nat → Nat → Int) (i m : Nat) : rowOf g i (m + 1) = rowOf g i m ++ [g i m] := by simp [rowOf, List.range_succ]
theorem rowsOf_succ (g : Nat → Nat → Int) (n m : Nat) : rowsOf g n (m + 1) = rowsOf g n m ++ [rowOf g m n] := by simp [rowsOf, List.range_succ]
theorem rowOf_length (g : Nat → Nat → Int) (i m : Nat) : (rowOf g i m).length = m := by simp [rowOf]
theorem rowsOf_length (g : Nat → Nat → Int) (n m : Nat) : (rowsOf g n m).length = m := by simp [rowsOf]

theorem R_empty (W : World) (base : Nat) (ok : Nat → Prop) (hb : base ≤ W.heap.size) (hok : ok W.heap.size) :
    Kd.R (Kd.int .i64) 3 (W.alloc (.cells #[] 3)) base ok (.slice (some ⟨W.heap.size, 0, none⟩) 0 0) [] := by
  have h := own_lit W base 3 .i64 [] hb (by simp)
  refine Kd.R_of_own (xs := []) h (fun k hk => ?_)
  have : W.heap.size = k := by simpa [Value.ownBlock] using hk
  rw [← this]
  exact hok

/-- What stands while rows are made: the result's block, the variable's block with its rows, all below the bound N0. -/
structure MInv (w : World) (N0 : Nat) (rows : List (List Int)) (u : Value) (W : World) : Prop where
  b0 : W.heap[w.heap.size]? = some (.cells #[.slice none 0 0] 27 (0, 0))
  b1 : W.heap[w.heap.size + 1]? = some (.cells #[u] 27 (0, 0))
  s : Kd.S (Kd.slice 3 (Kd.int .i64)) 35 W w.heap.size (fun k => (k ≠ w.heap.size ∧ k ≠ w.heap.size + 1) ∧ k < N0) u rows
  b : Below w.heap.size w W
  n : w.heap.size + 2 ≤ N0
  h : N0 ≤ W.heap.size
theorem MInv.below {w W W1 : World} {N0 : Nat} {rows : List (List Int)} {u : Value} (h : MInv w N0 rows u W) (hb : Below W.heap.size W W1) : MInv w N0 rows u W1 :=
  ⟨blk_below h.b0 hb, blk_below h.b1 hb, Kd.S_below h.s hb, below_step h.b hb, h.n, Nat.le_trans h.h hb.size⟩
theorem MInv.grown {w W W1 : World} {N0 : Nat} {rows : List (List Int)} {u : Value} (h : MInv w N0 rows u W) {row : Option Nat} (hg : W.grownBy W1 row) (hb : Below w.heap.size w W1) (hr : ∀ k, row = some k → N0 ≤ k) : MInv w N0 rows u W1 := by
  have hn := h.n
  refine ⟨blk_grown h.b0 hg (fun e => ?_), blk_grown h.b1 hg (fun e => ?_), Kd.S_grown h.s hg (fun k hk e => ?_), hb, h.n, Nat.le_trans h.h hg.size⟩
  · have := hr _ e.symm
    omega
  · have := hr _ e.symm
    omega
  · have := hr _ e.symm
    omega
theorem MInv.raise {w W : World} {N0 : Nat} {rows : List (List Int)} {u : Value} (h : MInv w N0 rows u W) : MInv w W.heap.size rows u W :=
  ⟨h.b0, h.b1, Kd.S_mono h.s (fun k hk => ⟨hk.1, Nat.lt_of_lt_of_le hk.2 h.h⟩), h.b, Nat.le_trans h.n h.h, Nat.le_refl _⟩
theorem w_succ (i : Nat) (h : i ≤ 1000) : Value.int .i64 (wrap64 ((i : Int) + 1)) = .int .i64 ((i + 1 : Nat) : Int) := by
  congr 1
  unfold wrap64
  omega

/-- Rows that are square. -/
def isSq (L : List (List Int)) : Bool := decide (L.length ≤ 1000) && L.all fun l => decide (l.length = L.length)
theorem isSq_at {L : List (List Int)} (h : isSq L = true) {i : Nat} (hi : i < L.length) : L[i].length = L.length := by
  unfold isSq at h
  have h2 := List.all_eq_true.1 (Bool.and_eq_true_iff.1 h).2 L[i] (List.getElem_mem hi)
  exact of_decide_eq_true h2
theorem isSq_le {L : List (List Int)} (h : isSq L = true) : L.length ≤ 1000 := by
  unfold isSq at h
  exact of_decide_eq_true (Bool.and_eq_true_iff.1 h).1
/-- A number of a matrix. -/
def at2 (L : List (List Int)) (i j : Nat) : Int := (L.getD i []).getD j 0
theorem at2_eq {L : List (List Int)} {i j : Nat} (hi : i < L.length) (hj : j < L[i].length) : at2 L i j = L[i][j] := by
  simp [at2, List.getD_eq_getElem?_getD, List.getElem?_eq_getElem hi, List.getElem?_eq_getElem hj]
end Go.Proofs.Ytbchhpplglllmaa.G

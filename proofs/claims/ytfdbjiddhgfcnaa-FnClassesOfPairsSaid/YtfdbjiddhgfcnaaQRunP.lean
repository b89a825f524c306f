/- The runs of pairs of jumping roots, down and up. -/
import Derived.Test.YtfdbjiddhgfcnaaPx5
import Derived.Test.YtfdbjiddhgfcnaaQPair
namespace Go.Proofs.Ytfdbjiddhgfcnaa.Q
open Go.RowKit Go.Proofs.Ytfdbjiddhgfcnaa.P Go.Proofs.YtfdbjiddhgfcnaaW.PrintWords Go.Proofs.YtfdbjiddhgfcnaaW.PrintLast
/-- The pairs on the way down. -/
def runP (k : Int) : Nat → Int → Int → List (List Int)
  | 0, _, _ => []
  | n + 1, x, y => [x, y] :: if 0 ≤ k * y - x ∧ k * y - x < x then runP k n (max (k * y - x) y) (min (k * y - x) y) else []
def leastP (k : Int) : Nat → Int → Int → Int × Int
  | 0, x, y => (x, y)
  | n + 1, x, y => if 0 ≤ k * y - x ∧ k * y - x < x then leastP k n (max (k * y - x) y) (min (k * y - x) y) else (x, y)
theorem downR_pos {x y k : Int} (h : 0 ≤ k * y - x ∧ k * y - x < x) : downR x y k = (max (k * y - x) y, min (k * y - x) y, true) := if_pos h
theorem downR_neg {x y k : Int} (h : ¬ (0 ≤ k * y - x ∧ k * y - x < x)) : downR x y k = (0, 0, false) := if_neg h
theorem runP_go {k x y : Int} {n : Nat} (h : 0 ≤ k * y - x ∧ k * y - x < x) : runP k (n + 1) x y = [x, y] :: runP k n (max (k * y - x) y) (min (k * y - x) y) := by
  simp only [runP]
  rw [if_pos h]
theorem runP_end {k x y : Int} {n : Nat} (h : ¬ (0 ≤ k * y - x ∧ k * y - x < x)) : runP k (n + 1) x y = [[x, y]] := by
  simp only [runP]
  rw [if_neg h]
theorem runP_pos {k c x y : Int} (h : Pr k c x y) {n : Nat} (hn : x + y < n) : 1 ≤ (runP k n x y).length := by
  cases n with
  | zero => have := h.1; have := h.2.1; omega
  | succ n => simp [runP]
section Run
variable {k c : Int} (hk : KC k c)
include hk
end Run
/-- What stands at each place of the run. -/
theorem runP_at {k c : Int} : ∀ (n : Nat) (x y : Int), Pr k c x y → x + y < n → ∀ i, i < (runP k n x y).length →
    ∃ u v, (runP k n x y)[i]? = some [u, v] ∧ Pr k c u v ∧ (i = 0 → u = x ∧ v = y) ∧ (i + 1 = (runP k n x y).length → ¬ (0 ≤ k * v - u ∧ k * v - u < u) ∧ leastP k n x y = (u, v)) ∧
      (0 < i → ∃ p q, (runP k n x y)[i - 1]? = some [p, q] ∧ Pr k c p q ∧ downR p q k = (u, v, true) ∧ u + v < p + q)
  | 0, x, y, h, hn, i, hi => by simp [runP] at hi
  | n + 1, x, y, h, hn, i, hi => by
    simp only [runP, leastP] at hi ⊢
    by_cases hd : 0 ≤ k * y - x ∧ k * y - x < x
    · rw [if_pos hd] at hi ⊢
      rw [if_pos hd]
      obtain ⟨g1, g2⟩ := h.down hd
      have hlen := runP_pos g1 (n := n) (by omega)
      have ih := runP_at n _ _ g1 (by omega)
      generalize runP k n (max (k * y - x) y) (min (k * y - x) y) = L at ih hi hlen ⊢
      cases i with
      | zero => exact ⟨x, y, rfl, h, fun _ => ⟨rfl, rfl⟩, fun q => by simp only [List.length_cons] at q; omega, fun q => absurd q (by omega)⟩
      | succ i =>
        obtain ⟨u, v, k1, k2, k3, k4, k5⟩ := ih i (by simpa using hi)
        refine ⟨u, v, by simpa using k1, k2, fun q => absurd q (by omega), fun q => k4 (by simpa using q), fun _ => ?_⟩
        cases i with
        | zero =>
          obtain ⟨rfl, rfl⟩ := k3 rfl
          exact ⟨x, y, rfl, h, downR_pos hd, by omega⟩
        | succ i =>
          obtain ⟨p, q, m1, m2, m3, m4⟩ := k5 (by omega)
          exact ⟨p, q, by simpa using m1, m2, m3, m4⟩
    · rw [if_neg hd] at hi ⊢
      rw [if_neg hd]
      have : i = 0 := by simp at hi; omega
      subst this
      exact ⟨x, y, rfl, h, fun _ => ⟨rfl, rfl⟩, fun _ => ⟨hd, rfl⟩, fun q => absurd q (by omega)⟩
theorem leastP_pr {k c : Int} : ∀ (n : Nat) (x y : Int), Pr k c x y → x + y < n → Pr k c (leastP k n x y).1 (leastP k n x y).2 ∧ ¬ (0 ≤ k * (leastP k n x y).2 - (leastP k n x y).1 ∧ k * (leastP k n x y).2 - (leastP k n x y).1 < (leastP k n x y).1)
  | 0, x, y, h, hn => by have := h.1; have := h.2.1; omega
  | n + 1, x, y, h, hn => by
    simp only [leastP]
    by_cases hd : 0 ≤ k * y - x ∧ k * y - x < x
    · rw [if_pos hd]
      obtain ⟨g1, g2⟩ := h.down hd
      exact leastP_pr n _ _ g1 (by omega)
    · rw [if_neg hd]
      exact ⟨h, hd⟩
section Least
variable {k c : Int} (hk : KC k c)
include hk
theorem least_ev : ∀ (n : Nat) (x y : Int), Pr k c x y → x + y < n → Ev (fun j => impl_LeastPair.l0 j x y k) ((leastP k n x y).1, (leastP k n x y).2, true)
  | 0, x, y, h, hn => by have := h.1; have := h.2.1; omega
  | n + 1, x, y, h, hn => by
    have h0 := h.1
    have h1 := h.2.1
    refine Ev_succ ?_
    simp only [impl_LeastPair.l0, leastP]
    rw [jumpDown_eq hk h]
    simp only [Option.bind_some]
    by_cases hd : 0 ≤ k * y - x ∧ k * y - x < x
    · obtain ⟨g1, g2⟩ := h.down hd
      rw [downR_pos hd, if_pos hd]
      have ih := least_ev n _ _ g1 (by omega)
      exact Ev_true rfl ih
    · rw [downR_neg hd, if_neg hd]
      exact Ev_false (by simp) Ev_some
end Least
/-- The pairs on the way up, behind the first. -/
def upL (k : Int) : Nat → Int → Int → Option (List (List Int))
  | 0, _, _ => some []
  | n + 1, x, y => if x ≤ k * x - y ∧ k * x - y ≤ 1000000 then (upL k n (k * x - y) x).map ([k * x - y, x] :: ·) else none
theorem upR_pos {x y k : Int} (h : x ≤ k * x - y ∧ k * x - y ≤ 1000000) : upR x y k = (k * x - y, x, true) := if_pos h
theorem upR_neg {x y k : Int} (h : ¬ (x ≤ k * x - y ∧ k * x - y ≤ 1000000)) : upR x y k = (0, 0, false) := if_neg h
def upAns (acc : List (List Int)) (o : Option (List (List Int))) : List (List Int) × Bool := match o with
  | some L => (acc ++ L, true)
  | none => ([], false)
theorem upAns_map (acc : List (List Int)) (r : List Int) (o : Option (List (List Int))) : upAns acc (o.map (r :: ·)) = upAns (acc ++ [r]) o := by
  cases o <;> simp [upAns]
section Up
variable {k c : Int} (hk : KC k c)
include hk
end Up
theorem upL_at {k c : Int} : ∀ (n : Nat) (x y : Int) (L : List (List Int)), Pr k c x y → upL k n x y = some L → L.length = n ∧ (∀ z ∈ L, z.length = 2) ∧
    ∀ i, i < n → ∃ p q u v, ([x, y] :: L)[i]? = some [p, q] ∧ L[i]? = some [u, v] ∧ Pr k c p q ∧ upR p q k = (u, v, true)
  | 0, x, y, L, h, e => by
    simp only [upL, Option.some.injEq] at e
    subst e
    exact ⟨rfl, by simp, fun i hi => absurd hi (by omega)⟩
  | n + 1, x, y, L, h, e => by
    simp only [upL] at e
    by_cases hd : x ≤ k * x - y ∧ k * x - y ≤ 1000000
    · rw [if_pos hd] at e
      obtain ⟨L', e', rfl⟩ := Option.map_eq_some_iff.1 e
      obtain ⟨g1, g2, g3⟩ := upL_at n _ _ L' (h.up hd) e'
      refine ⟨by simp [g1], ?_, ?_⟩
      · intro z hz
        rcases List.mem_cons.1 hz with rfl | hz
        · rfl
        · exact g2 z hz
      · intro i hi
        cases i with
        | zero => exact ⟨x, y, k * x - y, x, rfl, rfl, h, upR_pos hd⟩
        | succ i =>
          obtain ⟨p, q, u, v, k1, k2, k3, k4⟩ := g3 i (by omega)
          exact ⟨p, q, u, v, by simpa using k1, by simpa using k2, k3, k4⟩
    · rw [if_neg hd] at e
      exact absurd e (by simp)
end Go.Proofs.Ytfdbjiddhgfcnaa.Q

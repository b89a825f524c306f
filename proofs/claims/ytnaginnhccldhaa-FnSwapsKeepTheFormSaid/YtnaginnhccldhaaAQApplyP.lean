/- Matrices times vectors, of the program. -/
import Derived.Test.YtnaginnhccldhaaAx11
import Derived.Test.YtnaginnhccldhaaAQRows
namespace Go.Proofs.Ytnaginnhccldhaa.Q
open Go.RowKit Go.Proofs.Ytnaginnhccldhaa.P Go.Proofs.YtnaginnhccldhaaW.PrintWords Go.Proofs.YtnaginnhccldhaaW.PrintLast Go.Proofs.Ytnaginnhccldhaa.G

def dotV (a b : List Int) : Nat → Int
  | 0 => 0
  | k + 1 => wrap64 (dotV a b k + wrap64 (rd a (k : Int) * rd b (k : Int)))
def applyL (L : List (List Int)) (v : List Int) : List Int := L.map fun row => dotV row v row.length
theorem applyL_length (L : List (List Int)) (v : List Int) : (applyL L v).length = L.length := by simp [applyL]

theorem apply_l1 {v : List Int} {L : List (List Int)} {n i : Nat} {row acc : List Int} (hn : n ≤ 1000) (hi : i < n) (hr : row.length ≤ v.length) (hr1 : row.length ≤ 1000) (ha : acc.length ≤ 1000) {r : List Int} (d : Nat) :
    ∀ q : Nat, q + d = row.length → Ev (fun k => impl_Matrix_apply.l0 k v (acc ++ [dotV row v row.length]) L (n : Int) ((i + 1 : Nat) : Int)) r →
      Ev (fun k => impl_Matrix_apply.l1 k v acc (dotV row v q) L (n : Int) (i : Int) row (row.length : Int) (q : Int)) r := by
  induction d with
  | zero =>
    intro q hq h
    obtain rfl : q = row.length := by omega
    refine Ev_succ ?_
    simp only [impl_Matrix_apply.l1]
    rw [w64 (x := (i : Int) + 1) (by omega) (by omega)]
    exact Ev_false (by omega) (Ev_true (by omega) h)
  | succ d ih =>
    intro q hq h
    refine Ev_succ ?_
    simp only [impl_Matrix_apply.l1]
    rw [w64 (x := (q : Int) + 1) (by omega) (by omega)]
    exact Ev_true (by omega) (Ev_true (by omega) (Ev_true (by omega) (Ev_true (by omega) (ih (q + 1) (by omega) h))))
theorem apply_l0 {v : List Int} {L : List (List Int)} (hL : isSq L = true) (hv : v.length = L.length) (d : Nat) :
    ∀ i : Nat, i + d = L.length → Ev (fun k => impl_Matrix_apply.l0 k v (applyL (L.take i) v) L (L.length : Int) (i : Int)) (applyL L v) := by
  have hn := isSq_le hL
  induction d with
  | zero =>
    intro i hi
    obtain rfl : i = L.length := by omega
    refine Ev_succ ?_
    simp only [impl_Matrix_apply.l0]
    rw [List.take_length]
    exact Ev_false (by omega) Ev_some
  | succ d ih =>
    intro i hi
    have h1 : i < L.length := by omega
    have hrl := isSq_at hL h1
    refine Ev_succ ?_
    simp only [impl_Matrix_apply.l0]
    rw [rdRow h1]
    refine Ev_true (by omega) (Ev_true (by omega) (Ev_true (by omega) ?_))
    refine apply_l1 hn (by omega) (by omega) (by omega) (by rw [applyL_length, List.length_take]; omega) L[i].length 0 (by omega) ?_
    have e : applyL (L.take i) v ++ [dotV L[i] v L[i].length] = applyL (L.take (i + 1)) v := by
      unfold applyL
      rw [List.take_succ_eq_append_getElem h1, List.map_append]
      rfl
    rw [e]
    exact ih (i + 1) (by omega)
theorem apply_ev {v : List Int} {L : List (List Int)} (hL : isSq L = true) (hv : v.length = L.length) : Ev (fun k => impl_Matrix_apply.f k L v) (applyL L v) := by
  unfold impl_Matrix_apply.f
  exact apply_l0 hL hv L.length 0 (by omega)
end Go.Proofs.Ytnaginnhccldhaa.Q

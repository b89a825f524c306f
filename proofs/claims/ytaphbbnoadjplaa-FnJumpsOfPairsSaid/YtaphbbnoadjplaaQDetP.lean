/- Matrices: minors and determinants of the program. -/
import Derived.Test.YtaphbbnoadjplaaPx3
import Derived.Test.YtaphbbnoadjplaaPx4
import Derived.Test.YtaphbbnoadjplaaQRows
import Derived.Test.YtaphbbnoadjplaaGA
namespace Go.Proofs.Ytaphbbnoadjplaa.Q
open Go.RowKit Go.Proofs.Ytaphbbnoadjplaa.P Go.Proofs.YtaphbbnoadjplaaW.PrintWords Go.Proofs.YtaphbbnoadjplaaW.PrintLast Go.Proofs.Ytaphbbnoadjplaa.G

theorem minor_len (L : List (List Int)) (r q : Int) : (minorL L r q).length = L.length - 1 := by unfold minorL; rw [rowsOf_length]
theorem minor_sq {L : List (List Int)} (hL : isSq L = true) (r q : Int) : isSq (minorL L r q) = true := by
  have := isSq_le hL
  unfold minorL
  exact isSq_rowsOf _ (by omega)

def sgn (j : Nat) : Int := if j % 2 = 0 then 1 else -1
theorem sgn_next (j : Nat) : wrap64 (-sgn j) = sgn (j + 1) := by
  unfold sgn
  by_cases h : j % 2 = 0
  · rw [if_pos h, if_neg (by omega)]
    exact w64 (by omega) (by omega)
  · rw [if_neg h, if_pos (by omega)]
    exact w64 (by omega) (by omega)
/-- The sum along the first row, as both programs add it up. -/
def detS (D : List (List Int) → Int) (L : List (List Int)) : Nat → Int
  | 0 => 0
  | j + 1 => wrap64 (detS D L j + wrap64 (wrap64 (sgn j * at2 L 0 j) * D (minorL L 0 j)))
def detN : Nat → List (List Int) → Int
  | 0, _ => 1
  | n + 1, L => detS (detN n) L (n + 1)
theorem rd2_0 (L : List (List Int)) (j : Nat) : rd (rd_L2 L 0) (j : Int) = at2 L 0 j := rd2 L 0 j
theorem row_len0 {L : List (List Int)} {n : Nat} (h : isSq L = true) (hL : L.length = n) (hi : 0 < n) : (rd_L2 L 0).length = n := row_len h hL hi
theorem without_eq {L : List (List Int)} (hL : isSq L = true) (h1 : 1 ≤ L.length) (r q : Int) : impl_Matrix_without.f L r q = some (minorL L r q) := by
  unfold impl_Matrix_without.f
  rw [if_pos hL, if_pos h1]
theorem det_l0 {L : List (List Int)} {n : Nat} (hn : n + 1 ≤ 1000) (hL : isSq L = true) (eL : L.length = n + 1) (D : List (List Int) → Int)
    (hD : ∀ M, isSq M = true → M.length = n → Ev (fun k => impl_Matrix_determinant.f k M) (D M)) (d : Nat) :
    ∀ j : Nat, j + d = n + 1 → Ev (fun k => impl_Matrix_determinant.l0 k (detS D L j) (sgn j) (rd_L2 L 0) ((n + 1 : Nat) : Int) (j : Int) L) (detS D L (n + 1)) := by
  induction d with
  | zero =>
    intro j hj
    obtain rfl : j = n + 1 := by omega
    refine Ev_succ ?_
    simp only [impl_Matrix_determinant.l0]
    exact Ev_false (by omega) Ev_some
  | succ d ih =>
    intro j hj
    refine Ev_succ ?_
    simp only [impl_Matrix_determinant.l0]
    rw [row_len0 hL eL (by omega), w64 (x := (j : Int) + 1) (by omega) (by omega), rd2_0, sgn_next, without_eq hL (by omega)]
    simp only [Option.bind_some]
    refine Ev_true (by omega) (Ev_true (by omega) (Ev_true (by omega) (Ev.bind (hD _ (minor_sq hL _ _) (by rw [minor_len]; omega)) ?_)))
    exact ih (j + 1) (by omega)
theorem det_ev : ∀ (n : Nat) (L : List (List Int)), n ≤ 1000 → isSq L = true → L.length = n → Ev (fun k => impl_Matrix_determinant.f k L) (detN n L)
  | 0, L, _, hL, eL => by
    refine Ev_succ ?_
    simp only [impl_Matrix_determinant.f, impl_Matrix_size.f, Option.bind_some]
    rw [eL]
    exact Ev_true rfl Ev_some
  | n + 1, L, hn, hL, eL => by
    refine Ev_succ ?_
    simp only [impl_Matrix_determinant.f, impl_Matrix_size.f, Option.bind_some]
    rw [eL, row_len0 hL eL (by omega)]
    refine Ev_false (by omega) (Ev_true (by omega) ?_)
    exact det_l0 hn hL eL (detN n) (fun M hM eM => det_ev n M (by omega) hM eM) (n + 1) 0 (by omega)

end Go.Proofs.Ytaphbbnoadjplaa.Q

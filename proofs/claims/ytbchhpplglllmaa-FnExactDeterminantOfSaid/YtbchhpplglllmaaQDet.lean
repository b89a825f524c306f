/- Matrices: minors and determinants, of both programs. -/
import Derived.Test.YtbchhpplglllmaaPx7
import Derived.Test.YtbchhpplglllmaaPx8
import Derived.Test.YtbchhpplglllmaaQRows
import Derived.Test.YtbchhpplglllmaaGWithout
import Derived.Test.YtbchhpplglllmaaGSmall
namespace Go.Proofs.Ytbchhpplglllmaa.Q
open Go.RowKit Go.Proofs.Ytbchhpplglllmaa.P Go.Proofs.YtbchhpplglllmaaW.PrintWords Go.Proofs.YtbchhpplglllmaaW.PrintLast Go.Proofs.Ytbchhpplglllmaa.G

theorem l1Own_eq {l : List Int} (h : l.length < 17592186044416) : spec_l1Own.f l = some l := by
  unfold spec_l1Own.f
  simp only [Option.bind_some, List.length_nil, Nat.zero_add, List.nil_append]
  rw [if_pos h]
theorem at2_row {L : List (List Int)} {i b : Nat} (h : b < (rd_L1 L (i : Int)).length) : (rd_L1 L (i : Int))[b] = at2 L i b := by rw [← rd2, rd_at h]
theorem cut_row {L : List (List Int)} {n : Nat} (hL : isSq L = true) (eL : L.length = n) {i q : Nat} (hi : i < n) (hq : q < n) :
    (rd_L1 L (i : Int)).take q ++ (rd_L1 L (i : Int)).drop (q + 1) = (List.range (n - 1)).map (fun b => at2 L i (skip (q : Int) b)) := by
  have hr := row_len hL eL hi
  apply List.ext_getElem
  · simp only [List.length_append, List.length_take, List.length_drop, List.length_map, List.length_range, hr]
    omega
  · intro b h1 h2
    rw [List.length_map, List.length_range] at h2
    rw [List.getElem_append]
    simp only [List.getElem_map, List.getElem_range]
    split
    · rename_i hb
      rw [List.length_take] at hb
      rw [List.getElem_take, at2_row, show skip (q : Int) b = b from by unfold skip; rw [if_neg (by omega)]]
    · rename_i hb
      rw [List.length_take, hr] at hb
      rw [List.getElem_drop]
      have e : q + 1 + (b - ((rd_L1 L (i : Int)).take q).length) = b + 1 := by rw [List.length_take, hr]; omega
      simp only [e]
      rw [at2_row, show skip (q : Int) b = b + 1 from by unfold skip; rw [if_pos (by omega)]]
theorem foMinor_l0 {L : List (List Int)} {n : Nat} (hn : n ≤ 1000) (hL : isSq L = true) (eL : L.length = n) {r q : Nat} (hr : r < n) (hq : q < n) (d : Nat) :
    ∀ i : Nat, i + d = n → Ev (fun k => spec_foMinor.l0 k (r : Int) (q : Int) (rowsOf (fun i j => at2 L (skip (r : Int) i) (skip (q : Int) j)) (n - 1) (if i ≤ r then i else i - 1)) L (n : Int) (i : Int)) (minorL L r q) := by
  induction d with
  | zero =>
    intro i hi
    obtain rfl : i = n := by omega
    refine Ev_succ ?_
    simp only [spec_foMinor.l0]
    rw [if_neg (show ¬ i ≤ r by omega)]
    unfold minorL
    rw [eL]
    exact Ev_false (by omega) Ev_some
  | succ d ih =>
    intro i hi
    have hi' : i < n := by omega
    have hrl := row_len hL eL hi'
    refine Ev_succ ?_
    simp only [spec_foMinor.l0]
    rw [w64 (x := (i : Int) + 1) (by omega) (by omega), w64 (x := (q : Int) + 1) (by omega) (by omega), eL]
    refine Ev_true (by omega) (Ev_true (by omega) (Ev_true (by omega) ?_))
    have h := ih (i + 1) (by omega)
    by_cases he : i = r
    · rw [if_neg (show ¬ i + 1 ≤ r by omega)] at h
      rw [if_pos (show i ≤ r by omega)]
      exact Ev_true (by omega) h
    · refine Ev_false (by omega) (Ev_true (by omega) (Ev_true (by omega) ?_))
      rw [show ((q : Int) + 1).toNat = q + 1 from by omega, Int.toNat_natCast, l1Own_eq (by rw [List.length_take]; omega)]
      simp only [Option.bind_some]
      rw [cut_row hL eL hi' hq]
      refine Ev_true (by omega) (Ev_true (by omega) (Ev_true (by rw [List.length_take, List.length_drop]; omega) (Ev_true (by rw [rowsOf_length]; split <;> omega) ?_)))
      have e : rowsOf (fun i j => at2 L (skip (r : Int) i) (skip (q : Int) j)) (n - 1) (if i ≤ r then i else i - 1) ++ [(List.range (n - 1)).map (fun b => at2 L i (skip (q : Int) b))] =
          rowsOf (fun i j => at2 L (skip (r : Int) i) (skip (q : Int) j)) (n - 1) (if i + 1 ≤ r then i + 1 else i + 1 - 1) := by
        by_cases hc : i < r
        · rw [if_pos (show i ≤ r by omega), if_pos (show i + 1 ≤ r by omega), rowsOf_succ]
          congr 2
          unfold rowOf
          dsimp only
          rw [show skip (r : Int) i = i from by unfold skip; rw [if_neg (by omega)]]
        · rw [if_neg (show ¬ i ≤ r by omega), if_neg (show ¬ i + 1 ≤ r by omega), show i + 1 - 1 = (i - 1) + 1 by omega, rowsOf_succ]
          congr 2
          unfold rowOf
          dsimp only
          rw [show skip (r : Int) (i - 1) = i from by unfold skip; rw [if_pos (by omega)]; omega]
      rw [e]
      exact h
theorem foMinor_ev {L : List (List Int)} (hL : isSq L = true) {r q : Nat} (hr : r < L.length) (hq : q < L.length) : Ev (fun k => spec_foMinor.f k L (r : Int) (q : Int)) (minorL L r q) := by
  unfold spec_foMinor.f
  have h := foMinor_l0 (isSq_le hL) hL rfl hr hq L.length 0 (by omega)
  rw [if_pos (Nat.zero_le _)] at h
  exact h
theorem minor_len (L : List (List Int)) (r q : Int) : (minorL L r q).length = L.length - 1 := by unfold minorL; rw [rowsOf_length]
theorem minor_sq {L : List (List Int)} (hL : isSq L = true) (r q : Int) : isSq (minorL L r q) = true := by
  have := isSq_le hL
  unfold minorL
  exact isSq_rowsOf _ (by omega)

def sgn (j : Nat) : Int := if j % 2 = 0 then 1 else -1
theorem sgn_next (j : Nat) : wrap64 (-sgn j) = sgn (j + 1) := by
  unfold sgn
  by_cases h : j % 2 = 0
  · rw [if_pos h, if_neg (by omega)]
    exact w64 (by omega) (by omega)
  · rw [if_neg h, if_pos (by omega)]
    exact w64 (by omega) (by omega)
/-- The sum along the first row, as both programs add it up. -/
def detS (D : List (List Int) → Int) (L : List (List Int)) : Nat → Int
  | 0 => 0
  | j + 1 => wrap64 (detS D L j + wrap64 (wrap64 (sgn j * at2 L 0 j) * D (minorL L 0 j)))
def detN : Nat → List (List Int) → Int
  | 0, _ => 1
  | n + 1, L => detS (detN n) L (n + 1)
theorem rd2_0 (L : List (List Int)) (j : Nat) : rd (rd_L1 L 0) (j : Int) = at2 L 0 j := rd2 L 0 j
theorem row_len0 {L : List (List Int)} {n : Nat} (h : isSq L = true) (hL : L.length = n) (hi : 0 < n) : (rd_L1 L 0).length = n := row_len h hL hi
theorem foDet_l0 {L : List (List Int)} {n : Nat} (hn : n + 1 ≤ 1000) (hL : isSq L = true) (eL : L.length = n + 1) (D : List (List Int) → Int)
    (hD : ∀ M, isSq M = true → M.length = n → Ev (fun k => spec_foDeterminant.f k M) (D M)) (d : Nat) :
    ∀ j : Nat, j + d = n + 1 → Ev (fun k => spec_foDeterminant.l0 k L (detS D L j) (sgn j) (rd_L1 L 0) ((n + 1 : Nat) : Int) (j : Int)) (detS D L (n + 1)) := by
  induction d with
  | zero =>
    intro j hj
    obtain rfl : j = n + 1 := by omega
    refine Ev_succ ?_
    simp only [spec_foDeterminant.l0]
    exact Ev_false (by omega) Ev_some
  | succ d ih =>
    intro j hj
    refine Ev_succ ?_
    simp only [spec_foDeterminant.l0]
    rw [row_len0 hL eL (by omega), w64 (x := (j : Int) + 1) (by omega) (by omega), rd2_0, sgn_next]
    refine Ev_true (by omega) (Ev_true (by omega) (Ev_true (by omega) (Ev.bind (foMinor_ev (r := 0) (q := j) hL (by omega) (by omega)) (Ev.bind (hD _ (minor_sq hL _ _) (by rw [minor_len]; omega)) ?_))))
    exact ih (j + 1) (by omega)
theorem foDet_ev : ∀ (n : Nat) (L : List (List Int)), n ≤ 1000 → isSq L = true → L.length = n → Ev (fun k => spec_foDeterminant.f k L) (detN n L)
  | 0, L, _, hL, eL => by
    refine Ev_succ ?_
    simp only [spec_foDeterminant.f]
    rw [eL]
    exact Ev_true rfl Ev_some
  | n + 1, L, hn, hL, eL => by
    refine Ev_succ ?_
    simp only [spec_foDeterminant.f]
    rw [eL, row_len0 hL eL (by omega)]
    refine Ev_false (by omega) (Ev_true (by omega) ?_)
    exact foDet_l0 hn hL eL (detN n) (fun M hM eM => foDet_ev n M (by omega) hM eM) (n + 1) 0 (by omega)
theorem without_eq {L : List (List Int)} (hL : isSq L = true) (h1 : 1 ≤ L.length) (r q : Int) : impl_Matrix_without.f L r q = some (minorL L r q) := by
  unfold impl_Matrix_without.f
  rw [if_pos hL, if_pos h1]
theorem det_l0 {L : List (List Int)} {n : Nat} (hn : n + 1 ≤ 1000) (hL : isSq L = true) (eL : L.length = n + 1) (D : List (List Int) → Int)
    (hD : ∀ M, isSq M = true → M.length = n → Ev (fun k => impl_Matrix_determinant.f k M) (D M)) (d : Nat) :
    ∀ j : Nat, j + d = n + 1 → Ev (fun k => impl_Matrix_determinant.l0 k (detS D L j) (sgn j) (rd_L1 L 0) ((n + 1 : Nat) : Int) (j : Int) L) (detS D L (n + 1)) := by
  induction d with
  | zero =>
    intro j hj
    obtain rfl : j = n + 1 := by omega
    refine Ev_succ ?_
    simp only [impl_Matrix_determinant.l0]
    exact Ev_false (by omega) Ev_some
  | succ d ih =>
    intro j hj
    refine Ev_succ ?_
    simp only [impl_Matrix_determinant.l0]
    rw [row_len0 hL eL (by omega), w64 (x := (j : Int) + 1) (by omega) (by omega), rd2_0, sgn_next, without_eq hL (by omega)]
    simp only [Option.bind_some]
    refine Ev_true (by omega) (Ev_true (by omega) (Ev_true (by omega) (Ev.bind (hD _ (minor_sq hL _ _) (by rw [minor_len]; omega)) ?_)))
    exact ih (j + 1) (by omega)
theorem det_ev : ∀ (n : Nat) (L : List (List Int)), n ≤ 1000 → isSq L = true → L.length = n → Ev (fun k => impl_Matrix_determinant.f k L) (detN n L)
  | 0, L, _, hL, eL => by
    refine Ev_succ ?_
    simp only [impl_Matrix_determinant.f, impl_Matrix_size.f, Option.bind_some]
    rw [eL]
    exact Ev_true rfl Ev_some
  | n + 1, L, hn, hL, eL => by
    refine Ev_succ ?_
    simp only [impl_Matrix_determinant.f, impl_Matrix_size.f, Option.bind_some]
    rw [eL, row_len0 hL eL (by omega)]
    refine Ev_false (by omega) (Ev_true (by omega) ?_)
    exact det_l0 hn hL eL (detN n) (fun M hM eM => det_ev n M (by omega) hM eM) (n + 1) 0 (by omega)

theorem foSmall_l0 {L : List (List Int)} (hL : Fits L) (m : Int) (d : Nat) : ∀ i : Nat, i + d = L.length → Ev (fun k => spec_foSmall.l0 k m L (L.length : Int) (i : Int)) ((L.drop i).all (isLow m)) := by
  have hl := hL.1
  induction d with
  | zero =>
    intro i hi
    refine Ev_succ ?_
    simp only [spec_foSmall.l0]
    rw [List.drop_of_length_le (by omega)]
    exact Ev_false (by omega) Ev_some
  | succ d ih =>
    intro i hi
    have h1 : i < L.length := by omega
    have hxi := hL.2 _ (List.getElem_mem h1)
    refine Ev_succ ?_
    simp only [spec_foSmall.l0]
    rw [rdRow h1, w64 (x := (i : Int) + 1) (by omega) (by omega), List.drop_eq_getElem_cons h1, List.all_cons]
    refine Ev_true (by omega) (Ev_true (by omega) (Ev_true (by omega) ?_))
    refine Ev.bind (l1All_ev (l := L[i]) (by omega) (wrap64 (-m)) m) ?_
    unfold isLow
    cases hb : L[i].all (inB (wrap64 (-m)) m) with
    | true => exact Ev_true rfl (ih (i + 1) (by omega))
    | false => exact Ev_false (by simp) Ev_some
theorem foSmall_ev {L : List (List Int)} (hL : Fits L) (m : Int) : Ev (fun k => spec_foSmall.f k L m) (isMat L && L.all (isLow m)) := by
  unfold spec_foSmall.f
  refine Ev.bind (foGood_ev hL) ?_
  cases hb : isMat L with
  | true => exact Ev_true rfl (foSmall_l0 hL m L.length 0 (by omega))
  | false => exact Ev_false (by simp) Ev_some
end Go.Proofs.Ytbchhpplglllmaa.Q

/- Several parts in one text: Rows and matrices: reads, sizes, what a matrix is. Rows of numbers by a function, and what a store makes of them. Matrices: minors and determinants of the program. The inverse of a matrix: what the program comes to. -/
import Derived.Test.YtldkkfpodldbgaaMx0
import Derived.Test.YtldkkfpodldbgaaQEv
import Derived.Test.YtldkkfpodldbgaaGA
import Derived.Test.YtldkkfpodldbgaaMx3
namespace Go.Proofs.Ytldkkfpodldbgaa.Q
open Go.RowKit Go.Proofs.Ytldkkfpodldbgaa.P Go.Proofs.YtldkkfpodldbgaaW.PrintWords Go.Proofs.YtldkkfpodldbgaaW.PrintLast Go.Proofs.Ytldkkfpodldbgaa.G

theorem rd_at {l : List Int} {i : Nat} (h : i < l.length) : rd l (i : Int) = l[i] := by
  simp [rd, List.getD_eq_getElem?_getD, List.getElem?_eq_getElem h]
theorem rdRow {l : List (List Int)} {i : Nat} (h : i < l.length) : rd_L1 l (i : Int) = l[i] := by
  simp [rd_L1, List.getD_eq_getElem?_getD, List.getElem?_eq_getElem h]
/-- What a law's test of sizes leaves. -/
def Fits (L : List (List Int)) : Prop := L.length ≤ 1048576 ∧ ∀ x ∈ L, x.length ≤ 1048576
theorem isMat_len {L : List (List Int)} (h : isMat L = true) : 1 ≤ L.length ∧ L.length ≤ 4 := by
  unfold isMat at h
  rw [Bool.and_eq_true, Bool.and_eq_true, decide_eq_true_iff, decide_eq_true_iff] at h
  omega
theorem isMat_row {L : List (List Int)} (h : isMat L = true) {x : List Int} (hx : x ∈ L) : x.length = L.length ∧ ∀ a ∈ x, -1000000 ≤ a ∧ a ≤ 1000000 := by
  unfold isMat at h
  rw [Bool.and_eq_true] at h
  have h2 := List.all_eq_true.1 h.2 x hx
  unfold isVec at h2
  rw [Bool.and_eq_true, decide_eq_true_iff] at h2
  refine ⟨by omega, fun a ha => ?_⟩
  have h3 := List.all_eq_true.1 h2.2 a ha
  unfold inB at h3
  rw [Bool.and_eq_true, decide_eq_true_iff, decide_eq_true_iff] at h3
  exact h3
end Go.Proofs.Ytldkkfpodldbgaa.Q
namespace Go.Proofs.Ytldkkfpodldbgaa.Q
open Go.RowKit Go.Proofs.Ytldkkfpodldbgaa.P Go.Proofs.YtldkkfpodldbgaaW.PrintWords Go.Proofs.YtldkkfpodldbgaaW.PrintLast Go.Proofs.Ytldkkfpodldbgaa.G

def upd (F : Nat → Nat → Int) (i j : Nat) (v : Int) : Nat → Nat → Int := fun a b => if a = i ∧ b = j then v else F a b
theorem upd_upd (F : Nat → Nat → Int) (i j : Nat) (v u : Int) : upd (upd F i j v) i j u = upd F i j u := by
  funext a b
  unfold upd
  by_cases h : a = i ∧ b = j
  · rw [if_pos h, if_pos h]
  · rw [if_neg h, if_neg h, if_neg h]
theorem upd_self (F : Nat → Nat → Int) (i j : Nat) {v : Int} (h : F i j = v) : upd F i j v = F := by
  funext a b
  unfold upd
  by_cases c : a = i ∧ b = j
  · rw [if_pos c, c.1, c.2, h]
  · rw [if_neg c]
theorem upd_at (F : Nat → Nat → Int) (i j : Nat) (v : Int) : upd F i j v i j = v := by
  unfold upd
  rw [if_pos ⟨rfl, rfl⟩]
theorem rd_rowOf {F : Nat → Nat → Int} {i n j : Nat} (hj : j < n) : rd (rowOf F i n) (j : Int) = F i j := by
  rw [rd_at (by rw [rowOf_length]; exact hj)]
  simp [rowOf]
theorem rdRow_rowsOf {F : Nat → Nat → Int} {n m i : Nat} (hi : i < m) : rd_L1 (rowsOf F n m) (i : Int) = rowOf F i n := by
  rw [rdRow (by rw [rowsOf_length]; exact hi)]
  simp [rowsOf]
theorem rowOf_congr {F F' : Nat → Nat → Int} {i i' n : Nat} (h : ∀ b, b < n → F i b = F' i' b) : rowOf F i n = rowOf F' i' n := by
  unfold rowOf
  exact List.map_congr_left (fun b hb => h b (List.mem_range.1 hb))
theorem rowsOf_congr {F F' : Nat → Nat → Int} {n m : Nat} (h : ∀ a b, a < m → b < n → F a b = F' a b) : rowsOf F n m = rowsOf F' n m := by
  unfold rowsOf
  exact List.map_congr_left (fun a ha => rowOf_congr (fun b hb => h a b (List.mem_range.1 ha) hb))
theorem rowOf_set {F : Nat → Nat → Int} {i n j : Nat} {v : Int} : (rowOf F i n).set j v = rowOf (upd F i j v) i n := by
  apply List.ext_getElem
  · simp [rowOf]
  · intro k h1 h2
    rw [List.getElem_set]
    simp only [rowOf, upd, List.getElem_map, List.getElem_range, true_and]
    by_cases h : j = k
    · rw [if_pos h, if_pos h.symm]
    · rw [if_neg h, if_neg (fun e => h e.symm)]
theorem rowsOf_set {F : Nat → Nat → Int} {n m i j : Nat} {v : Int} : (rowsOf F n m).set i ((rowOf F i n).set j v) = rowsOf (upd F i j v) n m := by
  apply List.ext_getElem
  · simp [rowsOf]
  · intro k h1 h2
    rw [List.getElem_set]
    by_cases h : i = k
    · subst h
      rw [if_pos rfl, rowOf_set]
      simp [rowsOf]
    · rw [if_neg h]
      simp only [rowsOf, List.getElem_map, List.getElem_range]
      exact rowOf_congr (fun b _ => by unfold upd; rw [if_neg (fun e => h e.1.symm)])
theorem rd2 (L : List (List Int)) (i j : Nat) : rd (rd_L1 L (i : Int)) (j : Int) = at2 L i j := by simp [rd, rd_L1, at2]
theorem at2_rowsOf {F : Nat → Nat → Int} {n m i j : Nat} (hi : i < m) (hj : j < n) : at2 (rowsOf F n m) i j = F i j := by
  rw [← rd2, rdRow_rowsOf hi, rd_rowOf hj]
theorem isSq_rowsOf (F : Nat → Nat → Int) {n : Nat} (hn : n ≤ 1000) : isSq (rowsOf F n n) = true := by
  unfold isSq
  rw [Bool.and_eq_true, decide_eq_true_iff, rowsOf_length]
  refine ⟨hn, List.all_eq_true.2 fun x hx => ?_⟩
  unfold rowsOf at hx
  obtain ⟨a, _, rfl⟩ := List.mem_map.1 hx
  rw [rowOf_length]
  exact decide_eq_true rfl
theorem row_len {L : List (List Int)} {n : Nat} (h : isSq L = true) (hL : L.length = n) {i : Nat} (hi : i < n) : (rd_L1 L (i : Int)).length = n := by
  subst hL
  rw [rdRow hi]
  exact isSq_at h hi
theorem isMat_sq {L : List (List Int)} (h : isMat L = true) : isSq L = true := by
  have h1 := isMat_len h
  unfold isSq
  rw [Bool.and_eq_true, decide_eq_true_iff]
  exact ⟨by omega, List.all_eq_true.2 fun x hx => decide_eq_true (isMat_row h hx).1⟩
theorem fits_sq {L : List (List Int)} (h : isSq L = true) : Fits L := by
  have h1 := isSq_le h
  refine ⟨by omega, fun x hx => ?_⟩
  obtain ⟨i, hi, rfl⟩ := List.mem_iff_getElem.1 hx
  have := isSq_at h hi
  omega
end Go.Proofs.Ytldkkfpodldbgaa.Q
namespace Go.Proofs.Ytldkkfpodldbgaa.Q
open Go.RowKit Go.Proofs.Ytldkkfpodldbgaa.P Go.Proofs.YtldkkfpodldbgaaW.PrintWords Go.Proofs.YtldkkfpodldbgaaW.PrintLast Go.Proofs.Ytldkkfpodldbgaa.G

theorem minor_len (L : List (List Int)) (r q : Int) : (minorL L r q).length = L.length - 1 := by unfold minorL; rw [rowsOf_length]
theorem minor_sq {L : List (List Int)} (hL : isSq L = true) (r q : Int) : isSq (minorL L r q) = true := by
  have := isSq_le hL
  unfold minorL
  exact isSq_rowsOf _ (by omega)

def sgn (j : Nat) : Int := if j % 2 = 0 then 1 else -1
theorem sgn_next (j : Nat) : wrap64 (-sgn j) = sgn (j + 1) := by
  unfold sgn
  by_cases h : j % 2 = 0
  · rw [if_pos h, if_neg (by omega)]
    exact w64 (by omega) (by omega)
  · rw [if_neg h, if_pos (by omega)]
    exact w64 (by omega) (by omega)
/-- The sum along the first row, as both programs add it up. -/
def detS (D : List (List Int) → Int) (L : List (List Int)) : Nat → Int
  | 0 => 0
  | j + 1 => wrap64 (detS D L j + wrap64 (wrap64 (sgn j * at2 L 0 j) * D (minorL L 0 j)))
def detN : Nat → List (List Int) → Int
  | 0, _ => 1
  | n + 1, L => detS (detN n) L (n + 1)
theorem rd2_0 (L : List (List Int)) (j : Nat) : rd (rd_L1 L 0) (j : Int) = at2 L 0 j := rd2 L 0 j
theorem row_len0 {L : List (List Int)} {n : Nat} (h : isSq L = true) (hL : L.length = n) (hi : 0 < n) : (rd_L1 L 0).length = n := row_len h hL hi
theorem without_eq {L : List (List Int)} (hL : isSq L = true) (h1 : 1 ≤ L.length) (r q : Int) : impl_Matrix_without.f L r q = some (minorL L r q) := by
  unfold impl_Matrix_without.f
  rw [if_pos hL, if_pos h1]
theorem det_l0 {L : List (List Int)} {n : Nat} (hn : n + 1 ≤ 1000) (hL : isSq L = true) (eL : L.length = n + 1) (D : List (List Int) → Int)
    (hD : ∀ M, isSq M = true → M.length = n → Ev (fun k => impl_Matrix_determinant.f k M) (D M)) (d : Nat) :
    ∀ j : Nat, j + d = n + 1 → Ev (fun k => impl_Matrix_determinant.l0 k (detS D L j) (sgn j) (rd_L1 L 0) ((n + 1 : Nat) : Int) (j : Int) L) (detS D L (n + 1)) := by
  induction d with
  | zero =>
    intro j hj
    obtain rfl : j = n + 1 := by omega
    refine Ev_succ ?_
    simp only [impl_Matrix_determinant.l0]
    exact Ev_false (by omega) Ev_some
  | succ d ih =>
    intro j hj
    refine Ev_succ ?_
    simp only [impl_Matrix_determinant.l0]
    rw [row_len0 hL eL (by omega), w64 (x := (j : Int) + 1) (by omega) (by omega), rd2_0, sgn_next, without_eq hL (by omega)]
    simp only [Option.bind_some]
    refine Ev_true (by omega) (Ev_true (by omega) (Ev_true (by omega) (Ev.bind (hD _ (minor_sq hL _ _) (by rw [minor_len]; omega)) ?_)))
    exact ih (j + 1) (by omega)
theorem det_ev : ∀ (n : Nat) (L : List (List Int)), n ≤ 1000 → isSq L = true → L.length = n → Ev (fun k => impl_Matrix_determinant.f k L) (detN n L)
  | 0, L, _, hL, eL => by
    refine Ev_succ ?_
    simp only [impl_Matrix_determinant.f, impl_Matrix_size.f, Option.bind_some]
    rw [eL]
    exact Ev_true rfl Ev_some
  | n + 1, L, hn, hL, eL => by
    refine Ev_succ ?_
    simp only [impl_Matrix_determinant.f, impl_Matrix_size.f, Option.bind_some]
    rw [eL, row_len0 hL eL (by omega)]
    refine Ev_false (by omega) (Ev_true (by omega) ?_)
    exact det_l0 hn hL eL (detN n) (fun M hM eM => det_ev n M (by omega) hM eM) (n + 1) 0 (by omega)

end Go.Proofs.Ytldkkfpodldbgaa.Q
namespace Go.Proofs.Ytldkkfpodldbgaa.Q
open Go.RowKit Go.Proofs.Ytldkkfpodldbgaa.P Go.Proofs.YtldkkfpodldbgaaW.PrintWords Go.Proofs.YtldkkfpodldbgaaW.PrintLast Go.Proofs.Ytldkkfpodldbgaa.G
def invAt (L : List (List Int)) (d : Int) (i j : Nat) : Int := if (i + j) % 2 = 1 then wrap64 (-(wrap64 (d * detN (L.length - 1) (minorL L (j : Int) (i : Int))))) else wrap64 (d * detN (L.length - 1) (minorL L (j : Int) (i : Int)))
def invL (L : List (List Int)) (d : Int) : List (List Int) := rowsOf (invAt L d) L.length L.length
def invR (L : List (List Int)) : List (List Int) × Bool :=
  if isMat L = true then (if L.all (isLow 1000) = true then (if detN L.length L = 1 ∨ detN L.length L = -1 then (if isMat (invL L (detN L.length L)) = true then (invL L (detN L.length L), true) else ([], false)) else ([], false)) else ([], false)) else ([], false)
end Go.Proofs.Ytldkkfpodldbgaa.Q

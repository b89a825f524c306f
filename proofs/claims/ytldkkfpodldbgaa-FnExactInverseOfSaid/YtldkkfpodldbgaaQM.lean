/- Several parts in one text: Rows and matrices: reads, sizes, what a matrix is. Rows of numbers by a function, and what a store makes of them. What the laws' comparison of lists comes to. All of a list lie between two numbers. Matrices: the reference's test of a matrix. Matrices: minors and determinants of the program. The inverse of a matrix: what the program comes to. Matrices: zeros and products of the reference. Matrices: the reference's test of small numbers. Matrices: minors and determinants of the reference. The inverse of a matrix: what the reference comes to. -/
import Derived.Test.YtldkkfpodldbgaaPx0
import Derived.Test.YtldkkfpodldbgaaQEv
import Derived.Test.YtldkkfpodldbgaaGA
import Derived.Test.YtldkkfpodldbgaaPx4
import Derived.Test.YtldkkfpodldbgaaPx1
import Derived.Test.YtldkkfpodldbgaaPx3
import Derived.Test.YtldkkfpodldbgaaPx2
namespace Go.Proofs.Ytldkkfpodldbgaa.Q
open Go.RowKit Go.Proofs.Ytldkkfpodldbgaa.P Go.Proofs.YtldkkfpodldbgaaW.PrintWords Go.Proofs.YtldkkfpodldbgaaW.PrintLast Go.Proofs.Ytldkkfpodldbgaa.G

theorem rd_at {l : List Int} {i : Nat} (h : i < l.length) : rd l (i : Int) = l[i] := by
  simp [rd, List.getD_eq_getElem?_getD, List.getElem?_eq_getElem h]
theorem rdRow {l : List (List Int)} {i : Nat} (h : i < l.length) : rd_L1 l (i : Int) = l[i] := by
  simp [rd_L1, List.getD_eq_getElem?_getD, List.getElem?_eq_getElem h]
/-- What a law's test of sizes leaves. -/
def Fits (L : List (List Int)) : Prop := L.length ≤ 1048576 ∧ ∀ x ∈ L, x.length ≤ 1048576
theorem isMat_len {L : List (List Int)} (h : isMat L = true) : 1 ≤ L.length ∧ L.length ≤ 4 := by
  unfold isMat at h
  rw [Bool.and_eq_true, Bool.and_eq_true, decide_eq_true_iff, decide_eq_true_iff] at h
  omega
theorem isMat_row {L : List (List Int)} (h : isMat L = true) {x : List Int} (hx : x ∈ L) : x.length = L.length ∧ ∀ a ∈ x, -1000000 ≤ a ∧ a ≤ 1000000 := by
  unfold isMat at h
  rw [Bool.and_eq_true] at h
  have h2 := List.all_eq_true.1 h.2 x hx
  unfold isVec at h2
  rw [Bool.and_eq_true, decide_eq_true_iff] at h2
  refine ⟨by omega, fun a ha => ?_⟩
  have h3 := List.all_eq_true.1 h2.2 a ha
  unfold inB at h3
  rw [Bool.and_eq_true, decide_eq_true_iff, decide_eq_true_iff] at h3
  exact h3
end Go.Proofs.Ytldkkfpodldbgaa.Q
namespace Go.Proofs.Ytldkkfpodldbgaa.Q
open Go.RowKit Go.Proofs.Ytldkkfpodldbgaa.P Go.Proofs.YtldkkfpodldbgaaW.PrintWords Go.Proofs.YtldkkfpodldbgaaW.PrintLast Go.Proofs.Ytldkkfpodldbgaa.G

def upd (F : Nat → Nat → Int) (i j : Nat) (v : Int) : Nat → Nat → Int := fun a b => if a = i ∧ b = j then v else F a b
theorem upd_upd (F : Nat → Nat → Int) (i j : Nat) (v u : Int) : upd (upd F i j v) i j u = upd F i j u := by
  funext a b
  unfold upd
  by_cases h : a = i ∧ b = j
  · rw [if_pos h, if_pos h]
  · rw [if_neg h, if_neg h, if_neg h]
theorem upd_self (F : Nat → Nat → Int) (i j : Nat) {v : Int} (h : F i j = v) : upd F i j v = F := by
  funext a b
  unfold upd
  by_cases c : a = i ∧ b = j
  · rw [if_pos c, c.1, c.2, h]
  · rw [if_neg c]
theorem upd_at (F : Nat → Nat → Int) (i j : Nat) (v : Int) : upd F i j v i j = v := by
  unfold upd
  rw [if_pos ⟨rfl, rfl⟩]
theorem rd_rowOf {F : Nat → Nat → Int} {i n j : Nat} (hj : j < n) : rd (rowOf F i n) (j : Int) = F i j := by
  rw [rd_at (by rw [rowOf_length]; exact hj)]
  simp [rowOf]
theorem rdRow_rowsOf {F : Nat → Nat → Int} {n m i : Nat} (hi : i < m) : rd_L1 (rowsOf F n m) (i : Int) = rowOf F i n := by
  rw [rdRow (by rw [rowsOf_length]; exact hi)]
  simp [rowsOf]
theorem rowOf_congr {F F' : Nat → Nat → Int} {i i' n : Nat} (h : ∀ b, b < n → F i b = F' i' b) : rowOf F i n = rowOf F' i' n := by
  unfold rowOf
  exact List.map_congr_left (fun b hb => h b (List.mem_range.1 hb))
theorem rowsOf_congr {F F' : Nat → Nat → Int} {n m : Nat} (h : ∀ a b, a < m → b < n → F a b = F' a b) : rowsOf F n m = rowsOf F' n m := by
  unfold rowsOf
  exact List.map_congr_left (fun a ha => rowOf_congr (fun b hb => h a b (List.mem_range.1 ha) hb))
theorem rowOf_set {F : Nat → Nat → Int} {i n j : Nat} {v : Int} : (rowOf F i n).set j v = rowOf (upd F i j v) i n := by
  apply List.ext_getElem
  · simp [rowOf]
  · intro k h1 h2
    rw [List.getElem_set]
    simp only [rowOf, upd, List.getElem_map, List.getElem_range, true_and]
    by_cases h : j = k
    · rw [if_pos h, if_pos h.symm]
    · rw [if_neg h, if_neg (fun e => h e.symm)]
theorem rowsOf_set {F : Nat → Nat → Int} {n m i j : Nat} {v : Int} : (rowsOf F n m).set i ((rowOf F i n).set j v) = rowsOf (upd F i j v) n m := by
  apply List.ext_getElem
  · simp [rowsOf]
  · intro k h1 h2
    rw [List.getElem_set]
    by_cases h : i = k
    · subst h
      rw [if_pos rfl, rowOf_set]
      simp [rowsOf]
    · rw [if_neg h]
      simp only [rowsOf, List.getElem_map, List.getElem_range]
      exact rowOf_congr (fun b _ => by unfold upd; rw [if_neg (fun e => h e.1.symm)])
theorem rowsOf_take {F : Nat → Nat → Int} {n m i : Nat} (h : i ≤ m) : (rowsOf F n m).take i = rowsOf F n i := by
  unfold rowsOf
  rw [← List.map_take, List.take_range, Nat.min_eq_left h]
theorem rd2 (L : List (List Int)) (i j : Nat) : rd (rd_L1 L (i : Int)) (j : Int) = at2 L i j := by simp [rd, rd_L1, at2]
theorem at2_rowsOf {F : Nat → Nat → Int} {n m i j : Nat} (hi : i < m) (hj : j < n) : at2 (rowsOf F n m) i j = F i j := by
  rw [← rd2, rdRow_rowsOf hi, rd_rowOf hj]
theorem isSq_rowsOf (F : Nat → Nat → Int) {n : Nat} (hn : n ≤ 1000) : isSq (rowsOf F n n) = true := by
  unfold isSq
  rw [Bool.and_eq_true, decide_eq_true_iff, rowsOf_length]
  refine ⟨hn, List.all_eq_true.2 fun x hx => ?_⟩
  unfold rowsOf at hx
  obtain ⟨a, _, rfl⟩ := List.mem_map.1 hx
  rw [rowOf_length]
  exact decide_eq_true rfl
theorem row_len {L : List (List Int)} {n : Nat} (h : isSq L = true) (hL : L.length = n) {i : Nat} (hi : i < n) : (rd_L1 L (i : Int)).length = n := by
  subst hL
  rw [rdRow hi]
  exact isSq_at h hi
theorem isSq_rows {L : List (List Int)} {n : Nat} (h : isSq L = true) (hL : L.length = n) : L = rowsOf (at2 L) n n := by
  subst hL
  apply List.ext_getElem
  · simp [rowsOf]
  · intro i h1 h2
    apply List.ext_getElem
    · rw [isSq_at h h1]
      simp [rowsOf, rowOf]
    · intro j h3 h4
      rw [← at2_eq h1 h3]
      simp [rowsOf, rowOf]
theorem isMat_sq {L : List (List Int)} (h : isMat L = true) : isSq L = true := by
  have h1 := isMat_len h
  unfold isSq
  rw [Bool.and_eq_true, decide_eq_true_iff]
  exact ⟨by omega, List.all_eq_true.2 fun x hx => decide_eq_true (isMat_row h hx).1⟩
theorem isMat_at {L : List (List Int)} (h : isMat L = true) {i j : Nat} (hi : i < L.length) (hj : j < L.length) : -1000000 ≤ at2 L i j ∧ at2 L i j ≤ 1000000 := by
  have h1 := isSq_at (isMat_sq h) hi
  rw [at2_eq hi (by omega)]
  exact (isMat_row h (List.getElem_mem hi)).2 _ (List.getElem_mem _)
theorem fits_sq {L : List (List Int)} (h : isSq L = true) : Fits L := by
  have h1 := isSq_le h
  refine ⟨by omega, fun x hx => ?_⟩
  obtain ⟨i, hi, rfl⟩ := List.mem_iff_getElem.1 hx
  have := isSq_at h hi
  omega
end Go.Proofs.Ytldkkfpodldbgaa.Q
namespace Go.Proofs.Ytldkkfpodldbgaa.Q
open Go.RowKit Go.Proofs.Ytldkkfpodldbgaa.P Go.Proofs.YtldkkfpodldbgaaW.PrintWords Go.Proofs.YtldkkfpodldbgaaW.PrintLast

theorem rd_get {l : List Int} {i : Nat} (h : i < l.length) : rd l (i : Int) = l[i] := by
  simp [rd, List.getD_eq_getElem?_getD, List.getElem?_eq_getElem h]

theorem eqIntS_l0 {l m : List Int} (hl : l.length = m.length) (hn : l.length ≤ 4611686018427387904) (d : Nat) : ∀ i : Nat, i + d = l.length → Ev (fun k => laws_eqIntS.l0 k l m (i : Int)) (decide (l.drop i = m.drop i)) := by
  induction d with
  | zero =>
    intro i hi
    refine Ev_succ ?_
    simp only [laws_eqIntS.l0]
    rw [List.drop_of_length_le (by omega), List.drop_of_length_le (by omega)]
    exact Ev_false (by omega) Ev_some
  | succ d ih =>
    intro i hi
    have h1 : i < l.length := by omega
    have h2 : i < m.length := by omega
    refine Ev_succ ?_
    simp only [laws_eqIntS.l0]
    rw [rd_get h1, rd_get h2, List.drop_eq_getElem_cons h1, List.drop_eq_getElem_cons h2, w64 (by omega) (by omega)]
    refine Ev_true (by omega) (Ev_true (by omega) (Ev_true (by omega) ?_))
    by_cases he : l[i] = m[i]
    · have e : decide (l[i] :: l.drop (i + 1) = m[i] :: m.drop (i + 1)) = decide (l.drop (i + 1) = m.drop (i + 1)) :=
        decide_eq_decide.2 ⟨fun h => (List.cons.inj h).2, fun h => by rw [he, h]⟩
      rw [e]
      exact Ev_true he (ih (i + 1) (by omega))
    · have e : decide (l[i] :: l.drop (i + 1) = m[i] :: m.drop (i + 1)) = false := by
        rw [decide_eq_false_iff_not]
        intro h
        exact he (List.cons.inj h).1
      rw [e]
      exact Ev_false he Ev_some
theorem eqIntS_ev {l m : List Int} (hn : l.length ≤ 4611686018427387904) : Ev (fun k => laws_eqIntS.f k l m) (decide (l = m)) := by
  unfold laws_eqIntS.f
  by_cases h : l.length = m.length
  · exact Ev_true (by omega) (eqIntS_l0 h hn l.length 0 (by omega))
  · have e : decide (l = m) = false := by
      rw [decide_eq_false_iff_not]
      intro he
      exact h (by rw [he])
    rw [e]
    exact Ev_false (by omega) Ev_some
theorem eqIntS_same {l : List Int} (hn : l.length ≤ 4611686018427387904) : Ev (fun k => laws_eqIntS.f k l l) true := by
  have h := eqIntS_ev (m := l) hn
  simpa using h

end Go.Proofs.Ytldkkfpodldbgaa.Q
namespace Go.Proofs.Ytldkkfpodldbgaa.Q
open Go.RowKit Go.Proofs.Ytldkkfpodldbgaa.P Go.Proofs.YtldkkfpodldbgaaW.PrintWords Go.Proofs.YtldkkfpodldbgaaW.PrintLast Go.Proofs.Ytldkkfpodldbgaa.G

theorem allIn_eq (a lo hi : Int) : spec_l1In.f a lo hi = some (decide (lo ≤ a ∧ a ≤ hi)) := by
  unfold spec_l1In.f
  by_cases h : lo ≤ a
  · rw [if_pos h]
    simp [h]
  · rw [if_neg h]
    simp [h]
theorem l1All_l0 {l : List Int} (hn : l.length ≤ 4611686018427387904) (lo up : Int) (d : Nat) : ∀ i : Nat, i + d = l.length → Ev (fun k => spec_l1All.l0 k lo up l (l.length : Int) (i : Int)) ((l.drop i).all (inB lo up)) := by
  induction d with
  | zero =>
    intro i hi
    refine Ev_succ ?_
    simp only [spec_l1All.l0]
    rw [List.drop_of_length_le (by omega)]
    exact Ev_false (by omega) Ev_some
  | succ d ih =>
    intro i h1
    have hi : i < l.length := by omega
    refine Ev_succ ?_
    simp only [spec_l1All.l0]
    rw [rd_at hi, List.drop_eq_getElem_cons hi, w64 (x := (i : Int) + 1) (by omega) (by omega), allIn_eq]
    refine Ev_true (by omega) (Ev_true (by omega) (Ev_true (by omega) ?_))
    simp only [Option.bind_some, List.all_cons]
    by_cases hb : lo ≤ l[i] ∧ l[i] ≤ up
    · have hin : inB lo up l[i] = true := by unfold inB; simp [hb]
      rw [hin, Bool.true_and]
      exact Ev_true (by simpa using hb) (ih (i + 1) (by omega))
    · have hin : inB lo up l[i] = false := by
        unfold inB
        rw [← Bool.not_eq_true]
        intro h
        exact hb (by simpa using h)
      rw [hin, Bool.false_and]
      exact Ev_false (by simpa using hb) Ev_some
theorem l1All_ev {l : List Int} (hn : l.length ≤ 4611686018427387904) (lo up : Int) : Ev (fun k => spec_l1All.f k l lo up) (l.all (inB lo up)) :=
  l1All_l0 hn lo up l.length 0 (by omega)
end Go.Proofs.Ytldkkfpodldbgaa.Q
namespace Go.Proofs.Ytldkkfpodldbgaa.Q
open Go.RowKit Go.Proofs.Ytldkkfpodldbgaa.P Go.Proofs.YtldkkfpodldbgaaW.PrintWords Go.Proofs.YtldkkfpodldbgaaW.PrintLast Go.Proofs.Ytldkkfpodldbgaa.G

theorem foGood_l0 {L : List (List Int)} (hL : Fits L) (d : Nat) : ∀ i : Nat, i + d = L.length → Ev (fun k => spec_foGood.l0 k L (L.length : Int) (i : Int) L) ((L.drop i).all (isVec L.length)) := by
  have hl := hL.1
  induction d with
  | zero =>
    intro i hi
    refine Ev_succ ?_
    simp only [spec_foGood.l0]
    rw [List.drop_of_length_le (by omega)]
    exact Ev_false (by omega) Ev_some
  | succ d ih =>
    intro i hi
    have h1 : i < L.length := by omega
    have hxi := hL.2 _ (List.getElem_mem h1)
    refine Ev_succ ?_
    simp only [spec_foGood.l0]
    rw [rdRow h1, w64 (x := (i : Int) + 1) (by omega) (by omega), List.drop_eq_getElem_cons h1, List.all_cons]
    refine Ev_true (by omega) (Ev_true (by omega) (Ev_true (by omega) ?_))
    unfold isVec
    by_cases hn : (L[i].length : Int) = L.length
    · refine Ev_true hn (Ev.bind (l1All_ev (l := L[i]) (by omega) (-1000000) 1000000) ?_)
      rw [decide_eq_true hn, Bool.true_and]
      cases hb : L[i].all (inB (-1000000) 1000000) with
      | true => exact Ev_true rfl (ih (i + 1) (by omega))
      | false => exact Ev_false (by simp) Ev_some
    · rw [decide_eq_false hn, Bool.false_and, Bool.false_and]
      exact Ev_false hn Ev_some
theorem foGood_ev {L : List (List Int)} (hL : Fits L) : Ev (fun k => spec_foGood.f k L) (isMat L) := by
  unfold spec_foGood.f isMat
  rw [allIn_eq]
  simp only [Option.bind_some]
  by_cases h : (1 : Int) ≤ L.length ∧ (L.length : Int) ≤ 4
  · rw [decide_eq_true h.1, decide_eq_true h.2]
    exact Ev_true (by simpa using h) (foGood_l0 hL L.length 0 (by omega))
  · have e : (decide ((1 : Int) ≤ L.length) && decide ((L.length : Int) ≤ 4)) = false := by
      rw [← Bool.not_eq_true, Bool.and_eq_true, decide_eq_true_iff, decide_eq_true_iff]
      exact h
    rw [e, Bool.false_and]
    exact Ev_false (by simpa using h) Ev_some
end Go.Proofs.Ytldkkfpodldbgaa.Q
namespace Go.Proofs.Ytldkkfpodldbgaa.Q
open Go.RowKit Go.Proofs.Ytldkkfpodldbgaa.P Go.Proofs.YtldkkfpodldbgaaW.PrintWords Go.Proofs.YtldkkfpodldbgaaW.PrintLast Go.Proofs.Ytldkkfpodldbgaa.G

theorem minor_len (L : List (List Int)) (r q : Int) : (minorL L r q).length = L.length - 1 := by unfold minorL; rw [rowsOf_length]
theorem minor_sq {L : List (List Int)} (hL : isSq L = true) (r q : Int) : isSq (minorL L r q) = true := by
  have := isSq_le hL
  unfold minorL
  exact isSq_rowsOf _ (by omega)

def sgn (j : Nat) : Int := if j % 2 = 0 then 1 else -1
theorem sgn_next (j : Nat) : wrap64 (-sgn j) = sgn (j + 1) := by
  unfold sgn
  by_cases h : j % 2 = 0
  · rw [if_pos h, if_neg (by omega)]
    exact w64 (by omega) (by omega)
  · rw [if_neg h, if_pos (by omega)]
    exact w64 (by omega) (by omega)
/-- The sum along the first row, as both programs add it up. -/
def detS (D : List (List Int) → Int) (L : List (List Int)) : Nat → Int
  | 0 => 0
  | j + 1 => wrap64 (detS D L j + wrap64 (wrap64 (sgn j * at2 L 0 j) * D (minorL L 0 j)))
def detN : Nat → List (List Int) → Int
  | 0, _ => 1
  | n + 1, L => detS (detN n) L (n + 1)
theorem rd2_0 (L : List (List Int)) (j : Nat) : rd (rd_L1 L 0) (j : Int) = at2 L 0 j := rd2 L 0 j
theorem row_len0 {L : List (List Int)} {n : Nat} (h : isSq L = true) (hL : L.length = n) (hi : 0 < n) : (rd_L1 L 0).length = n := row_len h hL hi
theorem without_eq {L : List (List Int)} (hL : isSq L = true) (h1 : 1 ≤ L.length) (r q : Int) : impl_Matrix_without.f L r q = some (minorL L r q) := by
  unfold impl_Matrix_without.f
  rw [if_pos hL, if_pos h1]
theorem det_l0 {L : List (List Int)} {n : Nat} (hn : n + 1 ≤ 1000) (hL : isSq L = true) (eL : L.length = n + 1) (D : List (List Int) → Int)
    (hD : ∀ M, isSq M = true → M.length = n → Ev (fun k => impl_Matrix_determinant.f k M) (D M)) (d : Nat) :
    ∀ j : Nat, j + d = n + 1 → Ev (fun k => impl_Matrix_determinant.l0 k (detS D L j) (sgn j) (rd_L1 L 0) ((n + 1 : Nat) : Int) (j : Int) L) (detS D L (n + 1)) := by
  induction d with
  | zero =>
    intro j hj
    obtain rfl : j = n + 1 := by omega
    refine Ev_succ ?_
    simp only [impl_Matrix_determinant.l0]
    exact Ev_false (by omega) Ev_some
  | succ d ih =>
    intro j hj
    refine Ev_succ ?_
    simp only [impl_Matrix_determinant.l0]
    rw [row_len0 hL eL (by omega), w64 (x := (j : Int) + 1) (by omega) (by omega), rd2_0, sgn_next, without_eq hL (by omega)]
    simp only [Option.bind_some]
    refine Ev_true (by omega) (Ev_true (by omega) (Ev_true (by omega) (Ev.bind (hD _ (minor_sq hL _ _) (by rw [minor_len]; omega)) ?_)))
    exact ih (j + 1) (by omega)
theorem det_ev : ∀ (n : Nat) (L : List (List Int)), n ≤ 1000 → isSq L = true → L.length = n → Ev (fun k => impl_Matrix_determinant.f k L) (detN n L)
  | 0, L, _, hL, eL => by
    refine Ev_succ ?_
    simp only [impl_Matrix_determinant.f, impl_Matrix_size.f, Option.bind_some]
    rw [eL]
    exact Ev_true rfl Ev_some
  | n + 1, L, hn, hL, eL => by
    refine Ev_succ ?_
    simp only [impl_Matrix_determinant.f, impl_Matrix_size.f, Option.bind_some]
    rw [eL, row_len0 hL eL (by omega)]
    refine Ev_false (by omega) (Ev_true (by omega) ?_)
    exact det_l0 hn hL eL (detN n) (fun M hM eM => det_ev n M (by omega) hM eM) (n + 1) 0 (by omega)

end Go.Proofs.Ytldkkfpodldbgaa.Q
namespace Go.Proofs.Ytldkkfpodldbgaa.Q
open Go.RowKit Go.Proofs.Ytldkkfpodldbgaa.P Go.Proofs.YtldkkfpodldbgaaW.PrintWords Go.Proofs.YtldkkfpodldbgaaW.PrintLast Go.Proofs.Ytldkkfpodldbgaa.G
def invAt (L : List (List Int)) (d : Int) (i j : Nat) : Int := if (i + j) % 2 = 1 then wrap64 (-(wrap64 (d * detN (L.length - 1) (minorL L (j : Int) (i : Int))))) else wrap64 (d * detN (L.length - 1) (minorL L (j : Int) (i : Int)))
def invL (L : List (List Int)) (d : Int) : List (List Int) := rowsOf (invAt L d) L.length L.length
def invR (L : List (List Int)) : List (List Int) × Bool :=
  if isMat L = true then (if L.all (isLow 1000) = true then (if detN L.length L = 1 ∨ detN L.length L = -1 then (if isMat (invL L (detN L.length L)) = true then (invL L (detN L.length L), true) else ([], false)) else ([], false)) else ([], false)) else ([], false)
end Go.Proofs.Ytldkkfpodldbgaa.Q
namespace Go.Proofs.Ytldkkfpodldbgaa.Q
open Go.RowKit Go.Proofs.Ytldkkfpodldbgaa.P Go.Proofs.YtldkkfpodldbgaaW.PrintWords Go.Proofs.YtldkkfpodldbgaaW.PrintLast Go.Proofs.Ytldkkfpodldbgaa.G

theorem foZero_l0 {n : Nat} (hn : n ≤ 1000) (d : Nat) : ∀ i : Nat, i + d = n → Ev (fun k => spec_foZero.l0 k (n : Int) (i : Int) (rowsOf (fun _ _ => 0) n i)) (rowsOf (fun _ _ => 0) n n) := by
  induction d with
  | zero =>
    intro i hi
    obtain rfl : i = n := by omega
    refine Ev_succ ?_
    simp only [spec_foZero.l0]
    exact Ev_false (by omega) Ev_some
  | succ d ih =>
    intro i hi
    refine Ev_succ ?_
    simp only [spec_foZero.l0]
    have e : rowsOf (fun _ _ => 0) n i ++ [List.replicate ((n : Int)).toNat 0] = rowsOf (fun _ _ => 0) n (i + 1) := by
      rw [rowsOf_succ]
      congr 2
      unfold rowOf
      rw [Int.toNat_natCast]
      apply List.ext_getElem <;> simp
    rw [e, w64 (x := (i : Int) + 1) (by omega) (by omega)]
    refine Ev_true (by omega) (Ev_true (by omega) (Ev_true (by omega) (Ev_true (by rw [rowsOf_length]; omega) (ih (i + 1) (by omega)))))
theorem foZero_ev {n : Nat} (hn : n ≤ 1000) : Ev (fun k => spec_foZero.f k (n : Int)) (rowsOf (fun _ _ => 0) n n) :=
  foZero_l0 hn n 0 (by omega)

/-- How far a matrix has been written, row by row. -/
def stage (H : Nat → Nat → Int) (i j : Nat) : Nat → Nat → Int := fun a b => if a < i ∨ (a = i ∧ b < j) then H a b else 0
theorem stage_next (H : Nat → Nat → Int) (i j : Nat) : upd (stage H i j) i j (H i j) = stage H i (j + 1) := by
  funext a b
  unfold upd stage
  by_cases h : a = i ∧ b = j
  · rw [if_pos h, if_pos (by omega), h.1, h.2]
  · rw [if_neg h]
    by_cases h2 : a < i ∨ (a = i ∧ b < j)
    · rw [if_pos h2, if_pos (by omega)]
    · rw [if_neg h2, if_neg (by omega)]
theorem stage_row (H : Nat → Nat → Int) {n m : Nat} (i : Nat) : rowsOf (stage H i n) n m = rowsOf (stage H (i + 1) 0) n m := rowsOf_congr fun a b _ hb => by
  unfold stage
  by_cases h : a < i ∨ (a = i ∧ b < n)
  · rw [if_pos h, if_pos (by omega)]
  · rw [if_neg h, if_neg (by omega)]
theorem stage_end (H : Nat → Nat → Int) (n : Nat) : rowsOf (stage H n 0) n n = rowsOf H n n := rowsOf_congr fun a b ha _ => by
  unfold stage
  rw [if_pos (.inl ha)]
theorem stage_start (H : Nat → Nat → Int) (n : Nat) : rowsOf (fun _ _ => 0) n n = rowsOf (stage H 0 0) n n := rowsOf_congr fun a b _ _ => by
  unfold stage
  rw [if_neg (by omega)]

end Go.Proofs.Ytldkkfpodldbgaa.Q
namespace Go.Proofs.Ytldkkfpodldbgaa.Q
open Go.RowKit Go.Proofs.Ytldkkfpodldbgaa.P Go.Proofs.YtldkkfpodldbgaaW.PrintWords Go.Proofs.YtldkkfpodldbgaaW.PrintLast Go.Proofs.Ytldkkfpodldbgaa.G

theorem foSmall_l0 {L : List (List Int)} (hL : Fits L) (m : Int) (d : Nat) : ∀ i : Nat, i + d = L.length → Ev (fun k => spec_foSmall.l0 k m L (L.length : Int) (i : Int)) ((L.drop i).all (isLow m)) := by
  have hl := hL.1
  induction d with
  | zero =>
    intro i hi
    refine Ev_succ ?_
    simp only [spec_foSmall.l0]
    rw [List.drop_of_length_le (by omega)]
    exact Ev_false (by omega) Ev_some
  | succ d ih =>
    intro i hi
    have h1 : i < L.length := by omega
    have hxi := hL.2 _ (List.getElem_mem h1)
    refine Ev_succ ?_
    simp only [spec_foSmall.l0]
    rw [rdRow h1, w64 (x := (i : Int) + 1) (by omega) (by omega), List.drop_eq_getElem_cons h1, List.all_cons]
    refine Ev_true (by omega) (Ev_true (by omega) (Ev_true (by omega) ?_))
    refine Ev.bind (l1All_ev (l := L[i]) (by omega) (wrap64 (-m)) m) ?_
    unfold isLow
    cases hb : L[i].all (inB (wrap64 (-m)) m) with
    | true => exact Ev_true rfl (ih (i + 1) (by omega))
    | false => exact Ev_false (by simp) Ev_some
theorem foSmall_ev {L : List (List Int)} (hL : Fits L) (m : Int) : Ev (fun k => spec_foSmall.f k L m) (isMat L && L.all (isLow m)) := by
  unfold spec_foSmall.f
  refine Ev.bind (foGood_ev hL) ?_
  cases hb : isMat L with
  | true => exact Ev_true rfl (foSmall_l0 hL m L.length 0 (by omega))
  | false => exact Ev_false (by simp) Ev_some
end Go.Proofs.Ytldkkfpodldbgaa.Q
namespace Go.Proofs.Ytldkkfpodldbgaa.Q
open Go.RowKit Go.Proofs.Ytldkkfpodldbgaa.P Go.Proofs.YtldkkfpodldbgaaW.PrintWords Go.Proofs.YtldkkfpodldbgaaW.PrintLast Go.Proofs.Ytldkkfpodldbgaa.G

theorem l1Own_eq {l : List Int} (h : l.length < 17592186044416) : spec_l1Own.f l = some l := by
  unfold spec_l1Own.f
  simp only [Option.bind_some, List.length_nil, Nat.zero_add, List.nil_append]
  rw [if_pos h]
theorem at2_row {L : List (List Int)} {i b : Nat} (h : b < (rd_L1 L (i : Int)).length) : (rd_L1 L (i : Int))[b] = at2 L i b := by rw [← rd2, rd_at h]
theorem cut_row {L : List (List Int)} {n : Nat} (hL : isSq L = true) (eL : L.length = n) {i q : Nat} (hi : i < n) (hq : q < n) :
    (rd_L1 L (i : Int)).take q ++ (rd_L1 L (i : Int)).drop (q + 1) = (List.range (n - 1)).map (fun b => at2 L i (skip (q : Int) b)) := by
  have hr := row_len hL eL hi
  apply List.ext_getElem
  · simp only [List.length_append, List.length_take, List.length_drop, List.length_map, List.length_range, hr]
    omega
  · intro b h1 h2
    rw [List.length_map, List.length_range] at h2
    rw [List.getElem_append]
    simp only [List.getElem_map, List.getElem_range]
    split
    · rename_i hb
      rw [List.length_take] at hb
      rw [List.getElem_take, at2_row, show skip (q : Int) b = b from by unfold skip; rw [if_neg (by omega)]]
    · rename_i hb
      rw [List.length_take, hr] at hb
      rw [List.getElem_drop]
      have e : q + 1 + (b - ((rd_L1 L (i : Int)).take q).length) = b + 1 := by rw [List.length_take, hr]; omega
      simp only [e]
      rw [at2_row, show skip (q : Int) b = b + 1 from by unfold skip; rw [if_pos (by omega)]]
theorem foMinor_l0 {L : List (List Int)} {n : Nat} (hn : n ≤ 1000) (hL : isSq L = true) (eL : L.length = n) {r q : Nat} (hr : r < n) (hq : q < n) (d : Nat) :
    ∀ i : Nat, i + d = n → Ev (fun k => spec_foMinor.l0 k (r : Int) (q : Int) (rowsOf (fun i j => at2 L (skip (r : Int) i) (skip (q : Int) j)) (n - 1) (if i ≤ r then i else i - 1)) L (n : Int) (i : Int)) (minorL L r q) := by
  induction d with
  | zero =>
    intro i hi
    obtain rfl : i = n := by omega
    refine Ev_succ ?_
    simp only [spec_foMinor.l0]
    rw [if_neg (show ¬ i ≤ r by omega)]
    unfold minorL
    rw [eL]
    exact Ev_false (by omega) Ev_some
  | succ d ih =>
    intro i hi
    have hi' : i < n := by omega
    have hrl := row_len hL eL hi'
    refine Ev_succ ?_
    simp only [spec_foMinor.l0]
    rw [w64 (x := (i : Int) + 1) (by omega) (by omega), w64 (x := (q : Int) + 1) (by omega) (by omega), eL]
    refine Ev_true (by omega) (Ev_true (by omega) (Ev_true (by omega) ?_))
    have h := ih (i + 1) (by omega)
    by_cases he : i = r
    · rw [if_neg (show ¬ i + 1 ≤ r by omega)] at h
      rw [if_pos (show i ≤ r by omega)]
      exact Ev_true (by omega) h
    · refine Ev_false (by omega) (Ev_true (by omega) (Ev_true (by omega) ?_))
      rw [show ((q : Int) + 1).toNat = q + 1 from by omega, Int.toNat_natCast, l1Own_eq (by rw [List.length_take]; omega)]
      simp only [Option.bind_some]
      rw [cut_row hL eL hi' hq]
      refine Ev_true (by omega) (Ev_true (by omega) (Ev_true (by rw [List.length_take, List.length_drop]; omega) (Ev_true (by rw [rowsOf_length]; split <;> omega) ?_)))
      have e : rowsOf (fun i j => at2 L (skip (r : Int) i) (skip (q : Int) j)) (n - 1) (if i ≤ r then i else i - 1) ++ [(List.range (n - 1)).map (fun b => at2 L i (skip (q : Int) b))] =
          rowsOf (fun i j => at2 L (skip (r : Int) i) (skip (q : Int) j)) (n - 1) (if i + 1 ≤ r then i + 1 else i + 1 - 1) := by
        by_cases hc : i < r
        · rw [if_pos (show i ≤ r by omega), if_pos (show i + 1 ≤ r by omega), rowsOf_succ]
          congr 2
          unfold rowOf
          dsimp only
          rw [show skip (r : Int) i = i from by unfold skip; rw [if_neg (by omega)]]
        · rw [if_neg (show ¬ i ≤ r by omega), if_neg (show ¬ i + 1 ≤ r by omega), show i + 1 - 1 = (i - 1) + 1 by omega, rowsOf_succ]
          congr 2
          unfold rowOf
          dsimp only
          rw [show skip (r : Int) (i - 1) = i from by unfold skip; rw [if_pos (by omega)]; omega]
      rw [e]
      exact h
theorem foMinor_ev {L : List (List Int)} (hL : isSq L = true) {r q : Nat} (hr : r < L.length) (hq : q < L.length) : Ev (fun k => spec_foMinor.f k L (r : Int) (q : Int)) (minorL L r q) := by
  unfold spec_foMinor.f
  have h := foMinor_l0 (isSq_le hL) hL rfl hr hq L.length 0 (by omega)
  rw [if_pos (Nat.zero_le _)] at h
  exact h
theorem foDet_l0 {L : List (List Int)} {n : Nat} (hn : n + 1 ≤ 1000) (hL : isSq L = true) (eL : L.length = n + 1) (D : List (List Int) → Int)
    (hD : ∀ M, isSq M = true → M.length = n → Ev (fun k => spec_foDeterminant.f k M) (D M)) (d : Nat) :
    ∀ j : Nat, j + d = n + 1 → Ev (fun k => spec_foDeterminant.l0 k L (detS D L j) (sgn j) (rd_L1 L 0) ((n + 1 : Nat) : Int) (j : Int)) (detS D L (n + 1)) := by
  induction d with
  | zero =>
    intro j hj
    obtain rfl : j = n + 1 := by omega
    refine Ev_succ ?_
    simp only [spec_foDeterminant.l0]
    exact Ev_false (by omega) Ev_some
  | succ d ih =>
    intro j hj
    refine Ev_succ ?_
    simp only [spec_foDeterminant.l0]
    rw [row_len0 hL eL (by omega), w64 (x := (j : Int) + 1) (by omega) (by omega), rd2_0, sgn_next]
    refine Ev_true (by omega) (Ev_true (by omega) (Ev_true (by omega) (Ev.bind (foMinor_ev (r := 0) (q := j) hL (by omega) (by omega)) (Ev.bind (hD _ (minor_sq hL _ _) (by rw [minor_len]; omega)) ?_))))
    exact ih (j + 1) (by omega)
theorem foDet_ev : ∀ (n : Nat) (L : List (List Int)), n ≤ 1000 → isSq L = true → L.length = n → Ev (fun k => spec_foDeterminant.f k L) (detN n L)
  | 0, L, _, hL, eL => by
    refine Ev_succ ?_
    simp only [spec_foDeterminant.f]
    rw [eL]
    exact Ev_true rfl Ev_some
  | n + 1, L, hn, hL, eL => by
    refine Ev_succ ?_
    simp only [spec_foDeterminant.f]
    rw [eL, row_len0 hL eL (by omega)]
    refine Ev_false (by omega) (Ev_true (by omega) ?_)
    exact foDet_l0 hn hL eL (detN n) (fun M hM eM => foDet_ev n M (by omega) hM eM) (n + 1) 0 (by omega)
end Go.Proofs.Ytldkkfpodldbgaa.Q
namespace Go.Proofs.Ytldkkfpodldbgaa.Q
open Go.RowKit Go.Proofs.Ytldkkfpodldbgaa.P Go.Proofs.YtldkkfpodldbgaaW.PrintWords Go.Proofs.YtldkkfpodldbgaaW.PrintLast Go.Proofs.Ytldkkfpodldbgaa.G
theorem foIf_ev {L : List (List Int)} (hL : Fits L) : Ev (fun k => spec_foIf.f k L) (if isMat L = true then (L, true) else ([], false)) := by
  unfold spec_foIf.f
  by_cases h : isMat L = true
  · rw [if_pos h]
    exact Ev.bind (foGood_ev hL) (Ev_true h Ev_some)
  · rw [if_neg h]
    exact Ev.bind (foGood_ev hL) (Ev_false h Ev_some)
theorem par_cast (i j : Nat) (hi : i ≤ 1000) (hj : j ≤ 1000) : Int.tmod (wrap64 ((i : Int) + (j : Int))) 2 = (((i + j) % 2 : Nat) : Int) := by
  rw [show wrap64 ((i : Int) + (j : Int)) = ((i + j : Nat) : Int) from (w64 (by omega) (by omega)).trans (by omega), Int.tmod_eq_emod_of_nonneg (by omega)]
  omega
theorem inv_l1 {L : List (List Int)} {n : Nat} (hn : n ≤ 1000) (hL : isSq L = true) (eL : L.length = n) (D : Int) {i : Nat} (hi : i < n) {r : List (List Int) × Bool} (d : Nat) :
    ∀ j : Nat, j + d = n → Ev (fun k => spec_InverseOf.l0 k D (n : Int) ((i + 1 : Nat) : Int) L (rowsOf (fun a b => stage (fun a b => invAt L D b a) (i + 1) 0 b a) n n)) r →
      Ev (fun k => spec_InverseOf.l1 k D (i : Int) (n : Int) (i : Int) (n : Int) (j : Int) L (rowsOf (fun a b => stage (fun a b => invAt L D b a) i j b a) n n)) r := by
  induction d with
  | zero =>
    intro j hj h
    obtain rfl : j = n := by omega
    refine Ev_succ ?_
    simp only [spec_InverseOf.l1]
    have e : rowsOf (fun a b => stage (fun a b => invAt L D b a) i j b a) j j = rowsOf (fun a b => stage (fun a b => invAt L D b a) (i + 1) 0 b a) j j := rowsOf_congr fun a b ha _ => by
      unfold stage
      by_cases h : b < i ∨ (b = i ∧ a < j)
      · rw [if_pos h, if_pos (by omega)]
      · rw [if_neg h, if_neg (by omega)]
    rw [w64 (x := (i : Int) + 1) (by omega) (by omega), e]
    exact Ev_false (by omega) h
  | succ d ih =>
    intro j hj h
    have hmin := foMinor_ev (L := L) (r := i) (q := j) hL (by omega) (by omega)
    have hdet := foDet_ev (n - 1) (minorL L (i : Int) (j : Int)) (by omega) (minor_sq hL _ _) (by rw [minor_len, eL])
    have hin : invAt L D j i = if (i + j) % 2 = 1 then wrap64 (-(wrap64 (D * detN (n - 1) (minorL L (i : Int) (j : Int))))) else wrap64 (D * detN (n - 1) (minorL L (i : Int) (j : Int))) := by
      unfold invAt
      rw [eL, Nat.add_comm j i]
    have hset : ∀ v : Int, v = invAt L D j i → (rowsOf (fun a b => stage (fun a b => invAt L D b a) i j b a) n n).set j ((rowOf (fun a b => stage (fun a b => invAt L D b a) i j b a) j n).set i v) = rowsOf (fun a b => stage (fun a b => invAt L D b a) i (j + 1) b a) n n := by
      rintro v rfl
      rw [rowsOf_set]
      congr 1
      funext a b
      unfold upd stage
      by_cases h : a = j ∧ b = i
      · rw [if_pos h, if_pos (by omega), h.1, h.2]
      · rw [if_neg h]
        show (if b < i ∨ (b = i ∧ a < j) then invAt L D a b else 0) = if b < i ∨ (b = i ∧ a < j + 1) then invAt L D a b else 0
        by_cases h2 : b < i ∨ (b = i ∧ a < j)
        · rw [if_pos h2, if_pos (by omega)]
        · rw [if_neg h2, if_neg (by omega)]
    refine Ev_succ ?_
    simp only [spec_InverseOf.l1]
    rw [rdRow_rowsOf (by omega), rowsOf_length, rowOf_length, Int.toNat_natCast, Int.toNat_natCast, par_cast i j (by omega) (by omega), w64 (x := (j : Int) + 1) (by omega) (by omega)]
    refine Ev_true (by omega) (Ev.bind hmin (Ev.bind hdet ?_))
    have hnext := ih (j + 1) (by omega) h
    by_cases hp : (i + j) % 2 = 1
    · rw [if_pos hp] at hin
      rw [hset _ hin.symm]
      exact Ev_true (by omega) (Ev_true (by omega) (Ev_true (by omega) (Ev_true (by omega) (Ev_true (by omega) hnext))))
    · rw [if_neg hp] at hin
      rw [hset (wrap64 (D * detN (n - 1) (minorL L (i : Int) (j : Int)))) hin.symm]
      exact Ev_false (by omega) (Ev_true (by omega) (Ev_true (by omega) (Ev_true (by omega) (Ev_true (by omega) hnext))))
theorem inv_l0 {L : List (List Int)} {n : Nat} (hn : n ≤ 1000) (hL : isSq L = true) (eL : L.length = n) (D : Int) (d : Nat) :
    ∀ i : Nat, i + d = n → Ev (fun k => spec_InverseOf.l0 k D (n : Int) (i : Int) L (rowsOf (fun a b => stage (fun a b => invAt L D b a) i 0 b a) n n)) (if isMat (rowsOf (invAt L D) n n) = true then (rowsOf (invAt L D) n n, true) else ([], false)) := by
  induction d with
  | zero =>
    intro i hi
    obtain rfl : i = n := by omega
    refine Ev_succ ?_
    simp only [spec_InverseOf.l0]
    have e : rowsOf (fun a b => stage (fun a b => invAt L D b a) i 0 b a) i i = rowsOf (invAt L D) i i := rowsOf_congr fun a b _ hb => by
      unfold stage
      rw [if_pos (.inl hb)]
    rw [e]
    refine Ev_false (by omega) ?_
    exact Ev.bind (f := fun _ (t : List (List Int) × Bool) => some (t.1, t.2)) (foIf_ev (fits_sq (isSq_rowsOf _ hn))) Ev_some
  | succ d ih =>
    intro i hi
    refine Ev_succ ?_
    simp only [spec_InverseOf.l0]
    rw [eL]
    refine Ev_true (by omega) ?_
    exact inv_l1 hn hL eL D (by omega) n 0 (by omega) (ih (i + 1) (by omega))
theorem specInv_ev {L : List (List Int)} (hL : Fits L) : Ev (fun k => spec_InverseOf.f k L) (invR L) := by
  unfold spec_InverseOf.f invR
  refine Ev.bind (foSmall_ev hL 1000) ?_
  by_cases hm : isMat L = true
  · rw [if_pos hm]
    have hs := isMat_sq hm
    have hn := isSq_le hs
    by_cases hl : L.all (isLow 1000) = true
    · rw [if_pos hl]
      refine Ev_true (by rw [hm, hl]; rfl) (Ev.bind (foDet_ev L.length L hn hs rfl) ?_)
      have hgo : (detN L.length L = 1 ∨ detN L.length L = -1) → Ev (fun k => spec_InverseOf.j0 k (detN L.length L) false L) (if isMat (invL L (detN L.length L)) = true then (invL L (detN L.length L), true) else ([], false)) := by
        intro _
        refine Ev_succ ?_
        simp only [spec_InverseOf.j0]
        refine Ev_false (by simp) (Ev.bind (foZero_ev hn) ?_)
        have e : rowsOf (fun _ _ => 0) L.length L.length = rowsOf (fun a b => stage (fun a b => invAt L (detN L.length L) b a) 0 0 b a) L.length L.length := rowsOf_congr fun a b _ _ => by
          unfold stage
          rw [if_neg (by omega)]
        rw [e]
        exact inv_l0 hn hs rfl _ L.length 0 (by omega)
      have hno : Ev (fun k => spec_InverseOf.j0 k (detN L.length L) true L) ([], false) := by
        refine Ev_succ ?_
        simp only [spec_InverseOf.j0]
        exact Ev_true trivial Ev_some
      by_cases h1 : detN L.length L = 1
      · rw [if_pos (.inl h1)]
        exact Ev_true h1 (hgo (.inl h1))
      · refine Ev_false h1 ?_
        by_cases h2 : detN L.length L = -1
        · rw [if_pos (.inr h2), show (detN L.length L != -1) = false from bne_eq_false_iff_eq.mpr h2]
          exact hgo (.inr h2)
        · rw [if_neg (by omega), show (detN L.length L != -1) = true from bne_iff_ne.mpr h2]
          exact hno
    · rw [if_neg hl]
      exact Ev_false (by rw [hm, Bool.eq_false_iff.2 hl]; simp) Ev_some
  · rw [if_neg hm]
    exact Ev_false (by rw [Bool.eq_false_iff.2 hm]; simp) Ev_some
theorem invR_sq (L : List (List Int)) : isSq (invR L).1 = true ∨ (invR L).1 = [] := by
  unfold invR
  split
  · split
    · split
      · split
        · rename_i h
          exact .inl (isMat_sq h)
        · exact .inr rfl
      · exact .inr rfl
    · exact .inr rfl
  · exact .inr rfl
end Go.Proofs.Ytldkkfpodldbgaa.Q

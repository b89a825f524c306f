/- Rows of numbers by a function, and what a store makes of them. -/
import Derived.Test.YtnaginnhccldhaaAQBase
import Derived.Test.YtnaginnhccldhaaGA
namespace Go.Proofs.Ytnaginnhccldhaa.Q
open Go.RowKit Go.Proofs.Ytnaginnhccldhaa.P Go.Proofs.YtnaginnhccldhaaW.PrintWords Go.Proofs.YtnaginnhccldhaaW.PrintLast Go.Proofs.Ytnaginnhccldhaa.G

def upd (F : Nat → Nat → Int) (i j : Nat) (v : Int) : Nat → Nat → Int := fun a b => if a = i ∧ b = j then v else F a b
theorem upd_upd (F : Nat → Nat → Int) (i j : Nat) (v u : Int) : upd (upd F i j v) i j u = upd F i j u := by
  funext a b
  unfold upd
  by_cases h : a = i ∧ b = j
  · rw [if_pos h, if_pos h]
  · rw [if_neg h, if_neg h, if_neg h]
theorem upd_self (F : Nat → Nat → Int) (i j : Nat) {v : Int} (h : F i j = v) : upd F i j v = F := by
  funext a b
  unfold upd
  by_cases c : a = i ∧ b = j
  · rw [if_pos c, c.1, c.2, h]
  · rw [if_neg c]
theorem upd_at (F : Nat → Nat → Int) (i j : Nat) (v : Int) : upd F i j v i j = v := by
  unfold upd
  rw [if_pos ⟨rfl, rfl⟩]
theorem rd_rowOf {F : Nat → Nat → Int} {i n j : Nat} (hj : j < n) : rd (rowOf F i n) (j : Int) = F i j := by
  rw [rd_at (by rw [rowOf_length]; exact hj)]
  simp [rowOf]
theorem rdRow_rowsOf {F : Nat → Nat → Int} {n m i : Nat} (hi : i < m) : rd_L2 (rowsOf F n m) (i : Int) = rowOf F i n := by
  rw [rdRow (by rw [rowsOf_length]; exact hi)]
  simp [rowsOf]
theorem rowOf_congr {F F' : Nat → Nat → Int} {i i' n : Nat} (h : ∀ b, b < n → F i b = F' i' b) : rowOf F i n = rowOf F' i' n := by
  unfold rowOf
  exact List.map_congr_left (fun b hb => h b (List.mem_range.1 hb))
theorem rowsOf_congr {F F' : Nat → Nat → Int} {n m : Nat} (h : ∀ a b, a < m → b < n → F a b = F' a b) : rowsOf F n m = rowsOf F' n m := by
  unfold rowsOf
  exact List.map_congr_left (fun a ha => rowOf_congr (fun b hb => h a b (List.mem_range.1 ha) hb))
theorem rowOf_set {F : Nat → Nat → Int} {i n j : Nat} {v : Int} : (rowOf F i n).set j v = rowOf (upd F i j v) i n := by
  apply List.ext_getElem
  · simp [rowOf]
  · intro k h1 h2
    rw [List.getElem_set]
    simp only [rowOf, upd, List.getElem_map, List.getElem_range, true_and]
    by_cases h : j = k
    · rw [if_pos h, if_pos h.symm]
    · rw [if_neg h, if_neg (fun e => h e.symm)]
theorem rowsOf_set {F : Nat → Nat → Int} {n m i j : Nat} {v : Int} : (rowsOf F n m).set i ((rowOf F i n).set j v) = rowsOf (upd F i j v) n m := by
  apply List.ext_getElem
  · simp [rowsOf]
  · intro k h1 h2
    rw [List.getElem_set]
    by_cases h : i = k
    · subst h
      rw [if_pos rfl, rowOf_set]
      simp [rowsOf]
    · rw [if_neg h]
      simp only [rowsOf, List.getElem_map, List.getElem_range]
      exact rowOf_congr (fun b _ => by unfold upd; rw [if_neg (fun e => h e.1.symm)])
theorem rowsOf_take {F : Nat → Nat → Int} {n m i : Nat} (h : i ≤ m) : (rowsOf F n m).take i = rowsOf F n i := by
  unfold rowsOf
  rw [← List.map_take, List.take_range, Nat.min_eq_left h]
theorem rd2 (L : List (List Int)) (i j : Nat) : rd (rd_L2 L (i : Int)) (j : Int) = at2 L i j := by simp [rd, rd_L2, at2]
theorem at2_rowsOf {F : Nat → Nat → Int} {n m i j : Nat} (hi : i < m) (hj : j < n) : at2 (rowsOf F n m) i j = F i j := by
  rw [← rd2, rdRow_rowsOf hi, rd_rowOf hj]
theorem isSq_rowsOf (F : Nat → Nat → Int) {n : Nat} (hn : n ≤ 1000) : isSq (rowsOf F n n) = true := by
  unfold isSq
  rw [Bool.and_eq_true, decide_eq_true_iff, rowsOf_length]
  refine ⟨hn, List.all_eq_true.2 fun x hx => ?_⟩
  unfold rowsOf at hx
  obtain ⟨a, _, rfl⟩ := List.mem_map.1 hx
  rw [rowOf_length]
  exact decide_eq_true rfl
theorem row_len {L : List (List Int)} {n : Nat} (h : isSq L = true) (hL : L.length = n) {i : Nat} (hi : i < n) : (rd_L2 L (i : Int)).length = n := by
  subst hL
  rw [rdRow hi]
  exact isSq_at h hi
theorem isSq_rows {L : List (List Int)} {n : Nat} (h : isSq L = true) (hL : L.length = n) : L = rowsOf (at2 L) n n := by
  subst hL
  apply List.ext_getElem
  · simp [rowsOf]
  · intro i h1 h2
    apply List.ext_getElem
    · rw [isSq_at h h1]
      simp [rowsOf, rowOf]
    · intro j h3 h4
      rw [← at2_eq h1 h3]
      simp [rowsOf, rowOf]
theorem isMat_sq {L : List (List Int)} (h : isMat L = true) : isSq L = true := by
  have h1 := isMat_len h
  unfold isSq
  rw [Bool.and_eq_true, decide_eq_true_iff]
  exact ⟨by omega, List.all_eq_true.2 fun x hx => decide_eq_true (isMat_row h hx).1⟩
theorem isMat_at {L : List (List Int)} (h : isMat L = true) {i j : Nat} (hi : i < L.length) (hj : j < L.length) : -1000000 ≤ at2 L i j ∧ at2 L i j ≤ 1000000 := by
  have h1 := isSq_at (isMat_sq h) hi
  rw [at2_eq hi (by omega)]
  exact (isMat_row h (List.getElem_mem hi)).2 _ (List.getElem_mem _)
theorem fits_sq {L : List (List Int)} (h : isSq L = true) : Fits L := by
  have h1 := isSq_le h
  refine ⟨by omega, fun x hx => ?_⟩
  obtain ⟨i, hi, rfl⟩ := List.mem_iff_getElem.1 hx
  have := isSq_at h hi
  omega
end Go.Proofs.Ytnaginnhccldhaa.Q

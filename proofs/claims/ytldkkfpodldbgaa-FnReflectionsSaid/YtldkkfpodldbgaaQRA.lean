/- Several parts in one text: Small lemmas: loops with a number of rounds come to their answers. Rows and matrices: reads, sizes, what a matrix is. Rows of numbers by a function, and what a store makes of them. Matrices: zeros and products of the reference. All of a list lie between two numbers. Matrices: the reference's test of a matrix. Matrices: the reference's test of small numbers. Matrices: comparisons of the reference. Matrices: transposes of the reference. Matrices times vectors, of the program. Matrices times vectors, of the reference. Vectors, of the program. Forms and products by them, of both programs. ProductAt, of both programs. The reflection by a vector: what the program comes to. -/
import Derived.Test.YtldkkfpodldbgaaWWords
import Derived.Test.YtldkkfpodldbgaaRx0
import Derived.Test.YtldkkfpodldbgaaGA
import Derived.Test.YtldkkfpodldbgaaRx1
import Derived.Test.YtldkkfpodldbgaaRx2
import Derived.Test.YtldkkfpodldbgaaRx4
import Derived.Test.YtldkkfpodldbgaaRx6
import Derived.Test.YtldkkfpodldbgaaRx9
import Derived.Test.YtldkkfpodldbgaaRx7
import Derived.Test.YtldkkfpodldbgaaRx10
namespace Go.Proofs.Ytldkkfpodldbgaa.Q
open Go.RowKit Go.Proofs.YtldkkfpodldbgaaW.PrintWords

theorem Ev_succ {α : Type} {g : Nat → Option α} {r : α} (h : Ev (fun k => g (k + 1)) r) : Ev g r := Ev.step (fun _ => rfl) h
theorem Ev_some {α : Type} {a : α} : Ev (fun _ => some a) a := Ev.now a
theorem Ev_out {α : Type} {g : Nat → Option α} {r : α} (h : Ev g r) : ∃ k, g k = some r := h.rounds
theorem Ev_true {α : Type} {c : Prop} [Decidable c] {f g : Nat → Option α} {r : α} (hc : c) (h : Ev f r) : Ev (fun k => if c then f k else g k) r := by
  simpa only [if_pos hc] using h
theorem Ev_false {α : Type} {c : Prop} [Decidable c] {f g : Nat → Option α} {r : α} (hc : ¬ c) (h : Ev g r) : Ev (fun k => if c then f k else g k) r := by
  simpa only [if_neg hc] using h


theorem w64 {x : Int} (h : -9223372036854775808 ≤ x) (h' : x ≤ 9223372036854775807) : wrap64 x = x := by unfold wrap64; omega

end Go.Proofs.Ytldkkfpodldbgaa.Q
namespace Go.Proofs.Ytldkkfpodldbgaa.Q
open Go.RowKit Go.Proofs.Ytldkkfpodldbgaa.P Go.Proofs.YtldkkfpodldbgaaW.PrintWords Go.Proofs.YtldkkfpodldbgaaW.PrintLast Go.Proofs.Ytldkkfpodldbgaa.G

theorem rd_at {l : List Int} {i : Nat} (h : i < l.length) : rd l (i : Int) = l[i] := by
  simp [rd, List.getD_eq_getElem?_getD, List.getElem?_eq_getElem h]
theorem rdRow {l : List (List Int)} {i : Nat} (h : i < l.length) : rd_L1 l (i : Int) = l[i] := by
  simp [rd_L1, List.getD_eq_getElem?_getD, List.getElem?_eq_getElem h]
/-- What a law's test of sizes leaves. -/
def Fits (L : List (List Int)) : Prop := L.length ≤ 1048576 ∧ ∀ x ∈ L, x.length ≤ 1048576
theorem isMat_len {L : List (List Int)} (h : isMat L = true) : 1 ≤ L.length ∧ L.length ≤ 4 := by
  unfold isMat at h
  rw [Bool.and_eq_true, Bool.and_eq_true, decide_eq_true_iff, decide_eq_true_iff] at h
  omega
theorem isMat_row {L : List (List Int)} (h : isMat L = true) {x : List Int} (hx : x ∈ L) : x.length = L.length ∧ ∀ a ∈ x, -1000000 ≤ a ∧ a ≤ 1000000 := by
  unfold isMat at h
  rw [Bool.and_eq_true] at h
  have h2 := List.all_eq_true.1 h.2 x hx
  unfold isVec at h2
  rw [Bool.and_eq_true, decide_eq_true_iff] at h2
  refine ⟨by omega, fun a ha => ?_⟩
  have h3 := List.all_eq_true.1 h2.2 a ha
  unfold inB at h3
  rw [Bool.and_eq_true, decide_eq_true_iff, decide_eq_true_iff] at h3
  exact h3
end Go.Proofs.Ytldkkfpodldbgaa.Q
namespace Go.Proofs.Ytldkkfpodldbgaa.Q
open Go.RowKit Go.Proofs.Ytldkkfpodldbgaa.P Go.Proofs.YtldkkfpodldbgaaW.PrintWords Go.Proofs.YtldkkfpodldbgaaW.PrintLast Go.Proofs.Ytldkkfpodldbgaa.G

def upd (F : Nat → Nat → Int) (i j : Nat) (v : Int) : Nat → Nat → Int := fun a b => if a = i ∧ b = j then v else F a b
theorem upd_upd (F : Nat → Nat → Int) (i j : Nat) (v u : Int) : upd (upd F i j v) i j u = upd F i j u := by
  funext a b
  unfold upd
  by_cases h : a = i ∧ b = j
  · rw [if_pos h, if_pos h]
  · rw [if_neg h, if_neg h, if_neg h]
theorem upd_self (F : Nat → Nat → Int) (i j : Nat) {v : Int} (h : F i j = v) : upd F i j v = F := by
  funext a b
  unfold upd
  by_cases c : a = i ∧ b = j
  · rw [if_pos c, c.1, c.2, h]
  · rw [if_neg c]
theorem upd_at (F : Nat → Nat → Int) (i j : Nat) (v : Int) : upd F i j v i j = v := by
  unfold upd
  rw [if_pos ⟨rfl, rfl⟩]
theorem rd_rowOf {F : Nat → Nat → Int} {i n j : Nat} (hj : j < n) : rd (rowOf F i n) (j : Int) = F i j := by
  rw [rd_at (by rw [rowOf_length]; exact hj)]
  simp [rowOf]
theorem rdRow_rowsOf {F : Nat → Nat → Int} {n m i : Nat} (hi : i < m) : rd_L1 (rowsOf F n m) (i : Int) = rowOf F i n := by
  rw [rdRow (by rw [rowsOf_length]; exact hi)]
  simp [rowsOf]
theorem rowOf_congr {F F' : Nat → Nat → Int} {i i' n : Nat} (h : ∀ b, b < n → F i b = F' i' b) : rowOf F i n = rowOf F' i' n := by
  unfold rowOf
  exact List.map_congr_left (fun b hb => h b (List.mem_range.1 hb))
theorem rowsOf_congr {F F' : Nat → Nat → Int} {n m : Nat} (h : ∀ a b, a < m → b < n → F a b = F' a b) : rowsOf F n m = rowsOf F' n m := by
  unfold rowsOf
  exact List.map_congr_left (fun a ha => rowOf_congr (fun b hb => h a b (List.mem_range.1 ha) hb))
theorem rowOf_set {F : Nat → Nat → Int} {i n j : Nat} {v : Int} : (rowOf F i n).set j v = rowOf (upd F i j v) i n := by
  apply List.ext_getElem
  · simp [rowOf]
  · intro k h1 h2
    rw [List.getElem_set]
    simp only [rowOf, upd, List.getElem_map, List.getElem_range, true_and]
    by_cases h : j = k
    · rw [if_pos h, if_pos h.symm]
    · rw [if_neg h, if_neg (fun e => h e.symm)]
theorem rowsOf_set {F : Nat → Nat → Int} {n m i j : Nat} {v : Int} : (rowsOf F n m).set i ((rowOf F i n).set j v) = rowsOf (upd F i j v) n m := by
  apply List.ext_getElem
  · simp [rowsOf]
  · intro k h1 h2
    rw [List.getElem_set]
    by_cases h : i = k
    · subst h
      rw [if_pos rfl, rowOf_set]
      simp [rowsOf]
    · rw [if_neg h]
      simp only [rowsOf, List.getElem_map, List.getElem_range]
      exact rowOf_congr (fun b _ => by unfold upd; rw [if_neg (fun e => h e.1.symm)])
theorem rd2 (L : List (List Int)) (i j : Nat) : rd (rd_L1 L (i : Int)) (j : Int) = at2 L i j := by simp [rd, rd_L1, at2]
theorem at2_rowsOf {F : Nat → Nat → Int} {n m i j : Nat} (hi : i < m) (hj : j < n) : at2 (rowsOf F n m) i j = F i j := by
  rw [← rd2, rdRow_rowsOf hi, rd_rowOf hj]
theorem isSq_rowsOf (F : Nat → Nat → Int) {n : Nat} (hn : n ≤ 1000) : isSq (rowsOf F n n) = true := by
  unfold isSq
  rw [Bool.and_eq_true, decide_eq_true_iff, rowsOf_length]
  refine ⟨hn, List.all_eq_true.2 fun x hx => ?_⟩
  unfold rowsOf at hx
  obtain ⟨a, _, rfl⟩ := List.mem_map.1 hx
  rw [rowOf_length]
  exact decide_eq_true rfl
theorem row_len {L : List (List Int)} {n : Nat} (h : isSq L = true) (hL : L.length = n) {i : Nat} (hi : i < n) : (rd_L1 L (i : Int)).length = n := by
  subst hL
  rw [rdRow hi]
  exact isSq_at h hi
theorem isSq_rows {L : List (List Int)} {n : Nat} (h : isSq L = true) (hL : L.length = n) : L = rowsOf (at2 L) n n := by
  subst hL
  apply List.ext_getElem
  · simp [rowsOf]
  · intro i h1 h2
    apply List.ext_getElem
    · rw [isSq_at h h1]
      simp [rowsOf, rowOf]
    · intro j h3 h4
      rw [← at2_eq h1 h3]
      simp [rowsOf, rowOf]
theorem isMat_sq {L : List (List Int)} (h : isMat L = true) : isSq L = true := by
  have h1 := isMat_len h
  unfold isSq
  rw [Bool.and_eq_true, decide_eq_true_iff]
  exact ⟨by omega, List.all_eq_true.2 fun x hx => decide_eq_true (isMat_row h hx).1⟩
theorem fits_sq {L : List (List Int)} (h : isSq L = true) : Fits L := by
  have h1 := isSq_le h
  refine ⟨by omega, fun x hx => ?_⟩
  obtain ⟨i, hi, rfl⟩ := List.mem_iff_getElem.1 hx
  have := isSq_at h hi
  omega
end Go.Proofs.Ytldkkfpodldbgaa.Q
namespace Go.Proofs.Ytldkkfpodldbgaa.Q
open Go.RowKit Go.Proofs.Ytldkkfpodldbgaa.P Go.Proofs.YtldkkfpodldbgaaW.PrintWords Go.Proofs.YtldkkfpodldbgaaW.PrintLast Go.Proofs.Ytldkkfpodldbgaa.G

theorem foZero_l0 {n : Nat} (hn : n ≤ 1000) (d : Nat) : ∀ i : Nat, i + d = n → Ev (fun k => spec_foZero.l0 k (n : Int) (i : Int) (rowsOf (fun _ _ => 0) n i)) (rowsOf (fun _ _ => 0) n n) := by
  induction d with
  | zero =>
    intro i hi
    obtain rfl : i = n := by omega
    refine Ev_succ ?_
    simp only [spec_foZero.l0]
    exact Ev_false (by omega) Ev_some
  | succ d ih =>
    intro i hi
    refine Ev_succ ?_
    simp only [spec_foZero.l0]
    have e : rowsOf (fun _ _ => 0) n i ++ [List.replicate ((n : Int)).toNat 0] = rowsOf (fun _ _ => 0) n (i + 1) := by
      rw [rowsOf_succ]
      congr 2
      unfold rowOf
      rw [Int.toNat_natCast]
      apply List.ext_getElem <;> simp
    rw [e, w64 (x := (i : Int) + 1) (by omega) (by omega)]
    refine Ev_true (by omega) (Ev_true (by omega) (Ev_true (by omega) (Ev_true (by rw [rowsOf_length]; omega) (ih (i + 1) (by omega)))))
theorem foZero_ev {n : Nat} (hn : n ≤ 1000) : Ev (fun k => spec_foZero.f k (n : Int)) (rowsOf (fun _ _ => 0) n n) :=
  foZero_l0 hn n 0 (by omega)

theorem foTimes_l2 {L M : List (List Int)} {n : Nat} (hn : n ≤ 1000) (hL : isSq L = true) (hM : isSq M = true) (eL : L.length = n) (eM : M.length = n) {i j : Nat} (hi : i < n) (hj : j < n) {r : List (List Int)} (d : Nat) :
    ∀ (q : Nat) (F : Nat → Nat → Int), q + d = n → F i j = dotK L M i j q → Ev (fun k => spec_foTimes.l1 k (i : Int) (n : Int) (i : Int) (n : Int) ((j + 1 : Nat) : Int) L M (rowsOf (upd F i j (dotK L M i j n)) n n)) r →
      Ev (fun k => spec_foTimes.l2 k (i : Int) (j : Int) (n : Int) (i : Int) (n : Int) (j : Int) (n : Int) (q : Int) L M (rowsOf F n n)) r := by
  induction d with
  | zero =>
    intro q F hq hF h
    obtain rfl : q = n := by omega
    rw [upd_self F i j hF] at h
    refine Ev_succ ?_
    simp only [spec_foTimes.l2]
    rw [w64 (x := (j : Int) + 1) (by omega) (by omega)]
    exact Ev_false (by omega) h
  | succ d ih =>
    intro q F hq hF h
    have hq' : q < n := by omega
    refine Ev_succ ?_
    simp only [spec_foTimes.l2]
    rw [rdRow_rowsOf hi, rowsOf_length, rowOf_length, rd_rowOf hj, row_len hL eL hi, row_len hM eM hq', rd2, rd2, Int.toNat_natCast, Int.toNat_natCast, rowsOf_set, hF, w64 (x := (q : Int) + 1) (by omega) (by omega), eL, eM]
    refine Ev_true (by omega) (Ev_true (by omega) (Ev_true (by omega) (Ev_true (by omega) (Ev_true (by omega) (Ev_true (by omega) (Ev_true (by omega) (Ev_true (by omega) (Ev_true (by omega) (Ev_true (by omega) ?_)))))))))
    refine ih (q + 1) (upd F i j (wrap64 (dotK L M i j q + wrap64 (at2 L i q * at2 M q j)))) (by omega) (upd_at _ _ _ _) ?_
    rw [upd_upd]
    exact h
/-- How far a matrix has been written, row by row. -/
def stage (H : Nat → Nat → Int) (i j : Nat) : Nat → Nat → Int := fun a b => if a < i ∨ (a = i ∧ b < j) then H a b else 0
theorem stage_next (H : Nat → Nat → Int) (i j : Nat) : upd (stage H i j) i j (H i j) = stage H i (j + 1) := by
  funext a b
  unfold upd stage
  by_cases h : a = i ∧ b = j
  · rw [if_pos h, if_pos (by omega), h.1, h.2]
  · rw [if_neg h]
    by_cases h2 : a < i ∨ (a = i ∧ b < j)
    · rw [if_pos h2, if_pos (by omega)]
    · rw [if_neg h2, if_neg (by omega)]
theorem stage_row (H : Nat → Nat → Int) {n m : Nat} (i : Nat) : rowsOf (stage H i n) n m = rowsOf (stage H (i + 1) 0) n m := rowsOf_congr fun a b _ hb => by
  unfold stage
  by_cases h : a < i ∨ (a = i ∧ b < n)
  · rw [if_pos h, if_pos (by omega)]
  · rw [if_neg h, if_neg (by omega)]
theorem stage_end (H : Nat → Nat → Int) (n : Nat) : rowsOf (stage H n 0) n n = rowsOf H n n := rowsOf_congr fun a b ha _ => by
  unfold stage
  rw [if_pos (.inl ha)]
theorem stage_start (H : Nat → Nat → Int) (n : Nat) : rowsOf (fun _ _ => 0) n n = rowsOf (stage H 0 0) n n := rowsOf_congr fun a b _ _ => by
  unfold stage
  rw [if_neg (by omega)]
theorem foTimes_l1 {L M : List (List Int)} {n : Nat} (hn : n ≤ 1000) (hL : isSq L = true) (hM : isSq M = true) (eL : L.length = n) (eM : M.length = n) {i : Nat} (hi : i < n) {r : List (List Int)} (d : Nat) :
    ∀ j : Nat, j + d = n → Ev (fun k => spec_foTimes.l0 k (n : Int) ((i + 1 : Nat) : Int) L M (rowsOf (stage (fun i j => dotK L M i j n) (i + 1) 0) n n)) r →
      Ev (fun k => spec_foTimes.l1 k (i : Int) (n : Int) (i : Int) (n : Int) (j : Int) L M (rowsOf (stage (fun i j => dotK L M i j n) i j) n n)) r := by
  induction d with
  | zero =>
    intro j hj h
    obtain rfl : j = n := by omega
    refine Ev_succ ?_
    simp only [spec_foTimes.l1]
    rw [w64 (x := (i : Int) + 1) (by omega) (by omega), stage_row]
    exact Ev_false (by omega) h
  | succ d ih =>
    intro j hj h
    refine Ev_succ ?_
    simp only [spec_foTimes.l1]
    rw [eL]
    refine Ev_true (by omega) ?_
    refine foTimes_l2 hn hL hM eL eM hi (by omega) n 0 _ (by omega) ?_ ?_
    · show stage _ i j i j = 0
      unfold stage
      rw [if_neg (by omega)]
    · have e := stage_next (fun i j => dotK L M i j n) i j
      rw [e]
      exact ih (j + 1) (by omega) h
theorem foTimes_l0 {L M : List (List Int)} {n : Nat} (hn : n ≤ 1000) (hL : isSq L = true) (hM : isSq M = true) (eL : L.length = n) (eM : M.length = n) (d : Nat) :
    ∀ i : Nat, i + d = n → Ev (fun k => spec_foTimes.l0 k (n : Int) (i : Int) L M (rowsOf (stage (fun i j => dotK L M i j n) i 0) n n)) (rowsOf (fun i j => dotK L M i j n) n n) := by
  induction d with
  | zero =>
    intro i hi
    obtain rfl : i = n := by omega
    refine Ev_succ ?_
    simp only [spec_foTimes.l0]
    rw [stage_end]
    exact Ev_false (by omega) Ev_some
  | succ d ih =>
    intro i hi
    refine Ev_succ ?_
    simp only [spec_foTimes.l0]
    rw [eL]
    refine Ev_true (by omega) ?_
    exact foTimes_l1 hn hL hM eL eM (by omega) n 0 (by omega) (ih (i + 1) (by omega))
theorem foTimes_ev {L M : List (List Int)} (hL : isSq L = true) (hM : isSq M = true) (e : L.length = M.length) : Ev (fun k => spec_foTimes.f k L M) (prodL L M) := by
  unfold spec_foTimes.f prodL
  have hn := isSq_le hL
  refine Ev.bind (foZero_ev hn) ?_
  rw [stage_start (fun i j => dotK L M i j L.length)]
  exact foTimes_l0 hn hL hM rfl e.symm L.length 0 (by omega)

end Go.Proofs.Ytldkkfpodldbgaa.Q
namespace Go.Proofs.Ytldkkfpodldbgaa.Q
open Go.RowKit Go.Proofs.Ytldkkfpodldbgaa.P Go.Proofs.YtldkkfpodldbgaaW.PrintWords Go.Proofs.YtldkkfpodldbgaaW.PrintLast Go.Proofs.Ytldkkfpodldbgaa.G

theorem allIn_eq (a lo hi : Int) : spec_l1In.f a lo hi = some (decide (lo ≤ a ∧ a ≤ hi)) := by
  unfold spec_l1In.f
  by_cases h : lo ≤ a
  · rw [if_pos h]
    simp [h]
  · rw [if_neg h]
    simp [h]
theorem l1All_l0 {l : List Int} (hn : l.length ≤ 4611686018427387904) (lo up : Int) (d : Nat) : ∀ i : Nat, i + d = l.length → Ev (fun k => spec_l1All.l0 k lo up l (l.length : Int) (i : Int)) ((l.drop i).all (inB lo up)) := by
  induction d with
  | zero =>
    intro i hi
    refine Ev_succ ?_
    simp only [spec_l1All.l0]
    rw [List.drop_of_length_le (by omega)]
    exact Ev_false (by omega) Ev_some
  | succ d ih =>
    intro i h1
    have hi : i < l.length := by omega
    refine Ev_succ ?_
    simp only [spec_l1All.l0]
    rw [rd_at hi, List.drop_eq_getElem_cons hi, w64 (x := (i : Int) + 1) (by omega) (by omega), allIn_eq]
    refine Ev_true (by omega) (Ev_true (by omega) (Ev_true (by omega) ?_))
    simp only [Option.bind_some, List.all_cons]
    by_cases hb : lo ≤ l[i] ∧ l[i] ≤ up
    · have hin : inB lo up l[i] = true := by unfold inB; simp [hb]
      rw [hin, Bool.true_and]
      exact Ev_true (by simpa using hb) (ih (i + 1) (by omega))
    · have hin : inB lo up l[i] = false := by
        unfold inB
        rw [← Bool.not_eq_true]
        intro h
        exact hb (by simpa using h)
      rw [hin, Bool.false_and]
      exact Ev_false (by simpa using hb) Ev_some
theorem l1All_ev {l : List Int} (hn : l.length ≤ 4611686018427387904) (lo up : Int) : Ev (fun k => spec_l1All.f k l lo up) (l.all (inB lo up)) :=
  l1All_l0 hn lo up l.length 0 (by omega)
end Go.Proofs.Ytldkkfpodldbgaa.Q
namespace Go.Proofs.Ytldkkfpodldbgaa.Q
open Go.RowKit Go.Proofs.Ytldkkfpodldbgaa.P Go.Proofs.YtldkkfpodldbgaaW.PrintWords Go.Proofs.YtldkkfpodldbgaaW.PrintLast Go.Proofs.Ytldkkfpodldbgaa.G

theorem foGood_l0 {L : List (List Int)} (hL : Fits L) (d : Nat) : ∀ i : Nat, i + d = L.length → Ev (fun k => spec_foGood.l0 k L (L.length : Int) (i : Int) L) ((L.drop i).all (isVec L.length)) := by
  have hl := hL.1
  induction d with
  | zero =>
    intro i hi
    refine Ev_succ ?_
    simp only [spec_foGood.l0]
    rw [List.drop_of_length_le (by omega)]
    exact Ev_false (by omega) Ev_some
  | succ d ih =>
    intro i hi
    have h1 : i < L.length := by omega
    have hxi := hL.2 _ (List.getElem_mem h1)
    refine Ev_succ ?_
    simp only [spec_foGood.l0]
    rw [rdRow h1, w64 (x := (i : Int) + 1) (by omega) (by omega), List.drop_eq_getElem_cons h1, List.all_cons]
    refine Ev_true (by omega) (Ev_true (by omega) (Ev_true (by omega) ?_))
    unfold isVec
    by_cases hn : (L[i].length : Int) = L.length
    · refine Ev_true hn (Ev.bind (l1All_ev (l := L[i]) (by omega) (-1000000) 1000000) ?_)
      rw [decide_eq_true hn, Bool.true_and]
      cases hb : L[i].all (inB (-1000000) 1000000) with
      | true => exact Ev_true rfl (ih (i + 1) (by omega))
      | false => exact Ev_false (by simp) Ev_some
    · rw [decide_eq_false hn, Bool.false_and, Bool.false_and]
      exact Ev_false hn Ev_some
theorem foGood_ev {L : List (List Int)} (hL : Fits L) : Ev (fun k => spec_foGood.f k L) (isMat L) := by
  unfold spec_foGood.f isMat
  rw [allIn_eq]
  simp only [Option.bind_some]
  by_cases h : (1 : Int) ≤ L.length ∧ (L.length : Int) ≤ 4
  · rw [decide_eq_true h.1, decide_eq_true h.2]
    exact Ev_true (by simpa using h) (foGood_l0 hL L.length 0 (by omega))
  · have e : (decide ((1 : Int) ≤ L.length) && decide ((L.length : Int) ≤ 4)) = false := by
      rw [← Bool.not_eq_true, Bool.and_eq_true, decide_eq_true_iff, decide_eq_true_iff]
      exact h
    rw [e, Bool.false_and]
    exact Ev_false (by simpa using h) Ev_some
end Go.Proofs.Ytldkkfpodldbgaa.Q
namespace Go.Proofs.Ytldkkfpodldbgaa.Q
open Go.RowKit Go.Proofs.Ytldkkfpodldbgaa.P Go.Proofs.YtldkkfpodldbgaaW.PrintWords Go.Proofs.YtldkkfpodldbgaaW.PrintLast Go.Proofs.Ytldkkfpodldbgaa.G

theorem foSmall_l0 {L : List (List Int)} (hL : Fits L) (m : Int) (d : Nat) : ∀ i : Nat, i + d = L.length → Ev (fun k => spec_foSmall.l0 k m L (L.length : Int) (i : Int)) ((L.drop i).all (isLow m)) := by
  have hl := hL.1
  induction d with
  | zero =>
    intro i hi
    refine Ev_succ ?_
    simp only [spec_foSmall.l0]
    rw [List.drop_of_length_le (by omega)]
    exact Ev_false (by omega) Ev_some
  | succ d ih =>
    intro i hi
    have h1 : i < L.length := by omega
    have hxi := hL.2 _ (List.getElem_mem h1)
    refine Ev_succ ?_
    simp only [spec_foSmall.l0]
    rw [rdRow h1, w64 (x := (i : Int) + 1) (by omega) (by omega), List.drop_eq_getElem_cons h1, List.all_cons]
    refine Ev_true (by omega) (Ev_true (by omega) (Ev_true (by omega) ?_))
    refine Ev.bind (l1All_ev (l := L[i]) (by omega) (wrap64 (-m)) m) ?_
    unfold isLow
    cases hb : L[i].all (inB (wrap64 (-m)) m) with
    | true => exact Ev_true rfl (ih (i + 1) (by omega))
    | false => exact Ev_false (by simp) Ev_some
theorem foSmall_ev {L : List (List Int)} (hL : Fits L) (m : Int) : Ev (fun k => spec_foSmall.f k L m) (isMat L && L.all (isLow m)) := by
  unfold spec_foSmall.f
  refine Ev.bind (foGood_ev hL) ?_
  cases hb : isMat L with
  | true => exact Ev_true rfl (foSmall_l0 hL m L.length 0 (by omega))
  | false => exact Ev_false (by simp) Ev_some
end Go.Proofs.Ytldkkfpodldbgaa.Q
namespace Go.Proofs.Ytldkkfpodldbgaa.Q
open Go.RowKit Go.Proofs.Ytldkkfpodldbgaa.P Go.Proofs.YtldkkfpodldbgaaW.PrintWords Go.Proofs.YtldkkfpodldbgaaW.PrintLast Go.Proofs.Ytldkkfpodldbgaa.G

theorem l1Same_l0 {l m : List Int} (hl : l.length = m.length) (hn : l.length ≤ 4611686018427387904) (d : Nat) : ∀ i : Nat, i + d = l.length → Ev (fun k => spec_l1Same.l0 k l m (l.length : Int) (i : Int)) (decide (l.drop i = m.drop i)) := by
  induction d with
  | zero =>
    intro i hi
    refine Ev_succ ?_
    simp only [spec_l1Same.l0]
    rw [List.drop_of_length_le (by omega), List.drop_of_length_le (by omega)]
    exact Ev_false (by omega) Ev_some
  | succ d ih =>
    intro i hi
    have h1 : i < l.length := by omega
    have h2 : i < m.length := by omega
    refine Ev_succ ?_
    simp only [spec_l1Same.l0]
    rw [rd_at h1, rd_at h2, List.drop_eq_getElem_cons h1, List.drop_eq_getElem_cons h2, w64 (by omega) (by omega)]
    refine Ev_true (by omega) (Ev_true (by omega) (Ev_true (by omega) (Ev_true (by omega) ?_)))
    by_cases he : l[i] = m[i]
    · have e : decide (l[i] :: l.drop (i + 1) = m[i] :: m.drop (i + 1)) = decide (l.drop (i + 1) = m.drop (i + 1)) :=
        decide_eq_decide.2 ⟨fun h => (List.cons.inj h).2, fun h => by rw [he, h]⟩
      rw [e]
      exact Ev_true he (ih (i + 1) (by omega))
    · have e : decide (l[i] :: l.drop (i + 1) = m[i] :: m.drop (i + 1)) = false := by
        rw [decide_eq_false_iff_not]
        intro h
        exact he (List.cons.inj h).1
      rw [e]
      exact Ev_false he Ev_some
theorem l1Same_ev {l m : List Int} (hn : l.length ≤ 4611686018427387904) : Ev (fun k => spec_l1Same.f k l m) (decide (l = m)) := by
  unfold spec_l1Same.f
  by_cases h : l.length = m.length
  · exact Ev_true (by omega) (l1Same_l0 h hn l.length 0 (by omega))
  · have e : decide (l = m) = false := by
      rw [decide_eq_false_iff_not]
      intro he
      exact h (by rw [he])
    rw [e]
    exact Ev_false (by omega) Ev_some
theorem foSame_l0 {L M : List (List Int)} (hl : L.length = M.length) (hL : Fits L) (d : Nat) : ∀ i : Nat, i + d = L.length → Ev (fun k => spec_foSame.l0 k L (L.length : Int) (i : Int) L M) (decide (L.drop i = M.drop i)) := by
  have hn := hL.1
  induction d with
  | zero =>
    intro i hi
    refine Ev_succ ?_
    simp only [spec_foSame.l0]
    rw [List.drop_of_length_le (by omega), List.drop_of_length_le (by omega), hl]
    refine Ev_false (by omega) ?_
    simp only [beq_self_eq_true, decide_true]
    exact Ev_some
  | succ d ih =>
    intro i hi
    have h1 : i < L.length := by omega
    have h2 : i < M.length := by omega
    have hxi := hL.2 _ (List.getElem_mem h1)
    refine Ev_succ ?_
    simp only [spec_foSame.l0]
    rw [rdRow h1, rdRow h2, List.drop_eq_getElem_cons h1, List.drop_eq_getElem_cons h2, w64 (by omega) (by omega)]
    refine Ev_true (by omega) (Ev_true (by omega) (Ev_true (by omega) (Ev_true (by omega) (Ev.bind (l1Same_ev (l := L[i]) (m := M[i]) (by omega)) ?_))))
    by_cases he : L[i] = M[i]
    · have e : decide (L[i] :: L.drop (i + 1) = M[i] :: M.drop (i + 1)) = decide (L.drop (i + 1) = M.drop (i + 1)) :=
        decide_eq_decide.2 ⟨fun h => (List.cons.inj h).2, fun h => by rw [he, h]⟩
      rw [e]
      exact Ev_true (by simpa using he) (ih (i + 1) (by omega))
    · have e : decide (L[i] :: L.drop (i + 1) = M[i] :: M.drop (i + 1)) = false := by
        rw [decide_eq_false_iff_not]
        intro h
        exact he (List.cons.inj h).1
      rw [e]
      exact Ev_false (by simpa using he) Ev_some
theorem foSame_ev {L M : List (List Int)} (hl : L.length = M.length) (hL : Fits L) : Ev (fun k => spec_foSame.f k L M) (decide (L = M)) := by
  unfold spec_foSame.f
  exact foSame_l0 hl hL L.length 0 (by omega)
end Go.Proofs.Ytldkkfpodldbgaa.Q
namespace Go.Proofs.Ytldkkfpodldbgaa.Q
open Go.RowKit Go.Proofs.Ytldkkfpodldbgaa.P Go.Proofs.YtldkkfpodldbgaaW.PrintWords Go.Proofs.YtldkkfpodldbgaaW.PrintLast Go.Proofs.Ytldkkfpodldbgaa.G

theorem foTranspose_l1 {L : List (List Int)} {n : Nat} (hn : n ≤ 1000) (hL : isSq L = true) (eL : L.length = n) {i : Nat} (hi : i < n) {r : List (List Int)} (d : Nat) :
    ∀ j : Nat, j + d = n → Ev (fun k => spec_foTranspose.l0 k L (n : Int) ((i + 1 : Nat) : Int) (rowsOf (fun a b => stage (fun a b => at2 L a b) (i + 1) 0 b a) n n)) r →
      Ev (fun k => spec_foTranspose.l1 k (i : Int) L (n : Int) (i : Int) (rd_L1 L (i : Int)) (n : Int) (j : Int) (rowsOf (fun a b => stage (fun a b => at2 L a b) i j b a) n n)) r := by
  induction d with
  | zero =>
    intro j hj h
    obtain rfl : j = n := by omega
    refine Ev_succ ?_
    simp only [spec_foTranspose.l1]
    have e : rowsOf (fun a b => stage (fun a b => at2 L a b) i j b a) j j = rowsOf (fun a b => stage (fun a b => at2 L a b) (i + 1) 0 b a) j j := rowsOf_congr fun a b ha _ => by
      unfold stage
      by_cases h : b < i ∨ (b = i ∧ a < j)
      · rw [if_pos h, if_pos (by omega)]
      · rw [if_neg h, if_neg (by omega)]
    rw [w64 (x := (i : Int) + 1) (by omega) (by omega), e]
    exact Ev_false (by omega) h
  | succ d ih =>
    intro j hj h
    refine Ev_succ ?_
    simp only [spec_foTranspose.l1]
    rw [rdRow_rowsOf (by omega), rowsOf_length, rowOf_length, row_len hL eL hi, rd2, Int.toNat_natCast, Int.toNat_natCast, rowsOf_set, w64 (x := (j : Int) + 1) (by omega) (by omega)]
    refine Ev_true (by omega) (Ev_true (by omega) (Ev_true (by omega) (Ev_true (by omega) (Ev_true (by omega) (Ev_true (by omega) ?_)))))
    have e : upd (fun a b => stage (fun a b => at2 L a b) i j b a) j i (at2 L i j) = fun a b => stage (fun a b => at2 L a b) i (j + 1) b a := by
      funext a b
      unfold upd stage
      by_cases h : a = j ∧ b = i
      · rw [if_pos h, if_pos (by omega), h.1, h.2]
      · rw [if_neg h]
        show (if b < i ∨ (b = i ∧ a < j) then at2 L b a else 0) = if b < i ∨ (b = i ∧ a < j + 1) then at2 L b a else 0
        by_cases h2 : b < i ∨ (b = i ∧ a < j)
        · rw [if_pos h2, if_pos (by omega)]
        · rw [if_neg h2, if_neg (by omega)]
    rw [e]
    exact ih (j + 1) (by omega) h
theorem foTranspose_l0 {L : List (List Int)} {n : Nat} (hn : n ≤ 1000) (hL : isSq L = true) (eL : L.length = n) (d : Nat) :
    ∀ i : Nat, i + d = n → Ev (fun k => spec_foTranspose.l0 k L (n : Int) (i : Int) (rowsOf (fun a b => stage (fun a b => at2 L a b) i 0 b a) n n)) (rowsOf (fun a b => at2 L b a) n n) := by
  induction d with
  | zero =>
    intro i hi
    obtain rfl : i = n := by omega
    refine Ev_succ ?_
    simp only [spec_foTranspose.l0]
    have e : rowsOf (fun a b => stage (fun a b => at2 L a b) i 0 b a) i i = rowsOf (fun a b => at2 L b a) i i := rowsOf_congr fun a b _ hb => by
      unfold stage
      rw [if_pos (.inl hb)]
    rw [e]
    exact Ev_false (by omega) Ev_some
  | succ d ih =>
    intro i hi
    refine Ev_succ ?_
    simp only [spec_foTranspose.l0]
    rw [row_len hL eL (by omega), eL]
    refine Ev_true (by omega) (Ev_true (by omega) (Ev_true (by omega) ?_))
    exact foTranspose_l1 hn hL eL (by omega) n 0 (by omega) (ih (i + 1) (by omega))
theorem foTranspose_ev {L : List (List Int)} (hL : isSq L = true) : Ev (fun k => spec_foTranspose.f k L) (transL L) := by
  unfold spec_foTranspose.f transL
  have hn := isSq_le hL
  refine Ev.bind (foZero_ev hn) ?_
  have e : rowsOf (fun _ _ => 0) L.length L.length = rowsOf (fun a b => stage (fun a b => at2 L a b) 0 0 b a) L.length L.length := rowsOf_congr fun a b _ _ => by
    unfold stage
    rw [if_neg (by omega)]
  rw [e]
  exact foTranspose_l0 hn hL rfl L.length 0 (by omega)

end Go.Proofs.Ytldkkfpodldbgaa.Q
namespace Go.Proofs.Ytldkkfpodldbgaa.Q
open Go.RowKit Go.Proofs.Ytldkkfpodldbgaa.P Go.Proofs.YtldkkfpodldbgaaW.PrintWords Go.Proofs.YtldkkfpodldbgaaW.PrintLast Go.Proofs.Ytldkkfpodldbgaa.G

def dotV (a b : List Int) : Nat → Int
  | 0 => 0
  | k + 1 => wrap64 (dotV a b k + wrap64 (rd a (k : Int) * rd b (k : Int)))
def applyL (L : List (List Int)) (v : List Int) : List Int := L.map fun row => dotV row v row.length
theorem applyL_length (L : List (List Int)) (v : List Int) : (applyL L v).length = L.length := by simp [applyL]

theorem apply_l1 {v : List Int} {L : List (List Int)} {n i : Nat} {row acc : List Int} (hn : n ≤ 1000) (hi : i < n) (hr : row.length ≤ v.length) (hr1 : row.length ≤ 1000) (ha : acc.length ≤ 1000) {r : List Int} (d : Nat) :
    ∀ q : Nat, q + d = row.length → Ev (fun k => impl_Matrix_apply.l0 k v (acc ++ [dotV row v row.length]) L (n : Int) ((i + 1 : Nat) : Int)) r →
      Ev (fun k => impl_Matrix_apply.l1 k v acc (dotV row v q) L (n : Int) (i : Int) row (row.length : Int) (q : Int)) r := by
  induction d with
  | zero =>
    intro q hq h
    obtain rfl : q = row.length := by omega
    refine Ev_succ ?_
    simp only [impl_Matrix_apply.l1]
    rw [w64 (x := (i : Int) + 1) (by omega) (by omega)]
    exact Ev_false (by omega) (Ev_true (by omega) h)
  | succ d ih =>
    intro q hq h
    refine Ev_succ ?_
    simp only [impl_Matrix_apply.l1]
    rw [w64 (x := (q : Int) + 1) (by omega) (by omega)]
    exact Ev_true (by omega) (Ev_true (by omega) (Ev_true (by omega) (Ev_true (by omega) (ih (q + 1) (by omega) h))))
theorem apply_l0 {v : List Int} {L : List (List Int)} (hL : isSq L = true) (hv : v.length = L.length) (d : Nat) :
    ∀ i : Nat, i + d = L.length → Ev (fun k => impl_Matrix_apply.l0 k v (applyL (L.take i) v) L (L.length : Int) (i : Int)) (applyL L v) := by
  have hn := isSq_le hL
  induction d with
  | zero =>
    intro i hi
    obtain rfl : i = L.length := by omega
    refine Ev_succ ?_
    simp only [impl_Matrix_apply.l0]
    rw [List.take_length]
    exact Ev_false (by omega) Ev_some
  | succ d ih =>
    intro i hi
    have h1 : i < L.length := by omega
    have hrl := isSq_at hL h1
    refine Ev_succ ?_
    simp only [impl_Matrix_apply.l0]
    rw [rdRow h1]
    refine Ev_true (by omega) (Ev_true (by omega) (Ev_true (by omega) ?_))
    refine apply_l1 hn (by omega) (by omega) (by omega) (by rw [applyL_length, List.length_take]; omega) L[i].length 0 (by omega) ?_
    have e : applyL (L.take i) v ++ [dotV L[i] v L[i].length] = applyL (L.take (i + 1)) v := by
      unfold applyL
      rw [List.take_succ_eq_append_getElem h1, List.map_append]
      rfl
    rw [e]
    exact ih (i + 1) (by omega)
theorem apply_ev {v : List Int} {L : List (List Int)} (hL : isSq L = true) (hv : v.length = L.length) : Ev (fun k => impl_Matrix_apply.f k L v) (applyL L v) := by
  unfold impl_Matrix_apply.f
  exact apply_l0 hL hv L.length 0 (by omega)
end Go.Proofs.Ytldkkfpodldbgaa.Q
namespace Go.Proofs.Ytldkkfpodldbgaa.Q
open Go.RowKit Go.Proofs.Ytldkkfpodldbgaa.P Go.Proofs.YtldkkfpodldbgaaW.PrintWords Go.Proofs.YtldkkfpodldbgaaW.PrintLast Go.Proofs.Ytldkkfpodldbgaa.G

theorem foApply_l1 {v : List Int} {L : List (List Int)} {n i : Nat} {row acc : List Int} (hn : n ≤ 1000) (hi : i < n) (hr : row.length ≤ v.length) (hr1 : row.length ≤ 1000) (ha : acc.length ≤ 1000) {r : List Int} (d : Nat) :
    ∀ q : Nat, q + d = row.length → Ev (fun k => spec_foApply.l0 k v (acc ++ [dotV row v row.length]) L (n : Int) ((i + 1 : Nat) : Int)) r →
      Ev (fun k => spec_foApply.l1 k v acc (dotV row v q) L (n : Int) (i : Int) row (row.length : Int) (q : Int)) r := by
  induction d with
  | zero =>
    intro q hq h
    obtain rfl : q = row.length := by omega
    refine Ev_succ ?_
    simp only [spec_foApply.l1]
    rw [w64 (x := (i : Int) + 1) (by omega) (by omega)]
    exact Ev_false (by omega) (Ev_true (by omega) h)
  | succ d ih =>
    intro q hq h
    refine Ev_succ ?_
    simp only [spec_foApply.l1]
    rw [w64 (x := (q : Int) + 1) (by omega) (by omega)]
    exact Ev_true (by omega) (Ev_true (by omega) (Ev_true (by omega) (Ev_true (by omega) (ih (q + 1) (by omega) h))))
theorem foApply_l0 {v : List Int} {L : List (List Int)} (hL : isSq L = true) (hv : v.length = L.length) (d : Nat) :
    ∀ i : Nat, i + d = L.length → Ev (fun k => spec_foApply.l0 k v (applyL (L.take i) v) L (L.length : Int) (i : Int)) (applyL L v) := by
  have hn := isSq_le hL
  induction d with
  | zero =>
    intro i hi
    obtain rfl : i = L.length := by omega
    refine Ev_succ ?_
    simp only [spec_foApply.l0]
    rw [List.take_length]
    exact Ev_false (by omega) Ev_some
  | succ d ih =>
    intro i hi
    have h1 : i < L.length := by omega
    have hrl := isSq_at hL h1
    refine Ev_succ ?_
    simp only [spec_foApply.l0]
    rw [rdRow h1]
    refine Ev_true (by omega) (Ev_true (by omega) (Ev_true (by omega) ?_))
    refine foApply_l1 hn (by omega) (by omega) (by omega) (by rw [applyL_length, List.length_take]; omega) L[i].length 0 (by omega) ?_
    have e : applyL (L.take i) v ++ [dotV L[i] v L[i].length] = applyL (L.take (i + 1)) v := by
      unfold applyL
      rw [List.take_succ_eq_append_getElem h1, List.map_append]
      rfl
    rw [e]
    exact ih (i + 1) (by omega)
theorem foApply_ev {v : List Int} {L : List (List Int)} (hL : isSq L = true) (hv : v.length = L.length) : Ev (fun k => spec_foApply.f k L v) (applyL L v) := by
  unfold spec_foApply.f
  exact foApply_l0 hL hv L.length 0 (by omega)

end Go.Proofs.Ytldkkfpodldbgaa.Q
namespace Go.Proofs.Ytldkkfpodldbgaa.Q
open Go.RowKit Go.Proofs.Ytldkkfpodldbgaa.P Go.Proofs.YtldkkfpodldbgaaW.PrintWords Go.Proofs.YtldkkfpodldbgaaW.PrintLast Go.Proofs.Ytldkkfpodldbgaa.G

theorem isVector_eq (l : List Int) (n : Int) : impl_isVector.f l n = some (isVec n l) := by
  unfold impl_isVector.f impl_allWithin.f isVec
  simp only [Option.bind_some]
  by_cases h : (l.length : Int) = n
  · rw [if_pos h, decide_eq_true h, Bool.true_and]
  · rw [if_neg h, decide_eq_false h, Bool.false_and]
end Go.Proofs.Ytldkkfpodldbgaa.Q
namespace Go.Proofs.Ytldkkfpodldbgaa.Q
open Go.RowKit Go.Proofs.Ytldkkfpodldbgaa.P Go.Proofs.YtldkkfpodldbgaaW.PrintWords Go.Proofs.YtldkkfpodldbgaaW.PrintLast Go.Proofs.Ytldkkfpodldbgaa.G

def isFormB (L : List (List Int)) : Bool := (isMat L && L.all (isLow 1000)) && decide (L = transL L)
theorem isForm_mat {L : List (List Int)} (h : isFormB L = true) : isMat L = true ∧ L.all (isLow 1000) = true ∧ L = transL L := by
  unfold isFormB at h
  rw [Bool.and_eq_true, Bool.and_eq_true, decide_eq_true_iff] at h
  exact ⟨h.1.1, h.1.2, h.2⟩
theorem foForm_ev {L : List (List Int)} (hL : Fits L) : Ev (fun k => spec_foForm.f k L) (isFormB L) := by
  unfold spec_foForm.f isFormB
  refine Ev.bind (foSmall_ev hL 1000) ?_
  cases h : (isMat L && L.all (isLow 1000)) with
  | true =>
    have hm := (Bool.and_eq_true_iff.1 h).1
    rw [Bool.true_and]
    exact Ev_true rfl (Ev.bind (foTranspose_ev (isMat_sq hm)) (Ev.bind (f := fun _ t => some t) (foSame_ev (by unfold transL; rw [rowsOf_length]) hL) Ev_some))
  | false => exact Ev_false (by simp) Ev_some
theorem isForm_eq (L : List (List Int)) : impl_isForm.f L = some (isFormB L) := by
  unfold impl_isForm.f impl_IsMatrix.f impl_Matrix_isSmall.f impl_Matrix_transposed.f impl_sameMatrix.f isFormB
  simp only [Option.bind_some]
  by_cases h : isMat L = true
  · by_cases hs : L.all (isLow 1000) = true
    · rw [if_pos h, if_pos hs, if_pos (isMat_sq h), h, hs]
      rfl
    · rw [if_pos h, if_neg hs, h, Bool.eq_false_iff.2 hs]
      rfl
  · rw [if_neg h, Bool.eq_false_iff.2 h]
    rfl
theorem isVec_len {n : Nat} {l : List Int} (h : isVec (n : Int) l = true) : l.length = n := by
  unfold isVec at h
  rw [Bool.and_eq_true, decide_eq_true_iff] at h
  omega
theorem foVector_ev {L : List (List Int)} {v : List Int} (hL : Fits L) (hv : v.length ≤ 1048576) : Ev (fun k => spec_foVector.f k L v) (isMat L && isVec L.length v) := by
  unfold spec_foVector.f
  refine Ev.bind (foGood_ev hL) ?_
  cases h : isMat L with
  | true =>
    rw [Bool.true_and]
    refine Ev_true rfl ?_
    unfold isVec
    by_cases hvl : (v.length : Int) = L.length
    · rw [decide_eq_true hvl, Bool.true_and]
      exact Ev_true hvl (Ev.bind (f := fun _ t => some t) (l1All_ev (by omega) _ _) Ev_some)
    · rw [decide_eq_false hvl, Bool.false_and]
      exact Ev_false hvl Ev_some
  | false => exact Ev_false (by simp) Ev_some
theorem foProduct_l0 {v u : List Int} (hu : u.length ≤ 1000) (hv : u.length ≤ v.length) (d : Nat) : ∀ i : Nat, i + d = u.length → Ev (fun k => spec_foProduct.l0 k v (dotV v u i) u (u.length : Int) (i : Int)) (dotV v u u.length) := by
  induction d with
  | zero =>
    intro i hi
    obtain rfl : i = u.length := by omega
    refine Ev_succ ?_
    simp only [spec_foProduct.l0]
    exact Ev_false (by omega) Ev_some
  | succ d ih =>
    intro i hi
    refine Ev_succ ?_
    simp only [spec_foProduct.l0]
    rw [w64 (x := (i : Int) + 1) (by omega) (by omega)]
    exact Ev_true (by omega) (Ev_true (by omega) (Ev_true (by omega) (Ev_true (by omega) (ih (i + 1) (by omega)))))
theorem foProduct_ev {L : List (List Int)} {v w : List Int} (hL : isSq L = true) (hv : v.length = L.length) (hw : w.length = L.length) : Ev (fun k => spec_foProduct.f k L v w) (dotV v (applyL L w) L.length) := by
  have hn := isSq_le hL
  have ha := applyL_length L w
  unfold spec_foProduct.f
  refine Ev.bind (foApply_ev hL hw) ?_
  have h := foProduct_l0 (v := v) (u := applyL L w) (by omega) (by omega) (applyL L w).length 0 (by omega)
  rw [ha] at h ⊢
  exact h
theorem dot_l0 {v u : List Int} (hu : v.length ≤ 1000) (hv : v.length ≤ u.length) (d : Nat) : ∀ i : Nat, i + d = v.length → Ev (fun k => impl_dot.l0 k u (dotV v u i) v (v.length : Int) (i : Int)) (dotV v u v.length) := by
  induction d with
  | zero =>
    intro i hi
    obtain rfl : i = v.length := by omega
    refine Ev_succ ?_
    simp only [impl_dot.l0]
    exact Ev_false (by omega) Ev_some
  | succ d ih =>
    intro i hi
    refine Ev_succ ?_
    simp only [impl_dot.l0]
    rw [w64 (x := (i : Int) + 1) (by omega) (by omega)]
    exact Ev_true (by omega) (Ev_true (by omega) (Ev_true (by omega) (Ev_true (by omega) (ih (i + 1) (by omega)))))
theorem dot_ev {v u : List Int} (hu : v.length ≤ 1000) (hv : v.length ≤ u.length) : Ev (fun k => impl_dot.f k v u) (dotV v u v.length) := dot_l0 hu hv v.length 0 (by omega)
/-- A product by a form, as both programs answer. -/
def productR (L : List (List Int)) (v w : List Int) : Int × Bool := if isFormB L = true then (if isVec L.length v = true then (if isVec L.length w = true then (dotV v (applyL L w) L.length, true) else (0, false)) else (0, false)) else (0, false)
end Go.Proofs.Ytldkkfpodldbgaa.Q
namespace Go.Proofs.Ytldkkfpodldbgaa.Q
open Go.RowKit Go.Proofs.Ytldkkfpodldbgaa.P Go.Proofs.YtldkkfpodldbgaaW.PrintWords Go.Proofs.YtldkkfpodldbgaaW.PrintLast Go.Proofs.Ytldkkfpodldbgaa.G

theorem productAt_ev (L : List (List Int)) (v w : List Int) : Ev (fun k => impl_ProductAt.f k L v w) (productR L v w) := by
  unfold impl_ProductAt.f impl_Matrix_size.f
  rw [isForm_eq]
  simp only [Option.bind_some, isVector_eq]
  have hno : ∀ b : Bool, b = true → Ev (fun k => impl_ProductAt.j0 k v w b L) (0, false) := fun b hb => by
    subst hb
    refine Ev_succ ?_
    simp only [impl_ProductAt.j0]
    first | exact Ev_some | exact Ev_true rfl Ev_some
  by_cases hf : isFormB L = true
  · have hm := (isForm_mat hf).1
    have hn := isMat_len hm
    refine Ev_true hf ?_
    by_cases h1 : isVec L.length v = true
    · refine Ev_true h1 ?_
      have hv := isVec_len h1
      by_cases h2 : isVec L.length w = true
      · rw [show productR L v w = (dotV v (applyL L w) L.length, true) from by unfold productR; rw [if_pos hf, if_pos h1, if_pos h2]]
        refine Ev_succ ?_
        simp only [impl_ProductAt.j0]
        refine Ev_false (by rw [h2]; simp) (Ev.bind (apply_ev (isMat_sq hm) (isVec_len h2)) (Ev.bind (f := fun _ t => some (t, true)) (a := dotV v (applyL L w) L.length) ?_ Ev_some))
        have h := dot_ev (v := v) (u := applyL L w) (by omega) (by rw [applyL_length]; omega)
        rw [hv] at h
        exact h
      · rw [show productR L v w = (0, false) from by unfold productR; rw [if_pos hf, if_pos h1, if_neg h2]]
        exact hno _ (by rw [Bool.eq_false_iff.2 h2]; rfl)
    · rw [show productR L v w = (0, false) from by unfold productR; rw [if_pos hf, if_neg h1]]
      exact Ev_false h1 (hno _ rfl)
  · rw [show productR L v w = (0, false) from by unfold productR; rw [if_neg hf]]
    exact Ev_false hf (hno _ rfl)
end Go.Proofs.Ytldkkfpodldbgaa.Q
namespace Go.Proofs.Ytldkkfpodldbgaa.Q
open Go.RowKit Go.Proofs.Ytldkkfpodldbgaa.P Go.Proofs.YtldkkfpodldbgaaW.PrintWords Go.Proofs.YtldkkfpodldbgaaW.PrintLast Go.Proofs.Ytldkkfpodldbgaa.G
/-- Twice a product of two numbers, and a number of the reflection's matrix. -/
def refX (v p : List Int) (i j : Nat) : Int := wrap64 (wrap64 (v.getD i 0 * 2) * p.getD j 0)
def refAt (v p : List Int) (q : Int) (i j : Nat) : Int := if i = j then wrap64 (wrap64 (Int.tdiv (wrap64 (-(refX v p i j))) q) + 1) else wrap64 (Int.tdiv (wrap64 (-(refX v p i j))) q)
/-- Whether all are whole: along a row, and all rows before. -/
def refRow (v p : List Int) (q : Int) (i : Nat) : Nat → Bool
  | 0 => true
  | j + 1 => refRow v p q i j && (Int.tmod (refX v p i j) q == 0)
def refAll (v p : List Int) (q : Int) (n : Nat) : Nat → Bool
  | 0 => true
  | i + 1 => refAll v p q n i && refRow v p q i n
def refWh (v p : List Int) (q : Int) (n i j : Nat) : Bool := refAll v p q n i && refRow v p q i j
theorem refWh_step (v p : List Int) (q : Int) (n i j : Nat) : (refWh v p q n i j && (Int.tmod (refX v p i j) q == 0)) = refWh v p q n i (j + 1) := Bool.and_assoc _ _ _
theorem refWh_next (v p : List Int) (q : Int) (n i : Nat) : refWh v p q n i n = refWh v p q n (i + 1) 0 := (Bool.and_true _).symm
def refL (v p : List Int) (q : Int) : List (List Int) := rowsOf (refAt v p q) v.length v.length
def refR (L : List (List Int)) (v : List Int) : List (List Int) × Bool :=
  if (productR L v v).2 = true then (if (productR L v v).1 = 0 then ([], false) else (if refWh v (applyL L v) (productR L v v).1 v.length v.length 0 = true then (if isMat (refL v (applyL L v) (productR L v v).1) = true then (refL v (applyL L v) (productR L v v).1, true) else ([], false)) else ([], false))) else ([], false)
theorem formAt_ev (L : List (List Int)) (v : List Int) : Ev (fun k => impl_FormAt.f k L v) (productR L v v) := by
  unfold impl_FormAt.f
  exact Ev.bind (f := fun _ t => some (t.1, t.2)) (productAt_ev L v v) Ev_some
theorem product_good {L : List (List Int)} {v : List Int} (h : (productR L v v).2 = true) : isFormB L = true ∧ isVec L.length v = true ∧ isSq L = true ∧ v.length = L.length := by
  unfold productR at h
  split at h
  · rename_i hf
    split at h
    · rename_i hv
      exact ⟨hf, hv, isMat_sq (isForm_mat hf).1, isVec_len hv⟩
    · simp at h
  · simp at h
end Go.Proofs.Ytldkkfpodldbgaa.Q

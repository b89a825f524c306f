/- Several parts in one text: Small lemmas: loops with a number of rounds come to their answers. Rows and matrices: reads, sizes, what a matrix is. Rows of numbers by a function, and what a store makes of them. Matrices: zeros and products of the reference. All of a list lie between two numbers. Matrices: the reference's test of a matrix. Matrices: units of the reference. Sums of whole numbers. Equal up to the wrap. Traces, of both programs. The product of two matrices: what both sides come to. Cohn matrices of letters, of both programs. Christoffel words of at most forty letters: each is cut in two that are such words, and where the matrix of the whole is small, those of the parts are. Told word by word by the kernel's own reckoning. Christoffel words, as both programs test and cut them. Christoffel words in the program, and the cut of a word by both. -/
import Derived.Test.YtljlplohicffpaaGreatWWords
import Derived.Test.YtljlplohicffpaaGreatKx0
import Derived.Test.YtljlplohicffpaaGreatGA
import Derived.Test.YtljlplohicffpaaGreatKx3
import Derived.Test.YtljlplohicffpaaGreatKx4
import Derived.Test.YtljlplohicffpaaGreatKx5
import Derived.Test.YtljlplohicffpaaGreatKx2
import Derived.Test.YtljlplohicffpaaGreatKx16
import Derived.Test.YtljlplohicffpaaGreatKx19
import Derived.Test.YtljlplohicffpaaGreatKx1
import Derived.Test.YtljlplohicffpaaGreatKx6
import Derived.Test.YtljlplohicffpaaGreatKx15
import Derived.Test.YtljlplohicffpaaGreatKx7
import Derived.Lib.LazyBuf
namespace Go.Proofs.YtljlplohicffpaaGreat.Q
open Go.RowKit Go.Proofs.YtljlplohicffpaaGreatW.PrintWords

theorem Ev_succ {α : Type} {g : Nat → Option α} {r : α} (h : Ev (fun k => g (k + 1)) r) : Ev g r := Ev.step (fun _ => rfl) h
theorem Ev_some {α : Type} {a : α} : Ev (fun _ => some a) a := Ev.now a
theorem Ev_out {α : Type} {g : Nat → Option α} {r : α} (h : Ev g r) : ∃ k, g k = some r := h.rounds
theorem Ev_true {α : Type} {c : Prop} [Decidable c] {f g : Nat → Option α} {r : α} (hc : c) (h : Ev f r) : Ev (fun k => if c then f k else g k) r := by
  simpa only [if_pos hc] using h
theorem Ev_false {α : Type} {c : Prop} [Decidable c] {f g : Nat → Option α} {r : α} (hc : ¬ c) (h : Ev g r) : Ev (fun k => if c then f k else g k) r := by
  simpa only [if_neg hc] using h


theorem w64 {x : Int} (h : -9223372036854775808 ≤ x) (h' : x ≤ 9223372036854775807) : wrap64 x = x := by unfold wrap64; omega

end Go.Proofs.YtljlplohicffpaaGreat.Q
namespace Go.Proofs.YtljlplohicffpaaGreat.Q
open Go.RowKit Go.Proofs.YtljlplohicffpaaGreat.P Go.Proofs.YtljlplohicffpaaGreatW.PrintWords Go.Proofs.YtljlplohicffpaaGreatW.PrintLast Go.Proofs.YtljlplohicffpaaGreat.G

theorem rd_at {l : List Int} {i : Nat} (h : i < l.length) : rd l (i : Int) = l[i] := by
  simp [rd, List.getD_eq_getElem?_getD, List.getElem?_eq_getElem h]
theorem rdRow {l : List (List Int)} {i : Nat} (h : i < l.length) : rd_L4 l (i : Int) = l[i] := by
  simp [rd_L4, List.getD_eq_getElem?_getD, List.getElem?_eq_getElem h]
/-- What a law's test of sizes leaves. -/
def Fits (L : List (List Int)) : Prop := L.length ≤ 1048576 ∧ ∀ x ∈ L, x.length ≤ 1048576
theorem isMat_len {L : List (List Int)} (h : isMat L = true) : 1 ≤ L.length ∧ L.length ≤ 4 := by
  unfold isMat at h
  rw [Bool.and_eq_true, Bool.and_eq_true, decide_eq_true_iff, decide_eq_true_iff] at h
  omega
theorem isMat_row {L : List (List Int)} (h : isMat L = true) {x : List Int} (hx : x ∈ L) : x.length = L.length ∧ ∀ a ∈ x, -1000000 ≤ a ∧ a ≤ 1000000 := by
  unfold isMat at h
  rw [Bool.and_eq_true] at h
  have h2 := List.all_eq_true.1 h.2 x hx
  unfold isVec at h2
  rw [Bool.and_eq_true, decide_eq_true_iff] at h2
  refine ⟨by omega, fun a ha => ?_⟩
  have h3 := List.all_eq_true.1 h2.2 a ha
  unfold inB at h3
  rw [Bool.and_eq_true, decide_eq_true_iff, decide_eq_true_iff] at h3
  exact h3
end Go.Proofs.YtljlplohicffpaaGreat.Q
namespace Go.Proofs.YtljlplohicffpaaGreat.Q
open Go.RowKit Go.Proofs.YtljlplohicffpaaGreat.P Go.Proofs.YtljlplohicffpaaGreatW.PrintWords Go.Proofs.YtljlplohicffpaaGreatW.PrintLast Go.Proofs.YtljlplohicffpaaGreat.G

def upd (F : Nat → Nat → Int) (i j : Nat) (v : Int) : Nat → Nat → Int := fun a b => if a = i ∧ b = j then v else F a b
theorem upd_upd (F : Nat → Nat → Int) (i j : Nat) (v u : Int) : upd (upd F i j v) i j u = upd F i j u := by
  funext a b
  unfold upd
  by_cases h : a = i ∧ b = j
  · rw [if_pos h, if_pos h]
  · rw [if_neg h, if_neg h, if_neg h]
theorem upd_self (F : Nat → Nat → Int) (i j : Nat) {v : Int} (h : F i j = v) : upd F i j v = F := by
  funext a b
  unfold upd
  by_cases c : a = i ∧ b = j
  · rw [if_pos c, c.1, c.2, h]
  · rw [if_neg c]
theorem upd_at (F : Nat → Nat → Int) (i j : Nat) (v : Int) : upd F i j v i j = v := by
  unfold upd
  rw [if_pos ⟨rfl, rfl⟩]
theorem rd_rowOf {F : Nat → Nat → Int} {i n j : Nat} (hj : j < n) : rd (rowOf F i n) (j : Int) = F i j := by
  rw [rd_at (by rw [rowOf_length]; exact hj)]
  simp [rowOf]
theorem rdRow_rowsOf {F : Nat → Nat → Int} {n m i : Nat} (hi : i < m) : rd_L4 (rowsOf F n m) (i : Int) = rowOf F i n := by
  rw [rdRow (by rw [rowsOf_length]; exact hi)]
  simp [rowsOf]
theorem rowOf_congr {F F' : Nat → Nat → Int} {i i' n : Nat} (h : ∀ b, b < n → F i b = F' i' b) : rowOf F i n = rowOf F' i' n := by
  unfold rowOf
  exact List.map_congr_left (fun b hb => h b (List.mem_range.1 hb))
theorem rowsOf_congr {F F' : Nat → Nat → Int} {n m : Nat} (h : ∀ a b, a < m → b < n → F a b = F' a b) : rowsOf F n m = rowsOf F' n m := by
  unfold rowsOf
  exact List.map_congr_left (fun a ha => rowOf_congr (fun b hb => h a b (List.mem_range.1 ha) hb))
theorem rowOf_set {F : Nat → Nat → Int} {i n j : Nat} {v : Int} : (rowOf F i n).set j v = rowOf (upd F i j v) i n := by
  apply List.ext_getElem
  · simp [rowOf]
  · intro k h1 h2
    rw [List.getElem_set]
    simp only [rowOf, upd, List.getElem_map, List.getElem_range, true_and]
    by_cases h : j = k
    · rw [if_pos h, if_pos h.symm]
    · rw [if_neg h, if_neg (fun e => h e.symm)]
theorem rowsOf_set {F : Nat → Nat → Int} {n m i j : Nat} {v : Int} : (rowsOf F n m).set i ((rowOf F i n).set j v) = rowsOf (upd F i j v) n m := by
  apply List.ext_getElem
  · simp [rowsOf]
  · intro k h1 h2
    rw [List.getElem_set]
    by_cases h : i = k
    · subst h
      rw [if_pos rfl, rowOf_set]
      simp [rowsOf]
    · rw [if_neg h]
      simp only [rowsOf, List.getElem_map, List.getElem_range]
      exact rowOf_congr (fun b _ => by unfold upd; rw [if_neg (fun e => h e.1.symm)])
theorem rd2 (L : List (List Int)) (i j : Nat) : rd (rd_L4 L (i : Int)) (j : Int) = at2 L i j := by simp [rd, rd_L4, at2]
theorem at2_rowsOf {F : Nat → Nat → Int} {n m i j : Nat} (hi : i < m) (hj : j < n) : at2 (rowsOf F n m) i j = F i j := by
  rw [← rd2, rdRow_rowsOf hi, rd_rowOf hj]
theorem isSq_rowsOf (F : Nat → Nat → Int) {n : Nat} (hn : n ≤ 1000) : isSq (rowsOf F n n) = true := by
  unfold isSq
  rw [Bool.and_eq_true, decide_eq_true_iff, rowsOf_length]
  refine ⟨hn, List.all_eq_true.2 fun x hx => ?_⟩
  unfold rowsOf at hx
  obtain ⟨a, _, rfl⟩ := List.mem_map.1 hx
  rw [rowOf_length]
  exact decide_eq_true rfl
theorem row_len {L : List (List Int)} {n : Nat} (h : isSq L = true) (hL : L.length = n) {i : Nat} (hi : i < n) : (rd_L4 L (i : Int)).length = n := by
  subst hL
  rw [rdRow hi]
  exact isSq_at h hi
theorem isMat_sq {L : List (List Int)} (h : isMat L = true) : isSq L = true := by
  have h1 := isMat_len h
  unfold isSq
  rw [Bool.and_eq_true, decide_eq_true_iff]
  exact ⟨by omega, List.all_eq_true.2 fun x hx => decide_eq_true (isMat_row h hx).1⟩
theorem isMat_at {L : List (List Int)} (h : isMat L = true) {i j : Nat} (hi : i < L.length) (hj : j < L.length) : -1000000 ≤ at2 L i j ∧ at2 L i j ≤ 1000000 := by
  have h1 := isSq_at (isMat_sq h) hi
  rw [at2_eq hi (by omega)]
  exact (isMat_row h (List.getElem_mem hi)).2 _ (List.getElem_mem _)
theorem fits_sq {L : List (List Int)} (h : isSq L = true) : Fits L := by
  have h1 := isSq_le h
  refine ⟨by omega, fun x hx => ?_⟩
  obtain ⟨i, hi, rfl⟩ := List.mem_iff_getElem.1 hx
  have := isSq_at h hi
  omega
end Go.Proofs.YtljlplohicffpaaGreat.Q
namespace Go.Proofs.YtljlplohicffpaaGreat.Q
open Go.RowKit Go.Proofs.YtljlplohicffpaaGreat.P Go.Proofs.YtljlplohicffpaaGreatW.PrintWords Go.Proofs.YtljlplohicffpaaGreatW.PrintLast Go.Proofs.YtljlplohicffpaaGreat.G

theorem foZero_l0 {n : Nat} (hn : n ≤ 1000) (d : Nat) : ∀ i : Nat, i + d = n → Ev (fun k => spec_foZero.l0 k (n : Int) (i : Int) (rowsOf (fun _ _ => 0) n i)) (rowsOf (fun _ _ => 0) n n) := by
  induction d with
  | zero =>
    intro i hi
    obtain rfl : i = n := by omega
    refine Ev_succ ?_
    simp only [spec_foZero.l0]
    exact Ev_false (by omega) Ev_some
  | succ d ih =>
    intro i hi
    refine Ev_succ ?_
    simp only [spec_foZero.l0]
    have e : rowsOf (fun _ _ => 0) n i ++ [List.replicate ((n : Int)).toNat 0] = rowsOf (fun _ _ => 0) n (i + 1) := by
      rw [rowsOf_succ]
      congr 2
      unfold rowOf
      rw [Int.toNat_natCast]
      apply List.ext_getElem <;> simp
    rw [e, w64 (x := (i : Int) + 1) (by omega) (by omega)]
    refine Ev_true (by omega) (Ev_true (by omega) (Ev_true (by omega) (Ev_true (by rw [rowsOf_length]; omega) (ih (i + 1) (by omega)))))
theorem foZero_ev {n : Nat} (hn : n ≤ 1000) : Ev (fun k => spec_foZero.f k (n : Int)) (rowsOf (fun _ _ => 0) n n) :=
  foZero_l0 hn n 0 (by omega)

theorem foTimes_l2 {L M : List (List Int)} {n : Nat} (hn : n ≤ 1000) (hL : isSq L = true) (hM : isSq M = true) (eL : L.length = n) (eM : M.length = n) {i j : Nat} (hi : i < n) (hj : j < n) {r : List (List Int)} (d : Nat) :
    ∀ (q : Nat) (F : Nat → Nat → Int), q + d = n → F i j = dotK L M i j q → Ev (fun k => spec_foTimes.l1 k (i : Int) (n : Int) (i : Int) (n : Int) ((j + 1 : Nat) : Int) L M (rowsOf (upd F i j (dotK L M i j n)) n n)) r →
      Ev (fun k => spec_foTimes.l2 k (i : Int) (j : Int) (n : Int) (i : Int) (n : Int) (j : Int) (n : Int) (q : Int) L M (rowsOf F n n)) r := by
  induction d with
  | zero =>
    intro q F hq hF h
    obtain rfl : q = n := by omega
    rw [upd_self F i j hF] at h
    refine Ev_succ ?_
    simp only [spec_foTimes.l2]
    rw [w64 (x := (j : Int) + 1) (by omega) (by omega)]
    exact Ev_false (by omega) h
  | succ d ih =>
    intro q F hq hF h
    have hq' : q < n := by omega
    refine Ev_succ ?_
    simp only [spec_foTimes.l2]
    rw [rdRow_rowsOf hi, rowsOf_length, rowOf_length, rd_rowOf hj, row_len hL eL hi, row_len hM eM hq', rd2, rd2, Int.toNat_natCast, Int.toNat_natCast, rowsOf_set, hF, w64 (x := (q : Int) + 1) (by omega) (by omega), eL, eM]
    refine Ev_true (by omega) (Ev_true (by omega) (Ev_true (by omega) (Ev_true (by omega) (Ev_true (by omega) (Ev_true (by omega) (Ev_true (by omega) (Ev_true (by omega) (Ev_true (by omega) (Ev_true (by omega) ?_)))))))))
    refine ih (q + 1) (upd F i j (wrap64 (dotK L M i j q + wrap64 (at2 L i q * at2 M q j)))) (by omega) (upd_at _ _ _ _) ?_
    rw [upd_upd]
    exact h
/-- How far a matrix has been written, row by row. -/
def stage (H : Nat → Nat → Int) (i j : Nat) : Nat → Nat → Int := fun a b => if a < i ∨ (a = i ∧ b < j) then H a b else 0
theorem stage_next (H : Nat → Nat → Int) (i j : Nat) : upd (stage H i j) i j (H i j) = stage H i (j + 1) := by
  funext a b
  unfold upd stage
  by_cases h : a = i ∧ b = j
  · rw [if_pos h, if_pos (by omega), h.1, h.2]
  · rw [if_neg h]
    by_cases h2 : a < i ∨ (a = i ∧ b < j)
    · rw [if_pos h2, if_pos (by omega)]
    · rw [if_neg h2, if_neg (by omega)]
theorem stage_row (H : Nat → Nat → Int) {n m : Nat} (i : Nat) : rowsOf (stage H i n) n m = rowsOf (stage H (i + 1) 0) n m := rowsOf_congr fun a b _ hb => by
  unfold stage
  by_cases h : a < i ∨ (a = i ∧ b < n)
  · rw [if_pos h, if_pos (by omega)]
  · rw [if_neg h, if_neg (by omega)]
theorem stage_end (H : Nat → Nat → Int) (n : Nat) : rowsOf (stage H n 0) n n = rowsOf H n n := rowsOf_congr fun a b ha _ => by
  unfold stage
  rw [if_pos (.inl ha)]
theorem stage_start (H : Nat → Nat → Int) (n : Nat) : rowsOf (fun _ _ => 0) n n = rowsOf (stage H 0 0) n n := rowsOf_congr fun a b _ _ => by
  unfold stage
  rw [if_neg (by omega)]
theorem foTimes_l1 {L M : List (List Int)} {n : Nat} (hn : n ≤ 1000) (hL : isSq L = true) (hM : isSq M = true) (eL : L.length = n) (eM : M.length = n) {i : Nat} (hi : i < n) {r : List (List Int)} (d : Nat) :
    ∀ j : Nat, j + d = n → Ev (fun k => spec_foTimes.l0 k (n : Int) ((i + 1 : Nat) : Int) L M (rowsOf (stage (fun i j => dotK L M i j n) (i + 1) 0) n n)) r →
      Ev (fun k => spec_foTimes.l1 k (i : Int) (n : Int) (i : Int) (n : Int) (j : Int) L M (rowsOf (stage (fun i j => dotK L M i j n) i j) n n)) r := by
  induction d with
  | zero =>
    intro j hj h
    obtain rfl : j = n := by omega
    refine Ev_succ ?_
    simp only [spec_foTimes.l1]
    rw [w64 (x := (i : Int) + 1) (by omega) (by omega), stage_row]
    exact Ev_false (by omega) h
  | succ d ih =>
    intro j hj h
    refine Ev_succ ?_
    simp only [spec_foTimes.l1]
    rw [eL]
    refine Ev_true (by omega) ?_
    refine foTimes_l2 hn hL hM eL eM hi (by omega) n 0 _ (by omega) ?_ ?_
    · show stage _ i j i j = 0
      unfold stage
      rw [if_neg (by omega)]
    · have e := stage_next (fun i j => dotK L M i j n) i j
      rw [e]
      exact ih (j + 1) (by omega) h
theorem foTimes_l0 {L M : List (List Int)} {n : Nat} (hn : n ≤ 1000) (hL : isSq L = true) (hM : isSq M = true) (eL : L.length = n) (eM : M.length = n) (d : Nat) :
    ∀ i : Nat, i + d = n → Ev (fun k => spec_foTimes.l0 k (n : Int) (i : Int) L M (rowsOf (stage (fun i j => dotK L M i j n) i 0) n n)) (rowsOf (fun i j => dotK L M i j n) n n) := by
  induction d with
  | zero =>
    intro i hi
    obtain rfl : i = n := by omega
    refine Ev_succ ?_
    simp only [spec_foTimes.l0]
    rw [stage_end]
    exact Ev_false (by omega) Ev_some
  | succ d ih =>
    intro i hi
    refine Ev_succ ?_
    simp only [spec_foTimes.l0]
    rw [eL]
    refine Ev_true (by omega) ?_
    exact foTimes_l1 hn hL hM eL eM (by omega) n 0 (by omega) (ih (i + 1) (by omega))
theorem foTimes_ev {L M : List (List Int)} (hL : isSq L = true) (hM : isSq M = true) (e : L.length = M.length) : Ev (fun k => spec_foTimes.f k L M) (prodL L M) := by
  unfold spec_foTimes.f prodL
  have hn := isSq_le hL
  refine Ev.bind (foZero_ev hn) ?_
  rw [stage_start (fun i j => dotK L M i j L.length)]
  exact foTimes_l0 hn hL hM rfl e.symm L.length 0 (by omega)

end Go.Proofs.YtljlplohicffpaaGreat.Q
namespace Go.Proofs.YtljlplohicffpaaGreat.Q
open Go.RowKit Go.Proofs.YtljlplohicffpaaGreat.P Go.Proofs.YtljlplohicffpaaGreatW.PrintWords Go.Proofs.YtljlplohicffpaaGreatW.PrintLast Go.Proofs.YtljlplohicffpaaGreat.G

theorem allIn_eq (a lo hi : Int) : spec_l1In.f a lo hi = some (decide (lo ≤ a ∧ a ≤ hi)) := by
  unfold spec_l1In.f
  by_cases h : lo ≤ a
  · rw [if_pos h]
    simp [h]
  · rw [if_neg h]
    simp [h]
theorem l1All_l0 {l : List Int} (hn : l.length ≤ 4611686018427387904) (lo up : Int) (d : Nat) : ∀ i : Nat, i + d = l.length → Ev (fun k => spec_l1All.l0 k lo up l (l.length : Int) (i : Int)) ((l.drop i).all (inB lo up)) := by
  induction d with
  | zero =>
    intro i hi
    refine Ev_succ ?_
    simp only [spec_l1All.l0]
    rw [List.drop_of_length_le (by omega)]
    exact Ev_false (by omega) Ev_some
  | succ d ih =>
    intro i h1
    have hi : i < l.length := by omega
    refine Ev_succ ?_
    simp only [spec_l1All.l0]
    rw [rd_at hi, List.drop_eq_getElem_cons hi, w64 (x := (i : Int) + 1) (by omega) (by omega), allIn_eq]
    refine Ev_true (by omega) (Ev_true (by omega) (Ev_true (by omega) ?_))
    simp only [Option.bind_some, List.all_cons]
    by_cases hb : lo ≤ l[i] ∧ l[i] ≤ up
    · have hin : inB lo up l[i] = true := by unfold inB; simp [hb]
      rw [hin, Bool.true_and]
      exact Ev_true (by simpa using hb) (ih (i + 1) (by omega))
    · have hin : inB lo up l[i] = false := by
        unfold inB
        rw [← Bool.not_eq_true]
        intro h
        exact hb (by simpa using h)
      rw [hin, Bool.false_and]
      exact Ev_false (by simpa using hb) Ev_some
theorem l1All_ev {l : List Int} (hn : l.length ≤ 4611686018427387904) (lo up : Int) : Ev (fun k => spec_l1All.f k l lo up) (l.all (inB lo up)) :=
  l1All_l0 hn lo up l.length 0 (by omega)
end Go.Proofs.YtljlplohicffpaaGreat.Q
namespace Go.Proofs.YtljlplohicffpaaGreat.Q
open Go.RowKit Go.Proofs.YtljlplohicffpaaGreat.P Go.Proofs.YtljlplohicffpaaGreatW.PrintWords Go.Proofs.YtljlplohicffpaaGreatW.PrintLast Go.Proofs.YtljlplohicffpaaGreat.G

theorem foGood_l0 {L : List (List Int)} (hL : Fits L) (d : Nat) : ∀ i : Nat, i + d = L.length → Ev (fun k => spec_foGood.l0 k L (L.length : Int) (i : Int) L) ((L.drop i).all (isVec L.length)) := by
  have hl := hL.1
  induction d with
  | zero =>
    intro i hi
    refine Ev_succ ?_
    simp only [spec_foGood.l0]
    rw [List.drop_of_length_le (by omega)]
    exact Ev_false (by omega) Ev_some
  | succ d ih =>
    intro i hi
    have h1 : i < L.length := by omega
    have hxi := hL.2 _ (List.getElem_mem h1)
    refine Ev_succ ?_
    simp only [spec_foGood.l0]
    rw [rdRow h1, w64 (x := (i : Int) + 1) (by omega) (by omega), List.drop_eq_getElem_cons h1, List.all_cons]
    refine Ev_true (by omega) (Ev_true (by omega) (Ev_true (by omega) ?_))
    unfold isVec
    by_cases hn : (L[i].length : Int) = L.length
    · refine Ev_true hn (Ev.bind (l1All_ev (l := L[i]) (by omega) (-1000000) 1000000) ?_)
      rw [decide_eq_true hn, Bool.true_and]
      cases hb : L[i].all (inB (-1000000) 1000000) with
      | true => exact Ev_true rfl (ih (i + 1) (by omega))
      | false => exact Ev_false (by simp) Ev_some
    · rw [decide_eq_false hn, Bool.false_and, Bool.false_and]
      exact Ev_false hn Ev_some
theorem foGood_ev {L : List (List Int)} (hL : Fits L) : Ev (fun k => spec_foGood.f k L) (isMat L) := by
  unfold spec_foGood.f isMat
  rw [allIn_eq]
  simp only [Option.bind_some]
  by_cases h : (1 : Int) ≤ L.length ∧ (L.length : Int) ≤ 4
  · rw [decide_eq_true h.1, decide_eq_true h.2]
    exact Ev_true (by simpa using h) (foGood_l0 hL L.length 0 (by omega))
  · have e : (decide ((1 : Int) ≤ L.length) && decide ((L.length : Int) ≤ 4)) = false := by
      rw [← Bool.not_eq_true, Bool.and_eq_true, decide_eq_true_iff, decide_eq_true_iff]
      exact h
    rw [e, Bool.false_and]
    exact Ev_false (by simpa using h) Ev_some
end Go.Proofs.YtljlplohicffpaaGreat.Q
namespace Go.Proofs.YtljlplohicffpaaGreat.Q
open Go.RowKit Go.Proofs.YtljlplohicffpaaGreat.P Go.Proofs.YtljlplohicffpaaGreatW.PrintWords Go.Proofs.YtljlplohicffpaaGreatW.PrintLast Go.Proofs.YtljlplohicffpaaGreat.G

theorem foUnit_l0 {n : Nat} (hn : n ≤ 1000) (d : Nat) : ∀ i : Nat, i + d = n → Ev (fun k => spec_foUnit.l0 k (n : Int) (i : Int) (rowsOf (fun a b => if a = b ∧ a < i then 1 else 0) n n)) (unitL n) := by
  induction d with
  | zero =>
    intro i hi
    obtain rfl : i = n := by omega
    refine Ev_succ ?_
    simp only [spec_foUnit.l0]
    have e : rowsOf (fun a b => if a = b ∧ a < i then 1 else 0) i i = unitL i := rowsOf_congr fun a b ha _ => by
      by_cases h : a = b
      · rw [if_pos ⟨h, ha⟩, if_pos h]
      · rw [if_neg (fun c => h c.1), if_neg h]
    rw [e]
    exact Ev_false (by omega) Ev_some
  | succ d ih =>
    intro i hi
    refine Ev_succ ?_
    simp only [spec_foUnit.l0]
    rw [rdRow_rowsOf (by omega), rowsOf_length, rowOf_length, Int.toNat_natCast, rowsOf_set, w64 (x := (i : Int) + 1) (by omega) (by omega)]
    have e : upd (fun a b => if a = b ∧ a < i then 1 else 0) i i 1 = fun a b => if a = b ∧ a < i + 1 then 1 else 0 := by
      funext a b
      unfold upd
      by_cases h : a = i ∧ b = i
      · rw [if_pos h, if_pos (by omega)]
      · rw [if_neg h]
        show (if a = b ∧ a < i then (1 : Int) else 0) = if a = b ∧ a < i + 1 then 1 else 0
        by_cases h2 : a = b ∧ a < i
        · rw [if_pos h2, if_pos (by omega)]
        · rw [if_neg h2, if_neg (by omega)]
    rw [e]
    exact Ev_true (by omega) (Ev_true (by omega) (Ev_true (by omega) (Ev_true (by omega) (ih (i + 1) (by omega)))))
theorem foUnit_ev {n : Nat} (hn : n ≤ 1000) : Ev (fun k => spec_foUnit.f k (n : Int)) (unitL n) := by
  unfold spec_foUnit.f
  refine Ev.bind (foZero_ev hn) ?_
  rw [rowsOf_length]
  have h := foUnit_l0 hn n 0 (by omega)
  have e : (fun a b : Nat => if a = b ∧ a < 0 then (1 : Int) else 0) = fun _ _ => 0 := by
    funext a b
    rw [if_neg (by omega)]
  rw [e] at h
  exact h

end Go.Proofs.YtljlplohicffpaaGreat.Q
namespace Go.Proofs.YtljlplohicffpaaGreat.Q
open Go.RowKit Go.Proofs.YtljlplohicffpaaGreat.P Go.Proofs.YtljlplohicffpaaGreatW.PrintWords Go.Proofs.YtljlplohicffpaaGreatW.PrintLast Go.Proofs.YtljlplohicffpaaGreat.G

def sumZ (f : Nat → Int) : Nat → Int
  | 0 => 0
  | k + 1 => sumZ f k + f k
end Go.Proofs.YtljlplohicffpaaGreat.Q
namespace Go.Proofs.YtljlplohicffpaaGreat.Q
open Go.RowKit Go.Proofs.YtljlplohicffpaaGreat.P Go.Proofs.YtljlplohicffpaaGreatW.PrintWords Go.Proofs.YtljlplohicffpaaGreatW.PrintLast Go.Proofs.YtljlplohicffpaaGreat.G
/-- Equal up to the wrap. -/
def Cg (x y : Int) : Prop := ∃ t : Int, x = y + 18446744073709551616 * t
theorem Cg.refl (x : Int) : Cg x x := ⟨0, by omega⟩
theorem Cg.symm {x y : Int} : Cg x y → Cg y x := fun ⟨t, h⟩ => ⟨-t, by omega⟩
theorem Cg.trans {x y z : Int} : Cg x y → Cg y z → Cg x z := fun ⟨t, h⟩ ⟨s, g⟩ => ⟨t + s, by omega⟩
theorem Cg.of_eq {x y : Int} (h : x = y) : Cg x y := h ▸ Cg.refl x
theorem Cg.add {x y a b : Int} : Cg x y → Cg a b → Cg (x + a) (y + b) := fun ⟨t, h⟩ ⟨s, g⟩ => ⟨t + s, by omega⟩
theorem Cg.neg {x y : Int} : Cg x y → Cg (-x) (-y) := fun ⟨t, h⟩ => ⟨-t, by omega⟩
theorem Cg.mul {x y a b : Int} : Cg x y → Cg a b → Cg (x * a) (y * b) := fun ⟨t, h⟩ ⟨s, g⟩ => ⟨y * s + t * b + 18446744073709551616 * (t * s), by subst h; subst g; grind⟩
theorem Cg.w (x : Int) : Cg (wrap64 x) x := ⟨-((x + 9223372036854775808) / 18446744073709551616), by unfold wrap64; omega⟩
theorem Cg.eq {x y : Int} : Cg x y → wrap64 x = wrap64 y := fun ⟨t, h⟩ => by unfold wrap64; omega
theorem Cg.sum {f g : Nat → Int} : ∀ n, (∀ t, t < n → Cg (f t) (g t)) → Cg (sumZ f n) (sumZ g n)
  | 0, _ => Cg.refl _
  | n + 1, h => (Cg.sum n fun t ht => h t (by omega)).add (h n (by omega))
theorem dotK_w (L M : List (List Int)) (i j : Nat) : ∀ k, dotK L M i j k = wrap64 (sumZ (fun t => at2 L i t * at2 M t j) k)
  | 0 => by exact (w64 (x := 0) (by omega) (by omega)).symm
  | k + 1 => (((Cg.of_eq (dotK_w L M i j k)).trans (Cg.w _)).add (Cg.w _)).eq
theorem prod_cg (L M : List (List Int)) {i j : Nat} (hi : i < L.length) (hj : j < L.length) : Cg (at2 (prodL L M) i j) (sumZ (fun t => at2 L i t * at2 M t j) L.length) := by
  unfold prodL
  rw [at2_rowsOf hi hj, dotK_w]
  exact Cg.w _
end Go.Proofs.YtljlplohicffpaaGreat.Q
namespace Go.Proofs.YtljlplohicffpaaGreat.Q
open Go.RowKit Go.Proofs.YtljlplohicffpaaGreat.P Go.Proofs.YtljlplohicffpaaGreatW.PrintWords Go.Proofs.YtljlplohicffpaaGreatW.PrintLast Go.Proofs.YtljlplohicffpaaGreat.G

def trK (L : List (List Int)) : Nat → Int
  | 0 => 0
  | k + 1 => wrap64 (trK L k + at2 L k k)


theorem trace_l0 {L : List (List Int)} (hL : isSq L = true) (d : Nat) : ∀ i : Nat, i + d = L.length → Ev (fun k => impl_TraceOf.l0 k (trK L i) L (L.length : Int) (i : Int)) (trK L L.length, true) := by
  have hn := isSq_le hL
  induction d with
  | zero =>
    intro i hi
    obtain rfl : i = L.length := by omega
    refine Ev_succ ?_
    simp only [impl_TraceOf.l0]
    exact Ev_false (by omega) Ev_some
  | succ d ih =>
    intro i hi
    refine Ev_succ ?_
    simp only [impl_TraceOf.l0]
    rw [row_len hL rfl (by omega), rd2, w64 (x := (i : Int) + 1) (by omega) (by omega)]
    exact Ev_true (by omega) (Ev_true (by omega) (Ev_true (by omega) (Ev_true (by omega) (ih (i + 1) (by omega)))))

def traceR (L : List (List Int)) : Int × Bool := if isMat L = true then (trK L L.length, true) else (0, false)
theorem trace_ev (L : List (List Int)) : Ev (fun k => impl_TraceOf.f k L) (traceR L) := by
  unfold impl_TraceOf.f traceR impl_IsMatrix.f
  simp only [Option.bind_some]
  by_cases h : isMat L = true
  · rw [if_pos h]
    exact Ev_true h (trace_l0 (isMat_sq h) L.length 0 (by omega))
  · rw [if_neg h]
    exact Ev_false h Ev_some
end Go.Proofs.YtljlplohicffpaaGreat.Q
namespace Go.Proofs.YtljlplohicffpaaGreat.Q
open Go.RowKit Go.Proofs.YtljlplohicffpaaGreat.P Go.Proofs.YtljlplohicffpaaGreatW.PrintWords Go.Proofs.YtljlplohicffpaaGreatW.PrintLast Go.Proofs.YtljlplohicffpaaGreat.G
def alikeB (L M : List (List Int)) : Bool := isMat L && (isMat M && decide (L.length = M.length))
theorem alikeB_iff {L M : List (List Int)} : alikeB L M = true ↔ isMat L = true ∧ isMat M = true ∧ L.length = M.length := by
  simp [alikeB]
theorem areAlike_eq (L M : List (List Int)) : impl_areAlike.f L M = some (alikeB L M) := by
  unfold impl_areAlike.f impl_IsMatrix.f impl_Matrix_size.f alikeB
  simp only [Option.bind_some]
  cases isMat L <;> cases isMat M <;> simp
  by_cases h : L.length = M.length
  · simp [h]
  · simp [h]
    omega
def multR (L M : List (List Int)) : List (List Int) × Bool := if alikeB L M = true then (if isMat (prodL L M) = true then (prodL L M, true) else ([], false)) else ([], false)
end Go.Proofs.YtljlplohicffpaaGreat.Q
namespace Go.Proofs.YtljlplohicffpaaGreat.Q
open Go.RowKit Go.Proofs.YtljlplohicffpaaGreat.P Go.Proofs.YtljlplohicffpaaGreatW.PrintWords Go.Proofs.YtljlplohicffpaaGreatW.PrintLast Go.Proofs.YtljlplohicffpaaGreat.G

theorem toList_go (s : ByteArray) (d : Nat) : ∀ (i : Nat) (r : List UInt8), i + d = s.size → ByteArray.toList.loop s i r = r.reverse ++ s.data.toList.drop i := by
  induction d with
  | zero =>
    intro i r hi
    unfold ByteArray.toList.loop
    rw [if_neg (by omega), List.drop_of_length_le (by rw [Array.length_toList]; show s.size ≤ i; omega), List.append_nil]
  | succ d ih =>
    intro i r hi
    have h1 : i < s.data.toList.length := by rw [Array.length_toList]; show i < s.size; omega
    unfold ByteArray.toList.loop
    rw [if_pos (by omega), ih (i + 1) _ (by omega), List.drop_eq_getElem_cons h1]
    have e : s.get! i = s.data.toList[i] := by
      have h2 : i < s.data.size := by rw [Array.length_toList] at h1; exact h1
      show s.data[i]! = _
      rw [getElem!_pos s.data i h2]
      simp
    rw [e]
    simp
theorem toList_nil (s : ByteArray) : s.toList = ([] : List UInt8) ↔ s.size = 0 := by
  unfold ByteArray.toList
  rw [toList_go s s.size 0 [] (by omega)]
  simp only [List.reverse_nil, List.nil_append, List.drop_zero]
  rw [← List.length_eq_zero_iff, Array.length_toList]
  rfl
theorem bt_at {s : ByteArray} {i : Nat} (h : i < (bytesOf s).length) : bt s (i : Int) = (bytesOf s)[i] := by rw [← rd_bytesOf, rd_at h]
def lettersB (s : ByteArray) : Bool := decide (1 ≤ s.size) && isWordB s 97 98
theorem chLetters_l0 {s : ByteArray} (hs : s.size ≤ 40) (d : Nat) : ∀ i : Nat, i + d = s.size → Ev (fun k => spec_chLetters.l0 k s (i : Int)) (((bytesOf s).drop i).all (okL 97 98)) := by
  have hl := bytesOf_length s
  induction d with
  | zero =>
    intro i hi
    refine Ev_succ ?_
    simp only [spec_chLetters.l0]
    rw [List.drop_of_length_le (by omega)]
    exact Ev_false (by omega) Ev_some
  | succ d ih =>
    intro i hi
    have h1 : i < (bytesOf s).length := by omega
    refine Ev_succ ?_
    simp only [spec_chLetters.l0]
    rw [bt_at h1, List.drop_eq_getElem_cons h1, List.all_cons, w64 (x := (i : Int) + 1) (by omega) (by omega)]
    refine Ev_true (by omega) (Ev_true (by omega) ?_)
    have h := ih (i + 1) (by omega)
    by_cases ha : (bytesOf s)[i] = 97
    · have e : okL 97 98 (bytesOf s)[i] = true := by unfold okL; rw [decide_eq_true ha]; rfl
      rw [e, Bool.true_and]
      exact Ev_true ha h
    · refine Ev_false ha ?_
      by_cases hb : (bytesOf s)[i] = 98
      · have e : okL 97 98 (bytesOf s)[i] = true := by unfold okL; rw [decide_eq_true hb, Bool.or_true]
        rw [e, Bool.true_and]
        exact Ev_true hb h
      · have e : okL 97 98 (bytesOf s)[i] = false := by unfold okL; rw [decide_eq_false ha, decide_eq_false hb]; rfl
        rw [e, Bool.false_and]
        exact Ev_false hb Ev_some
theorem chLetters_ev (s : ByteArray) : Ev (fun k => spec_chLetters.f k s) (lettersB s) := by
  unfold spec_chLetters.f lettersB isWordB
  rw [allIn_eq]
  simp only [Option.bind_some]
  by_cases h : 1 ≤ s.size
  · by_cases h2 : s.size ≤ 40
    · rw [decide_eq_true h, decide_eq_true h2, Bool.true_and, Bool.true_and]
      exact Ev_true (by simp; omega) (chLetters_l0 h2 s.size 0 (by omega))
    · rw [decide_eq_false h2, Bool.false_and, Bool.and_false]
      exact Ev_false (by simp; omega) Ev_some
  · rw [decide_eq_false h, Bool.false_and]
    exact Ev_false (by simp; omega) Ev_some
theorem isLetters_eq (s : ByteArray) : impl_IsLetters.f s = some (lettersB s) := by
  unfold impl_IsLetters.f impl_isWord.f lettersB
  by_cases h : s.size = 0
  · rw [if_pos ((toList_nil s).2 h), decide_eq_false (by omega), Bool.false_and]
  · rw [if_neg (fun e => h ((toList_nil s).1 e)), decide_eq_true (by omega), Bool.true_and]
    rfl

def cohnStep (c : Int) : List (List Int) := if c = 98 then [[5, 2], [2, 1]] else [[2, 1], [1, 1]]
/-- Both programs' loop over the letters. -/
def cohnGo : List Int → List (List Int) → List (List Int) × Bool
  | [], M => (M, true)
  | c :: l, M => if isMat (prodL M (cohnStep c)) = true then cohnGo l (prodL M (cohnStep c)) else ([], false)
theorem cohnStep_sq (c : Int) : isSq (cohnStep c) = true ∧ (cohnStep c).length = 2 := by
  unfold cohnStep
  split <;> exact ⟨rfl, rfl⟩
theorem prodL_sq {L M : List (List Int)} (h : isSq L = true) : isSq (prodL L M) = true ∧ (prodL L M).length = L.length := ⟨isSq_rowsOf _ (isSq_le h), rowsOf_length _ _ _⟩
theorem cohnGo_ok : ∀ (l : List Int) (M : List (List Int)), isSq M = true → M.length = 2 → ((cohnGo l M).2 = true → isSq (cohnGo l M).1 = true ∧ (cohnGo l M).1.length = 2) ∧ ((cohnGo l M).2 = false → (cohnGo l M).1 = [])
  | [], M, h, h2 => ⟨fun _ => ⟨h, h2⟩, (fun e => by cases e)⟩
  | c :: l, M, h, h2 => by
    have hp := prodL_sq (M := cohnStep c) h
    unfold cohnGo
    by_cases hm : isMat (prodL M (cohnStep c)) = true
    · rw [if_pos hm]
      exact cohnGo_ok l _ hp.1 (by omega)
    · rw [if_neg hm]
      exact ⟨(fun e => by cases e), fun _ => rfl⟩
theorem chMatrix_l0 {s : ByteArray} (hs : s.size ≤ 1000) (d : Nat) : ∀ (i : Nat) (M : List (List Int)), i + d = s.size → isSq M = true → M.length = 2 → Ev (fun k => spec_chMatrix.l0 k s (i : Int) M) (cohnGo ((bytesOf s).drop i) M) := by
  have hl := bytesOf_length s
  induction d with
  | zero =>
    intro i M hi _ _
    refine Ev_succ ?_
    simp only [spec_chMatrix.l0]
    rw [List.drop_of_length_le (by omega)]
    exact Ev_false (by omega) Ev_some
  | succ d ih =>
    intro i M hi hM hM2
    have h1 : i < (bytesOf s).length := by omega
    have hc := cohnStep_sq (bytesOf s)[i]
    have hp := prodL_sq (M := cohnStep (bytesOf s)[i]) hM
    have hj : Ev (fun k => spec_chMatrix.j1 k s (i : Int) M (cohnStep (bytesOf s)[i])) (cohnGo ((bytesOf s).drop i) M) := by
      refine Ev_succ ?_
      simp only [spec_chMatrix.j1]
      rw [List.drop_eq_getElem_cons h1, w64 (x := (i : Int) + 1) (by omega) (by omega)]
      refine Ev.bind (foTimes_ev hM hc.1 (by omega)) (Ev.bind (foGood_ev (fits_sq hp.1)) ?_)
      unfold cohnGo
      by_cases hm : isMat (prodL M (cohnStep (bytesOf s)[i])) = true
      · rw [if_pos hm]
        exact Ev_true hm (ih (i + 1) _ (by omega) hp.1 (by omega))
      · rw [if_neg hm]
        exact Ev_false hm Ev_some
    refine Ev_succ ?_
    simp only [spec_chMatrix.l0]
    rw [bt_at h1]
    refine Ev_true (by omega) (Ev_true (by omega) ?_)
    unfold cohnStep at hj
    by_cases hb : (bytesOf s)[i] = 98
    · rw [if_pos hb] at hj
      exact Ev_true hb hj
    · rw [if_neg hb] at hj
      exact Ev_false hb hj
theorem chMatrix_ev {s : ByteArray} (hs : s.size ≤ 1000) : Ev (fun k => spec_chMatrix.f k s) (cohnGo (bytesOf s) (unitL 2)) := by
  unfold spec_chMatrix.f
  refine Ev.bind (foUnit_ev (n := 2) (by omega)) ?_
  exact chMatrix_l0 hs s.size 0 (unitL 2) (by omega) (isSq_rowsOf _ (by omega)) (rowsOf_length _ _ _)
theorem times_eq {L M : List (List Int)} (hL : isSq L = true) (hM : isSq M = true) (h : L.length = M.length) : impl_Matrix_times.f L M = some (prodL L M) := by
  unfold impl_Matrix_times.f
  rw [if_pos hL, if_pos hM, if_pos h]
theorem cohnMatrix_l0 {s : ByteArray} (hs : s.size ≤ 1000) (d : Nat) : ∀ (i : Nat) (M : List (List Int)), i + d = s.size → isSq M = true → M.length = 2 → Ev (fun k => impl_CohnMatrix.l0 k s (s.size : Int) (i : Int) M) (cohnGo ((bytesOf s).drop i) M) := by
  have hl := bytesOf_length s
  induction d with
  | zero =>
    intro i M hi _ _
    refine Ev_succ ?_
    simp only [impl_CohnMatrix.l0]
    rw [List.drop_of_length_le (by omega)]
    exact Ev_false (by omega) Ev_some
  | succ d ih =>
    intro i M hi hM hM2
    have h1 : i < (bytesOf s).length := by omega
    have hc := cohnStep_sq (bytesOf s)[i]
    have hp := prodL_sq (M := cohnStep (bytesOf s)[i]) hM
    have hj : Ev (fun k => impl_CohnMatrix.j1 k s (s.size : Int) (i : Int) M (cohnStep (bytesOf s)[i])) (cohnGo ((bytesOf s).drop i) M) := by
      refine Ev_succ ?_
      simp only [impl_CohnMatrix.j1]
      rw [List.drop_eq_getElem_cons h1, w64 (x := (i : Int) + 1) (by omega) (by omega), times_eq hM hc.1 (by omega)]
      simp only [Option.bind_some, impl_IsMatrix.f]
      unfold cohnGo
      by_cases hm : isMat (prodL M (cohnStep (bytesOf s)[i])) = true
      · rw [if_pos hm]
        exact Ev_true hm (ih (i + 1) _ (by omega) hp.1 (by omega))
      · rw [if_neg hm]
        exact Ev_false hm Ev_some
    refine Ev_succ ?_
    simp only [impl_CohnMatrix.l0]
    rw [bt_at h1]
    refine Ev_true (by omega) (Ev_true (by omega) (Ev_true (by omega) ?_))
    unfold cohnStep at hj
    by_cases hb : (bytesOf s)[i] = 98
    · rw [if_pos hb] at hj
      exact Ev_true hb hj
    · rw [if_neg hb] at hj
      exact Ev_false hb hj
theorem letters_le {s : ByteArray} (h : lettersB s = true) : 1 ≤ s.size ∧ s.size ≤ 40 := by
  unfold lettersB isWordB at h
  rw [Bool.and_eq_true, Bool.and_eq_true, decide_eq_true_iff, decide_eq_true_iff] at h
  exact ⟨h.1, h.2.1⟩
/-- What both programs answer. -/
def cohnR (s : ByteArray) : List (List Int) × Bool := if lettersB s = true then cohnGo (bytesOf s) (unitL 2) else ([], false)
theorem cohnR_ok (s : ByteArray) : ((cohnR s).2 = true → isSq (cohnR s).1 = true ∧ (cohnR s).1.length = 2) ∧ ((cohnR s).2 = false → (cohnR s).1 = []) := by
  unfold cohnR
  split
  · exact cohnGo_ok _ _ (isSq_rowsOf _ (by omega)) (rowsOf_length _ _ _)
  · exact ⟨(fun e => by cases e), fun _ => rfl⟩
theorem foCohn_ev (s : ByteArray) : Ev (fun k => spec_CohnMatrix.f k s) (cohnR s) := by
  unfold spec_CohnMatrix.f cohnR
  refine Ev.bind (chLetters_ev s) ?_
  by_cases h : lettersB s = true
  · rw [if_pos h]
    exact Ev_true h (Ev.bind (f := fun _ t => some (t.1, t.2)) (chMatrix_ev (by have := letters_le h; omega)) Ev_some)
  · rw [if_neg h]
    exact Ev_false h Ev_some
theorem cohn_ev (s : ByteArray) : Ev (fun k => impl_CohnMatrix.f k s) (cohnR s) := by
  unfold impl_CohnMatrix.f cohnR
  rw [isLetters_eq]
  simp only [Option.bind_some]
  by_cases h : lettersB s = true
  · rw [if_pos h]
    have hs := letters_le h
    refine Ev_true h ?_
    have e : impl_unit.f 2 = some (unitL 2) := by
      unfold impl_unit.f
      rw [if_pos (by omega), if_pos (by omega)]
      rfl
    rw [e]
    simp only [Option.bind_some]
    exact cohnMatrix_l0 (by omega) s.size 0 (unitL 2) (by omega) (isSq_rowsOf _ (by omega)) (rowsOf_length _ _ _)
  · rw [if_neg h]
    exact Ev_false h Ev_some
end Go.Proofs.YtljlplohicffpaaGreat.Q
namespace Go.Proofs.YtljlplohicffpaaGreat.Q
open Go.RowKit Go.Proofs.YtljlplohicffpaaGreat.P Go.Proofs.YtljlplohicffpaaGreatW.PrintWords Go.Proofs.YtljlplohicffpaaGreatW.PrintLast Go.Proofs.YtljlplohicffpaaGreat.G
def chrW (b n : Nat) : List Int := (List.range n).map fun i => if i * b / n = (i + 1) * b / n then 97 else 98
def cntL (c : Int) : List Int → Nat
  | [] => 0
  | x :: l => if x = c then cntL c l + 1 else cntL c l
def isChr (l : List Int) : Bool := decide (Nat.gcd (l.length - cntL 98 l) (cntL 98 l) = 1) && decide (chrW (cntL 98 l) l.length = l)
def splitGo (l : List Int) : Nat → Nat → Nat
  | 0, _ => 0
  | d + 1, k => if isChr (l.take k) = true then (if isChr (l.drop k) = true then k else splitGo l d (k + 1)) else splitGo l d (k + 1)
def splitL (l : List Int) : Nat := splitGo l (l.length - 1) 1
def fineL (l : List Int) : Bool := (cohnGo l (unitL 2)).2
def chkW (l : List Int) : Bool := decide (l.length ≤ 1) || (decide (1 ≤ splitL l) && (!fineL l || (fineL (l.take (splitL l)) && fineL (l.drop (splitL l)))))
def chkN (n : Nat) : Bool := (List.range (n + 1)).all fun b => !(decide (Nat.gcd (n - b) b = 1)) || chkW (chrW b n)
theorem chk_a : (List.range 21).all chkN = true := by decide +kernel
end Go.Proofs.YtljlplohicffpaaGreat.Q
namespace Go.Proofs.YtljlplohicffpaaGreat.Q
open Go.RowKit Go.Proofs.YtljlplohicffpaaGreat.P Go.Proofs.YtljlplohicffpaaGreatW.PrintWords Go.Proofs.YtljlplohicffpaaGreatW.PrintLast Go.Proofs.YtljlplohicffpaaGreat.G
theorem toList_eq (s : ByteArray) : s.toList = s.data.toList := by
  unfold ByteArray.toList
  rw [toList_go s s.size 0 [] (by omega)]
  simp
theorem u8_inj {a b : UInt8} (h : ((a.toNat : Nat) : Int) = (b.toNat : Int)) : a = b := UInt8.toNat_inj.1 (by omega)
theorem map_inj_u8 : ∀ {a b : List UInt8}, a.map (fun x => ((x.toNat : Nat) : Int)) = b.map (fun x => (x.toNat : Int)) → a = b
  | [], [], _ => rfl
  | [], _ :: _, h => by simp at h
  | _ :: _, [], h => by simp at h
  | x :: a, y :: b, h => by
    simp only [List.map_cons, List.cons.injEq] at h
    rw [u8_inj h.1, map_inj_u8 h.2]
theorem same_bytes (s t : ByteArray) : (s.toList == t.toList) = decide (bytesOf s = bytesOf t) := by
  rw [toList_eq, toList_eq, Bool.eq_iff_iff, beq_iff_eq, decide_eq_true_iff]
  exact ⟨fun h => by unfold bytesOf; rw [h], fun h => map_inj_u8 h⟩
theorem bytes_append (s t : ByteArray) : bytesOf (s ++ t) = bytesOf s ++ bytesOf t := by
  unfold bytesOf
  rw [ByteArray.data_append, Array.toList_append, List.map_append]
theorem bytes_extract (s : ByteArray) (a b : Nat) : bytesOf (s.extract a b) = ((bytesOf s).take b).drop a := by
  unfold bytesOf
  rw [ByteArray.data_extract, Array.toList_extract, List.drop_take]
  simp [List.extract, List.map_drop, List.map_take]
theorem bytes_take (s : ByteArray) (k : Nat) : bytesOf (s.extract 0 k) = (bytesOf s).take k := by rw [bytes_extract, List.drop_zero]
theorem bytes_drop (s : ByteArray) (k : Nat) : bytesOf (s.extract k s.size) = (bytesOf s).drop k := by
  rw [bytes_extract, List.take_of_length_le (by rw [bytesOf_length]; omega)]
theorem gcd_tmod (a b : Nat) : Int.tmod (a : Int) (b : Int) = ((a % b : Nat) : Int) := by
  rw [Int.tmod_eq_emod_of_nonneg (by omega)]
  omega
theorem foGcd_ev : ∀ (n a b : Nat), b ≤ n → a ≤ 1000 → b ≤ 1000 → Ev (fun k => spec_foGcd.f k (a : Int) (b : Int)) ((Nat.gcd a b : Nat) : Int)
  | 0, a, b, h, h1, h2 => by
    obtain rfl : b = 0 := by omega
    refine Ev_succ ?_
    simp only [spec_foGcd.f]
    refine Ev_true rfl ?_
    unfold spec_l1Abs.f spec_l1Most.f
    rw [w64 (x := -(a : Int)) (by omega) (by omega), Nat.gcd_zero_right]
    by_cases h0 : (a : Int) > -(a : Int)
    · rw [if_pos h0]
      exact Ev_some
    · rw [if_neg h0]
      have : -(a : Int) = a := by omega
      rw [this]
      exact Ev_some
  | n + 1, a, b, h, h1, h2 => by
    by_cases hb : b = 0
    · subst hb
      exact foGcd_ev 0 a 0 (by omega) h1 h2
    · have hlt : a % b < b := Nat.mod_lt _ (by omega)
      refine Ev_succ ?_
      simp only [spec_foGcd.f]
      rw [gcd_tmod, Nat.gcd_comm a b, Nat.gcd_rec b a]
      rw [Nat.gcd_comm]
      exact Ev_false (by omega) (Ev.bind (f := fun _ t => some t) (foGcd_ev n b (a % b) (by omega) h2 (by omega)) Ev_some)
theorem divisor_l0 : ∀ (n a b : Nat), b ≤ n → a ≤ 1000 → b ≤ 1000 → Ev (fun k => impl_divisor.l0 k (a : Int) (b : Int)) ((Nat.gcd a b : Nat) : Int)
  | 0, a, b, h, h1, h2 => by
    obtain rfl : b = 0 := by omega
    refine Ev_succ ?_
    simp only [impl_divisor.l0]
    rw [w64 (x := -(a : Int)) (by omega) (by omega), Nat.gcd_zero_right]
    have : mx (a : Int) (-(a : Int)) = a := by unfold mx; split <;> omega
    rw [this]
    exact Ev_true rfl Ev_some
  | n + 1, a, b, h, h1, h2 => by
    by_cases hb : b = 0
    · subst hb
      exact divisor_l0 0 a 0 (by omega) h1 h2
    · have hlt : a % b < b := Nat.mod_lt _ (by omega)
      refine Ev_succ ?_
      simp only [impl_divisor.l0]
      rw [gcd_tmod, Nat.gcd_comm a b, Nat.gcd_rec b a]
      rw [Nat.gcd_comm]
      exact Ev_false (by omega) (divisor_l0 n b (a % b) (by omega) h2 (by omega))
theorem divisor_ev {a b : Nat} (h1 : a ≤ 1000) (h2 : b ≤ 1000) : Ev (fun k => impl_divisor.f k (a : Int) (b : Int)) ((Nat.gcd a b : Nat) : Int) := divisor_l0 b a b (Nat.le_refl _) h1 h2
theorem cntL_le (c : Int) : ∀ l, cntL c l ≤ l.length
  | [] => Nat.le_refl _
  | x :: l => by
    unfold cntL
    have := cntL_le c l
    split <;> simp only [List.length_cons] <;> omega
theorem cntL_take (c : Int) (l : List Int) {i : Nat} (h : i < l.length) : cntL c (l.drop i) = (if l[i] = c then cntL c (l.drop (i + 1)) + 1 else cntL c (l.drop (i + 1))) := by
  rw [List.drop_eq_getElem_cons h]
  rfl
theorem chMany_l0 {s : ByteArray} (hs : s.size ≤ 1000) (d : Nat) : ∀ (i m : Nat), i + d = s.size → m ≤ i → Ev (fun k => spec_chMany.l0 k s (m : Int) (i : Int)) (((m + cntL 98 ((bytesOf s).drop i) : Nat)) : Int) := by
  have hl := bytesOf_length s
  induction d with
  | zero =>
    intro i m hi hm
    refine Ev_succ ?_
    simp only [spec_chMany.l0]
    rw [List.drop_of_length_le (by omega)]
    exact Ev_false (by omega) Ev_some
  | succ d ih =>
    intro i m hi hm
    have h1 : i < (bytesOf s).length := by omega
    refine Ev_succ ?_
    simp only [spec_chMany.l0]
    rw [bt_at h1, w64 (x := (i : Int) + 1) (by omega) (by omega), w64 (x := (m : Int) + 1) (by omega) (by omega), cntL_take 98 _ h1]
    refine Ev_true (by omega) (Ev_true (by omega) ?_)
    by_cases hb : (bytesOf s)[i] = 98
    · rw [if_pos hb]
      have h := ih (i + 1) (m + 1) (by omega) (by omega)
      rw [show m + (cntL 98 ((bytesOf s).drop (i + 1)) + 1) = m + 1 + cntL 98 ((bytesOf s).drop (i + 1)) from by omega]
      exact Ev_true hb (by simpa using h)
    · rw [if_neg hb]
      have h := ih (i + 1) m (by omega) (by omega)
      exact Ev_false hb (by simpa using h)
theorem chMany_ev {s : ByteArray} (hs : s.size ≤ 1000) : Ev (fun k => spec_chMany.f k s) ((cntL 98 (bytesOf s) : Nat) : Int) := by
  have h := chMany_l0 hs s.size 0 0 (by omega) (by omega)
  rw [List.drop_zero, Nat.zero_add] at h
  exact h
theorem div_cast (a b : Nat) : Int.tdiv (a : Int) (b : Int) = ((a / b : Nat) : Int) := by
  rw [Int.tdiv_eq_ediv_of_nonneg (by omega)]
  omega
theorem step_test {i b n : Nat} (hi : i < n) (hn : n ≤ 1000) (hb : b ≤ 1000) : (wrap64 (Int.tdiv (wrap64 ((i : Int) * (b : Int))) (n : Int)) = wrap64 (Int.tdiv (wrap64 (wrap64 ((i : Int) + 1) * (b : Int))) (n : Int))) ↔ i * b / n = (i + 1) * b / n := by
  have h1 : i * b ≤ 1000 * 1000 := Nat.mul_le_mul (by omega) hb
  have h2 : (i + 1) * b ≤ 1000 * 1000 := Nat.mul_le_mul (by omega) hb
  have h3 : i * b / n ≤ i * b := Nat.div_le_self _ _
  have h4 : (i + 1) * b / n ≤ (i + 1) * b := Nat.div_le_self _ _
  have e1 : (i : Int) * (b : Int) = ((i * b : Nat) : Int) := by simp
  have e2 : ((i : Int) + 1) * (b : Int) = (((i + 1) * b : Nat) : Int) := by simp
  rw [w64 (x := (i : Int) + 1) (by omega) (by omega), e1, e2, w64 (x := ((i * b : Nat) : Int)) (by omega) (by omega), w64 (x := (((i + 1) * b : Nat) : Int)) (by omega) (by omega), div_cast, div_cast]
  generalize i * b / n = q1 at h3 ⊢
  generalize (i + 1) * b / n = q2 at h4 ⊢
  rw [w64 (by omega) (by omega), w64 (by omega) (by omega)]
  omega
def chrTo (b n i : Nat) : List Int := (List.range i).map fun i => if i * b / n = (i + 1) * b / n then 97 else 98
theorem chrTo_succ (b n i : Nat) : chrTo b n (i + 1) = chrTo b n i ++ [if i * b / n = (i + 1) * b / n then 97 else 98] := by simp [chrTo, List.range_succ]
theorem chrTo_len (b n i : Nat) : (chrTo b n i).length = i := by simp [chrTo]
theorem chWord_l0 {b n : Nat} (hn : n ≤ 1000) (hb : b ≤ 1000) (d : Nat) : ∀ (i : Nat) (x : ByteArray), i + d = n → bytesOf x = chrTo b n i → ∃ r, Ev (fun k => spec_chWord.l0 k (b : Int) (n : Int) x (i : Int)) r ∧ bytesOf r = chrW b n := by
  induction d with
  | zero =>
    intro i x hi hx
    obtain rfl : i = n := by omega
    refine ⟨x, Ev_succ ?_, hx⟩
    simp only [spec_chWord.l0]
    exact Ev_false (by omega) Ev_some
  | succ d ih =>
    intro i x hi hx
    have hsz : x.size = i := by rw [← bytesOf_length, hx, chrTo_len]
    have ht := step_test (i := i) (b := b) (n := n) (by omega) hn hb
    by_cases h : i * b / n = (i + 1) * b / n
    · obtain ⟨r, h1, h2⟩ := ih (i + 1) (x ++ ⟨#[97]⟩) (by omega) (by rw [bytes_append, hx, chrTo_succ, if_pos h]; rfl)
      refine ⟨r, Ev_succ ?_, h2⟩
      simp only [spec_chWord.l0]
      refine Ev_true (by omega) (Ev_false (by omega) (Ev_true (ht.2 h) (Ev_true (by omega) ?_)))
      rw [w64 (x := (i : Int) + 1) (by omega) (by omega)]
      exact h1
    · obtain ⟨r, h1, h2⟩ := ih (i + 1) (x ++ ⟨#[98]⟩) (by omega) (by rw [bytes_append, hx, chrTo_succ, if_neg h]; rfl)
      refine ⟨r, Ev_succ ?_, h2⟩
      simp only [spec_chWord.l0]
      refine Ev_true (by omega) (Ev_false (by omega) (Ev_false (fun q => h (ht.1 q)) (Ev_true (by omega) ?_)))
      rw [w64 (x := (i : Int) + 1) (by omega) (by omega)]
      exact h1
theorem chWord_ev {a b : Nat} (ha : a ≤ 400) (hb : b ≤ 400) : ∃ r, Ev (fun k => spec_chWord.f k (a : Int) (b : Int)) r ∧ bytesOf r = chrW b (a + b) := by
  obtain ⟨r, h1, h2⟩ := chWord_l0 (b := b) (n := a + b) (by omega) (by omega) (a + b) 0 ⟨#[]⟩ (by omega) rfl
  refine ⟨r, ?_, h2⟩
  unfold spec_chWord.f
  rw [show wrap64 ((a : Int) + (b : Int)) = ((a + b : Nat) : Int) from (w64 (by omega) (by omega)).trans (by omega)]
  exact h1
theorem chGood_ev {s : ByteArray} (hs : s.size ≤ 400) : Ev (fun k => spec_chGood.f k s) (isChr (bytesOf s)) := by
  have hl := bytesOf_length s
  have hc := cntL_le 98 (bytesOf s)
  unfold spec_chGood.f isChr
  rw [hl]
  refine Ev.bind (chMany_ev (by omega)) ?_
  generalize hm : cntL 98 (bytesOf s) = m at hc ⊢
  rw [show wrap64 ((s.size : Int) - (m : Int)) = ((s.size - m : Nat) : Int) from (w64 (by omega) (by omega)).trans (by omega)]
  refine Ev.bind (foGcd_ev m (s.size - m) m (Nat.le_refl _) (by omega) (by omega)) ?_
  by_cases hg : Nat.gcd (s.size - m) m = 1
  · obtain ⟨r, h1, h2⟩ := chWord_ev (a := s.size - m) (b := m) (by omega) (by omega)
    rw [decide_eq_true hg, Bool.true_and]
    refine Ev_true (by omega) (Ev.bind h1 ?_)
    rw [same_bytes, h2, show s.size - m + m = s.size from by omega]
    exact Ev_some
  · rw [decide_eq_false hg, Bool.false_and]
    exact Ev_false (by omega) Ev_some
end Go.Proofs.YtljlplohicffpaaGreat.Q
namespace Go.Proofs.YtljlplohicffpaaGreat.Q
open Go.RowKit Go.Proofs.YtljlplohicffpaaGreat.P Go.Proofs.YtljlplohicffpaaGreatW.PrintWords Go.Proofs.YtljlplohicffpaaGreatW.PrintLast Go.Proofs.YtljlplohicffpaaGreat.G
theorem cntL_cons (c x : Int) (l : List Int) : cntL c (x :: l) = if x = c then cntL c l + 1 else cntL c l := rfl
theorem count_cnt (c : UInt8) : ∀ l : List UInt8, l.count c = cntL (c.toNat : Int) (l.map fun b => (b.toNat : Int))
  | [] => rfl
  | x :: l => by
    rw [List.count_cons, List.map_cons, count_cnt c l, cntL_cons]
    by_cases h : x = c
    · subst h
      simp
    · have : ¬(x.toNat : Int) = (c.toNat : Int) := fun e => h (u8_inj e)
      rw [if_neg this]
      simp [h]
theorem cnt_both : ∀ l : List Int, l.all (okL 97 98) = true → cntL 97 l + cntL 98 l = l.length
  | [], _ => rfl
  | x :: l, h => by
    rw [List.all_cons, Bool.and_eq_true] at h
    have ih := cnt_both l h.2
    have hx : x = 97 ∨ x = 98 := by
      have := h.1
      unfold okL at this
      simpa using this
    rcases hx with rfl | rfl
    · rw [cntL_cons, cntL_cons, if_pos rfl, if_neg (by omega), List.length_cons]
      omega
    · rw [cntL_cons, cntL_cons, if_neg (by omega), if_pos rfl, List.length_cons]
      omega
theorem counts_eq (s : ByteArray) : impl_counts.f s = some ((cntL 97 (bytesOf s) : Int), (cntL 98 (bytesOf s) : Int)) := by
  have h1 : strings_Count.f s (⟨#[97]⟩ : ByteArray) = some ((cntL 97 (bytesOf s) : Nat) : Int) := by
    show some ((Go.Lib.countByte s.data.toList 97 : Nat) : Int) = _
    unfold Go.Lib.countByte
    rw [count_cnt]
    rfl
  have h2 : strings_Count.f s (⟨#[98]⟩ : ByteArray) = some ((cntL 98 (bytesOf s) : Nat) : Int) := by
    show some ((Go.Lib.countByte s.data.toList 98 : Nat) : Int) = _
    unfold Go.Lib.countByte
    rw [count_cnt]
    rfl
  unfold impl_counts.f
  rw [h1, h2]
  rfl
theorem christoffel_l0 {b n : Nat} (hn : n ≤ 1000) (hb : b ≤ 1000) (d : Nat) : ∀ (i : Nat), i + d = n → Ev (fun k => impl_christoffel.l0 k (b : Int) (n : Int) (chrTo b n i) (n : Int) (i : Int)) (strOfNums (chrW b n)) := by
  induction d with
  | zero =>
    intro i hi
    obtain rfl : i = n := by omega
    refine Ev_succ ?_
    simp only [impl_christoffel.l0]
    exact Ev_false (by omega) Ev_some
  | succ d ih =>
    intro i hi
    have hl := chrTo_len b n i
    have ht := step_test (i := i) (b := b) (n := n) (by omega) hn hb
    refine Ev_succ ?_
    simp only [impl_christoffel.l0]
    have h2 := ih (i + 1) (by omega)
    rw [chrTo_succ] at h2
    refine Ev_true (by omega) (Ev_false (by omega) ?_)
    by_cases h : i * b / n = (i + 1) * b / n
    · rw [if_pos h] at h2
      refine Ev_true (ht.2 h) (Ev_true (by omega) ?_)
      rw [w64 (x := (i : Int) + 1) (by omega) (by omega)]
      exact h2
    · rw [if_neg h] at h2
      refine Ev_false (fun q => h (ht.1 q)) (Ev_true (by omega) ?_)
      rw [w64 (x := (i : Int) + 1) (by omega) (by omega)]
      exact h2
theorem christoffel_ev {a b : Nat} (ha : a ≤ 400) (hb : b ≤ 400) : Ev (fun k => impl_christoffel.f k (a : Int) (b : Int)) (strOfNums (chrW b (a + b))) := by
  unfold impl_christoffel.f
  rw [show wrap64 ((a : Int) + (b : Int)) = ((a + b : Nat) : Int) from (w64 (by omega) (by omega)).trans (by omega)]
  exact christoffel_l0 (by omega) (by omega) (a + b) 0 (by omega)
theorem chrW_bytes (b n : Nat) : bytesOf (strOfNums (chrW b n)) = chrW b n := by
  have h : chrW b n = ((List.range n).map fun i => if i * b / n = (i + 1) * b / n then (97 : UInt8) else 98).map fun x => ((x.toNat : Nat) : Int) := by
    unfold chrW
    rw [List.map_map]
    refine List.map_congr_left fun i _ => ?_
    simp only [Function.comp]
    split <;> rfl
  generalize ((List.range n).map fun i => if i * b / n = (i + 1) * b / n then (97 : UInt8) else 98) = m at h
  rw [h, Go.Lib.Lz.strOfNums_map]
  rfl
theorem isChristoffel_ev {s : ByteArray} (hs : s.size ≤ 400) (hw : (bytesOf s).all (okL 97 98) = true) : Ev (fun k => impl_isChristoffel.f k s) (isChr (bytesOf s)) := by
  have hl := bytesOf_length s
  have hc := cnt_both _ hw
  unfold impl_isChristoffel.f isChr
  rw [counts_eq, hl]
  rw [hl] at hc
  generalize hm : cntL 98 (bytesOf s) = m at hc ⊢
  generalize cntL 97 (bytesOf s) = a at hc ⊢
  refine Ev.bind Ev_some (Ev.bind (divisor_ev (a := a) (b := m) (by omega) (by omega)) ?_)
  rw [show s.size - m = a from by omega, show s.size = a + m from by omega]
  by_cases hg : Nat.gcd a m = 1
  · rw [decide_eq_true hg, Bool.true_and]
    refine Ev_true (by omega) (Ev.bind (christoffel_ev (a := a) (b := m) (by omega) (by omega)) ?_)
    rw [same_bytes, chrW_bytes]
    exact Ev_some
  · rw [decide_eq_false hg, Bool.false_and]
    exact Ev_false (by omega) Ev_some
theorem chSplit_l0 {s : ByteArray} (hs : s.size ≤ 400) (d : Nat) : ∀ i : Nat, i + d = s.size → Ev (fun k => spec_chSplit.l0 k s (i : Int)) ((splitGo (bytesOf s) d i : Nat) : Int) := by
  induction d with
  | zero =>
    intro i hi
    refine Ev_succ ?_
    simp only [spec_chSplit.l0]
    exact Ev_false (by omega) Ev_some
  | succ d ih =>
    intro i hi
    have h1 := chGood_ev (s := s.extract 0 i) (by rw [← bytesOf_length, bytes_take, List.length_take, bytesOf_length]; omega)
    have h2 := chGood_ev (s := s.extract i s.size) (by rw [← bytesOf_length, bytes_drop, List.length_drop, bytesOf_length]; omega)
    rw [bytes_take] at h1
    rw [bytes_drop] at h2
    have h3 := ih (i + 1) (by omega)
    refine Ev_succ ?_
    simp only [spec_chSplit.l0]
    rw [w64 (x := (i : Int) + 1) (by omega) (by omega), Int.toNat_natCast]
    unfold splitGo
    refine Ev_true (by omega) (Ev_true (by omega) (Ev_true (by omega) (Ev.bind h1 ?_)))
    by_cases ha : isChr ((bytesOf s).take i) = true
    · rw [if_pos ha]
      refine Ev_true ha (Ev.bind h2 ?_)
      by_cases hb : isChr ((bytesOf s).drop i) = true
      · rw [if_pos hb]
        exact Ev_true hb Ev_some
      · rw [if_neg hb]
        exact Ev_false hb h3
    · rw [if_neg ha]
      exact Ev_false ha h3
def facAt (s : ByteArray) (k : Nat) : ByteArray × ByteArray × Bool := if k = 0 then ((⟨#[]⟩ : ByteArray), (⟨#[]⟩ : ByteArray), false) else (s.extract 0 k, s.extract k s.size, true)
theorem all_take {l : List Int} {p : Int → Bool} (h : l.all p = true) (i : Nat) : (l.take i).all p = true := by
  rw [List.all_eq_true] at h ⊢
  exact fun x hx => h x (List.mem_of_mem_take hx)
theorem all_drop {l : List Int} {p : Int → Bool} (h : l.all p = true) (i : Nat) : (l.drop i).all p = true := by
  rw [List.all_eq_true] at h ⊢
  exact fun x hx => h x (List.mem_of_mem_drop hx)
theorem factors_l0 {s : ByteArray} (hs : s.size ≤ 400) (hw : (bytesOf s).all (okL 97 98) = true) (d : Nat) : ∀ i : Nat, i + d = s.size → 1 ≤ i → Ev (fun k => impl_FactorsOf.l0 k s (i : Int)) (facAt s (splitGo (bytesOf s) d i)) := by
  induction d with
  | zero =>
    intro i hi _
    refine Ev_succ ?_
    simp only [impl_FactorsOf.l0]
    exact Ev_false (by omega) Ev_some
  | succ d ih =>
    intro i hi hi1
    have h1 := isChristoffel_ev (s := s.extract 0 i) (by rw [← bytesOf_length, bytes_take, List.length_take, bytesOf_length]; omega) (by rw [bytes_take]; exact all_take hw i)
    have h2 := isChristoffel_ev (s := s.extract i s.size) (by rw [← bytesOf_length, bytes_drop, List.length_drop, bytesOf_length]; omega) (by rw [bytes_drop]; exact all_drop hw i)
    rw [bytes_take] at h1
    rw [bytes_drop] at h2
    have h3 := ih (i + 1) (by omega) (by omega)
    refine Ev_succ ?_
    simp only [impl_FactorsOf.l0]
    rw [w64 (x := (i : Int) + 1) (by omega) (by omega), Int.toNat_natCast]
    unfold splitGo
    refine Ev_true (by omega) (Ev_true (by omega) (Ev_true (by omega) (Ev.bind h1 ?_)))
    by_cases ha : isChr ((bytesOf s).take i) = true
    · rw [if_pos ha]
      refine Ev_true ha (Ev.bind h2 ?_)
      by_cases hb : isChr ((bytesOf s).drop i) = true
      · rw [if_pos hb]
        unfold facAt
        rw [if_neg (by omega)]
        exact Ev_true hb Ev_some
      · rw [if_neg hb]
        exact Ev_false hb h3
    · rw [if_neg ha]
      exact Ev_false ha h3
theorem lettersB_all {s : ByteArray} (h : lettersB s = true) : (bytesOf s).all (okL 97 98) = true := by
  unfold lettersB isWordB at h
  rw [Bool.and_eq_true, Bool.and_eq_true] at h
  exact h.2.2
theorem splitL_le : ∀ (l : List Int) (d k : Nat), splitGo l d k < k + d ∨ splitGo l d k = 0
  | _, 0, _ => .inr rfl
  | l, d + 1, k => by
    have ih := splitL_le l d (k + 1)
    unfold splitGo
    repeat' split
    all_goals omega
/-- What both programs' FactorsOf answer. -/
def factorsR (s : ByteArray) : ByteArray × ByteArray × Bool := if (lettersB s && (decide (2 ≤ s.size) && isChr (bytesOf s))) = true then facAt s (splitL (bytesOf s)) else ((⟨#[]⟩ : ByteArray), (⟨#[]⟩ : ByteArray), false)
theorem foFactors_ev (C : ∀ {l : List Int}, l.length ≤ 40 → 2 ≤ l.length → isChr l = true → 1 ≤ splitL l) (s : ByteArray) : Ev (fun k => spec_FactorsOf.f k s) (factorsR s) := by
  have hl := bytesOf_length s
  have hT : Ev (fun k => spec_chTwo.f k s) (lettersB s && (decide (2 ≤ s.size) && isChr (bytesOf s))) := by
    unfold spec_chTwo.f
    refine Ev.bind (chLetters_ev s) ?_
    by_cases h : lettersB s = true
    · rw [h, Bool.true_and]
      have h40 := letters_le h
      by_cases h2 : 2 ≤ s.size
      · rw [decide_eq_true h2, Bool.true_and]
        exact Ev_true rfl (Ev_true (by omega) (Ev.bind (f := fun _ t => some t) (chGood_ev (by omega)) Ev_some))
      · rw [decide_eq_false h2, Bool.false_and]
        exact Ev_true rfl (Ev_false (by omega) Ev_some)
    · rw [Bool.not_eq_true] at h
      rw [h, Bool.false_and]
      exact Ev_false (by simp) Ev_some
  unfold spec_FactorsOf.f factorsR
  refine Ev.bind hT ?_
  by_cases h : (lettersB s && (decide (2 ≤ s.size) && isChr (bytesOf s))) = true
  · rw [if_pos h]
    rw [Bool.and_eq_true, Bool.and_eq_true, decide_eq_true_iff] at h
    obtain ⟨h1, h2, h3⟩ := h
    have h40 := letters_le h1
    have h4 := C (by omega) (by omega) h3
    have h5 := splitL_le (bytesOf s) ((bytesOf s).length - 1) 1
    have hsp := chSplit_l0 (s := s) (by omega) (s.size - 1) 1 (by omega)
    unfold splitL at h4 ⊢
    rw [hl] at h4 h5 ⊢
    refine Ev_true (by rw [h1, h3, decide_eq_true h2]; rfl) (Ev.bind hsp (Ev_true (by omega) (Ev_true (by omega) ?_)))
    rw [Int.toNat_natCast]
    unfold facAt
    rw [if_neg (by omega)]
    exact Ev_some
  · rw [if_neg h]
    exact Ev_false h Ev_some
theorem factors_ev (s : ByteArray) : Ev (fun k => impl_FactorsOf.f k s) (factorsR s) := by
  have hl := bytesOf_length s
  unfold impl_FactorsOf.f factorsR
  rw [isLetters_eq]
  refine Ev.bind Ev_some ?_
  by_cases h : lettersB s = true
  · have h40 := letters_le h
    have hw := lettersB_all h
    refine Ev_true h (Ev.bind (isChristoffel_ev (by omega) hw) (Ev_succ ?_))
    simp only [impl_FactorsOf.j0]
    rw [h, Bool.true_and]
    by_cases hc : isChr (bytesOf s) = true
    · rw [hc, Bool.and_true]
      refine Ev_false (by simp) ?_
      by_cases h2 : 2 ≤ s.size
      · rw [if_pos (decide_eq_true h2)]
        unfold splitL
        rw [hl]
        exact factors_l0 (by omega) hw (s.size - 1) 1 (by omega) (by omega)
      · rw [if_neg (by rw [decide_eq_false h2]; simp)]
        exact factors_l0 (by omega) hw 0 1 (by omega) (by omega)
    · rw [Bool.not_eq_true] at hc
      rw [hc, Bool.and_false]
      exact Ev_true (by simp) Ev_some
  · rw [Bool.not_eq_true] at h
    rw [h, Bool.false_and]
    refine Ev_false (by simp) (Ev_succ ?_)
    simp only [impl_FactorsOf.j0]
    exact Ev_true (by simp) Ev_some
end Go.Proofs.YtljlplohicffpaaGreat.Q

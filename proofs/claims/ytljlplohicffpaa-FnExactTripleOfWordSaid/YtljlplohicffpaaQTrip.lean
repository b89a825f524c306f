/- The triple of a word, by both programs. -/
import Derived.Test.YtljlplohicffpaaTx1
import Derived.Test.YtljlplohicffpaaTx4
import Derived.Test.YtljlplohicffpaaTx5
import Derived.Test.YtljlplohicffpaaTx7
import Derived.Test.YtljlplohicffpaaTx8
import Derived.Test.YtljlplohicffpaaTx14
import Derived.Test.YtljlplohicffpaaGSort
import Derived.Test.YtljlplohicffpaaQChrI
import Derived.Test.YtljlplohicffpaaQChrB
set_option linter.unusedVariables false
set_option linter.unusedSimpArgs false
namespace Go.Proofs.Ytljlplohicffpaa.Q
open Go.RowKit Go.Proofs.Ytljlplohicffpaa.P Go.Proofs.YtljlplohicffpaaW.PrintWords Go.Proofs.YtljlplohicffpaaW.PrintLast Go.Proofs.Ytljlplohicffpaa.G
def numberR (s : ByteArray) : Int × Bool := if (cohnR s).2 = true then (at2 (cohnR s).1 0 1, true) else (0, false)
theorem foNumber_ev (s : ByteArray) : Ev (fun k => spec_NumberOfWord.f k s) (numberR s) := by
  unfold spec_NumberOfWord.f
  refine Ev.bind (foCohn_ev s) ?_
  by_cases h : (cohnR s).2 = true
  · have h1 := (cohnR_ok s).1 h
    rw [show numberR s = (at2 (cohnR s).1 0 1, true) from if_pos h]
    have e : (rd_L1 (cohnR s).1 0).length = 2 := row_len (i := 0) h1.1 h1.2 (by omega)
    refine Ev_true h (Ev_true (by omega) (Ev_true (by omega) ?_))
    rw [show rd (rd_L1 (cohnR s).1 0) 1 = at2 (cohnR s).1 0 1 from rd2 _ 0 1]
    exact Ev_some
  · rw [show numberR s = (0, false) from if_neg h]
    exact Ev_false h Ev_some
theorem number_ev (s : ByteArray) : Ev (fun k => impl_NumberOfWord.f k s) (numberR s) := by
  unfold impl_NumberOfWord.f
  refine Ev.bind (cohn_ev s) ?_
  by_cases h : (cohnR s).2 = true
  · have h1 := (cohnR_ok s).1 h
    rw [show numberR s = (at2 (cohnR s).1 0 1, true) from if_pos h]
    have e : (rd_L1 (cohnR s).1 0).length = 2 := row_len (i := 0) h1.1 h1.2 (by omega)
    refine Ev_true h (Ev_true (by omega) (Ev_true (by omega) ?_))
    rw [show rd (rd_L1 (cohnR s).1 0) 1 = at2 (cohnR s).1 0 1 from rd2 _ 0 1]
    exact Ev_some
  · rw [show numberR s = (0, false) from if_neg h]
    exact Ev_false h Ev_some
theorem cohnGo_mat : ∀ (l : List Int) (M : List (List Int)), isMat M = true → (cohnGo l M).2 = true → isMat (cohnGo l M).1 = true
  | [], _, h, _ => h
  | c :: l, M, h, h2 => by
    unfold cohnGo at h2 ⊢
    by_cases hm : isMat (prodL M (cohnStep c)) = true
    · rw [if_pos hm] at h2 ⊢
      exact cohnGo_mat l _ hm h2
    · rw [if_neg hm] at h2
      cases h2
theorem numberR_bd (s : ByteArray) : -1000000 ≤ (numberR s).1 ∧ (numberR s).1 ≤ 1000000 := by
  unfold numberR
  by_cases h : (cohnR s).2 = true
  · rw [if_pos h]
    have h1 := (cohnR_ok s).1 h
    have hm : isMat (cohnR s).1 = true := by
      unfold cohnR at h ⊢
      split at h
      · rename_i hl
        rw [if_pos hl]
        exact cohnGo_mat _ _ rfl h
      · cases h
    exact isMat_at hm (by omega) (by omega)
  · rw [if_neg h]
    exact ⟨by decide, by decide⟩
def sort3 (a b c : Int) : List Int := if b < a then (if c < a then (if c < b then [c, b, a] else [b, c, a]) else [b, a, c]) else (if c < b then (if c < a then [c, a, b] else [a, c, b]) else [a, b, c])
theorem mkSort_eq {a b c : Int} (ha : -1000000 ≤ a ∧ a ≤ 1000000) (hb : -1000000 ≤ b ∧ b ≤ 1000000) (hc : -1000000 ≤ c ∧ c ≤ 1000000) : spec_mkSort.f a b c = some (sort3 a b c) := by
  unfold spec_mkSort.f spec_l1Least.f spec_l1Most.f
  rw [w64 (x := a + b) (by omega) (by omega), w64 (x := a + b + c) (by omega) (by omega)]
  have hs : ∀ m n : Int, -1000000 ≤ m → m ≤ 1000000 → -1000000 ≤ n → n ≤ 1000000 → wrap64 (wrap64 (a + b + c - m) - n) = a + b + c - m - n := fun m n _ _ _ _ => by
    rw [w64 (x := a + b + c - m) (by omega) (by omega), w64 (by omega) (by omega)]
  have e1 : (if b < c then some b else some c) = some (if b < c then b else c) := by split <;> rfl
  have e3 : (if b > c then some b else some c) = some (if b > c then b else c) := by split <;> rfl
  rw [e1, e3]
  simp only [Option.bind_some]
  have e2 : ∀ x : Int, (if a < x then some a else some x) = some (if a < x then a else x) := fun x => by split <;> rfl
  have e4 : ∀ x : Int, (if a > x then some a else some x) = some (if a > x then a else x) := fun x => by split <;> rfl
  rw [e2, e4]
  simp only [Option.bind_some]
  obtain ⟨m1, e5, f1⟩ : ∃ m, (if b < c then b else c) = m ∧ (m ≤ b ∧ m ≤ c ∧ (m = b ∨ m = c)) := ⟨_, rfl, by split <;> omega⟩
  obtain ⟨m2, e6, f2⟩ : ∃ m, (if b > c then b else c) = m ∧ (b ≤ m ∧ c ≤ m ∧ (m = b ∨ m = c)) := ⟨_, rfl, by split <;> omega⟩
  rw [e5, e6]
  obtain ⟨m3, e7, f3⟩ : ∃ m, (if a < m1 then a else m1) = m ∧ (m ≤ a ∧ m ≤ m1 ∧ (m = a ∨ m = m1)) := ⟨_, rfl, by split <;> omega⟩
  obtain ⟨m4, e8, f4⟩ : ∃ m, (if a > m2 then a else m2) = m ∧ (a ≤ m ∧ m2 ≤ m ∧ (m = a ∨ m = m2)) := ⟨_, rfl, by split <;> omega⟩
  rw [e7, e8, hs m3 m4 (by omega) (by omega) (by omega) (by omega)]
  clear e1 e2 e3 e4 e5 e6 e7 e8 hs
  unfold sort3
  congr 1
  repeat' split
  all_goals (simp only [List.cons.injEq, and_true]; omega)
theorem w_01 : wrap64 ((0 : Int) + 1) = 1 := w64 (by omega) (by omega)
theorem w_11 : wrap64 ((1 : Int) + 1) = 2 := w64 (by omega) (by omega)
theorem w_21 : wrap64 ((2 : Int) + 1) = 3 := w64 (by omega) (by omega)
theorem w_1m : wrap64 ((1 : Int) - 1) = 0 := w64 (by omega) (by omega)
theorem w_2m : wrap64 ((2 : Int) - 1) = 1 := w64 (by omega) (by omega)
theorem less_eq (a b : Int) : cmp_Less_int.f a b = some (decide (a < b)) := by
  unfold cmp_Less_int.f cmp_isNaN_int.f
  simp
theorem ins_0 {x R : List Int} {i : Int} (h : Ev (fun k => slices_insertionSortOrdered_int.l0 k x 0 3 (wrap64 (i + 1))) R) : Ev (fun k => slices_insertionSortOrdered_int.l1 k x 0 3 i 0) R := by
  refine Ev_succ ?_
  simp only [slices_insertionSortOrdered_int.l1]
  exact Ev_false (by omega) h
theorem ins_1 {p q r : Int} {R : List Int} {i : Int} (h1 : q < p → Ev (fun k => slices_insertionSortOrdered_int.l1 k [q, p, r] 0 3 i 0) R) (h2 : ¬q < p → Ev (fun k => slices_insertionSortOrdered_int.l0 k [p, q, r] 0 3 (wrap64 (i + 1))) R) : Ev (fun k => slices_insertionSortOrdered_int.l1 k [p, q, r] 0 3 i 1) R := by
  refine Ev_succ ?_
  simp only [slices_insertionSortOrdered_int.l1, w_1m]
  refine Ev_true (by omega) (Ev_true (by omega) (Ev_true (by simp) (Ev_true (by omega) (Ev_true (by simp) ?_))))
  rw [less_eq]
  refine Ev.bind Ev_some ?_
  by_cases h : q < p
  · exact Ev_true (by simpa [rd] using h) (h1 h)
  · exact Ev_false (by simpa [rd] using h) (h2 h)
theorem ins_2 {p q r : Int} {R : List Int} {i : Int} (h1 : r < q → Ev (fun k => slices_insertionSortOrdered_int.l1 k [p, r, q] 0 3 i 1) R) (h2 : ¬r < q → Ev (fun k => slices_insertionSortOrdered_int.l0 k [p, q, r] 0 3 (wrap64 (i + 1))) R) : Ev (fun k => slices_insertionSortOrdered_int.l1 k [p, q, r] 0 3 i 2) R := by
  refine Ev_succ ?_
  simp only [slices_insertionSortOrdered_int.l1, w_2m]
  refine Ev_true (by omega) (Ev_true (by omega) (Ev_true (by simp) (Ev_true (by omega) (Ev_true (by simp) ?_))))
  rw [less_eq]
  refine Ev.bind Ev_some ?_
  by_cases h : r < q
  · exact Ev_true (by simpa [rd] using h) (h1 h)
  · exact Ev_false (by simpa [rd] using h) (h2 h)
theorem ins_out {x : List Int} : Ev (fun k => slices_insertionSortOrdered_int.l0 k x 0 3 (wrap64 (2 + 1))) x := by
  rw [w_21]
  refine Ev_succ ?_
  simp only [slices_insertionSortOrdered_int.l0]
  exact Ev_false (by omega) Ev_some
theorem ins_go {x R : List Int} {i : Int} (hi : i < 3) (h : Ev (fun k => slices_insertionSortOrdered_int.l1 k x 0 3 i i) R) : Ev (fun k => slices_insertionSortOrdered_int.l0 k x 0 3 i) R := by
  refine Ev_succ ?_
  simp only [slices_insertionSortOrdered_int.l0]
  exact Ev_true hi h
/-- The second round. -/
theorem ins_last {p q c : Int} (hpq : p ≤ q) : Ev (fun k => slices_insertionSortOrdered_int.l0 k [p, q, c] 0 3 2) (if c < q then (if c < p then [c, p, q] else [p, c, q]) else [p, q, c]) := by
  refine ins_go (by omega) (ins_2 (fun h => ?_) (fun h => ?_))
  · rw [if_pos h]
    refine ins_1 (fun h2 => ?_) (fun h2 => ?_)
    · rw [if_pos h2]
      exact ins_0 ins_out
    · rw [if_neg h2]
      exact ins_out
  · rw [if_neg h]
    exact ins_out
theorem sort3_ev (a b c : Int) : Ev (fun k => slices_Sort_int_int.f k [a, b, c]) (sort3 a b c) := by
  unfold slices_Sort_int_int.f sortF
  refine Ev_true (by simp) ?_
  show Ev (fun k => slices_insertionSortOrdered_int.f k [a, b, c] 0 3) _
  unfold slices_insertionSortOrdered_int.f
  rw [w_01]
  unfold sort3
  refine ins_go (by omega) (ins_1 (fun h => ?_) (fun h => ?_))
  · rw [if_pos h]
    exact ins_0 (by rw [w_11]; exact ins_last (p := b) (q := a) (by omega))
  · rw [if_neg h]
    rw [w_11]
    exact ins_last (p := a) (q := b) (by omega)
/-- What both programs' TripleOfWord answer. -/
def tripleR (s : ByteArray) : List Int × Bool := if ((factorsR s).2.2 && (cohnR s).2) = true then (sort3 (numberR (factorsR s).1).1 (numberR (factorsR s).2.1).1 (numberR s).1, true) else ([], false)
theorem tripleR_len (s : ByteArray) : (tripleR s).1.length ≤ 3 := by
  unfold tripleR sort3
  repeat' split
  all_goals simp
theorem foTriple_ev (s : ByteArray) : Ev (fun k => spec_TripleOfWord.f k s) (tripleR s) := by
  unfold spec_TripleOfWord.f
  refine Ev.bind (foFactors_ev (fun h1 h2 h3 => (chr_all h1 h2 h3).1) s) (Ev.bind (foCohn_ev s) ?_)
  have hj : ∀ u v : ByteArray, Ev (fun k => spec_TripleOfWord.j0 k u v (!(cohnR s).2) (cohnR s).1) (if (cohnR s).2 = true then (sort3 (numberR u).1 (numberR v).1 (numberR s).1, true) else ([], false)) := by
    intro u v
    refine Ev_succ ?_
    simp only [spec_TripleOfWord.j0]
    by_cases h : (cohnR s).2 = true
    · have h1 := (cohnR_ok s).1 h
      have e : (rd_L1 (cohnR s).1 0).length = 2 := row_len (i := 0) h1.1 h1.2 (by omega)
      rw [if_pos h]
      refine Ev_false (by rw [h]; simp) (Ev.bind (foNumber_ev u) (Ev.bind (foNumber_ev v) (Ev_true (by omega) (Ev_true (by omega) ?_))))
      have e2 : rd (rd_L1 (cohnR s).1 0) 1 = (numberR s).1 := by
        rw [show numberR s = (at2 (cohnR s).1 0 1, true) from if_pos h]
        exact rd2 _ 0 1
      rw [e2, mkSort_eq (numberR_bd u) (numberR_bd v) (numberR_bd s)]
      exact Ev.bind Ev_some Ev_some
    · rw [if_neg h]
      rw [Bool.not_eq_true] at h
      exact Ev_true (by rw [h]; rfl) Ev_some
  unfold tripleR
  by_cases h : (factorsR s).2.2 = true
  · rw [h, Bool.true_and]
    exact Ev_true rfl (hj _ _)
  · rw [Bool.not_eq_true] at h
    rw [h, Bool.false_and]
    refine Ev_false (by simp) (Ev_succ ?_)
    simp only [spec_TripleOfWord.j0]
    exact Ev_true (by simp) Ev_some
theorem letters_part {s t : ByteArray} (h : lettersB s = true) (h1 : 1 ≤ t.size) (h2 : t.size ≤ s.size) (h3 : (bytesOf t).all (okL 97 98) = true) : lettersB t = true := by
  have := letters_le h
  unfold lettersB isWordB
  rw [decide_eq_true h1, decide_eq_true (by omega), h3]
  rfl
theorem triple_ev (s : ByteArray) : Ev (fun k => impl_TripleOfWord.f k s) (tripleR s) := by
  have hl := bytesOf_length s
  unfold impl_TripleOfWord.f
  refine Ev.bind (factors_ev s) ?_
  unfold tripleR
  by_cases h : (factorsR s).2.2 = true
  · rw [h, Bool.true_and]
    refine Ev_true rfl (Ev.bind Ev_some ?_)
    show Ev (fun k => impl_TripleOfWord.l0 k [] [(factorsR s).1, (factorsR s).2.1, s] 3 0) _
    have hf : (cohnR s).2 = true → (cohnR (factorsR s).1).2 = true ∧ (cohnR (factorsR s).2.1).2 = true := by
      intro hc
      unfold factorsR at h ⊢
      by_cases h0 : (lettersB s && (decide (2 ≤ s.size) && isChr (bytesOf s))) = true
      · rw [if_pos h0] at h ⊢
        rw [Bool.and_eq_true, Bool.and_eq_true, decide_eq_true_iff] at h0
        obtain ⟨h1, h2, h3⟩ := h0
        have h40 := letters_le h1
        have hw := lettersB_all h1
        have hA := chr_all (l := bytesOf s) (by omega) (by omega) h3
        have h5 : splitL (bytesOf s) < 1 + ((bytesOf s).length - 1) ∨ splitL (bytesOf s) = 0 := splitL_le (bytesOf s) ((bytesOf s).length - 1) 1
        have hk := hA.1
        have hF := hA.2 (by
          unfold cohnR at hc
          rw [if_pos h1] at hc
          exact hc)
        clear hA
        generalize splitL (bytesOf s) = m at h h5 hk hF ⊢
        unfold facAt
        rw [if_neg (by omega)]
        have b1 := bytes_take s m
        have b2 := bytes_drop s m
        have z1 : (s.extract 0 m).size = m := by rw [← bytesOf_length, b1, List.length_take]; omega
        have z2 : (s.extract m s.size).size = s.size - m := by rw [← bytesOf_length, b2, List.length_drop]; omega
        have l1 : lettersB (s.extract 0 m) = true := letters_part h1 (by omega) (by omega) (by rw [b1]; exact all_take hw m)
        have l2 : lettersB (s.extract m s.size) = true := letters_part h1 (by omega) (by omega) (by rw [b2]; exact all_drop hw m)
        unfold cohnR
        rw [if_pos l1, if_pos l2, b1, b2]
        exact hF
      · rw [if_neg h0] at h
        cases h
    generalize (factorsR s).1 = u at hf ⊢
    generalize (factorsR s).2.1 = v at hf ⊢
    have hn : ∀ t : ByteArray, (numberR t).2 = (cohnR t).2 := by
      intro t
      unfold numberR
      by_cases h : (cohnR t).2 = true
      · rw [if_pos h, h]
      · rw [if_neg h]
        rw [Bool.not_eq_true] at h
        rw [h]
    by_cases hc : (cohnR s).2 = true
    · obtain ⟨hu, hv⟩ := hf hc
      rw [if_pos hc]
      refine Ev_succ ?_
      simp only [w_01, w_11, w_21, impl_TripleOfWord.l0]
      refine Ev_true (by omega) (Ev_true (by omega) (Ev_true (by simp) (Ev.bind (number_ev u) (Ev_true (by rw [hn]; exact hu) (Ev_true (by simp) (Ev_succ ?_))))))
      simp only [w_01, w_11, w_21, impl_TripleOfWord.l0]
      refine Ev_true (by decide) (Ev_true (by decide) (Ev_true (by simp) (Ev.bind (number_ev v) (Ev_true (by rw [hn]; exact hv) (Ev_true (by simp) (Ev_succ ?_))))))
      simp only [w_01, w_11, w_21, impl_TripleOfWord.l0]
      refine Ev_true (by decide) (Ev_true (by decide) (Ev_true (by simp) (Ev.bind (number_ev s) (Ev_true (by rw [hn]; exact hc) (Ev_true (by simp) (Ev_succ ?_))))))
      simp only [w_01, w_11, w_21, impl_TripleOfWord.l0]
      exact Ev_false (by decide) (Ev.bind (f := fun _ t => some (t, true)) (sort3_ev _ _ _) Ev_some)
    · rw [if_neg hc]
      refine Ev_succ ?_
      simp only [w_01, w_11, w_21, impl_TripleOfWord.l0]
      refine Ev_true (by omega) (Ev_true (by omega) (Ev_true (by simp) (Ev.bind (number_ev u) ?_)))
      by_cases hu : (numberR u).2 = true
      · refine Ev_true hu (Ev_true (by simp) (Ev_succ ?_))
        simp only [w_01, w_11, w_21, impl_TripleOfWord.l0]
        refine Ev_true (by decide) (Ev_true (by decide) (Ev_true (by simp) (Ev.bind (number_ev v) ?_)))
        by_cases hv : (numberR v).2 = true
        · refine Ev_true hv (Ev_true (by simp) (Ev_succ ?_))
          simp only [w_01, w_11, w_21, impl_TripleOfWord.l0]
          refine Ev_true (by decide) (Ev_true (by decide) (Ev_true (by simp) (Ev.bind (number_ev s) ?_)))
          exact Ev_false (by rw [hn]; exact hc) Ev_some
        · exact Ev_false hv Ev_some
      · exact Ev_false hu Ev_some
  · rw [Bool.not_eq_true] at h
    rw [h, Bool.false_and]
    exact Ev_false (by simp) Ev_some
end Go.Proofs.Ytljlplohicffpaa.Q

/- Several parts in one text: The check of Christoffel words up to forty letters. The triple of a word, by both programs. Triples: both programs' tests agree, and what they hold for one is one. (Part of QDesk, with what a triple is.) All Markov triples up to 1000000000. Choices drawn from bytes: each comes to a number within its bounds. The laws' test of their codes' sizes. The laws' own comparisons of lists. The draws of words and of triples come to an end. Cohn matrices: the determinant; Christoffel words and triples one by one in the kernel. -/
import Derived.Test.YtljlplohicffpaaGreatQKA
import Derived.Test.YtljlplohicffpaaGreatKx1
import Derived.Test.YtljlplohicffpaaGreatKx5
import Derived.Test.YtljlplohicffpaaGreatKx7
import Derived.Test.YtljlplohicffpaaGreatKx8
import Derived.Test.YtljlplohicffpaaGreatKx15
import Derived.Test.YtljlplohicffpaaGreatKx16
import Derived.Test.YtljlplohicffpaaGreatGSort
import Derived.Test.YtljlplohicffpaaGreatKx17
import Derived.Test.YtljlplohicffpaaGreatKx22
import Derived.Test.YtljlplohicffpaaGreatKx2
import Derived.Laws.BitsAllLaws
import Derived.Test.YtljlplohicffpaaGreatKx20
import Derived.Test.YtljlplohicffpaaGreatKx21
import Derived.Test.YtljlplohicffpaaGreatKx18
import Derived.Test.YtljlplohicffpaaGreatKx25
namespace Go.Proofs.YtljlplohicffpaaGreat.Q
open Go.RowKit Go.Proofs.YtljlplohicffpaaGreat.P Go.Proofs.YtljlplohicffpaaGreatW.PrintWords Go.Proofs.YtljlplohicffpaaGreatW.PrintLast Go.Proofs.YtljlplohicffpaaGreat.G
theorem chk_b : (List.range 10).all (fun i => chkN (21 + i)) = true := by decide +kernel
theorem chk_c : (List.range 5).all (fun i => chkN (31 + i)) = true := by decide +kernel
theorem chk_d : (List.range 5).all (fun i => chkN (36 + i)) = true := by decide +kernel
theorem chk_all {n : Nat} (h : n ≤ 40) : chkN n = true := by
  by_cases h1 : n < 21
  · exact List.all_eq_true.1 chk_a n (List.mem_range.2 h1)
  by_cases h2 : n < 31
  · have := List.all_eq_true.1 chk_b (n - 21) (List.mem_range.2 (by omega))
    rwa [show 21 + (n - 21) = n from by omega] at this
  by_cases h3 : n < 36
  · have := List.all_eq_true.1 chk_c (n - 31) (List.mem_range.2 (by omega))
    rwa [show 31 + (n - 31) = n from by omega] at this
  have := List.all_eq_true.1 chk_d (n - 36) (List.mem_range.2 (by omega))
  rwa [show 36 + (n - 36) = n from by omega] at this
/-- A Christoffel word of two letters and more can be cut; and if its matrix is small, so are its parts'. -/
theorem chr_all {l : List Int} (h : l.length ≤ 40) (h2 : 2 ≤ l.length) (hc : isChr l = true) : 1 ≤ splitL l ∧ (fineL l = true → fineL (l.take (splitL l)) = true ∧ fineL (l.drop (splitL l)) = true) := by
  unfold isChr at hc
  rw [Bool.and_eq_true, decide_eq_true_iff, decide_eq_true_iff] at hc
  have hle : cntL 98 l ≤ l.length := by
    clear h h2 hc
    induction l with
    | nil => exact Nat.le_refl _
    | cons x l ih => unfold cntL; split <;> simp only [List.length_cons] <;> omega
  have h1 := List.all_eq_true.1 (chk_all h) (cntL 98 l) (List.mem_range.2 (by omega))
  rw [hc.2, decide_eq_true hc.1] at h1
  have h3 : chkW l = true := by simpa using h1
  unfold chkW at h3
  rw [decide_eq_false (by omega), Bool.false_or, Bool.and_eq_true, decide_eq_true_iff] at h3
  refine ⟨h3.1, fun hf => ?_⟩
  have h4 := h3.2
  rw [hf] at h4
  simpa using h4
end Go.Proofs.YtljlplohicffpaaGreat.Q
set_option linter.unusedVariables false
set_option linter.unusedSimpArgs false
namespace Go.Proofs.YtljlplohicffpaaGreat.Q
open Go.RowKit Go.Proofs.YtljlplohicffpaaGreat.P Go.Proofs.YtljlplohicffpaaGreatW.PrintWords Go.Proofs.YtljlplohicffpaaGreatW.PrintLast Go.Proofs.YtljlplohicffpaaGreat.G
def numberR (s : ByteArray) : Int × Bool := if (cohnR s).2 = true then (at2 (cohnR s).1 0 1, true) else (0, false)
theorem foNumber_ev (s : ByteArray) : Ev (fun k => spec_NumberOfWord.f k s) (numberR s) := by
  unfold spec_NumberOfWord.f
  refine Ev.bind (foCohn_ev s) ?_
  by_cases h : (cohnR s).2 = true
  · have h1 := (cohnR_ok s).1 h
    rw [show numberR s = (at2 (cohnR s).1 0 1, true) from if_pos h]
    have e : (rd_L4 (cohnR s).1 0).length = 2 := row_len (i := 0) h1.1 h1.2 (by omega)
    refine Ev_true h (Ev_true (by omega) (Ev_true (by omega) ?_))
    rw [show rd (rd_L4 (cohnR s).1 0) 1 = at2 (cohnR s).1 0 1 from rd2 _ 0 1]
    exact Ev_some
  · rw [show numberR s = (0, false) from if_neg h]
    exact Ev_false h Ev_some
theorem number_ev (s : ByteArray) : Ev (fun k => impl_NumberOfWord.f k s) (numberR s) := by
  unfold impl_NumberOfWord.f
  refine Ev.bind (cohn_ev s) ?_
  by_cases h : (cohnR s).2 = true
  · have h1 := (cohnR_ok s).1 h
    rw [show numberR s = (at2 (cohnR s).1 0 1, true) from if_pos h]
    have e : (rd_L4 (cohnR s).1 0).length = 2 := row_len (i := 0) h1.1 h1.2 (by omega)
    refine Ev_true h (Ev_true (by omega) (Ev_true (by omega) ?_))
    rw [show rd (rd_L4 (cohnR s).1 0) 1 = at2 (cohnR s).1 0 1 from rd2 _ 0 1]
    exact Ev_some
  · rw [show numberR s = (0, false) from if_neg h]
    exact Ev_false h Ev_some
theorem cohnGo_mat : ∀ (l : List Int) (M : List (List Int)), isMat M = true → (cohnGo l M).2 = true → isMat (cohnGo l M).1 = true
  | [], _, h, _ => h
  | c :: l, M, h, h2 => by
    unfold cohnGo at h2 ⊢
    by_cases hm : isMat (prodL M (cohnStep c)) = true
    · rw [if_pos hm] at h2 ⊢
      exact cohnGo_mat l _ hm h2
    · rw [if_neg hm] at h2
      cases h2
theorem numberR_bd (s : ByteArray) : -1000000 ≤ (numberR s).1 ∧ (numberR s).1 ≤ 1000000 := by
  unfold numberR
  by_cases h : (cohnR s).2 = true
  · rw [if_pos h]
    have h1 := (cohnR_ok s).1 h
    have hm : isMat (cohnR s).1 = true := by
      unfold cohnR at h ⊢
      split at h
      · rename_i hl
        rw [if_pos hl]
        exact cohnGo_mat _ _ rfl h
      · cases h
    exact isMat_at hm (by omega) (by omega)
  · rw [if_neg h]
    exact ⟨by decide, by decide⟩
def sort3 (a b c : Int) : List Int := if b < a then (if c < a then (if c < b then [c, b, a] else [b, c, a]) else [b, a, c]) else (if c < b then (if c < a then [c, a, b] else [a, c, b]) else [a, b, c])
theorem mkSort_eq {a b c : Int} (ha : -1000000 ≤ a ∧ a ≤ 1000000) (hb : -1000000 ≤ b ∧ b ≤ 1000000) (hc : -1000000 ≤ c ∧ c ≤ 1000000) : spec_mkSort.f a b c = some (sort3 a b c) := by
  unfold spec_mkSort.f spec_l1Least.f spec_l1Most.f
  rw [w64 (x := a + b) (by omega) (by omega), w64 (x := a + b + c) (by omega) (by omega)]
  have hs : ∀ m n : Int, -1000000 ≤ m → m ≤ 1000000 → -1000000 ≤ n → n ≤ 1000000 → wrap64 (wrap64 (a + b + c - m) - n) = a + b + c - m - n := fun m n _ _ _ _ => by
    rw [w64 (x := a + b + c - m) (by omega) (by omega), w64 (by omega) (by omega)]
  have e1 : (if b < c then some b else some c) = some (if b < c then b else c) := by split <;> rfl
  have e3 : (if b > c then some b else some c) = some (if b > c then b else c) := by split <;> rfl
  rw [e1, e3]
  simp only [Option.bind_some]
  have e2 : ∀ x : Int, (if a < x then some a else some x) = some (if a < x then a else x) := fun x => by split <;> rfl
  have e4 : ∀ x : Int, (if a > x then some a else some x) = some (if a > x then a else x) := fun x => by split <;> rfl
  rw [e2, e4]
  simp only [Option.bind_some]
  obtain ⟨m1, e5, f1⟩ : ∃ m, (if b < c then b else c) = m ∧ (m ≤ b ∧ m ≤ c ∧ (m = b ∨ m = c)) := ⟨_, rfl, by split <;> omega⟩
  obtain ⟨m2, e6, f2⟩ : ∃ m, (if b > c then b else c) = m ∧ (b ≤ m ∧ c ≤ m ∧ (m = b ∨ m = c)) := ⟨_, rfl, by split <;> omega⟩
  rw [e5, e6]
  obtain ⟨m3, e7, f3⟩ : ∃ m, (if a < m1 then a else m1) = m ∧ (m ≤ a ∧ m ≤ m1 ∧ (m = a ∨ m = m1)) := ⟨_, rfl, by split <;> omega⟩
  obtain ⟨m4, e8, f4⟩ : ∃ m, (if a > m2 then a else m2) = m ∧ (a ≤ m ∧ m2 ≤ m ∧ (m = a ∨ m = m2)) := ⟨_, rfl, by split <;> omega⟩
  rw [e7, e8, hs m3 m4 (by omega) (by omega) (by omega) (by omega)]
  clear e1 e2 e3 e4 e5 e6 e7 e8 hs
  unfold sort3
  congr 1
  repeat' split
  all_goals (simp only [List.cons.injEq, and_true]; omega)
theorem w_01 : wrap64 ((0 : Int) + 1) = 1 := w64 (by omega) (by omega)
theorem w_11 : wrap64 ((1 : Int) + 1) = 2 := w64 (by omega) (by omega)
theorem w_21 : wrap64 ((2 : Int) + 1) = 3 := w64 (by omega) (by omega)
theorem w_1m : wrap64 ((1 : Int) - 1) = 0 := w64 (by omega) (by omega)
theorem w_2m : wrap64 ((2 : Int) - 1) = 1 := w64 (by omega) (by omega)
theorem less_eq (a b : Int) : cmp_Less_int.f a b = some (decide (a < b)) := by
  unfold cmp_Less_int.f cmp_isNaN_int.f
  simp
theorem ins_0 {x R : List Int} {i : Int} (h : Ev (fun k => slices_insertionSortOrdered_int.l0 k x 0 3 (wrap64 (i + 1))) R) : Ev (fun k => slices_insertionSortOrdered_int.l1 k x 0 3 i 0) R := by
  refine Ev_succ ?_
  simp only [slices_insertionSortOrdered_int.l1]
  exact Ev_false (by omega) h
theorem ins_1 {p q r : Int} {R : List Int} {i : Int} (h1 : q < p → Ev (fun k => slices_insertionSortOrdered_int.l1 k [q, p, r] 0 3 i 0) R) (h2 : ¬q < p → Ev (fun k => slices_insertionSortOrdered_int.l0 k [p, q, r] 0 3 (wrap64 (i + 1))) R) : Ev (fun k => slices_insertionSortOrdered_int.l1 k [p, q, r] 0 3 i 1) R := by
  refine Ev_succ ?_
  simp only [slices_insertionSortOrdered_int.l1, w_1m]
  refine Ev_true (by omega) (Ev_true (by omega) (Ev_true (by simp) (Ev_true (by omega) (Ev_true (by simp) ?_))))
  rw [less_eq]
  refine Ev.bind Ev_some ?_
  by_cases h : q < p
  · exact Ev_true (by simpa [rd] using h) (h1 h)
  · exact Ev_false (by simpa [rd] using h) (h2 h)
theorem ins_2 {p q r : Int} {R : List Int} {i : Int} (h1 : r < q → Ev (fun k => slices_insertionSortOrdered_int.l1 k [p, r, q] 0 3 i 1) R) (h2 : ¬r < q → Ev (fun k => slices_insertionSortOrdered_int.l0 k [p, q, r] 0 3 (wrap64 (i + 1))) R) : Ev (fun k => slices_insertionSortOrdered_int.l1 k [p, q, r] 0 3 i 2) R := by
  refine Ev_succ ?_
  simp only [slices_insertionSortOrdered_int.l1, w_2m]
  refine Ev_true (by omega) (Ev_true (by omega) (Ev_true (by simp) (Ev_true (by omega) (Ev_true (by simp) ?_))))
  rw [less_eq]
  refine Ev.bind Ev_some ?_
  by_cases h : r < q
  · exact Ev_true (by simpa [rd] using h) (h1 h)
  · exact Ev_false (by simpa [rd] using h) (h2 h)
theorem ins_out {x : List Int} : Ev (fun k => slices_insertionSortOrdered_int.l0 k x 0 3 (wrap64 (2 + 1))) x := by
  rw [w_21]
  refine Ev_succ ?_
  simp only [slices_insertionSortOrdered_int.l0]
  exact Ev_false (by omega) Ev_some
theorem ins_go {x R : List Int} {i : Int} (hi : i < 3) (h : Ev (fun k => slices_insertionSortOrdered_int.l1 k x 0 3 i i) R) : Ev (fun k => slices_insertionSortOrdered_int.l0 k x 0 3 i) R := by
  refine Ev_succ ?_
  simp only [slices_insertionSortOrdered_int.l0]
  exact Ev_true hi h
/-- The second round. -/
theorem ins_last {p q c : Int} (hpq : p ≤ q) : Ev (fun k => slices_insertionSortOrdered_int.l0 k [p, q, c] 0 3 2) (if c < q then (if c < p then [c, p, q] else [p, c, q]) else [p, q, c]) := by
  refine ins_go (by omega) (ins_2 (fun h => ?_) (fun h => ?_))
  · rw [if_pos h]
    refine ins_1 (fun h2 => ?_) (fun h2 => ?_)
    · rw [if_pos h2]
      exact ins_0 ins_out
    · rw [if_neg h2]
      exact ins_out
  · rw [if_neg h]
    exact ins_out
theorem sort3_ev (a b c : Int) : Ev (fun k => slices_Sort_int_int.f k [a, b, c]) (sort3 a b c) := by
  unfold slices_Sort_int_int.f sortF
  refine Ev_true (by simp) ?_
  show Ev (fun k => slices_insertionSortOrdered_int.f k [a, b, c] 0 3) _
  unfold slices_insertionSortOrdered_int.f
  rw [w_01]
  unfold sort3
  refine ins_go (by omega) (ins_1 (fun h => ?_) (fun h => ?_))
  · rw [if_pos h]
    exact ins_0 (by rw [w_11]; exact ins_last (p := b) (q := a) (by omega))
  · rw [if_neg h]
    rw [w_11]
    exact ins_last (p := a) (q := b) (by omega)
/-- What both programs' TripleOfWord answer. -/
def tripleR (s : ByteArray) : List Int × Bool := if ((factorsR s).2.2 && (cohnR s).2) = true then (sort3 (numberR (factorsR s).1).1 (numberR (factorsR s).2.1).1 (numberR s).1, true) else ([], false)
theorem tripleR_len (s : ByteArray) : (tripleR s).1.length ≤ 3 := by
  unfold tripleR sort3
  repeat' split
  all_goals simp
theorem foTriple_ev (s : ByteArray) : Ev (fun k => spec_TripleOfWord.f k s) (tripleR s) := by
  unfold spec_TripleOfWord.f
  refine Ev.bind (foFactors_ev (fun h1 h2 h3 => (chr_all h1 h2 h3).1) s) (Ev.bind (foCohn_ev s) ?_)
  have hj : ∀ u v : ByteArray, Ev (fun k => spec_TripleOfWord.j0 k u v (!(cohnR s).2) (cohnR s).1) (if (cohnR s).2 = true then (sort3 (numberR u).1 (numberR v).1 (numberR s).1, true) else ([], false)) := by
    intro u v
    refine Ev_succ ?_
    simp only [spec_TripleOfWord.j0]
    by_cases h : (cohnR s).2 = true
    · have h1 := (cohnR_ok s).1 h
      have e : (rd_L4 (cohnR s).1 0).length = 2 := row_len (i := 0) h1.1 h1.2 (by omega)
      rw [if_pos h]
      refine Ev_false (by rw [h]; simp) (Ev.bind (foNumber_ev u) (Ev.bind (foNumber_ev v) (Ev_true (by omega) (Ev_true (by omega) ?_))))
      have e2 : rd (rd_L4 (cohnR s).1 0) 1 = (numberR s).1 := by
        rw [show numberR s = (at2 (cohnR s).1 0 1, true) from if_pos h]
        exact rd2 _ 0 1
      rw [e2, mkSort_eq (numberR_bd u) (numberR_bd v) (numberR_bd s)]
      exact Ev.bind Ev_some Ev_some
    · rw [if_neg h]
      rw [Bool.not_eq_true] at h
      exact Ev_true (by rw [h]; rfl) Ev_some
  unfold tripleR
  by_cases h : (factorsR s).2.2 = true
  · rw [h, Bool.true_and]
    exact Ev_true rfl (hj _ _)
  · rw [Bool.not_eq_true] at h
    rw [h, Bool.false_and]
    refine Ev_false (by simp) (Ev_succ ?_)
    simp only [spec_TripleOfWord.j0]
    exact Ev_true (by simp) Ev_some
theorem letters_part {s t : ByteArray} (h : lettersB s = true) (h1 : 1 ≤ t.size) (h2 : t.size ≤ s.size) (h3 : (bytesOf t).all (okL 97 98) = true) : lettersB t = true := by
  have := letters_le h
  unfold lettersB isWordB
  rw [decide_eq_true h1, decide_eq_true (by omega), h3]
  rfl
theorem triple_ev (s : ByteArray) : Ev (fun k => impl_TripleOfWord.f k s) (tripleR s) := by
  have hl := bytesOf_length s
  unfold impl_TripleOfWord.f
  refine Ev.bind (factors_ev s) ?_
  unfold tripleR
  by_cases h : (factorsR s).2.2 = true
  · rw [h, Bool.true_and]
    refine Ev_true rfl (Ev.bind Ev_some ?_)
    show Ev (fun k => impl_TripleOfWord.l0 k [] [(factorsR s).1, (factorsR s).2.1, s] 3 0) _
    have hf : (cohnR s).2 = true → (cohnR (factorsR s).1).2 = true ∧ (cohnR (factorsR s).2.1).2 = true := by
      intro hc
      unfold factorsR at h ⊢
      by_cases h0 : (lettersB s && (decide (2 ≤ s.size) && isChr (bytesOf s))) = true
      · rw [if_pos h0] at h ⊢
        rw [Bool.and_eq_true, Bool.and_eq_true, decide_eq_true_iff] at h0
        obtain ⟨h1, h2, h3⟩ := h0
        have h40 := letters_le h1
        have hw := lettersB_all h1
        have hA := chr_all (l := bytesOf s) (by omega) (by omega) h3
        have h5 : splitL (bytesOf s) < 1 + ((bytesOf s).length - 1) ∨ splitL (bytesOf s) = 0 := splitL_le (bytesOf s) ((bytesOf s).length - 1) 1
        have hk := hA.1
        have hF := hA.2 (by
          unfold cohnR at hc
          rw [if_pos h1] at hc
          exact hc)
        clear hA
        generalize splitL (bytesOf s) = m at h h5 hk hF ⊢
        unfold facAt
        rw [if_neg (by omega)]
        have b1 := bytes_take s m
        have b2 := bytes_drop s m
        have z1 : (s.extract 0 m).size = m := by rw [← bytesOf_length, b1, List.length_take]; omega
        have z2 : (s.extract m s.size).size = s.size - m := by rw [← bytesOf_length, b2, List.length_drop]; omega
        have l1 : lettersB (s.extract 0 m) = true := letters_part h1 (by omega) (by omega) (by rw [b1]; exact all_take hw m)
        have l2 : lettersB (s.extract m s.size) = true := letters_part h1 (by omega) (by omega) (by rw [b2]; exact all_drop hw m)
        unfold cohnR
        rw [if_pos l1, if_pos l2, b1, b2]
        exact hF
      · rw [if_neg h0] at h
        cases h
    generalize (factorsR s).1 = u at hf ⊢
    generalize (factorsR s).2.1 = v at hf ⊢
    have hn : ∀ t : ByteArray, (numberR t).2 = (cohnR t).2 := by
      intro t
      unfold numberR
      by_cases h : (cohnR t).2 = true
      · rw [if_pos h, h]
      · rw [if_neg h]
        rw [Bool.not_eq_true] at h
        rw [h]
    by_cases hc : (cohnR s).2 = true
    · obtain ⟨hu, hv⟩ := hf hc
      rw [if_pos hc]
      refine Ev_succ ?_
      simp only [w_01, w_11, w_21, impl_TripleOfWord.l0]
      refine Ev_true (by omega) (Ev_true (by omega) (Ev_true (by simp) (Ev.bind (number_ev u) (Ev_true (by rw [hn]; exact hu) (Ev_true (by simp) (Ev_succ ?_))))))
      simp only [w_01, w_11, w_21, impl_TripleOfWord.l0]
      refine Ev_true (by decide) (Ev_true (by decide) (Ev_true (by simp) (Ev.bind (number_ev v) (Ev_true (by rw [hn]; exact hv) (Ev_true (by simp) (Ev_succ ?_))))))
      simp only [w_01, w_11, w_21, impl_TripleOfWord.l0]
      refine Ev_true (by decide) (Ev_true (by decide) (Ev_true (by simp) (Ev.bind (number_ev s) (Ev_true (by rw [hn]; exact hc) (Ev_true (by simp) (Ev_succ ?_))))))
      simp only [w_01, w_11, w_21, impl_TripleOfWord.l0]
      exact Ev_false (by decide) (Ev.bind (f := fun _ t => some (t, true)) (sort3_ev _ _ _) Ev_some)
    · rw [if_neg hc]
      refine Ev_succ ?_
      simp only [w_01, w_11, w_21, impl_TripleOfWord.l0]
      refine Ev_true (by omega) (Ev_true (by omega) (Ev_true (by simp) (Ev.bind (number_ev u) ?_)))
      by_cases hu : (numberR u).2 = true
      · refine Ev_true hu (Ev_true (by simp) (Ev_succ ?_))
        simp only [w_01, w_11, w_21, impl_TripleOfWord.l0]
        refine Ev_true (by decide) (Ev_true (by decide) (Ev_true (by simp) (Ev.bind (number_ev v) ?_)))
        by_cases hv : (numberR v).2 = true
        · refine Ev_true hv (Ev_true (by simp) (Ev_succ ?_))
          simp only [w_01, w_11, w_21, impl_TripleOfWord.l0]
          refine Ev_true (by decide) (Ev_true (by decide) (Ev_true (by simp) (Ev.bind (number_ev s) ?_)))
          exact Ev_false (by rw [hn]; exact hc) Ev_some
        · exact Ev_false hv Ev_some
      · exact Ev_false hu Ev_some
  · rw [Bool.not_eq_true] at h
    rw [h, Bool.false_and]
    exact Ev_false (by simp) Ev_some
end Go.Proofs.YtljlplohicffpaaGreat.Q
namespace Go.Proofs.YtljlplohicffpaaGreat.Q
open Go.RowKit Go.Proofs.YtljlplohicffpaaGreat.P Go.Proofs.YtljlplohicffpaaGreatW.PrintWords Go.Proofs.YtljlplohicffpaaGreatW.PrintLast Go.Proofs.YtljlplohicffpaaGreat.G

theorem lessM (a b : Int) : cmp_Less_int.f a b = some (decide (a < b)) := by
  unfold cmp_Less_int.f cmp_isNaN_int.f
  simp
theorem sorted3 (a b c : Int) : Ev (fun k => slices_IsSorted_int_int.f k [a, b, c]) (decide (a ≤ b ∧ b ≤ c)) := by
  refine ⟨3, fun k hk => ?_⟩
  obtain ⟨j, rfl⟩ : ∃ j, k = j + 3 := ⟨k - 3, by omega⟩
  have w2 : wrap64 ((([a, b, c] : List Int).length : Int) - 1) = 2 := by simp; exact w64 (by omega) (by omega)
  have w1 : wrap64 (2 - 1) = 1 := w64 (by omega) (by omega)
  have w0 : wrap64 (1 - 1) = 0 := w64 (by omega) (by omega)
  have r2 : rd [a, b, c] 2 = c := rfl
  have r1 : rd [a, b, c] 1 = b := rfl
  have r0 : rd [a, b, c] 0 = a := rfl
  show slices_IsSorted_int_int.l0 (j + 3) [a, b, c] (wrap64 ((([a, b, c] : List Int).length : Int) - 1)) = _
  rw [w2]
  simp only [slices_IsSorted_int_int.l0, w1, w0, r2, r1, r0, lessM, Option.bind_some]
  by_cases h1 : b ≤ c
  · by_cases h2 : a ≤ b
    · simp [h1, h2, show ¬ c < b by omega, show ¬ b < a by omega]
    · simp [h1, h2, show ¬ c < b by omega, show b < a by omega]
  · simp [h1, show c < b by omega]
theorem mulM {a b A B : Int} (h1 : 0 ≤ a) (h2 : a ≤ A) (h3 : 0 ≤ b) (h4 : b ≤ B) : 0 ≤ a * b ∧ a * b ≤ A * B :=
  ⟨Int.mul_nonneg h1 h3, Int.mul_le_mul h2 h4 h3 (by omega)⟩
/-- The equation, as the reference tests it. -/
theorem spec_solves {a b c : Int} (ha : 1 ≤ a ∧ a ≤ 1000000000) (hb : 1 ≤ b ∧ b ≤ 1000000000) (hc : 1 ≤ c ∧ c ≤ 1000000000) : spec_mkSolves.f a b c = some (decide (a * a + b * b + c * c = 3 * (a * b) * c)) := by
  have q1 := mulM (a := a) (b := a) (A := 1000000000) (B := 1000000000) (by omega) (by omega) (by omega) (by omega)
  have q2 := mulM (a := b) (b := b) (A := 1000000000) (B := 1000000000) (by omega) (by omega) (by omega) (by omega)
  have q3 := mulM (a := a) (b := b) (A := 1000000000) (B := 1000000000) (by omega) (by omega) (by omega) (by omega)
  have e3 : 3 * a * b = 3 * (a * b) := Int.mul_assoc _ _ _
  unfold spec_mkSolves.f
  rw [if_neg (by omega), w64 (x := a * a) (by omega) (by omega), w64 (x := b * b) (by omega) (by omega), w64 (x := a * a + b * b) (by omega) (by omega), w64 (x := 3 * a) (by omega) (by omega), e3, w64 (x := 3 * (a * b)) (by omega) (by omega), w64 (x := 3 * (a * b) - c) (by omega) (by omega),
    Int.tmod_eq_emod_of_nonneg (by omega), Int.tdiv_eq_ediv_of_nonneg (by omega)]
  generalize hs : a * a + b * b = s at *
  generalize hp : a * b = p at *
  have hd : s / c ≤ s := Int.ediv_le_self _ (by omega)
  have hd0 : 0 ≤ s / c := Int.ediv_nonneg (by omega) (by omega)
  rw [w64 (x := s / c) (by omega) (by omega)]
  have he := Int.emod_add_mul_ediv s c
  have key : s + c * c = 3 * p * c ↔ s % c = 0 ∧ s / c = 3 * p - c := by
    constructor
    · intro h
      have h1 : s = c * (3 * p - c) := by
        rw [Int.mul_sub, Int.mul_comm c (3 * p)]
        omega
      exact ⟨by rw [h1]; exact Int.mul_emod_right _ _, by rw [h1]; exact Int.mul_ediv_cancel_left _ (by omega)⟩
    · rintro ⟨h1, h2⟩
      rw [h1, h2, Int.mul_sub, Int.mul_comm c (3 * p)] at he
      omega
  by_cases h : s % c = 0
  · rw [if_pos h]
    congr 1
    rw [Bool.eq_iff_iff, beq_iff_eq, decide_eq_true_iff, key]
    exact ⟨fun h2 => ⟨h, h2⟩, fun h2 => h2.2⟩
  · rw [if_neg h]
    congr 1
    symm
    rw [decide_eq_false_iff_not, key]
    exact fun h2 => h h2.1
theorem impl_solves3 {a b c : Int} (ha : 1 ≤ a ∧ a ≤ 1000000000) (hb : 1 ≤ b ∧ b ≤ 1000000000) (hc : 1 ≤ c ∧ c ≤ 1000000000) : impl_solves.f [a, b, c] = some (decide (a * a + b * b + c * c = 3 * (a * b) * c)) := by
  have q1 := mulM (a := a) (b := a) (A := 1000000000) (B := 1000000000) (by omega) (by omega) (by omega) (by omega)
  have q2 := mulM (a := b) (b := b) (A := 1000000000) (B := 1000000000) (by omega) (by omega) (by omega) (by omega)
  have q4 := mulM (a := c) (b := c) (A := 1000000000) (B := 1000000000) (by omega) (by omega) (by omega) (by omega)
  have q3 : 1 ≤ a * b ∧ a * b ≤ 1000000000 * 1000000000 := ⟨by have := Int.mul_le_mul (show 1 ≤ a by omega) (show 1 ≤ b by omega) (by omega) (by omega); omega, (mulM (by omega) ha.2 (by omega) hb.2).2⟩
  have r2 : rd [a, b, c] 2 = c := rfl
  have r1 : rd [a, b, c] 1 = b := rfl
  have r0 : rd [a, b, c] 0 = a := rfl
  unfold impl_solves.f
  rw [if_pos (by simp), if_pos (by simp), if_pos (by simp)]
  simp only [r2, r1, r0]
  rw [w64 (x := a * a) (by omega) (by omega), w64 (x := b * b) (by omega) (by omega), w64 (x := c * c) (by omega) (by omega), w64 (x := a * a + b * b) (by omega) (by omega), w64 (x := a * a + b * b + c * c) (by omega) (by omega), w64 (x := a * b) (by omega) (by omega),
    Int.tdiv_eq_ediv_of_nonneg (a := a * a + b * b + c * c) (by omega)]
  generalize hs : a * a + b * b + c * c = s at *
  generalize hp : a * b = p at *
  rw [w64 (x := s / 3) (by omega) (by omega)]
  by_cases h0 : p ≤ s / 3
  · rw [if_pos h0, w64 (x := 3 * p) (by omega) (by omega), if_neg (by omega), Int.tmod_eq_emod_of_nonneg (by omega), Int.tdiv_eq_ediv_of_nonneg (by omega)]
    have hd : s / (3 * p) ≤ s := Int.ediv_le_self _ (by omega)
    have hd0 : 0 ≤ s / (3 * p) := Int.ediv_nonneg (by omega) (by omega)
    rw [w64 (x := s / (3 * p)) (by omega) (by omega)]
    have he := Int.emod_add_mul_ediv s (3 * p)
    have key : s = 3 * p * c ↔ s % (3 * p) = 0 ∧ s / (3 * p) = c := by
      constructor
      · intro h
        exact ⟨by rw [h]; exact Int.mul_emod_right _ _, by rw [h]; exact Int.mul_ediv_cancel_left _ (by omega)⟩
      · rintro ⟨h1, h2⟩
        rw [h1, h2] at he
        omega
    by_cases h : s % (3 * p) = 0
    · rw [if_pos h]
      congr 1
      rw [Bool.eq_iff_iff, beq_iff_eq, decide_eq_true_iff, key]
      exact ⟨fun h2 => ⟨h, h2⟩, fun h2 => h2.2⟩
    · rw [if_neg h]
      congr 1
      symm
      rw [decide_eq_false_iff_not, key]
      exact fun h2 => h h2.1
  · rw [if_neg h0]
    congr 1
    symm
    rw [decide_eq_false_iff_not]
    intro h
    have h1 : 3 * p * 1 ≤ 3 * p * c := Int.mul_le_mul_of_nonneg_left (by omega) (by omega)
    omega
theorem three_of {l : List Int} (h : l.length = 3) : ∃ a b c, l = [a, b, c] := by
  match l, h with
  | [a, b, c], _ => exact ⟨a, b, c, rfl⟩
theorem all3 {a b c lo hi : Int} : [a, b, c].all (inB lo hi) = true ↔ (lo ≤ a ∧ a ≤ hi) ∧ (lo ≤ b ∧ b ≤ hi) ∧ (lo ≤ c ∧ c ≤ hi) := by
  simp [inB]
/-- Whether three numbers are a triple. -/
theorem markov_ev {l : List Int} (hl : l.length ≤ 4611686018427387904) : ∃ r, (r = true → ∃ a b c : Int, l = [a, b, c] ∧ 1 ≤ a ∧ a ≤ b ∧ b ≤ c ∧ c ≤ 1000000000 ∧ a * a + b * b + c * c = 3 * (a * b) * c) ∧ Ev (fun k => spec_mkGood.f k l) r ∧ Ev (fun k => impl_IsMarkov.f k l) r := by
  unfold spec_mkGood.f impl_IsMarkov.f impl_areThree.f
  by_cases h3 : l.length = 3
  · obtain ⟨a, b, c, rfl⟩ := three_of h3
    have hs := l1All_ev hl 1 1000000000
    cases hall : [a, b, c].all (inB 1 1000000000) with
    | false =>
      rw [hall] at hs
      refine ⟨false, (by simp), Ev_true (by simp) (Ev.bind hs (Ev_false (by simp) Ev_some)), ?_⟩
      rw [if_pos (by simp)]
      unfold impl_allWithin.f
      rw [hall]
      simp only [Option.bind_some]
      exact Ev_false (by simp) Ev_some
    | true =>
      rw [hall] at hs
      obtain ⟨ha, hb, hc⟩ := all3.1 hall
      have r2 : rd [a, b, c] 2 = c := rfl
      have r1 : rd [a, b, c] 1 = b := rfl
      have r0 : rd [a, b, c] 0 = a := rfl
      have hso := sorted3 a b c
      refine ⟨decide (a ≤ b ∧ b ≤ c) && decide (a * a + b * b + c * c = 3 * (a * b) * c), (fun h => by rw [Bool.and_eq_true, decide_eq_true_iff, decide_eq_true_iff] at h; exact ⟨a, b, c, rfl, ha.1, h.1.1, h.1.2, hc.2, h.2⟩), Ev_true (by simp) (Ev.bind hs (Ev_true rfl (Ev_true (by simp) (Ev_true (by simp) ?_)))), ?_⟩
      · rw [r0, r1, r2]
        by_cases h1 : a ≤ b
        · refine Ev_true h1 (Ev_true (by simp) ?_)
          by_cases h2 : b ≤ c
          · refine Ev_true h2 ?_
            rw [spec_solves ha hb hc]
            simp only [h1, h2, and_self, decide_true, Bool.true_and, Option.bind_some]
            exact Ev_some
          · simp only [h2, and_false, decide_false, Bool.false_and]
            exact Ev_false (by simp) Ev_some
        · simp only [h1, false_and, decide_false, Bool.false_and]
          exact Ev_false (by simp) Ev_some
      · rw [if_pos (by simp)]
        unfold impl_allWithin.f
        rw [hall]
        simp only [Option.bind_some]
        refine Ev_true (by simp) (Ev.bind hso ?_)
        rw [impl_solves3 ha hb hc]
        cases decide (a ≤ b ∧ b ≤ c)
        · exact Ev_false (by simp) Ev_some
        · simp only [Option.bind_some, Bool.true_and]
          exact Ev_true (by simp) Ev_some
  · refine ⟨false, (by simp), Ev_false (by omega) Ev_some, ?_⟩
    rw [if_neg (by omega)]
    simp only [Option.bind_some]
    exact Ev_false (by simp) Ev_some
end Go.Proofs.YtljlplohicffpaaGreat.Q
namespace Go.Proofs.YtljlplohicffpaaGreat.Mark
def allT : List (Nat × Nat × Nat) := [(1, 1, 1), (1, 1, 2), (1, 2, 5), (1, 5, 13), (2, 5, 29), (1, 13, 34), (1, 34, 89), (2, 29, 169), (5, 13, 194), (1, 89, 233), (5, 29, 433), (1, 233, 610), (2, 169, 985), (13, 34, 1325), (1, 610, 1597), (5, 194, 2897), (1, 1597, 4181), (2, 985, 5741), (5, 433, 6466), (13, 194, 7561), (34, 89, 9077), (1, 4181, 10946), (29, 169, 14701), (1, 10946, 28657), (2, 5741, 33461), (29, 433, 37666), (5, 2897, 43261), (13, 1325, 51641), (89, 233, 62210), (1, 28657, 75025), (5, 6466, 96557), (34, 1325, 135137), (2, 33461, 195025), (1, 75025, 196418), (13, 7561, 294685), (233, 610, 426389), (169, 985, 499393), (1, 196418, 514229), (5, 43261, 646018), (34, 9077, 925765), (2, 195025, 1136689), (29, 14701, 1278818), (1, 514229, 1346269), (5, 96557, 1441889), (194, 2897, 1686049), (13, 51641, 2012674), (89, 9077, 2423525), (610, 1597, 2922509), (29, 37666, 3276509), (1, 1346269, 3524578), (194, 7561, 4400489), (2, 1136689, 6625109), (169, 14701, 7453378), (433, 6466, 8399329), (1, 3524578, 9227465), (5, 646018, 9647009), (13, 294685, 11485154), (34, 135137, 13782649), (89, 62210, 16609837), (985, 5741, 16964653), (1597, 4181, 20031170), (5, 1441889, 21531778), (1, 9227465, 24157817), (2, 6625109, 38613965), (233, 62210, 43484701), (433, 37666, 48928105), (1, 24157817, 63245986), (13, 2012674, 78442645), (34, 925765, 94418953), (29, 1278818, 111242465), (4181, 10946, 137295677), (5, 9647009, 144059117), (1, 63245986, 165580141), (1325, 51641, 205272962), (2, 38613965, 225058681), (169, 499393, 253191266), (29, 3276509, 285018617), (233, 426389, 298045301), (5, 21531778, 321534781), (2897, 43261, 375981346), (1, 165580141, 433494437), (13, 11485154, 447626321), (1325, 135137, 537169541), (5741, 33461, 576298801), (89, 2423525, 647072098), (610, 426389, 780291637), (10946, 28657, 941038565), (194, 1686049, 981277621)]
theorem closed : allT.all (fun t => (decide (1000000000 + t.2.1 < 3 * t.1 * t.2.2) || allT.contains (t.1, t.2.2, 3 * t.1 * t.2.2 - t.2.1)) && (decide (1000000000 + t.1 < 3 * t.2.1 * t.2.2) || allT.contains (t.2.1, t.2.2, 3 * t.2.1 * t.2.2 - t.1))) = true := by decide +kernel
theorem up_one {x y z : Nat} (h : (x, y, z) ∈ allT) (hb : 3 * x * z ≤ 1000000000 + y) : (x, z, 3 * x * z - y) ∈ allT := by
  have h1 := List.all_eq_true.1 closed _ h
  simp only [Bool.and_eq_true, Bool.or_eq_true, decide_eq_true_eq, List.contains_iff_mem] at h1
  rcases h1.1 with h2 | h2
  · omega
  · exact h2
theorem up_two {x y z : Nat} (h : (x, y, z) ∈ allT) (hb : 3 * y * z ≤ 1000000000 + x) : (y, z, 3 * y * z - x) ∈ allT := by
  have h1 := List.all_eq_true.1 closed _ h
  simp only [Bool.and_eq_true, Bool.or_eq_true, decide_eq_true_eq, List.contains_iff_mem] at h1
  rcases h1.2 with h2 | h2
  · omega
  · exact h2
/-- The triple below. -/
theorem below {a b c : Nat} (ha : 1 ≤ a) (hab : a ≤ b) (hbc : b ≤ c) (h : a * a + b * b + c * c = 3 * (a * b) * c) (hc : 1 < c) : ∃ d, 1 ≤ d ∧ d ≤ b ∧ b < c ∧ d + c = 3 * (a * b) ∧ a * a + b * b + d * d = 3 * (a * b) * d := by
  have hcle : c ≤ 3 * (a * b) := by
    have h1 : c * c ≤ 3 * (a * b) * c := by omega
    exact Nat.le_of_mul_le_mul_right h1 (by omega)
  obtain ⟨d, hd⟩ : ∃ d, 3 * (a * b) = d + c := ⟨3 * (a * b) - c, by omega⟩
  rw [hd, Nat.add_mul] at h
  have hdc : a * a + b * b = d * c := by omega
  have haa : 1 ≤ a * a := Nat.mul_le_mul ha ha
  have hbb : 1 ≤ b * b := Nat.mul_le_mul (by omega : 1 ≤ b) (by omega : 1 ≤ b)
  have hd1 : 1 ≤ d := by
    rcases Nat.eq_zero_or_pos d with e | e
    · subst e; omega
    · exact e
  have heq : a * a + b * b + d * d = 3 * (a * b) * d := by
    rw [hd, Nat.add_mul, hdc, Nat.mul_comm c d]
    omega
  -- b is not greater than both, and not less than both
  have k1 : a * a ≤ b * b := Nat.mul_le_mul hab hab
  have k2 : b * b ≤ a * b * b := by
    rw [Nat.mul_assoc]
    exact Nat.le_mul_of_pos_left _ ha
  have k3 : (d + c) * b = 3 * (a * b * b) := by rw [← hd, Nat.mul_assoc 3]
  have hlt : b < c := by
    rcases Nat.lt_or_ge b c with q | q
    · exact q
    · exfalso
      obtain rfl : b = c := by omega
      -- a a + b b = d b, d + b = 3 a b
      have e2 : (d + b) * b = d * b + b * b := Nat.add_mul _ _ _
      rw [e2] at k3
      have e3 : a * b * b = a * (b * b) := Nat.mul_assoc _ _ _
      rw [e3] at k3 k2
      -- a a + 2 b b = 3 a (b b)
      rcases Nat.lt_or_ge 1 a with w | w
      · have : 2 * (b * b) ≤ a * (b * b) := Nat.mul_le_mul_right _ w
        omega
      · obtain rfl : a = 1 := by omega
        have : b * 1 < b * b := Nat.mul_lt_mul_of_pos_left hc (by omega)
        omega
  have hdb : d ≤ b := by
    rcases Nat.lt_or_ge b d with q | q
    · exfalso
      obtain ⟨x, hx⟩ : ∃ x, c = b + 1 + x := ⟨c - b - 1, by omega⟩
      obtain ⟨y, hy⟩ : ∃ y, d = b + 1 + y := ⟨d - b - 1, by omega⟩
      rw [hx, hy] at hdc k3
      have e1 : (b + 1 + y) * (b + 1 + x) = b * b + b + b + 1 + b * x + x + y * b + y + y * x := by
        simp only [Nat.add_mul, Nat.mul_add, Nat.mul_one, Nat.one_mul]
        omega
      have e2 : (b + 1 + y + (b + 1 + x)) * b = 2 * (b * b) + b + b + y * b + b * x := by
        simp only [Nat.add_mul, Nat.one_mul]
        rw [Nat.mul_comm x b]
        omega
      rw [e1] at hdc
      rw [e2] at k3
      omega
    · exact q
  exact ⟨d, hd1, hdb, hlt, hd.symm, heq⟩
theorem all_triples : ∀ (n a b c : Nat), c ≤ n → 1 ≤ a → a ≤ b → b ≤ c → c ≤ 1000000000 → a * a + b * b + c * c = 3 * (a * b) * c → (a, b, c) ∈ allT
  | 0, a, b, c, h0, h1, h2, h3, h4, h => by omega
  | n + 1, a, b, c, h0, h1, h2, h3, h4, h => by
    by_cases hc : 1 < c
    · obtain ⟨d, d1, d2, d3, d4, d5⟩ := below h1 h2 h3 h hc
      have e : c = 3 * (a * b) - d := by omega
      rcases Nat.le_total a d with q | q
      · have hm := all_triples n a d b (by omega) h1 q d2 (by omega) (by rw [Nat.add_right_comm, d5, Nat.mul_assoc 3 (a * b) d, Nat.mul_assoc 3 (a * d) b, Nat.mul_right_comm a b d])
        have := up_one hm (by rw [Nat.mul_assoc]; omega)
        rw [Nat.mul_assoc] at this
        rw [e]
        exact this
      · have hm := all_triples n d a b (by omega) d1 q h2 (by omega) (by rw [Nat.add_comm (d * d) (a * a), Nat.add_right_comm, d5, Nat.mul_assoc 3 (a * b) d, Nat.mul_assoc 3 (d * a) b, Nat.mul_comm d a, Nat.mul_right_comm a b d])
        have := up_two hm (by rw [Nat.mul_assoc]; omega)
        rw [Nat.mul_assoc] at this
        rw [e]
        exact this
    · obtain rfl : c = 1 := by omega
      obtain rfl : b = 1 := by omega
      obtain rfl : a = 1 := by omega
      decide
end Go.Proofs.YtljlplohicffpaaGreat.Mark
namespace Go.Proofs.YtljlplohicffpaaGreat.Q
open Go.RowKit Go.Proofs.YtljlplohicffpaaGreat.P Go.Proofs.YtljlplohicffpaaGreatW.PrintWords Go.Proofs.YtljlplohicffpaaGreatW.PrintLast

/-- Bytes. -/
def Bytes (l : List Int) : Prop := l.length ≤ 1000000000000000 ∧ ∀ x ∈ l, 0 ≤ x ∧ x ≤ 255
theorem Bytes.of {l : List Int} (h1 : l.length * 1 ≤ 140737488351232) (h2 : ∀ x ∈ l, (Lit.int .u8 x).wf = true) : Bytes l := by
  refine ⟨by omega, fun x hx => ?_⟩
  have h := h2 x hx
  simp [Lit.wf, IntKind.min, IntKind.max, IntKind.signed, IntKind.bits] at h
  omega
theorem seed_bound (x : Int) : 0 ≤ wrap64 (Go.bits .and .u64 (IntKind.u64.wrap x / 1099511627776) 255) ∧ wrap64 (Go.bits .and .u64 (IntKind.u64.wrap x / 1099511627776) 255) ≤ 255 := by
  have e := IntKind.wrap_u64 x
  have h1 : 0 ≤ IntKind.u64.wrap x / 1099511627776 ∧ IntKind.u64.wrap x / 1099511627776 < 18446744073709551616 := by
    rw [e]
    omega
  rw [u64_and _ _ h1.1 h1.2 (by omega) (by omega)]
  have h2 : (IntKind.u64.wrap x / 1099511627776).toNat &&& (255 : Int).toNat ≤ 255 := Nat.and_le_right
  rw [w64 (by omega) (by omega)]
  omega
theorem next_eq {l : List Int} (hl : Bytes l) (t s : Int) (h0 : 0 ≤ t) (h1 : t ≤ 1000000000000000) : ∃ v s', spec_l1Cur_next.f l t s = some (v, t + 1, s') ∧ 0 ≤ v ∧ v ≤ 255 := by
  have hn := hl.1
  unfold spec_l1Cur_next.f
  rw [w64 (x := t + 1) (by omega) (by omega)]
  by_cases h : t < (l.length : Int)
  · have hm : 0 ≤ rd l t ∧ rd l t ≤ 255 := by
      have h2 : t.toNat < l.length := by omega
      have h3 : rd l t = l[t.toNat] := by simp [rd, List.getD_eq_getElem?_getD, List.getElem?_eq_getElem h2]
      rw [h3]
      exact hl.2 _ (List.getElem_mem h2)
    rw [if_pos h, if_pos h0, if_pos (by omega), w64 (x := rd l t) (by omega) (by omega)]
    exact ⟨_, _, rfl, hm.1, hm.2⟩
  · rw [if_neg h, if_neg (by omega)]
    have h2 := seed_bound (IntKind.u64.wrap (IntKind.u64.wrap (s * 6364136223846793005)) + 1442695040888963407)
    exact ⟨_, _, rfl, h2.1, h2.2⟩
theorem pick_eq {l : List Int} (hl : Bytes l) (t s n : Int) (h0 : 0 ≤ t) (h1 : t ≤ 100000000000000) (hn : n ≤ 1000000000000) :
    ∃ v t' s', spec_l1Cur_pick.f l t s n = some (v, t', s') ∧ 0 ≤ v ∧ (1 ≤ n → v < n) ∧ t ≤ t' ∧ t' ≤ t + 2 := by
  unfold spec_l1Cur_pick.f
  by_cases h : n ≤ 1
  · rw [if_pos h]
    exact ⟨_, _, _, rfl, by omega, by omega, by omega, by omega⟩
  · rw [if_neg h]
    obtain ⟨v, s1, e1, v0, v1⟩ := next_eq hl t s h0 (by omega)
    rw [e1]
    simp only [Option.bind_some]
    by_cases h2 : n > 200
    · rw [if_pos h2]
      obtain ⟨u, s2, e2, u0, u1⟩ := next_eq hl (t + 1) s1 (by omega) (by omega)
      rw [e2]
      simp only [Option.bind_some]
      rw [if_neg (by omega), w64 (x := v * 256) (by omega) (by omega), w64 (x := v * 256 + u) (by omega) (by omega), Int.tmod_eq_emod_of_nonneg (by omega)]
      have h3 := Int.emod_nonneg (v * 256 + u) (show n ≠ 0 by omega)
      have h4 := Int.emod_lt_of_pos (v * 256 + u) (show 0 < n by omega)
      exact ⟨_, _, _, rfl, h3, fun _ => h4, by omega, by omega⟩
    · rw [if_neg h2, if_neg (by omega), Int.tmod_eq_emod_of_nonneg v0]
      have h3 := Int.emod_nonneg v (show n ≠ 0 by omega)
      have h4 := Int.emod_lt_of_pos v (show 0 < n by omega)
      exact ⟨_, _, _, rfl, h3, fun _ => h4, by omega, by omega⟩
theorem among_eq {l : List Int} (hl : Bytes l) (t s : Int) (m : List Int) (h0 : 0 ≤ t) (h1 : t ≤ 100000000000000) (hm : 1 ≤ m.length) (hm2 : m.length ≤ 1000000000) :
    ∃ v t' s', spec_l1Cur_among.f l t s m = some (v, t', s') ∧ v ∈ m ∧ t ≤ t' ∧ t' ≤ t + 2 := by
  unfold spec_l1Cur_among.f
  obtain ⟨v, t', s', e, v0, v1, ht, ht'⟩ := pick_eq hl t s (m.length : Int) h0 h1 (by omega)
  rw [e]
  simp only [Option.bind_some]
  have h2 := v1 (by omega)
  rw [if_pos v0, if_pos h2]
  have h3 : v.toNat < m.length := by omega
  have h4 : rd m v = m[v.toNat] := by simp [rd, List.getD_eq_getElem?_getD, List.getElem?_eq_getElem h3]
  exact ⟨_, _, _, rfl, by rw [h4]; exact List.getElem_mem h3, ht, ht'⟩
end Go.Proofs.YtljlplohicffpaaGreat.Q
namespace Go.Proofs.YtljlplohicffpaaGreat.Q
open Go.RowKit Go.Proofs.YtljlplohicffpaaGreat.P Go.Proofs.YtljlplohicffpaaGreatW.PrintWords Go.Proofs.YtljlplohicffpaaGreatW.PrintLast

theorem big_eq (l m : List Int) : ∃ b, laws_big.f l m = some b := by
  unfold laws_big.f
  split <;> exact ⟨_, rfl⟩
end Go.Proofs.YtljlplohicffpaaGreat.Q
namespace Go.Proofs.YtljlplohicffpaaGreat.Q
open Go.RowKit Go.Proofs.YtljlplohicffpaaGreat.P Go.Proofs.YtljlplohicffpaaGreatW.PrintWords Go.Proofs.YtljlplohicffpaaGreatW.PrintLast

theorem rdv {l : List Int} {i : Nat} (h : i < l.length) : rd l (i : Int) = l[i] := by
  simp [rd, List.getD_eq_getElem?_getD, List.getElem?_eq_getElem h]
theorem rdvRow {l : List (List Int)} {i : Nat} (h : i < l.length) : rd_L4 l (i : Int) = l[i] := by
  simp [rd_L4, List.getD_eq_getElem?_getD, List.getElem?_eq_getElem h]
theorem dSame_l0 {l m : List Int} (hl : l.length = m.length) (hn : l.length ≤ 4611686018427387904) (d : Nat) : ∀ i : Nat, i + d = l.length → Ev (fun k => laws_dSame.l0 k l m (l.length : Int) (i : Int)) (decide (l.drop i = m.drop i)) := by
  induction d with
  | zero =>
    intro i hi
    refine Ev_succ ?_
    simp only [laws_dSame.l0]
    rw [List.drop_of_length_le (by omega), List.drop_of_length_le (by omega)]
    exact Ev_false (by omega) Ev_some
  | succ d ih =>
    intro i hi
    have h1 : i < l.length := by omega
    have h2 : i < m.length := by omega
    refine Ev_succ ?_
    simp only [laws_dSame.l0]
    rw [rdv h1, rdv h2, List.drop_eq_getElem_cons h1, List.drop_eq_getElem_cons h2, w64 (by omega) (by omega)]
    refine Ev_true (by omega) (Ev_true (by omega) (Ev_true (by omega) (Ev_true (by omega) ?_)))
    by_cases he : l[i] = m[i]
    · have e : decide (l[i] :: l.drop (i + 1) = m[i] :: m.drop (i + 1)) = decide (l.drop (i + 1) = m.drop (i + 1)) :=
        decide_eq_decide.2 ⟨fun h => (List.cons.inj h).2, fun h => by rw [he, h]⟩
      rw [e]
      exact Ev_true he (ih (i + 1) (by omega))
    · have e : decide (l[i] :: l.drop (i + 1) = m[i] :: m.drop (i + 1)) = false := by
        rw [decide_eq_false_iff_not]
        intro h
        exact he (List.cons.inj h).1
      rw [e]
      exact Ev_false he Ev_some
theorem dSame_ev {l m : List Int} (hn : l.length ≤ 4611686018427387904) : Ev (fun k => laws_dSame.f k l m) (decide (l = m)) := by
  unfold laws_dSame.f
  by_cases h : l.length = m.length
  · exact Ev_true (by omega) (dSame_l0 h hn l.length 0 (by omega))
  · have e : decide (l = m) = false := by
      rw [decide_eq_false_iff_not]
      intro he
      exact h (by rw [he])
    rw [e]
    exact Ev_false (by omega) Ev_some
theorem dSame_same {l : List Int} (hn : l.length ≤ 4611686018427387904) : Ev (fun k => laws_dSame.f k l l) true := by
  have h := dSame_ev (m := l) hn
  simpa using h
theorem dLists_l0 {L : List (List Int)} (hn : L.length ≤ 4611686018427387904) (hx : ∀ x ∈ L, x.length ≤ 4611686018427387904) (d : Nat) : ∀ i : Nat, i + d = L.length → Ev (fun k => laws_dLists.l0 k L L (L.length : Int) (i : Int)) true := by
  induction d with
  | zero =>
    intro i hi
    refine Ev_succ ?_
    simp only [laws_dLists.l0]
    exact Ev_false (by omega) Ev_some
  | succ d ih =>
    intro i hi
    have h1 : i < L.length := by omega
    refine Ev_succ ?_
    simp only [laws_dLists.l0]
    rw [rdvRow h1, w64 (by omega) (by omega)]
    exact Ev_true (by omega) (Ev_true (by omega) (Ev_true (by omega) (Ev_true (by omega) (Ev.bind (dSame_same (hx _ (List.getElem_mem h1))) (Ev_true rfl (ih (i + 1) (by omega)))))))
theorem dLists_same {L : List (List Int)} (hn : L.length ≤ 4611686018427387904) (hx : ∀ x ∈ L, x.length ≤ 4611686018427387904) : Ev (fun k => laws_dLists.f k L L) true := by
  unfold laws_dLists.f
  exact Ev_true rfl (dLists_l0 hn hx L.length 0 (by omega))
end Go.Proofs.YtljlplohicffpaaGreat.Q
namespace Go.Proofs.YtljlplohicffpaaGreat.Q
open Go.RowKit Go.Proofs.YtljlplohicffpaaGreat.P Go.Proofs.YtljlplohicffpaaGreatW.PrintWords Go.Proofs.YtljlplohicffpaaGreatW.PrintLast Go.Proofs.YtljlplohicffpaaGreat.G
/-- It comes to something of which P holds. -/
def EvP {α : Type} (P : α → Prop) (g : Nat → Option α) : Prop := ∃ r, Ev g r ∧ P r
theorem EvP_succ {α : Type} {P : α → Prop} {g : Nat → Option α} (h : EvP P (fun k => g (k + 1))) : EvP P g := h.imp fun _ h => ⟨Ev_succ h.1, h.2⟩
theorem EvP_some {α : Type} {P : α → Prop} {a : α} (h : P a) : EvP P (fun _ => some a) := ⟨a, Ev_some, h⟩
theorem EvP_true {α : Type} {P : α → Prop} {c : Prop} [Decidable c] {f g : Nat → Option α} (hc : c) (h : EvP P f) : EvP P (fun k => if c then f k else g k) := h.imp fun _ h => ⟨Ev_true hc h.1, h.2⟩
theorem EvP_false {α : Type} {P : α → Prop} {c : Prop} [Decidable c] {f g : Nat → Option α} (hc : ¬ c) (h : EvP P g) : EvP P (fun k => if c then f k else g k) := h.imp fun _ h => ⟨Ev_false hc h.1, h.2⟩
theorem EvP_ite {α : Type} {P : α → Prop} {c : Prop} [Decidable c] {f g : Nat → Option α} (h1 : c → EvP P f) (h2 : ¬ c → EvP P g) : EvP P (fun k => if c then f k else g k) := by
  by_cases hc : c
  · exact EvP_true hc (h1 hc)
  · exact EvP_false hc (h2 hc)
theorem EvP_bind {α β : Type} {P : β → Prop} {g : Nat → Option α} {f : Nat → α → Option β} {a : α} (h : Ev g a) (k : EvP P (fun n => f n a)) : EvP P (fun n => (g n).bind (f n)) := k.imp fun _ k => ⟨Ev.bind h k.1, k.2⟩
theorem one_eq {l : List Int} (hl : Bytes l) (t s n : Int) (h0 : 0 ≤ t) (h1 : t ≤ 100000000000000) (hn : n ≤ 1000000000000) : ∃ v t' s', spec_l1Cur_one.f l t s n = some (v, t', s') ∧ t ≤ t' ∧ t' ≤ t + 2 := by
  obtain ⟨v, t', s', e, _, _, h2, h3⟩ := pick_eq hl t s n h0 h1 hn
  unfold spec_l1Cur_one.f
  rw [e]
  exact ⟨_, _, _, rfl, h2, h3⟩
theorem ext_part (s : ByteArray) {i : Nat} (h : i ≤ s.size) : (s.extract 0 i).size = i ∧ (s.extract i s.size).size = s.size - i := by
  rw [ByteArray.size_extract, ByteArray.size_extract]
  omega
theorem some_bind {α β : Type} (a : α) (f : α → Option β) : (some a).bind f = f a := rfl
def TrueP {α : Type} (_ : α) : Prop := True
theorem spoilt_l0 {l : List Int} (hl : Bytes l) {x2 : ByteArray} (h2 : 1 ≤ x2.size ∧ x2.size ≤ 100) : ∀ (d : Nat) (x : Int) (b : ByteArray) (t s : Int), x.toNat ≤ d → x ≤ 10 → b.size + d ≤ 1000 → 0 ≤ t → t + 6 * d ≤ 900000 → EvP TrueP (fun k => spec_l1Cur_spoilt.l0 k b x2 x l t s) := by
  have last : ∀ (b : ByteArray) (x t s : Int), EvP TrueP (fun k => spec_l1Cur_spoilt.j1 k b x2 x false l t s) := by
    intro b x t s
    refine EvP_succ ?_
    simp only [spec_l1Cur_spoilt.j1]
    exact EvP_false (by simp) (EvP_some trivial)
  intro d
  induction d with
  | zero =>
    intro x b t s hx _ _ _ _
    refine EvP_succ ?_
    simp only [spec_l1Cur_spoilt.l0]
    exact EvP_false (by omega) (last b x t s)
  | succ d ih =>
    intro x b t s hx hx1 hb h0 ht
    by_cases h : x > 0
    · refine EvP_succ ?_
      simp only [spec_l1Cur_spoilt.l0]
      refine EvP_true h ?_
      by_cases hs : (b.size : Int) > 0
      · rw [decide_eq_true hs]
        refine EvP_succ ?_
        simp only [spec_l1Cur_spoilt.j1]
        refine EvP_true (by first | rfl | trivial) ?_
        obtain ⟨v, t1, s1, e1, v0, v1, g1, g2⟩ := pick_eq hl t s (b.size : Int) h0 (by omega) (by omega)
        have v1 := v1 (by omega)
        obtain ⟨u, t2, s2, e2, u0, u1, g3, g4⟩ := pick_eq hl t1 s1 (x2.size : Int) (by omega) (by omega) (by omega)
        have u1 := u1 (by omega)
        obtain ⟨c, t3, s3, e3, _, _, g5, g6⟩ := pick_eq hl t2 s2 3 (by omega) (by omega) (by omega)
        rw [e1]
        simp only [some_bind]
        rw [e2]
        simp only [some_bind]
        rw [e3]
        simp only [some_bind]
        have p1 := ext_part b (i := v.toNat) (by omega)
        have p2 := ext_part b (i := (v + 1).toNat) (by omega)
        have p3 := strOfNums_size [bt x2 u]
        rw [List.length_singleton] at p3
        rw [w64 (x := v + 1) (by omega) (by omega), w64 (x := x - 1) (by omega) (by omega)]
        refine EvP_true u0 (EvP_true u1 (EvP_ite (fun _ => ?_) (fun _ => EvP_ite (fun _ => ?_) (fun _ => ?_))))
        · exact EvP_true v0 (EvP_true (by omega) (EvP_true (by omega) (EvP_true (by rw [ByteArray.size_append]; omega) (ih (x - 1) _ t3 s3 (by omega) (by omega) (by rw [ByteArray.size_append, ByteArray.size_append]; omega) (by omega) (by omega)))))
        · exact EvP_true v0 (EvP_true (by omega) (EvP_true (by omega) (EvP_true (by omega) (EvP_true (by omega) (EvP_true (by rw [ByteArray.size_append]; omega) (ih (x - 1) _ t3 s3 (by omega) (by omega) (by rw [ByteArray.size_append, ByteArray.size_append]; omega) (by omega) (by omega)))))))
        · exact EvP_true v0 (EvP_true (by omega) (EvP_true (by omega) (EvP_true (by omega) (EvP_true (by omega) (ih (x - 1) _ t3 s3 (by omega) (by omega) (by rw [ByteArray.size_append]; omega) (by omega) (by omega))))))
      · rw [decide_eq_false hs]
        exact last b x t s
    · refine EvP_succ ?_
      simp only [spec_l1Cur_spoilt.l0]
      exact EvP_false h (last b x t s)
theorem letters_j2 {l : List Int} (hl : Bytes l) {a b : Nat} (h1 : 1 ≤ a + b) (h2 : a + b ≤ 100) {t s : Int} (h0 : 0 ≤ t) (ht : t ≤ 1000) : EvP TrueP (fun k => spec_l1Cur_letters.j2 k (a : Int) (b : Int) l t s) := by
  refine EvP_succ ?_
  simp only [spec_l1Cur_letters.j2]
  obtain ⟨w, hw, hb⟩ := chWord_ev (a := a) (b := b) (by omega) (by omega)
  have hsz : w.size = a + b := by rw [← bytesOf_length, hb]; simp [chrW]
  obtain ⟨v, t1, s1, e1, v0, _, g1, g2⟩ := pick_eq hl t s 14 h0 (by omega) (by omega)
  rw [e1]
  simp only [some_bind]
  refine EvP_bind hw (EvP_ite (fun _ => ?_) (fun _ => EvP_ite (fun _ => ?_) (fun _ => EvP_ite (fun _ => ?_) (fun _ => EvP_ite (fun _ => EvP_some trivial) (fun _ => EvP_some trivial)))))
  · obtain ⟨c, t2, s2, e2, c0, c1, g3, g4⟩ := pick_eq hl t1 s1 2 (by omega) (by omega) (by omega)
    have c1 := c1 (by omega)
    obtain ⟨r, hr, _⟩ := spoilt_l0 hl (x2 := ⟨#[97, 98, 99]⟩) ⟨by decide, by decide⟩ 2 (wrap64 (1 + c)) w t2 s2 (by rw [w64 (by omega) (by omega)]; omega) (by rw [w64 (by omega) (by omega)]; omega) (by omega) (by omega) (by omega)
    refine EvP_bind (a := r) ?_ (EvP_some trivial)
    unfold spec_l1Cur_spoilt.f
    rw [e2]
    simp only [some_bind]
    exact hr
  · obtain ⟨c, t2, s2, e2, c0, c1, g3, g4⟩ := pick_eq hl t1 s1 (w.size : Int) (by omega) (by omega) (by omega)
    have c1 := c1 (by omega)
    rw [e2]
    simp only [some_bind]
    have p1 := ext_part w (i := c.toNat) (by omega)
    exact EvP_true c0 (EvP_true (by omega) (EvP_true (by omega) (EvP_some trivial)))
  · exact EvP_true (by omega) (EvP_some trivial)
theorem letters_j1 {l : List Int} (hl : Bytes l) {a b : Nat} (h2 : a + b ≤ 50) {t s : Int} (h0 : 0 ≤ t) (ht : t ≤ 1000) : EvP TrueP (fun k => spec_l1Cur_letters.j1 k (a : Int) (b : Int) l t s) := by
  refine EvP_succ ?_
  simp only [spec_l1Cur_letters.j1]
  rw [w64 (x := (a : Int) + b) (by omega) (by omega)]
  refine EvP_ite (fun h => ?_) (fun h => ?_)
  · exact letters_j2 hl (a := 1) (b := b) (by omega) (by omega) h0 ht
  · exact letters_j2 hl (a := a) (b := b) (by omega) (by omega) h0 ht
theorem draw_word {l : List Int} (hl : Bytes l) : ∃ w, Ev (fun k => spec_DrawTripleOfWord.f k l) w := by
  obtain ⟨n, t, s, e, hn, g1, g2⟩ := among_eq hl 0 0 ([5, 10, 20] : List Int) (by omega) (by omega) (by simp) (by simp)
  simp only [List.mem_cons, List.not_mem_nil, or_false] at hn
  obtain ⟨p, t1, s1, e1, p0, p1, g3, g4⟩ := pick_eq hl t s n g1 (by omega) (by omega)
  have p1 := p1 (by omega)
  have em : spec_l1Most.f 1 (wrap64 (n - p)) = some (n - p) := by
    rw [w64 (by omega) (by omega)]
    unfold spec_l1Most.f
    by_cases c : (1 : Int) > n - p
    · omega
    · rw [if_neg c]
  obtain ⟨q, t2, s2, e2, q0, q1, g5, g6⟩ := pick_eq hl t1 s1 (n - p) (by omega) (by omega) (by omega)
  have q1 := q1 (by omega)
  obtain ⟨a, rfl⟩ := Int.eq_ofNat_of_zero_le p0
  obtain ⟨b, rfl⟩ := Int.eq_ofNat_of_zero_le q0
  have hL : EvP TrueP (fun k => spec_l1Cur_letters.f k l t s n) := by
    unfold spec_l1Cur_letters.f
    rw [e1]
    simp only [some_bind]
    rw [em]
    simp only [some_bind]
    rw [e2]
    simp only [some_bind]
    refine EvP_bind (foGcd_ev b a b (Nat.le_refl _) (by omega) (by omega)) (EvP_ite (fun hg => ?_) (fun _ => ?_))
    · obtain ⟨c, t3, s3, e3, g7, g8⟩ := one_eq hl t2 s2 6 (by omega) (by omega) (by omega)
      rw [e3]
      simp only [some_bind]
      refine EvP_succ ?_
      simp only [spec_l1Cur_letters.j0]
      refine EvP_ite (fun _ => EvP_false (by omega) ?_) (fun _ => letters_j1 hl (a := a) (b := b) (by omega) (by omega) (by omega))
      have ha : a / Nat.gcd a b ≤ a := Nat.div_le_self _ _
      have hb : b / Nat.gcd a b ≤ b := Nat.div_le_self _ _
      rw [div_cast, div_cast]
      generalize a / Nat.gcd a b = a' at ha ⊢
      generalize b / Nat.gcd a b = b' at hb ⊢
      rw [w64 (x := (a' : Int)) (by omega) (by omega), w64 (x := (b' : Int)) (by omega) (by omega)]
      exact letters_j1 hl (by omega) (by omega) (by omega)
    · refine EvP_succ ?_
      simp only [spec_l1Cur_letters.j0]
      exact EvP_false (by simp) (letters_j1 hl (a := a) (b := b) (by omega) (by omega) (by omega))
  obtain ⟨r, hr, _⟩ := hL
  refine ⟨r.1, ?_⟩
  unfold spec_DrawTripleOfWord.f
  refine Ev.bind (a := r.1) ?_ Ev_some
  unfold spec_DrawCohnMatrix.f
  rw [e]
  simp only [some_bind]
  exact Ev.bind hr Ev_some
/-- A triple as a list. -/
def tl (t : Nat × Nat × Nat) : List Int := [(t.1 : Int), (t.2.1 : Int), (t.2.2 : Int)]
def upB (t : Nat × Nat × Nat) : Bool := match spec_mkUp.f 30 (tl t) with
  | some L => decide (L.length ≤ 10) && L.all fun r => Mark.allT.any fun u => decide (tl u = r)
  | none => false
theorem up_all : Mark.allT.all upB = true := by decide +kernel
theorem up_ev {t : Nat × Nat × Nat} (h : t ∈ Mark.allT) : ∃ L, Ev (fun k => spec_mkUp.f k (tl t)) L ∧ L.length ≤ 10 ∧ ∀ r ∈ L, ∃ u ∈ Mark.allT, tl u = r := by
  have h1 := List.all_eq_true.1 up_all t h
  unfold upB at h1
  split at h1
  · rename_i L e
    rw [Bool.and_eq_true, decide_eq_true_iff] at h1
    refine ⟨L, Ev.of (fun k => spec_mkUp.mono _ k) e, h1.1, fun r hr => ?_⟩
    have h2 := List.all_eq_true.1 h1.2 r hr
    obtain ⟨u, hu, h3⟩ := List.any_eq_true.1 h2
    exact ⟨u, hu, of_decide_eq_true h3⟩
  · cases h1
theorem own_eq {l : List Int} (h : l.length < 17592186044416) : spec_l1Own.f l = some l := by
  unfold spec_l1Own.f
  simp only [some_bind, List.length_nil, Nat.zero_add, List.nil_append]
  rw [if_pos h]
theorem markov_l0 {l : List Int} (hl : Bytes l) : ∀ (d : Nat) (x : Int) (u : Nat × Nat × Nat) (t s : Int), u ∈ Mark.allT → x.toNat ≤ d → x ≤ 20 → 0 ≤ t → t + 2 * d ≤ 900000 → EvP (fun r : List Int × Int × Int => r.1.length ≤ 10) (fun k => spec_l1Cur_markov.l0 k (tl u) x l t s) := by
  have last : ∀ (x : Int) (u : Nat × Nat × Nat) (t s : Int), ¬ x > 0 → 0 ≤ t → t ≤ 900000 → EvP (fun r : List Int × Int × Int => r.1.length ≤ 10) (fun k => spec_l1Cur_markov.l0 k (tl u) x l t s) := by
    intro x u t s hx h0 ht
    have h3 : (tl u).length = 3 := rfl
    refine EvP_succ ?_
    simp only [spec_l1Cur_markov.l0]
    rw [own_eq (by omega)]
    simp only [some_bind]
    generalize tl u = v at h3 ⊢
    obtain ⟨c, t1, s1, e1, c0, c1, g1, g2⟩ := pick_eq hl t s 20 h0 (by omega) (by omega)
    rw [e1]
    simp only [some_bind]
    refine EvP_false hx (EvP_ite (fun _ => ?_) (fun _ => EvP_ite (fun _ => EvP_true (by omega) (EvP_some (by show (v ++ [1]).length ≤ 10; rw [List.length_append, List.length_singleton]; omega))) (fun _ => EvP_ite (fun _ => EvP_true (by omega) (EvP_true (by omega) (EvP_some (by show ((v.set _ _).set _ _).length ≤ 10; rw [List.length_set, List.length_set]; omega)))) (fun _ => EvP_some (by show v.length ≤ 10; omega)))))
    obtain ⟨i, t2, s2, e2, i0, i1, g3, g4⟩ := pick_eq hl t1 s1 3 (by omega) (by omega) (by omega)
    have i1 := i1 (by omega)
    rw [e2]
    simp only [some_bind]
    obtain ⟨y, t3, s3, e3, _⟩ := among_eq hl t2 s2 ([1, (-1), 1000000000] : List Int) (by omega) (by omega) (by simp) (by simp)
    rw [e3]
    simp only [some_bind]
    exact EvP_true i0 (EvP_true (by omega) (EvP_some (by show (v.set _ _).length ≤ 10; rw [List.length_set]; omega)))
  intro d
  induction d with
  | zero => exact fun x u t s _ hx _ h0 ht => last x u t s (by omega) h0 (by omega)
  | succ d ih =>
    intro x u t s hu hx hx1 h0 ht
    by_cases h : x > 0
    · obtain ⟨L, hL, hlen, hm⟩ := up_ev hu
      refine EvP_succ ?_
      simp only [spec_l1Cur_markov.l0]
      rw [w64 (x := x - 1) (by omega) (by omega)]
      refine EvP_true h (EvP_bind hL (EvP_ite (fun hp => ?_) (fun _ => ih (x - 1) u t s hu (by omega) (by omega) h0 (by omega))))
      obtain ⟨c, t1, s1, e1, c0, c1, g1, g2⟩ := pick_eq hl t s (L.length : Int) h0 (by omega) (by omega)
      have c1 := c1 (by omega)
      rw [e1]
      simp only [some_bind]
      refine EvP_true c0 (EvP_true c1 ?_)
      obtain ⟨i, rfl⟩ := Int.eq_ofNat_of_zero_le c0
      have hi : i < L.length := by omega
      have e : rd_L4 L (i : Int) = L[i] := by simp [rd_L4, List.getD_eq_getElem?_getD, List.getElem?_eq_getElem hi]
      obtain ⟨u2, hu2, e2⟩ := hm _ (List.getElem_mem hi)
      rw [e, ← e2]
      exact ih (x - 1) u2 t1 s1 hu2 (by omega) (by omega) (by omega) (by omega)
    · exact last x u t s h h0 (by omega)
theorem draw_triple {l : List Int} (hl : Bytes l) : ∃ x, Ev (fun k => spec_DrawWordOfTriple.f k l) x ∧ x.length ≤ 10 := by
  obtain ⟨n, t, s, e, hn, g1, g2⟩ := among_eq hl 0 0 ([0, 1, 2, 3, 4, 6, 9, 14] : List Int) (by omega) (by omega) (by simp) (by simp)
  simp only [List.mem_cons, List.not_mem_nil, or_false] at hn
  obtain ⟨r, hr, h10⟩ := markov_l0 hl 14 n (1, 1, 1) t s (by decide) (by omega) (by omega) g1 (by omega)
  refine ⟨r.1, ?_, h10⟩
  unfold spec_DrawWordOfTriple.f
  refine Ev.bind (a := r) ?_ Ev_some
  unfold spec_l1Cur_markov.f
  rw [e]
  simp only [some_bind]
  exact hr
end Go.Proofs.YtljlplohicffpaaGreat.Q
namespace Go.Proofs.YtljlplohicffpaaGreat.Q
open Go.RowKit Go.Proofs.YtljlplohicffpaaGreat.P Go.Proofs.YtljlplohicffpaaGreatW.PrintWords Go.Proofs.YtljlplohicffpaaGreatW.PrintLast Go.Proofs.YtljlplohicffpaaGreat.G
def det2 (L : List (List Int)) : Int := at2 L 0 0 * at2 L 1 1 - at2 L 0 1 * at2 L 1 0
theorem det2_step (M : List (List Int)) (hl : M.length = 2) (c : Int) : Cg (det2 (prodL M (cohnStep c))) (det2 M) := by
  have h := fun i j (hi : i < 2) (hj : j < 2) => prod_cg M (cohnStep c) (i := i) (j := j) (by omega) (by omega)
  rw [hl] at h
  have e : ∀ f : Nat → Int, sumZ f 2 = f 0 + f 1 := fun f => by simp [sumZ]
  simp only [e] at h
  unfold det2
  refine (((h 0 0 (by omega) (by omega)).mul (h 1 1 (by omega) (by omega))).add ((h 0 1 (by omega) (by omega)).mul (h 1 0 (by omega) (by omega))).neg).trans (.of_eq ?_)
  unfold cohnStep
  split
  · rw [show at2 [[5, 2], [2, 1]] 0 0 = 5 from rfl, show at2 [[5, 2], [2, 1]] 0 1 = 2 from rfl, show at2 [[5, 2], [2, 1]] 1 0 = 2 from rfl, show at2 [[5, 2], [2, 1]] 1 1 = 1 from rfl]
    grind
  · rw [show at2 [[2, 1], [1, 1]] 0 0 = 2 from rfl, show at2 [[2, 1], [1, 1]] 0 1 = 1 from rfl, show at2 [[2, 1], [1, 1]] 1 0 = 1 from rfl, show at2 [[2, 1], [1, 1]] 1 1 = 1 from rfl]
    grind
theorem cohn_det : ∀ (l : List Int) (M : List (List Int)), M.length = 2 → (cohnGo l M).2 = true → Cg (det2 (cohnGo l M).1) (det2 M)
  | [], _, _, _ => Cg.refl _
  | c :: l, M, hl, h2 => by
    unfold cohnGo at h2 ⊢
    by_cases hm : isMat (prodL M (cohnStep c)) = true
    · rw [if_pos hm] at h2 ⊢
      exact (cohn_det l _ ((rowsOf_length _ _ _).trans hl) h2).trans (det2_step M hl c)
    · rw [if_neg hm] at h2
      cases h2
def numL (l : List Int) : Int := at2 (cohnGo l (unitL 2)).1 0 1
def triL (l : List Int) : List Int := sort3 (numL (l.take (splitL l))) (numL (l.drop (splitL l))) (numL l)
def wordL (t l : List Int) : Bool := match impl_WordOfTriple.f 200 t with
  | some (s, b) => b && decide (bytesOf s = l)
  | none => false
def markL (t : List Int) : Bool := match impl_IsMarkov.f 20 t with
  | some b => b
  | none => false
def partsL (l : List Int) : Bool := isMat (prodL (cohnGo (l.take (splitL l)) (unitL 2)).1 (cohnGo (l.drop (splitL l)) (unitL 2)).1) && decide (prodL (cohnGo (l.take (splitL l)) (unitL 2)).1 (cohnGo (l.drop (splitL l)) (unitL 2)).1 = (cohnGo l (unitL 2)).1)
def goodL (l : List Int) : Bool := decide (trK (cohnGo l (unitL 2)).1 2 = 3 * numL l) && (decide (l.length ≤ 1) || (markL (triL l) && (wordL (triL l) l && (decide (rd (triL l) 2 = numL l) && partsL l))))
def chkG (n : Nat) : Bool := (List.range (n + 1)).all fun b => !(decide (Nat.gcd (n - b) b = 1)) || (!(fineL (chrW b n)) || goodL (chrW b n))
theorem good_a : (List.range 12).all chkG = true := by decide +kernel
theorem good_b : (List.range 29).all (fun i => chkG (12 + i)) = true := by decide +kernel
theorem good_all {l : List Int} (h : l.length ≤ 40) (hc : isChr l = true) (hf : fineL l = true) : goodL l = true := by
  unfold isChr at hc
  rw [Bool.and_eq_true, decide_eq_true_iff, decide_eq_true_iff] at hc
  have hle := cntL_le 98 l
  have hk : chkG l.length = true := by
    by_cases h1 : l.length < 12
    · exact List.all_eq_true.1 good_a _ (List.mem_range.2 h1)
    · have := List.all_eq_true.1 good_b (l.length - 12) (List.mem_range.2 (by omega))
      rwa [show 12 + (l.length - 12) = l.length from by omega] at this
  have h1 := List.all_eq_true.1 hk (cntL 98 l) (List.mem_range.2 (by omega))
  rw [hc.2, decide_eq_true hc.1, hf] at h1
  simpa using h1
def bothB (t : Nat × Nat × Nat) : Bool := match impl_WordOfTriple.f 200 (tl t), spec_WordOfTriple.f 200 (tl t) with
  | some (s, b), some (s', b') => (b == b') && (decide (bytesOf s = bytesOf s') && (!b || decide (tripleR s = (tl t, true))))
  | _, _ => false
theorem both_all : Mark.allT.all bothB = true := by decide +kernel
theorem both_ev {t : Nat × Nat × Nat} (h : t ∈ Mark.allT) : ∃ s s' b, Ev (fun k => impl_WordOfTriple.f k (tl t)) (s, b) ∧ Ev (fun k => spec_WordOfTriple.f k (tl t)) (s', b) ∧ bytesOf s = bytesOf s' ∧ (b = true → tripleR s = (tl t, true)) := by
  have h1 := List.all_eq_true.1 both_all t h
  unfold bothB at h1
  split at h1
  · rename_i s b s' b' e1 e2
    rw [Bool.and_eq_true, Bool.and_eq_true, beq_iff_eq, decide_eq_true_iff] at h1
    obtain ⟨rfl, h3, h4⟩ := h1
    refine ⟨s, s', b, Ev.of (fun k => impl_WordOfTriple.mono _ k) e1, Ev.of (fun k => spec_WordOfTriple.mono _ k) e2, h3, fun hb => ?_⟩
    subst hb
    simpa using h4
  · cases h1
end Go.Proofs.YtljlplohicffpaaGreat.Q

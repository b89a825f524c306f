/- Cohn matrices of letters, of both programs. -/
import Derived.Test.YtljlplohicffpaaTx1
import Derived.Test.YtljlplohicffpaaTx4
import Derived.Test.YtljlplohicffpaaTx5
import Derived.Test.YtljlplohicffpaaQUnit
import Derived.Test.YtljlplohicffpaaQGood
import Derived.Test.YtljlplohicffpaaGA
namespace Go.Proofs.Ytljlplohicffpaa.Q
open Go.RowKit Go.Proofs.Ytljlplohicffpaa.P Go.Proofs.YtljlplohicffpaaW.PrintWords Go.Proofs.YtljlplohicffpaaW.PrintLast Go.Proofs.Ytljlplohicffpaa.G

theorem toList_go (s : ByteArray) (d : Nat) : ∀ (i : Nat) (r : List UInt8), i + d = s.size → ByteArray.toList.loop s i r = r.reverse ++ s.data.toList.drop i := by
  induction d with
  | zero =>
    intro i r hi
    unfold ByteArray.toList.loop
    rw [if_neg (by omega), List.drop_of_length_le (by rw [Array.length_toList]; show s.size ≤ i; omega), List.append_nil]
  | succ d ih =>
    intro i r hi
    have h1 : i < s.data.toList.length := by rw [Array.length_toList]; show i < s.size; omega
    unfold ByteArray.toList.loop
    rw [if_pos (by omega), ih (i + 1) _ (by omega), List.drop_eq_getElem_cons h1]
    have e : s.get! i = s.data.toList[i] := by
      have h2 : i < s.data.size := by rw [Array.length_toList] at h1; exact h1
      show s.data[i]! = _
      rw [getElem!_pos s.data i h2]
      simp
    rw [e]
    simp
theorem toList_nil (s : ByteArray) : s.toList = ([] : List UInt8) ↔ s.size = 0 := by
  unfold ByteArray.toList
  rw [toList_go s s.size 0 [] (by omega)]
  simp only [List.reverse_nil, List.nil_append, List.drop_zero]
  rw [← List.length_eq_zero_iff, Array.length_toList]
  rfl
theorem bt_at {s : ByteArray} {i : Nat} (h : i < (bytesOf s).length) : bt s (i : Int) = (bytesOf s)[i] := by rw [← rd_bytesOf, rd_at h]
def lettersB (s : ByteArray) : Bool := decide (1 ≤ s.size) && isWordB s 97 98
theorem chLetters_l0 {s : ByteArray} (hs : s.size ≤ 40) (d : Nat) : ∀ i : Nat, i + d = s.size → Ev (fun k => spec_chLetters.l0 k s (i : Int)) (((bytesOf s).drop i).all (okL 97 98)) := by
  have hl := bytesOf_length s
  induction d with
  | zero =>
    intro i hi
    refine Ev_succ ?_
    simp only [spec_chLetters.l0]
    rw [List.drop_of_length_le (by omega)]
    exact Ev_false (by omega) Ev_some
  | succ d ih =>
    intro i hi
    have h1 : i < (bytesOf s).length := by omega
    refine Ev_succ ?_
    simp only [spec_chLetters.l0]
    rw [bt_at h1, List.drop_eq_getElem_cons h1, List.all_cons, w64 (x := (i : Int) + 1) (by omega) (by omega)]
    refine Ev_true (by omega) (Ev_true (by omega) ?_)
    have h := ih (i + 1) (by omega)
    by_cases ha : (bytesOf s)[i] = 97
    · have e : okL 97 98 (bytesOf s)[i] = true := by unfold okL; rw [decide_eq_true ha]; rfl
      rw [e, Bool.true_and]
      exact Ev_true ha h
    · refine Ev_false ha ?_
      by_cases hb : (bytesOf s)[i] = 98
      · have e : okL 97 98 (bytesOf s)[i] = true := by unfold okL; rw [decide_eq_true hb, Bool.or_true]
        rw [e, Bool.true_and]
        exact Ev_true hb h
      · have e : okL 97 98 (bytesOf s)[i] = false := by unfold okL; rw [decide_eq_false ha, decide_eq_false hb]; rfl
        rw [e, Bool.false_and]
        exact Ev_false hb Ev_some
theorem chLetters_ev (s : ByteArray) : Ev (fun k => spec_chLetters.f k s) (lettersB s) := by
  unfold spec_chLetters.f lettersB isWordB
  rw [allIn_eq]
  simp only [Option.bind_some]
  by_cases h : 1 ≤ s.size
  · by_cases h2 : s.size ≤ 40
    · rw [decide_eq_true h, decide_eq_true h2, Bool.true_and, Bool.true_and]
      exact Ev_true (by simp; omega) (chLetters_l0 h2 s.size 0 (by omega))
    · rw [decide_eq_false h2, Bool.false_and, Bool.and_false]
      exact Ev_false (by simp; omega) Ev_some
  · rw [decide_eq_false h, Bool.false_and]
    exact Ev_false (by simp; omega) Ev_some
theorem isLetters_eq (s : ByteArray) : impl_IsLetters.f s = some (lettersB s) := by
  unfold impl_IsLetters.f impl_isWord.f lettersB
  by_cases h : s.size = 0
  · rw [if_pos ((toList_nil s).2 h), decide_eq_false (by omega), Bool.false_and]
  · rw [if_neg (fun e => h ((toList_nil s).1 e)), decide_eq_true (by omega), Bool.true_and]
    rfl

def cohnStep (c : Int) : List (List Int) := if c = 98 then [[5, 2], [2, 1]] else [[2, 1], [1, 1]]
/-- Both programs' loop over the letters. -/
def cohnGo : List Int → List (List Int) → List (List Int) × Bool
  | [], M => (M, true)
  | c :: l, M => if isMat (prodL M (cohnStep c)) = true then cohnGo l (prodL M (cohnStep c)) else ([], false)
theorem cohnStep_sq (c : Int) : isSq (cohnStep c) = true ∧ (cohnStep c).length = 2 := by
  unfold cohnStep
  split <;> exact ⟨rfl, rfl⟩
theorem prodL_sq {L M : List (List Int)} (h : isSq L = true) : isSq (prodL L M) = true ∧ (prodL L M).length = L.length := ⟨isSq_rowsOf _ (isSq_le h), rowsOf_length _ _ _⟩
theorem cohnGo_ok : ∀ (l : List Int) (M : List (List Int)), isSq M = true → M.length = 2 → ((cohnGo l M).2 = true → isSq (cohnGo l M).1 = true ∧ (cohnGo l M).1.length = 2) ∧ ((cohnGo l M).2 = false → (cohnGo l M).1 = [])
  | [], M, h, h2 => ⟨fun _ => ⟨h, h2⟩, (fun e => by cases e)⟩
  | c :: l, M, h, h2 => by
    have hp := prodL_sq (M := cohnStep c) h
    unfold cohnGo
    by_cases hm : isMat (prodL M (cohnStep c)) = true
    · rw [if_pos hm]
      exact cohnGo_ok l _ hp.1 (by omega)
    · rw [if_neg hm]
      exact ⟨(fun e => by cases e), fun _ => rfl⟩
theorem chMatrix_l0 {s : ByteArray} (hs : s.size ≤ 1000) (d : Nat) : ∀ (i : Nat) (M : List (List Int)), i + d = s.size → isSq M = true → M.length = 2 → Ev (fun k => spec_chMatrix.l0 k s (i : Int) M) (cohnGo ((bytesOf s).drop i) M) := by
  have hl := bytesOf_length s
  induction d with
  | zero =>
    intro i M hi _ _
    refine Ev_succ ?_
    simp only [spec_chMatrix.l0]
    rw [List.drop_of_length_le (by omega)]
    exact Ev_false (by omega) Ev_some
  | succ d ih =>
    intro i M hi hM hM2
    have h1 : i < (bytesOf s).length := by omega
    have hc := cohnStep_sq (bytesOf s)[i]
    have hp := prodL_sq (M := cohnStep (bytesOf s)[i]) hM
    have hj : Ev (fun k => spec_chMatrix.j1 k s (i : Int) M (cohnStep (bytesOf s)[i])) (cohnGo ((bytesOf s).drop i) M) := by
      refine Ev_succ ?_
      simp only [spec_chMatrix.j1]
      rw [List.drop_eq_getElem_cons h1, w64 (x := (i : Int) + 1) (by omega) (by omega)]
      refine Ev.bind (foTimes_ev hM hc.1 (by omega)) (Ev.bind (foGood_ev (fits_sq hp.1)) ?_)
      unfold cohnGo
      by_cases hm : isMat (prodL M (cohnStep (bytesOf s)[i])) = true
      · rw [if_pos hm]
        exact Ev_true hm (ih (i + 1) _ (by omega) hp.1 (by omega))
      · rw [if_neg hm]
        exact Ev_false hm Ev_some
    refine Ev_succ ?_
    simp only [spec_chMatrix.l0]
    rw [bt_at h1]
    refine Ev_true (by omega) (Ev_true (by omega) ?_)
    unfold cohnStep at hj
    by_cases hb : (bytesOf s)[i] = 98
    · rw [if_pos hb] at hj
      exact Ev_true hb hj
    · rw [if_neg hb] at hj
      exact Ev_false hb hj
theorem chMatrix_ev {s : ByteArray} (hs : s.size ≤ 1000) : Ev (fun k => spec_chMatrix.f k s) (cohnGo (bytesOf s) (unitL 2)) := by
  unfold spec_chMatrix.f
  refine Ev.bind (foUnit_ev (n := 2) (by omega)) ?_
  exact chMatrix_l0 hs s.size 0 (unitL 2) (by omega) (isSq_rowsOf _ (by omega)) (rowsOf_length _ _ _)
theorem times_eq {L M : List (List Int)} (hL : isSq L = true) (hM : isSq M = true) (h : L.length = M.length) : impl_Matrix_times.f L M = some (prodL L M) := by
  unfold impl_Matrix_times.f
  rw [if_pos hL, if_pos hM, if_pos h]
theorem cohnMatrix_l0 {s : ByteArray} (hs : s.size ≤ 1000) (d : Nat) : ∀ (i : Nat) (M : List (List Int)), i + d = s.size → isSq M = true → M.length = 2 → Ev (fun k => impl_CohnMatrix.l0 k s (s.size : Int) (i : Int) M) (cohnGo ((bytesOf s).drop i) M) := by
  have hl := bytesOf_length s
  induction d with
  | zero =>
    intro i M hi _ _
    refine Ev_succ ?_
    simp only [impl_CohnMatrix.l0]
    rw [List.drop_of_length_le (by omega)]
    exact Ev_false (by omega) Ev_some
  | succ d ih =>
    intro i M hi hM hM2
    have h1 : i < (bytesOf s).length := by omega
    have hc := cohnStep_sq (bytesOf s)[i]
    have hp := prodL_sq (M := cohnStep (bytesOf s)[i]) hM
    have hj : Ev (fun k => impl_CohnMatrix.j1 k s (s.size : Int) (i : Int) M (cohnStep (bytesOf s)[i])) (cohnGo ((bytesOf s).drop i) M) := by
      refine Ev_succ ?_
      simp only [impl_CohnMatrix.j1]
      rw [List.drop_eq_getElem_cons h1, w64 (x := (i : Int) + 1) (by omega) (by omega), times_eq hM hc.1 (by omega)]
      simp only [Option.bind_some, impl_IsMatrix.f]
      unfold cohnGo
      by_cases hm : isMat (prodL M (cohnStep (bytesOf s)[i])) = true
      · rw [if_pos hm]
        exact Ev_true hm (ih (i + 1) _ (by omega) hp.1 (by omega))
      · rw [if_neg hm]
        exact Ev_false hm Ev_some
    refine Ev_succ ?_
    simp only [impl_CohnMatrix.l0]
    rw [bt_at h1]
    refine Ev_true (by omega) (Ev_true (by omega) (Ev_true (by omega) ?_))
    unfold cohnStep at hj
    by_cases hb : (bytesOf s)[i] = 98
    · rw [if_pos hb] at hj
      exact Ev_true hb hj
    · rw [if_neg hb] at hj
      exact Ev_false hb hj
theorem letters_le {s : ByteArray} (h : lettersB s = true) : 1 ≤ s.size ∧ s.size ≤ 40 := by
  unfold lettersB isWordB at h
  rw [Bool.and_eq_true, Bool.and_eq_true, decide_eq_true_iff, decide_eq_true_iff] at h
  exact ⟨h.1, h.2.1⟩
/-- What both programs answer. -/
def cohnR (s : ByteArray) : List (List Int) × Bool := if lettersB s = true then cohnGo (bytesOf s) (unitL 2) else ([], false)
theorem cohnR_ok (s : ByteArray) : ((cohnR s).2 = true → isSq (cohnR s).1 = true ∧ (cohnR s).1.length = 2) ∧ ((cohnR s).2 = false → (cohnR s).1 = []) := by
  unfold cohnR
  split
  · exact cohnGo_ok _ _ (isSq_rowsOf _ (by omega)) (rowsOf_length _ _ _)
  · exact ⟨(fun e => by cases e), fun _ => rfl⟩
theorem foCohn_ev (s : ByteArray) : Ev (fun k => spec_CohnMatrix.f k s) (cohnR s) := by
  unfold spec_CohnMatrix.f cohnR
  refine Ev.bind (chLetters_ev s) ?_
  by_cases h : lettersB s = true
  · rw [if_pos h]
    exact Ev_true h (Ev.bind (f := fun _ t => some (t.1, t.2)) (chMatrix_ev (by have := letters_le h; omega)) Ev_some)
  · rw [if_neg h]
    exact Ev_false h Ev_some
theorem cohn_ev (s : ByteArray) : Ev (fun k => impl_CohnMatrix.f k s) (cohnR s) := by
  unfold impl_CohnMatrix.f cohnR
  rw [isLetters_eq]
  simp only [Option.bind_some]
  by_cases h : lettersB s = true
  · rw [if_pos h]
    have hs := letters_le h
    refine Ev_true h ?_
    have e : impl_unit.f 2 = some (unitL 2) := by
      unfold impl_unit.f
      rw [if_pos (by omega), if_pos (by omega)]
      rfl
    rw [e]
    simp only [Option.bind_some]
    exact cohnMatrix_l0 (by omega) s.size 0 (unitL 2) (by omega) (isSq_rowsOf _ (by omega)) (rowsOf_length _ _ _)
  · rw [if_neg h]
    exact Ev_false h Ev_some
end Go.Proofs.Ytljlplohicffpaa.Q

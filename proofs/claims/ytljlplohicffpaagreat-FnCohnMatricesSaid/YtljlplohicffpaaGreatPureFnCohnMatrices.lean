/- Cohn matrices of words, triples of words and words of triples. -/
import Derived.Test.YtljlplohicffpaaGreatKx1
import Derived.Test.YtljlplohicffpaaGreatKx2
import Derived.Test.YtljlplohicffpaaGreatKx3
import Derived.Test.YtljlplohicffpaaGreatKx5
import Derived.Test.YtljlplohicffpaaGreatKx7
import Derived.Test.YtljlplohicffpaaGreatKx15
import Derived.Test.YtljlplohicffpaaGreatKx16
import Derived.Test.YtljlplohicffpaaGreatKx17
import Derived.Test.YtljlplohicffpaaGreatKx18
import Derived.Test.YtljlplohicffpaaGreatKx19
import Derived.Test.YtljlplohicffpaaGreatKx21
import Derived.Test.YtljlplohicffpaaGreatKx24
import Derived.Test.YtljlplohicffpaaGreatKx25
import Derived.Test.YtljlplohicffpaaGreatKx26
import Derived.Test.YtljlplohicffpaaGreatQKB
import Derived.Test.YtljlplohicffpaaGreatQKA
namespace Go.Proofs.YtljlplohicffpaaGreat.Pure
open Go.RowKit Go.Proofs.YtljlplohicffpaaGreat.P Go.Proofs.YtljlplohicffpaaGreatW.PrintWords Go.Proofs.YtljlplohicffpaaGreatW.PrintLast Go.Proofs.YtljlplohicffpaaGreat.Q Go.Proofs.YtljlplohicffpaaGreat.G
theorem dMatrix_same {M : List (List Int)} (h : Fits M) : Ev (fun k => laws_dMatrix.f k M M) true := by
  unfold laws_dMatrix.f
  exact Ev.bind (dLists_same (by have := h.1; omega) (fun x hx => by have := h.2 x hx; omega)) Ev_some
theorem mult_eq (L M : List (List Int)) : impl_MultiplyMatrices.f L M = some (multR L M) := by
  unfold impl_MultiplyMatrices.f multR
  rw [areAlike_eq]
  simp only [Option.bind_some]
  by_cases h : alikeB L M = true
  · obtain ⟨h1, h2, h3⟩ := alikeB_iff.1 h
    rw [if_pos h, if_pos h]
    unfold impl_Matrix_times.f impl_checked.f impl_IsMatrix.f
    rw [if_pos (isMat_sq h1), if_pos (isMat_sq h2), if_pos h3]
    simp only [Option.bind_some]
    by_cases h4 : isMat (prodL L M) = true
    · rw [if_pos h4, if_pos h4]; rfl
    · rw [if_neg h4, if_neg h4]; rfl
  · rw [if_neg h, if_neg h]
theorem cohnR_fits (w : ByteArray) : Fits (cohnR w).1 := by
  by_cases h : (cohnR w).2 = true
  · exact fits_sq ((cohnR_ok w).1 h).1
  · rw [(cohnR_ok w).2 (Bool.eq_false_iff.2 h)]
    exact ⟨by simp, fun x hx => by cases hx⟩
theorem cohnR_go {w : ByteArray} (h : (cohnR w).2 = true) : lettersB w = true ∧ cohnR w = cohnGo (bytesOf w) (unitL 2) ∧ fineL (bytesOf w) = true := by
  unfold cohnR at h ⊢
  by_cases hl : lettersB w = true
  · rw [if_pos hl] at h ⊢
    exact ⟨hl, rfl, h⟩
  · rw [if_neg hl] at h
    cases h
theorem cohnR_mat {w : ByteArray} (h : (cohnR w).2 = true) : isMat (cohnR w).1 = true := by
  obtain ⟨_, e, f⟩ := cohnR_go h
  rw [e]
  exact cohnGo_mat _ _ rfl f
theorem numberR_ok (w : ByteArray) : (numberR w).2 = (cohnR w).2 := by
  unfold numberR
  by_cases h : (cohnR w).2 = true
  · rw [if_pos h, h]
  · rw [if_neg h]
    exact (Bool.eq_false_iff.2 h).symm
theorem numberR_val {w : ByteArray} (h : (cohnR w).2 = true) : (numberR w).1 = at2 (cohnR w).1 0 1 := by
  unfold numberR
  rw [if_pos h]
def chrR (w : ByteArray) : Bool × Bool := if lettersB w = true then (isChr (bytesOf w), true) else (false, false)
theorem isChr_ev (w : ByteArray) : Ev (fun k => impl_IsChristoffel.f k w) (chrR w) := by
  unfold impl_IsChristoffel.f chrR
  rw [isLetters_eq]
  refine Ev.bind Ev_some ?_
  by_cases h : lettersB w = true
  · have := letters_le h
    rw [if_pos h]
    exact Ev_true h (Ev.bind (isChristoffel_ev (by omega) (lettersB_all h)) Ev_some)
  · rw [if_neg h]
    exact Ev_false h Ev_some
theorem sort3_len (a b c : Int) : (sort3 a b c).length = 3 := by
  unfold sort3
  repeat' split
  all_goals rfl
/-- What is known of a word that has a triple. -/
theorem triple_parts {w : ByteArray} (h : (tripleR w).2 = true) : (cohnR w).2 = true ∧ isChr (bytesOf w) = true ∧ 2 ≤ w.size ∧ (tripleR w).1 = triL (bytesOf w) ∧ (factorsR w).2.2 = true ∧
    ((cohnR (factorsR w).1).2 = true ∧ cohnR (factorsR w).1 = cohnGo ((bytesOf w).take (splitL (bytesOf w))) (unitL 2)) ∧ ((cohnR (factorsR w).2.1).2 = true ∧ cohnR (factorsR w).2.1 = cohnGo ((bytesOf w).drop (splitL (bytesOf w))) (unitL 2)) := by
  have hl := bytesOf_length w
  have hh : (factorsR w).2.2 = true ∧ (cohnR w).2 = true := by
    unfold tripleR at h
    by_cases c : ((factorsR w).2.2 && (cohnR w).2) = true
    · rw [Bool.and_eq_true] at c
      exact c
    · rw [if_neg c] at h
      cases h
  obtain ⟨hfac, hc⟩ := hh
  obtain ⟨_, ego, hfine⟩ := cohnR_go hc
  have h0 : (lettersB w && (decide (2 ≤ w.size) && isChr (bytesOf w))) = true := by
    rw [← Bool.not_eq_false]
    intro c
    unfold factorsR at hfac
    rw [c] at hfac
    cases hfac
  have efac : factorsR w = facAt w (splitL (bytesOf w)) := by
    unfold factorsR
    rw [if_pos h0]
  rw [Bool.and_eq_true, Bool.and_eq_true, decide_eq_true_iff] at h0
  obtain ⟨h1, h2, h3⟩ := h0
  have h40 := letters_le h1
  have hw := lettersB_all h1
  have hA := chr_all (l := bytesOf w) (by omega) (by omega) h3
  have h5 : splitL (bytesOf w) < 1 + ((bytesOf w).length - 1) ∨ splitL (bytesOf w) = 0 := splitL_le (bytesOf w) ((bytesOf w).length - 1) 1
  have hk := hA.1
  have hF := hA.2 hfine
  have htri : (tripleR w).1 = sort3 (numberR (factorsR w).1).1 (numberR (factorsR w).2.1).1 (numberR w).1 := by
    unfold tripleR
    rw [if_pos (by rw [hfac, hc]; rfl)]
  have eu : (factorsR w).1 = w.extract 0 (splitL (bytesOf w)) := by
    rw [efac]
    unfold facAt
    rw [if_neg (by omega)]
  have ev : (factorsR w).2.1 = w.extract (splitL (bytesOf w)) w.size := by
    rw [efac]
    unfold facAt
    rw [if_neg (by omega)]
  have b1 := bytes_take w (splitL (bytesOf w))
  have b2 := bytes_drop w (splitL (bytesOf w))
  have z1 : (w.extract 0 (splitL (bytesOf w))).size = splitL (bytesOf w) := by rw [← bytesOf_length, b1, List.length_take]; omega
  have z2 : (w.extract (splitL (bytesOf w)) w.size).size = w.size - splitL (bytesOf w) := by rw [← bytesOf_length, b2, List.length_drop]; omega
  have l1 : lettersB (w.extract 0 (splitL (bytesOf w))) = true := letters_part h1 (by omega) (by omega) (by rw [b1]; exact all_take hw _)
  have l2 : lettersB (w.extract (splitL (bytesOf w)) w.size) = true := letters_part h1 (by omega) (by omega) (by rw [b2]; exact all_drop hw _)
  have cu : cohnR (factorsR w).1 = cohnGo ((bytesOf w).take (splitL (bytesOf w))) (unitL 2) := by
    rw [eu]
    unfold cohnR
    rw [if_pos l1, b1]
  have cv : cohnR (factorsR w).2.1 = cohnGo ((bytesOf w).drop (splitL (bytesOf w))) (unitL 2) := by
    rw [ev]
    unfold cohnR
    rw [if_pos l2, b2]
  have ou : (cohnR (factorsR w).1).2 = true := by rw [cu]; exact hF.1
  have ov : (cohnR (factorsR w).2.1).2 = true := by rw [cv]; exact hF.2
  refine ⟨hc, h3, h2, ?_, hfac, ⟨ou, cu⟩, ⟨ov, cv⟩⟩
  rw [htri, numberR_val ou, numberR_val ov, numberR_val hc, cu, cv, ego]
  rfl
theorem ne_bytes {s t : ByteArray} (h : bytesOf s = bytesOf t) : (s.toList != t.toList) = false := by
  have := same_bytes s t
  rw [decide_eq_true h] at this
  unfold bne
  rw [this]
  rfl
theorem refused {x : List Int} (hs : Ev (fun k => spec_mkGood.f k x) false) (hi : Ev (fun k => impl_IsMarkov.f k x) false) : Ev (fun k => spec_WordOfTriple.f k x) ((⟨#[]⟩ : ByteArray), false) ∧ Ev (fun k => impl_WordOfTriple.f k x) ((⟨#[]⟩ : ByteArray), false) := by
  constructor
  · unfold spec_WordOfTriple.f
    refine Ev.bind (a := ((⟨#[]⟩ : ByteArray), false)) ?_ (Ev_false (by simp) Ev_some)
    unfold spec_MarkovWord.f
    refine Ev.bind hs (Ev_false (by simp) (Ev_succ ?_))
    simp only [spec_MarkovWord.j0]
    exact Ev_true (by simp) Ev_some
  · unfold impl_WordOfTriple.f
    refine Ev.bind (a := (([] : List (List Int)), false)) ?_ (Ev_false (by simp) (Ev_succ ?_))
    · unfold impl_MarkovPath.f
      exact Ev.bind hi (Ev_false (by simp) Ev_some)
    · simp only [impl_WordOfTriple.j0]
      exact Ev_true (by simp) Ev_some
theorem law_j5 {l : List Int} (hl : Bytes l) : Ev (fun k => laws_FnCohnMatrices.j5 k l) true := by
  obtain ⟨x, hd, h10⟩ := draw_triple hl
  refine Ev_succ ?_
  simp only [laws_FnCohnMatrices.j5]
  refine Ev.bind hd ?_
  have hfacts : ∃ s s' b, Ev (fun k => impl_WordOfTriple.f k x) (s, b) ∧ Ev (fun k => spec_WordOfTriple.f k x) (s', b) ∧ bytesOf s = bytesOf s' ∧ (b = true → tripleR s = (x, true)) := by
    obtain ⟨r, hr, hs, hi⟩ := markov_ev (l := x) (by omega)
    cases r with
    | true =>
      obtain ⟨a, b, c, rfl, h1, h2, h3, h4, h5⟩ := hr rfl
      obtain ⟨p, rfl⟩ := Int.eq_ofNat_of_zero_le (show 0 ≤ a by omega)
      obtain ⟨q, rfl⟩ := Int.eq_ofNat_of_zero_le (show 0 ≤ b by omega)
      obtain ⟨z, rfl⟩ := Int.eq_ofNat_of_zero_le (show 0 ≤ c by omega)
      have hm := Mark.all_triples z p q z (Nat.le_refl _) (by omega) (by omega) (by omega) (by omega) (by exact_mod_cast h5)
      exact both_ev hm
    | false =>
      obtain ⟨h1, h2⟩ := refused hs hi
      exact ⟨_, _, false, h2, h1, rfl, fun h => by cases h⟩
  obtain ⟨s, s', b, h1, h2, h3, h4⟩ := hfacts
  refine Ev.bind h1 (Ev.bind h2 (Ev_false (by simp) ?_))
  rw [show ((s, b).1.toList != (s', b).1.toList) = false from ne_bytes h3]
  refine Ev_succ ?_
  simp only [laws_FnCohnMatrices.j6]
  refine Ev_false (by simp) ?_
  cases b with
  | false => exact Ev_false (by simp) Ev_some
  | true =>
    have ht := h4 rfl
    have hte := triple_ev s
    rw [ht] at hte
    exact Ev_true rfl (Ev.bind hte (Ev_true rfl (Ev.bind (dSame_same (by show x.length ≤ _; omega)) Ev_some)))
theorem law_j2 {l : List Int} (hl : Bytes l) (w : ByteArray) : Ev (fun k => laws_FnCohnMatrices.j2 k l w (numberR w).1 (tripleR w).1 (tripleR w).2 (cohnR w).1) true := by
  refine Ev_succ ?_
  simp only [laws_FnCohnMatrices.j2]
  by_cases h : (tripleR w).2 = true
  · obtain ⟨hc, h3, h2, et, hfac, ⟨ou, cu⟩, ⟨ov, cv⟩⟩ := triple_parts h
    obtain ⟨hlet, ego, hfine⟩ := cohnR_go hc
    have h40 := letters_le hlet
    have hlen := bytesOf_length w
    have hg := good_all (l := bytesOf w) (by omega) h3 hfine
    unfold goodL at hg
    rw [decide_eq_false (show ¬ (bytesOf w).length ≤ 1 by omega), Bool.false_or, Bool.and_eq_true, Bool.and_eq_true, Bool.and_eq_true, Bool.and_eq_true, decide_eq_true_iff, decide_eq_true_iff] at hg
    obtain ⟨_, hmk, hwd, hrd, hpt⟩ := hg
    have e3 : (triL (bytesOf w)).length = 3 := sort3_len _ _ _
    have en : (numberR w).1 = numL (bytesOf w) := by
      rw [numberR_val hc, ego]
      rfl
    refine Ev_true h ?_
    rw [et, en]
    have hW : ∃ s, Ev (fun k => impl_WordOfTriple.f k (triL (bytesOf w))) (s, true) ∧ bytesOf s = bytesOf w := by
      unfold wordL at hwd
      split at hwd
      · rename_i s b e
        rw [Bool.and_eq_true, decide_eq_true_iff] at hwd
        obtain ⟨rfl, h5⟩ := hwd
        exact ⟨s, Ev.of (fun k => impl_WordOfTriple.mono _ k) e, h5⟩
      · cases hwd
    have hM : Ev (fun k => impl_IsMarkov.f k (triL (bytesOf w))) true := by
      unfold markL at hmk
      split at hmk
      · rename_i b e
        subst hmk
        exact Ev.of (fun k => impl_IsMarkov.mono _ k) e
      · cases hmk
    obtain ⟨s, hs, hb⟩ := hW
    refine Ev.bind hs (Ev.bind hM (Ev_true rfl (Ev_true (by omega) (Ev_true hrd (Ev_true rfl ?_)))))
    rw [show ((s, true).1.toList != w.toList) = false from ne_bytes hb]
    refine Ev_succ ?_
    simp only [laws_FnCohnMatrices.j3]
    refine Ev_false (by simp) (Ev.bind (factors_ev w) (Ev.bind (cohn_ev _) (Ev.bind (cohn_ev _) ?_)))
    rw [mult_eq]
    simp only [Option.bind_some]
    unfold partsL at hpt
    rw [Bool.and_eq_true, decide_eq_true_iff, ← cu, ← cv, ← ego] at hpt
    have hA := cohnR_mat ou
    have hB := cohnR_mat ov
    have lA := ((cohnR_ok _).1 ou).2
    have lB := ((cohnR_ok _).1 ov).2
    have hmul : multR (cohnR (factorsR w).1).1 (cohnR (factorsR w).2.1).1 = ((cohnR w).1, true) := by
      unfold multR
      rw [if_pos (alikeB_iff.2 ⟨hA, hB, by rw [lA, lB]⟩), if_pos hpt.1, hpt.2]
    rw [hmul]
    refine Ev_true hfac (Ev_true ou (Ev_true ov (Ev_true rfl (Ev.bind (dMatrix_same (cohnR_fits w)) ?_))))
    refine Ev_succ ?_
    simp only [laws_FnCohnMatrices.j4]
    exact Ev_false (by simp) (law_j5 hl)
  · exact Ev_false h (law_j5 hl)
theorem law_j1 {l : List Int} (hl : Bytes l) (w : ByteArray) : Ev (fun k => laws_FnCohnMatrices.j1 k l w (numberR w).1 (tripleR w).1 (tripleR w).2 false (cohnR w).1) true := by
  refine Ev_succ ?_
  simp only [laws_FnCohnMatrices.j1]
  exact Ev_false (by simp) (law_j2 hl w)
theorem law_j0 {l : List Int} (hl : Bytes l) (w : ByteArray) : Ev (fun k => laws_FnCohnMatrices.j0 k l w (cohnR w).2 (numberR w).1 (tripleR w).1 (tripleR w).2 false (cohnR w).1) true := by
  refine Ev_succ ?_
  simp only [laws_FnCohnMatrices.j0]
  refine Ev_false (by simp) (Ev.bind (isChr_ev w) ?_)
  by_cases hc : (cohnR w).2 = true
  · obtain ⟨hlet, ego, hfine⟩ := cohnR_go hc
    obtain ⟨hsq, h2⟩ := (cohnR_ok w).1 hc
    have hmat := cohnR_mat hc
    have hn := numberR_val hc
    have hbd := numberR_bd w
    have hdet : Cg (det2 (cohnR w).1) 1 := by
      rw [ego]
      exact (cohn_det _ _ rfl hfine).trans (.of_eq rfl)
    have r0 : (rd_L4 (cohnR w).1 0).length = 2 := row_len (i := 0) hsq h2 (by omega)
    have r1 : (rd_L4 (cohnR w).1 1).length = 2 := row_len (i := 1) hsq h2 (by omega)
    have e00 : rd (rd_L4 (cohnR w).1 0) 0 = at2 (cohnR w).1 0 0 := rd2 _ 0 0
    have e01 : rd (rd_L4 (cohnR w).1 0) 1 = at2 (cohnR w).1 0 1 := rd2 _ 0 1
    have e10 : rd (rd_L4 (cohnR w).1 1) 0 = at2 (cohnR w).1 1 0 := rd2 _ 1 0
    have e11 : rd (rd_L4 (cohnR w).1 1) 1 = at2 (cohnR w).1 1 1 := rd2 _ 1 1
    have htr : traceR (cohnR w).1 = (trK (cohnR w).1 2, true) := by
      unfold traceR
      rw [if_pos hmat, h2]
    have hone : wrap64 (wrap64 (at2 (cohnR w).1 0 0 * at2 (cohnR w).1 1 1) - wrap64 (at2 (cohnR w).1 0 1 * at2 (cohnR w).1 1 0)) = 1 := by
      have h := (((Cg.w (at2 (cohnR w).1 0 0 * at2 (cohnR w).1 1 1)).add (Cg.w (at2 (cohnR w).1 0 1 * at2 (cohnR w).1 1 0)).neg).trans hdet).eq
      rw [← Int.sub_eq_add_neg] at h
      rw [h]
      exact w64 (by omega) (by omega)
    have hch : chrR w = (isChr (bytesOf w), true) := by
      unfold chrR
      rw [if_pos hlet]
    have htrace := trace_ev (cohnR w).1
    rw [htr] at htrace
    rw [e00, e01, e10, e11, hch, hn]
    refine Ev_true hc (Ev.bind htrace (Ev_true rfl (Ev_true (by omega) (Ev_true (by omega) (Ev_true rfl (Ev_true (by omega) (Ev_true (by omega) (Ev_true (by omega) (Ev_true (by omega) (Ev_true hone (Ev_true rfl ?_))))))))))) 
    rw [← hn]
    by_cases hi : isChr (bytesOf w) = true
    · refine Ev_true hi ?_
      have h40 := letters_le hlet
      have hlen := bytesOf_length w
      have hg := good_all (l := bytesOf w) (by omega) hi hfine
      unfold goodL at hg
      rw [Bool.and_eq_true, decide_eq_true_iff, ← ego] at hg
      have e3 : trK (cohnR w).1 2 = 3 * (numberR w).1 := by
        rw [hg.1, hn, ego]
        rfl
      rw [show ((trK (cohnR w).1 2, true).1 != wrap64 (3 * (numberR w).1)) = false by rw [w64 (by omega) (by omega)]; simp [e3]]
      exact law_j1 hl w
    · exact Ev_false hi (law_j1 hl w)
  · exact Ev_false hc (law_j2 hl w)
theorem FnCohnMatrices : laws_FnCohnMatrices.Pure := by
  intro l m hl1 hl2 hl3 hm1 hm2 hm3
  have hl := Bytes.of hl2 hl3
  have hm := Bytes.of hm2 hm3
  refine Ev_out (g := fun k => laws_FnCohnMatrices.f k l m) ?_
  unfold laws_FnCohnMatrices.f
  obtain ⟨b, hb⟩ := big_eq l m
  rw [hb]
  simp only [Option.bind_some]
  by_cases hbt : b = true
  · exact Ev_true hbt Ev_some
  refine Ev_false hbt ?_
  obtain ⟨w, hd⟩ := draw_word hl
  have ht3 := tripleR_len w
  refine Ev.bind hd (Ev.bind (cohn_ev w) (Ev.bind (foCohn_ev w) (Ev.bind (number_ev w) (Ev.bind (triple_ev w) (Ev.bind (foTriple_ev w) (Ev_false (by simp) (Ev.bind (dMatrix_same (cohnR_fits w)) (Ev_true rfl (Ev_false (by rw [numberR_ok]; simp) (Ev_false (by simp) (Ev.bind (dSame_same (by omega)) ?_)))))))))))
  exact law_j0 hm w
end Go.Proofs.YtljlplohicffpaaGreat.Pure

/- Products go with transposes, traces and determinants, and a matrix times its inverse is the unit matrix. -/
import Derived.Test.YtldkkfpodldbgaaMx1
import Derived.Test.YtldkkfpodldbgaaMx3
import Derived.Test.YtldkkfpodldbgaaMx6
import Derived.Test.YtldkkfpodldbgaaMx7
import Derived.Test.YtldkkfpodldbgaaMx8
import Derived.Test.YtldkkfpodldbgaaMx9
import Derived.Test.YtldkkfpodldbgaaMx10
import Derived.Test.YtldkkfpodldbgaaMx11
import Derived.Test.YtldkkfpodldbgaaQMB
import Derived.Test.YtldkkfpodldbgaaQMA
namespace Go.Proofs.Ytldkkfpodldbgaa.Pure
open Go.RowKit Go.Proofs.Ytldkkfpodldbgaa.P Go.Proofs.YtldkkfpodldbgaaW.PrintWords Go.Proofs.YtldkkfpodldbgaaW.PrintLast Go.Proofs.Ytldkkfpodldbgaa.Q Go.Proofs.Ytldkkfpodldbgaa.G
theorem fits_small {M : List (List Int)} (h : M.length ≤ 5) (hx : ∀ x ∈ M, x.length ≤ 4) : Fits M := ⟨by omega, fun x hm => by have := hx x hm; omega⟩
theorem fits_or {M : List (List Int)} (h : isSq M = true ∨ M = []) : Fits M := by
  rcases h with h | h
  · exact fits_sq h
  · rw [h]; exact ⟨by simp, fun x hx => by cases hx⟩
theorem dMatrix_same {M : List (List Int)} (h : Fits M) : Ev (fun k => laws_dMatrix.f k M M) true := by
  unfold laws_dMatrix.f
  exact Ev.bind (dLists_same (by have := h.1; omega) (fun x hx => by have := h.2 x hx; omega)) Ev_some
theorem mult_eq (L M : List (List Int)) : impl_MultiplyMatrices.f L M = some (multR L M) := by
  unfold impl_MultiplyMatrices.f multR
  rw [areAlike_eq]
  simp only [Option.bind_some]
  by_cases h : alikeB L M = true
  · obtain ⟨h1, h2, h3⟩ := alikeB_iff.1 h
    rw [if_pos h, if_pos h]
    unfold impl_Matrix_times.f impl_checked.f impl_IsMatrix.f
    rw [if_pos (isMat_sq h1), if_pos (isMat_sq h2), if_pos h3]
    simp only [Option.bind_some]
    by_cases h4 : isMat (prodL L M) = true
    · rw [if_pos h4, if_pos h4]; rfl
    · rw [if_neg h4, if_neg h4]; rfl
  · rw [if_neg h, if_neg h]
def transR (L : List (List Int)) : List (List Int) × Bool := if isMat L = true then (transL L, true) else ([], false)
theorem trans_eq (L : List (List Int)) : impl_TransposeOf.f L = some (transR L) := by
  unfold impl_TransposeOf.f transR impl_IsMatrix.f
  simp only [Option.bind_some]
  by_cases h : isMat L = true
  · rw [if_pos h, if_pos h]
    unfold impl_Matrix_transposed.f
    rw [if_pos (isMat_sq h)]
    rfl
  · rw [if_neg h, if_neg h]
theorem transR_ok (L : List (List Int)) : (transR L).2 = isMat L := by
  unfold transR
  cases h : isMat L <;> simp
theorem isMat_trans {L : List (List Int)} (h : isMat L = true) : isMat (transL L) = true := by
  have hs := isMat_sq h
  have h4 := isMat_len h
  unfold isMat
  rw [Bool.and_eq_true, Bool.and_eq_true, decide_eq_true_iff, decide_eq_true_iff, trans_len]
  refine ⟨by omega, List.all_eq_true.2 fun x hx => ?_⟩
  unfold transL rowsOf at hx
  obtain ⟨i, hi, rfl⟩ := List.mem_map.1 hx
  have hi' := List.mem_range.1 hi
  unfold isVec
  rw [Bool.and_eq_true, decide_eq_true_iff, rowOf_length]
  refine ⟨rfl, List.all_eq_true.2 fun y hy => ?_⟩
  unfold rowOf at hy
  obtain ⟨j, hj, rfl⟩ := List.mem_map.1 hy
  have hj' := List.mem_range.1 hj
  have hr := isSq_at hs hj'
  show inB (-1000000) 1000000 (at2 L j i) = true
  rw [at2_eq hj' (by omega)]
  have hb := (isMat_row h (List.getElem_mem hj')).2 _ (List.getElem_mem (show i < L[j].length by omega))
  unfold inB
  rw [Bool.and_eq_true, decide_eq_true_iff, decide_eq_true_iff]
  exact hb
theorem multR_ok {L M : List (List Int)} (h : (multR L M).2 = true) : alikeB L M = true ∧ isMat (prodL L M) = true ∧ multR L M = (prodL L M, true) := by
  unfold multR at h ⊢
  by_cases h1 : alikeB L M = true
  · rw [if_pos h1] at h
    by_cases h2 : isMat (prodL L M) = true
    · rw [if_pos h1, if_pos h2]
      exact ⟨h1, h2, rfl⟩
    · rw [if_neg h2] at h
      cases h
  · rw [if_neg h1] at h
    cases h
theorem invR_ok {L : List (List Int)} (h : (invR L).2 = true) : isMat L = true ∧ (detN L.length L = 1 ∨ detN L.length L = -1) ∧ invR L = (invL L (detN L.length L), true) := by
  unfold invR at h ⊢
  split at h
  · rename_i c1
    split at h
    · rename_i c2
      split at h
      · rename_i c3
        split at h
        · rename_i c4
          rw [if_pos c1, if_pos c2, if_pos c3, if_pos c4]
          exact ⟨c1, c3, rfl⟩
        · cases h
      · cases h
    · cases h
  · cases h
theorem unit_eq (n : Int) : impl_UnitMatrix.f n = some (if 1 ≤ n ∧ n ≤ 4 then (unitL n.toNat, true) else ([], false)) := by
  unfold impl_UnitMatrix.f impl_within.f
  by_cases h1 : n ≥ 1
  · rw [if_pos h1]
    by_cases h2 : n ≤ 4
    · rw [if_pos ⟨h1, h2⟩, decide_eq_true h2]
      unfold impl_unit.f
      rw [if_pos (by omega), if_pos (by omega)]
      rfl
    · rw [if_neg (fun c => h2 c.2), decide_eq_false h2]
      rfl
  · rw [if_neg h1, if_neg (fun c => h1 c.1)]
    rfl
theorem specUnit_ev (n : Int) : Ev (fun k => spec_UnitMatrix.f k n) (if 1 ≤ n ∧ n ≤ 4 then (unitL n.toNat, true) else ([], false)) := by
  unfold spec_UnitMatrix.f spec_l1In.f
  by_cases h1 : n ≥ 1
  · rw [if_pos h1]
    simp only [Option.bind_some]
    by_cases h2 : n ≤ 4
    · rw [if_pos (show 1 ≤ n ∧ n ≤ 4 from ⟨h1, h2⟩)]
      refine Ev_true (by rw [decide_eq_true h2]) ?_
      obtain ⟨m, rfl⟩ : ∃ m : Nat, n = m := ⟨n.toNat, by omega⟩
      exact Ev.bind (foUnit_ev (n := m) (by omega)) (by rw [Int.toNat_natCast]; exact Ev_some)
    · rw [if_neg (fun c => h2 c.2)]
      exact Ev_false (by rw [decide_eq_false h2]; simp) Ev_some
  · rw [if_neg h1, if_neg (fun c => h1 c.1)]
    simp only [Option.bind_some]
    exact Ev_false (by simp) Ev_some
theorem specDet_ev {L : List (List Int)} (hL : Fits L) : Ev (fun k => spec_DeterminantOf.f k L) (determinantR L) := by
  unfold spec_DeterminantOf.f determinantR
  refine Ev.bind (foSmall_ev hL 1000) ?_
  by_cases h : (isMat L && L.all (isLow 1000)) = true
  · rw [if_pos h]
    have hm := (Bool.and_eq_true _ _ ▸ h).1
    exact Ev_true h (Ev.bind (foDet_ev L.length L (isSq_le (isMat_sq hm)) (isMat_sq hm) rfl) Ev_some)
  · rw [if_neg h]
    exact Ev_false h Ev_some
theorem draw_mult {l : List Int} (hl : Bytes l) : ∃ M N, Ev (fun k => spec_DrawMultiplyMatrices.f k l) (M, N) ∧ Fits M ∧ Fits N := by
  obtain ⟨x, t, s, e, h1, h4, h0, ht⟩ := size_at hl (t := 0) (s := 0) (by omega) (by omega)
  obtain ⟨b, t1, s1, e1, g1, g2⟩ := one_eq hl t s 15 (by omega) (by omega) (by omega)
  unfold spec_DrawMultiplyMatrices.f
  rw [e]
  simp only [Option.bind_some]
  rw [e1]
  simp only [Option.bind_some]
  obtain ⟨⟨M, t2, s2⟩, hM, m1, m2, m3, m4⟩ := matrix_evP hl (x := x) (t := t1) (s := s1) h1 h4 (by omega) (by omega)
  have m3 : t1 ≤ t2 := m3
  have m4 : t2 ≤ t1 + 300 := m4
  by_cases hb : b = true
  · obtain ⟨x3, t3, s3, e3, k1, k4, k0, kt⟩ := size_at hl (t := t2) (s := s2) (by omega) (by omega)
    obtain ⟨⟨N, t4, s4⟩, hN, n1, n2, _⟩ := matrix_evP hl (x := x3) (t := t3) (s := s3) k1 k4 (by omega) (by omega)
    refine ⟨M, N, Ev_true hb (Ev.bind hM ?_), fits_small m1 m2, fits_small n1 n2⟩
    rw [e3]
    simp only [Option.bind_some]
    exact Ev.bind hN Ev_some
  · obtain ⟨⟨N, t4, s4⟩, hN, n1, n2, _⟩ := matrix_evP hl (x := x) (t := t2) (s := s2) h1 h4 (by omega) (by omega)
    exact ⟨M, N, Ev_false hb (Ev.bind hM (Ev.bind hN Ev_some)), fits_small m1 m2, fits_small n1 n2⟩
theorem draw_inv {l : List Int} (hl : Bytes l) : ∃ M, Ev (fun k => spec_DrawInverseOf.f k l) M ∧ Fits M := by
  obtain ⟨x, t, s, e, h1, h4, h0, ht⟩ := size_at hl (t := 0) (s := 0) (by omega) (by omega)
  obtain ⟨⟨M, t2, s2⟩, hM, m1, m2, _⟩ := matrix_evP hl (x := x) (t := t) (s := s) h1 h4 (by omega) (by omega)
  refine ⟨M, ?_, fits_small m1 m2⟩
  unfold spec_DrawInverseOf.f spec_DrawIsMatrix.f
  rw [e]
  simp only [Option.bind_some]
  exact Ev.bind (a := M) (Ev.bind hM Ev_some) Ev_some
theorem draw_unit {l : List Int} (hl : Bytes l) : ∃ n, spec_DrawUnitMatrix.f l = some n := by
  obtain ⟨y, t2, s2, e2, _⟩ := among_eq hl 0 0 ([0, 1, 2, 3, 4, 5, (-1)] : List Int) (by omega) (by omega) (by simp) (by simp)
  unfold spec_DrawUnitMatrix.f
  rw [e2]
  exact ⟨y, rfl⟩
theorem law_j9 {l : List Int} (hl : Bytes l) {K : List (List Int)} (hK : Fits K) : Ev (fun k => laws_FnMatrices.j9 k l K) true := by
  obtain ⟨n, hn⟩ := draw_unit hl
  refine Ev_succ ?_
  simp only [laws_FnMatrices.j9]
  rw [hn]
  simp only [Option.bind_some]
  rw [unit_eq]
  simp only [Option.bind_some]
  have hf : Fits (if 1 ≤ n ∧ n ≤ 4 then (unitL n.toNat, true) else (([] : List (List Int)), false)).1 := by
    split
    · exact fits_sq (isSq_rowsOf _ (by omega))
    · exact ⟨by simp, fun x hx => by cases hx⟩
  exact Ev.bind (specUnit_ev n) (Ev.bind (determinantOf_ev K) (Ev.bind (specDet_ev hK) (Ev.bind (trace_ev K) (Ev.bind (foTrace_ev hK) (Ev_true (by simp) (Ev.bind (dMatrix_same hf) (Ev_true rfl (Ev_true (by simp) (Ev_true rfl (Ev_true (by simp) (by simp only [beq_self_eq_true]; exact Ev_some)))))))))))
theorem law_j8 {l : List Int} (hl : Bytes l) {K : List (List Int)} (hK : Fits K) : Ev (fun k => laws_FnMatrices.j8 k l false K) true := by
  refine Ev_succ ?_
  simp only [laws_FnMatrices.j8]
  exact Ev_false (by simp) (law_j9 hl hK)
theorem law_j7 {l : List Int} (hl : Bytes l) {K : List (List Int)} (hK : Fits K) : Ev (fun k => laws_FnMatrices.j7 k l (invR K).2 false K (invR K).1) true := by
  refine Ev_succ ?_
  simp only [laws_FnMatrices.j7]
  refine Ev_false (by simp) ?_
  by_cases h : (invR K).2 = true
  · obtain ⟨h1, h2, h3⟩ := invR_ok h
    have h4 := isMat_len h1
    refine Ev_true h ?_
    rw [unit_eq, if_pos (show 1 ≤ (K.length : Int) ∧ (K.length : Int) ≤ 4 by omega), Int.toNat_natCast, mult_eq, mult_eq]
    simp only [Option.bind_some]
    have hu : Fits (unitL K.length) := fits_sq (isSq_rowsOf _ (by omega))
    have e1 : (multR K (invR K).1).2 = true → (multR K (invR K).1).1 = unitL K.length := fun hm => by
      rw [(multR_ok hm).2.2, h3]
      exact inv_right (by omega) (by omega) rfl h2
    have e2 : (multR (invR K).1 K).2 = true → (multR (invR K).1 K).1 = unitL K.length := fun hm => by
      rw [(multR_ok hm).2.2, h3]
      exact inv_left (by omega) (by omega) rfl h2
    have last : Ev (fun k => if (multR (invR K).1 K).2 = true then ((laws_dMatrix.f k (multR (invR K).1 K).1 (unitL K.length)).bind fun t519 => laws_FnMatrices.j8 k l (!t519) K) else laws_FnMatrices.j8 k l false K) true := by
      by_cases hm : (multR (invR K).1 K).2 = true
      · refine Ev_true hm ?_
        rw [e2 hm]
        exact Ev.bind (dMatrix_same hu) (law_j8 hl hK)
      · exact Ev_false hm (law_j8 hl hK)
    refine Ev_true trivial ?_
    by_cases hm : (multR K (invR K).1).2 = true
    · refine Ev_true hm ?_
      rw [e1 hm]
      exact Ev.bind (dMatrix_same hu) (Ev_true rfl last)
    · exact Ev_false hm last
  · exact Ev_false h (law_j9 hl hK)
theorem law_j6 {l : List Int} (hl : Bytes l) : Ev (fun k => laws_FnMatrices.j6 k l) true := by
  obtain ⟨K, hd, hK⟩ := draw_inv hl
  refine Ev_succ ?_
  simp only [laws_FnMatrices.j6]
  refine Ev.bind hd ?_
  unfold impl_InverseOf.f
  simp only [Option.bind_some]
  exact Ev.bind (specInv_ev hK) (Ev_false (by simp) (Ev.bind (dMatrix_same (fits_or (invR_sq K))) (law_j7 hl hK)))
theorem law_j4 {l : List Int} (hl : Bytes l) {M N : List (List Int)} (ha : alikeB M N = true) : Ev (fun k => laws_FnMatrices.j4 k l M N (prodL M N)) true := by
  obtain ⟨h1, h2, h3⟩ := alikeB_iff.1 ha
  have h4 := isMat_len h1
  have hj5 : Ev (fun k => laws_FnMatrices.j5 k l false) true := by
    refine Ev_succ ?_
    simp only [laws_FnMatrices.j5]
    exact Ev_false (by simp) (law_j6 hl)
  refine Ev_succ ?_
  simp only [laws_FnMatrices.j4]
  refine Ev.bind (determinantOf_ev M) (Ev.bind (determinantOf_ev N) (Ev.bind (determinantOf_ev (prodL M N)) ?_))
  have val : ∀ L : List (List Int), (determinantR L).2 = true → (determinantR L).1 = detN L.length L := by
    intro L hL
    unfold determinantR at hL ⊢
    split at hL
    · rename_i c
      rw [if_pos c]
    · cases hL
  by_cases a1 : (determinantR M).2 = true
  · refine Ev_true a1 ?_
    by_cases a2 : (determinantR N).2 = true
    · refine Ev_true a2 ?_
      by_cases a3 : (determinantR (prodL M N)).2 = true
      · refine Ev_true a3 ?_
        rw [val _ a1, val _ a2, val _ a3, det_prod h3 h4.1 h4.2, bne_self_eq_false]
        exact hj5
      · exact Ev_false a3 hj5
    · exact Ev_false a2 hj5
  · exact Ev_false a1 hj5
theorem law_j2 {l : List Int} (hl : Bytes l) {M N : List (List Int)} (h : multR M N = (prodL M N, true)) (ha : alikeB M N = true) : Ev (fun k => laws_FnMatrices.j2 k l (multR N M).2 false M N (prodL M N) (multR N M).1) true := by
  obtain ⟨h1, h2, h3⟩ := alikeB_iff.1 ha
  refine Ev_succ ?_
  simp only [laws_FnMatrices.j2]
  refine Ev_false (by simp) ?_
  by_cases hb : (multR N M).2 = true
  · obtain ⟨_, hp, e⟩ := multR_ok hb
    have hm : isMat (prodL M N) = true := (multR_ok (show (multR M N).2 = true by rw [h])).2.1
    rw [e]
    refine Ev_true rfl (Ev.bind (trace_ev _) (Ev.bind (trace_ev _) ?_))
    have t1 : traceR (prodL M N) = (trK (prodL M N) (prodL M N).length, true) := by unfold traceR; rw [if_pos hm]
    have t2 : traceR (prodL N M) = (trK (prodL N M) (prodL N M).length, true) := by unfold traceR; rw [if_pos hp]
    rw [t1, t2]
    refine Ev_true rfl (Ev_true rfl ?_)
    rw [trace_comm h3, bne_self_eq_false]
    refine Ev_succ ?_
    simp only [laws_FnMatrices.j3]
    exact Ev_false (by simp) (law_j4 hl ha)
  · exact Ev_false hb (law_j4 hl ha)
theorem law_j1 {l : List Int} (hl : Bytes l) {M N : List (List Int)} : Ev (fun k => laws_FnMatrices.j1 k l (multR M N).2 (transR M).2 (transR N).2 false M N (multR M N).1 (transR M).1 (transR N).1) true := by
  refine Ev_succ ?_
  simp only [laws_FnMatrices.j1]
  refine Ev_false (by simp) ?_
  by_cases h : (multR M N).2 = true
  · obtain ⟨ha, hp, e⟩ := multR_ok h
    obtain ⟨h1, h2, h3⟩ := alikeB_iff.1 ha
    have eM : transR M = (transL M, true) := by unfold transR; rw [if_pos h1]
    have eN : transR N = (transL N, true) := by unfold transR; rw [if_pos h2]
    have eP : transR (prodL M N) = (transL (prodL M N), true) := by unfold transR; rw [if_pos hp]
    have eT : multR (transL N) (transL M) = (transL (prodL M N), true) := by
      unfold multR
      rw [if_pos (alikeB_iff.2 ⟨isMat_trans h2, isMat_trans h1, by rw [trans_len, trans_len]; exact h3.symm⟩), prod_trans h3, if_pos (isMat_trans hp)]
    rw [e, eM, eN]
    refine Ev_true rfl ?_
    rw [mult_eq, trans_eq, mult_eq, eT, eP]
    simp only [Option.bind_some]
    exact Ev_true trivial (Ev_true trivial (Ev_true trivial (Ev_true trivial (Ev.bind (dMatrix_same (fits_sq (isMat_sq (isMat_trans hp)))) (law_j2 hl e ha)))))
  · exact Ev_false h (law_j6 hl)
theorem FnMatrices : laws_FnMatrices.Pure := by
  intro l m hl1 hl2 hl3 hm1 hm2 hm3
  have hl := Bytes.of hl2 hl3
  have hm := Bytes.of hm2 hm3
  refine Ev_out (g := fun k => laws_FnMatrices.f k l m) ?_
  unfold laws_FnMatrices.f
  obtain ⟨b, hb⟩ := big_eq l m
  rw [hb]
  simp only [Option.bind_some]
  by_cases hbt : b = true
  · exact Ev_true hbt Ev_some
  refine Ev_false hbt ?_
  obtain ⟨M, N, hd, hM, hN⟩ := draw_mult hl
  refine Ev.bind hd ?_
  rw [mult_eq]
  simp only [Option.bind_some]
  refine Ev.bind (foMult_ev hM hN) (Ev_false (by simp) (Ev.bind (dMatrix_same (fits_or (multR_sq M N))) ?_))
  refine Ev_succ ?_
  simp only [laws_FnMatrices.j0]
  refine Ev_false (by simp) ?_
  rw [trans_eq, trans_eq]
  unfold impl_IsMatrix.f
  simp only [Option.bind_some]
  rw [transR_ok, transR_ok]
  refine Ev_false (by simp) ?_
  rw [bne_self_eq_false, ← transR_ok M, ← transR_ok N]
  exact law_j1 hm
end Go.Proofs.Ytldkkfpodldbgaa.Pure

/- The law FnExactKeepsForm. -/
import Derived.Test.YtojclcknndpdgaaPx5
import Derived.Test.YtojclcknndpdgaaPx8
import Derived.Test.YtojclcknndpdgaaPx9
import Derived.Test.YtojclcknndpdgaaQA
namespace Go.Proofs.Ytojclcknndpdgaa.G
open Go.RowKit Go.Proofs.Ytojclcknndpdgaa.P Go.Proofs.YtojclcknndpdgaaW.PrintWords Go.Proofs.YtojclcknndpdgaaW.PrintLast Go.Proofs.Ytojclcknndpdgaa.Q
theorem small_bd {L : List (List Int)} {m : Int} (hs : isSq L = true) (h : L.all (isLow m) = true) (h0 : 0 ≤ m) (h1 : m ≤ 1000000000) : Bd m L := by
  intro i j hi hj
  have h2 := List.all_eq_true.1 h L[i] (List.getElem_mem hi)
  have h3 := isSq_at hs hi
  unfold isLow at h2
  have h4 := List.all_eq_true.1 h2 (L[i]'hi)[j] (List.getElem_mem _)
  rw [at2_eq hi (by omega)]
  unfold inB at h4
  rw [Bool.and_eq_true, decide_eq_true_iff, decide_eq_true_iff, w64 (by omega) (by omega)] at h4
  exact h4
/-- What both programs ask. -/
def keepsB (M F : List (List Int)) : Bool := isMat M && isMat F && decide (M.length = F.length) && M.all (isLow 30000) && isFormB F
def keepsR (M F : List (List Int)) : Bool × Bool := if keepsB M F = true then (decide (prodL (prodL (transL M) F) M = F), true) else (false, false)
theorem keepsB_iff (M F : List (List Int)) : keepsB M F = true ↔ isMat M = true ∧ isMat F = true ∧ M.length = F.length ∧ M.all (isLow 30000) = true ∧ isFormB F = true := by
  unfold keepsB
  simp only [Bool.and_eq_true, decide_eq_true_iff]
  exact ⟨fun h => ⟨h.1.1.1.1, h.1.1.1.2, h.1.1.2, h.1.2, h.2⟩, fun h => ⟨⟨⟨⟨h.1, h.2.1⟩, h.2.2.1⟩, h.2.2.2.1⟩, h.2.2.2.2⟩⟩
theorem foKeeps_ev {M F : List (List Int)} (hM : Fits M) (hF : Fits F) : Ev (fun k => spec_KeepsForm.f k M F) (keepsR M F) := by
  unfold spec_KeepsForm.f
  have hno : keepsB M F = false → ∀ b : Bool, b = true → Ev (fun k => spec_KeepsForm.j0 k b M F) (keepsR M F) := fun hk b hb => by
    subst hb
    rw [show keepsR M F = (false, false) from if_neg (by rw [hk]; simp)]
    refine Ev_succ ?_
    simp only [spec_KeepsForm.j0]
    first | exact Ev_some | exact Ev_true rfl Ev_some
  refine Ev.bind (foSmall_ev hM 30000) ?_
  by_cases h1 : (isMat M && M.all (isLow 30000)) = true
  · refine Ev_true h1 (Ev.bind (foForm_ev hF) ?_)
    rw [Bool.and_eq_true] at h1
    by_cases h2 : isFormB F = true
    · refine Ev_true h2 ?_
      have hf := isForm_mat h2
      by_cases h3 : M.length = F.length
      · have hk : keepsB M F = true := (keepsB_iff M F).2 ⟨h1.1, hf.1, h3, h1.2, h2⟩
        rw [show keepsR M F = (decide (prodL (prodL (transL M) F) M = F), true) from if_pos hk]
        have hsM := isMat_sq h1.1
        have hsF := isMat_sq hf.1
        have hsT : isSq (transL M) = true ∧ (transL M).length = M.length := ⟨isSq_rowsOf _ (isSq_le hsM), rowsOf_length _ _ _⟩
        have hsP : isSq (prodL F M) = true ∧ (prodL F M).length = F.length := ⟨isSq_rowsOf _ (isSq_le hsF), rowsOf_length _ _ _⟩
        have h4 := isMat_len h1.1
        have bM := small_bd hsM h1.2 (by omega) (by omega)
        have bF := small_bd hsF hf.2.1 (by omega) (by omega)
        have ha := prod_assoc (Bd_trans bM) bF bM (by omega) (by omega) (by omega) (by omega) (by omega) (by omega) (by omega) (by omega) (by omega) (by omega) (by omega)
        rw [ha]
        have hlen : (prodL (transL M) (prodL F M)).length = M.length := by
          have : (prodL (transL M) (prodL F M)).length = (transL M).length := rowsOf_length _ _ _
          omega
        have hsq : isSq (prodL (transL M) (prodL F M)) = true := isSq_rowsOf _ (isSq_le hsT.1)
        refine Ev_succ ?_
        simp only [spec_KeepsForm.j0]
        refine Ev_false (by simp [h3]) (Ev.bind (foTranspose_ev hsM) (Ev.bind (foTimes_ev hsF hsM (by omega)) (Ev.bind (foTimes_ev hsT.1 hsP.1 (by omega)) (Ev.bind (f := fun _ t => some (t, true)) (foSame_ev (by omega) (fits_sq hsq)) Ev_some))))
      · have hk : keepsB M F = false := by rw [← Bool.not_eq_true, keepsB_iff]; exact fun h => h3 h.2.2.1
        exact hno hk _ (by rw [bne_iff_ne]; omega)
    · have hk : keepsB M F = false := by rw [← Bool.not_eq_true, keepsB_iff]; exact fun h => h2 h.2.2.2.2
      exact Ev_false h2 (hno hk _ rfl)
  · have hk : keepsB M F = false := by rw [← Bool.not_eq_true, keepsB_iff]; exact fun h => h1 (by rw [h.1, h.2.2.2.1]; rfl)
    exact Ev_false h1 (hno hk _ rfl)
theorem alike_eq (M F : List (List Int)) : impl_areAlike.f M F = some (isMat M && (isMat F && decide (M.length = F.length))) := by
  unfold impl_areAlike.f impl_IsMatrix.f impl_Matrix_size.f
  simp only [Option.bind_some]
  by_cases h1 : isMat M = true
  · by_cases h2 : isMat F = true
    · rw [if_pos h1, if_pos h2, h1, h2]
      simp only [Bool.true_and, Option.some.injEq]
      by_cases h : M.length = F.length
      · rw [decide_eq_true h, h]
        simp
      · rw [decide_eq_false h, beq_eq_false_iff_ne]
        omega
    · rw [if_pos h1, if_neg h2, Bool.eq_false_iff.2 h2]
      simp
  · rw [if_neg h1, Bool.eq_false_iff.2 h1]
    rfl
theorem keeps_ev (M F : List (List Int)) : Ev (fun k => impl_KeepsForm.f k M F) (keepsR M F) := by
  unfold impl_KeepsForm.f impl_Matrix_isSmall.f
  rw [alike_eq, isForm_eq]
  simp only [Option.bind_some]
  have hno : keepsB M F = false → ∀ b : Bool, b = true → Ev (fun k => impl_KeepsForm.j0 k b M F) (keepsR M F) := fun hk b hb => by
    subst hb
    rw [show keepsR M F = (false, false) from if_neg (by rw [hk]; simp)]
    refine Ev_succ ?_
    simp only [impl_KeepsForm.j0]
    first | exact Ev_some | exact Ev_true rfl Ev_some
  by_cases h1 : (isMat M && (isMat F && decide (M.length = F.length))) = true
  · refine Ev_true h1 ?_
    rw [Bool.and_eq_true, Bool.and_eq_true, decide_eq_true_iff] at h1
    by_cases h2 : M.all (isLow 30000) = true
    · refine Ev_true h2 ?_
      by_cases h3 : isFormB F = true
      · have hk : keepsB M F = true := (keepsB_iff M F).2 ⟨h1.1, h1.2.1, h1.2.2, h2, h3⟩
        rw [show keepsR M F = (decide (prodL (prodL (transL M) F) M = F), true) from if_pos hk]
        have hsM := isMat_sq h1.1
        have hsF := isMat_sq h1.2.1
        have hsT : isSq (transL M) = true ∧ (transL M).length = M.length := ⟨isSq_rowsOf _ (isSq_le hsM), rowsOf_length _ _ _⟩
        have hsP : isSq (prodL (transL M) F) = true ∧ (prodL (transL M) F).length = (transL M).length := ⟨isSq_rowsOf _ (isSq_le hsT.1), rowsOf_length _ _ _⟩
        have hl := h1.2.2
        refine Ev_succ ?_
        simp only [impl_KeepsForm.j0, impl_Matrix_transposed.f, impl_Matrix_times.f, impl_sameMatrix.f]
        rw [if_pos hsM]
        simp only [Option.bind_some]
        rw [if_pos hsT.1, if_pos hsF, if_pos (hsT.2.trans hl)]
        simp only [Option.bind_some]
        rw [if_pos hsP.1, if_pos hsM, if_pos (hsP.2.trans hsT.2)]
        simp only [Option.bind_some]
        exact Ev_false (by rw [h3]; simp) Ev_some
      · have hk : keepsB M F = false := by rw [← Bool.not_eq_true, keepsB_iff]; exact fun h => h3 h.2.2.2.2
        exact hno hk _ (by rw [Bool.eq_false_iff.2 h3]; rfl)
    · have hk : keepsB M F = false := by rw [← Bool.not_eq_true, keepsB_iff]; exact fun h => h2 h.2.2.2.1
      exact Ev_false h2 (hno hk _ rfl)
  · have hk : keepsB M F = false := by rw [← Bool.not_eq_true, keepsB_iff]; exact fun h => h1 (by rw [h.1, h.2.1, decide_eq_true h.2.2.1]; rfl)
    exact Ev_false h1 (hno hk _ rfl)
theorem keepsForm_pure (L M : List (List Int)) (hl : L.length ≤ maxLen) (hx : ∀ x ∈ L, x.length ≤ maxLen) (hm : M.length ≤ maxLen) (hy : ∀ x ∈ M, x.length ≤ maxLen) : ∃ k, laws_FnExactKeepsForm.f k L M = some true := by
  refine Ev_out (g := fun k => laws_FnExactKeepsForm.f k L M) ?_
  unfold laws_FnExactKeepsForm.f
  obtain ⟨r, h1, h2⟩ := szMat_ev (L := L) (a := 1048576) (by omega) (by omega) hl hx
  refine Ev.bind h1 ?_
  rcases h2 with h2 | ⟨hL, h2, h2'⟩
  · exact Ev_true h2 Ev_some
  · refine Ev_false (by omega) ?_
    obtain ⟨q, h3, h4⟩ := szMat_ev (L := M) (a := r) h2 h2' hm hy
    refine Ev.bind h3 ?_
    rcases h4 with h4 | ⟨hM, h4, _⟩
    · exact Ev_true h4 Ev_some
    · refine Ev_false (by omega) (Ev.bind (toMat_ev hL) (Ev.bind (toMat_ev hM) (Ev.bind (foKeeps_ev hL hM) (Ev.bind (toMat_ev hL) (Ev.bind (toMat_ev hM) (Ev.bind (keeps_ev L M) (Ev_false (by simp) ?_)))))))
      refine Ev_succ ?_
      simp only [laws_FnExactKeepsForm.j0]
      exact Ev_false (by simp) (Ev.bind (toMat_ev hL) (Ev.bind (eqMat_same hL) (Ev_true rfl (Ev.bind (toMat_ev hM) (Ev.bind (eqMat_same hM) (Ev_true rfl Ev_some))))))
theorem FnExactKeepsForm_walk (A0 : Option Addr) (c0 : Nat) (l0 : List (List Int)) (A1 : Option Addr) (c1 : Nat) (l1 : List (List Int)) (w : World) (hr0 : Kd.C (Kd.slice 3 (Kd.int .i64)) w A0 l0.length l0) (hc0 : l0.length ≤ c0) (hm0 : l0.length ≤ maxLen) (hw0 : ∀ x ∈ l0, x.length ≤ maxLen ∧ ∀ a ∈ x, (Lit.int .i64 a).wf = true)
    (hr1 : Kd.C (Kd.slice 3 (Kd.int .i64)) w A1 l1.length l1) (hc1 : l1.length ≤ c1) (hm1 : l1.length ≤ maxLen) (hw1 : ∀ x ∈ l1, x.length ≤ maxLen ∧ ∀ a ∈ x, (Lit.int .i64 a).wf = true) :
    Calls Try.prog 3 #[.agg #[.slice A0 l0.length c0], .agg #[.slice A1 l1.length c1]] w fun e w' => e = .returned (.bool true) ∧ Below w.heap.size w w' := by
  obtain ⟨k, h⟩ := keepsForm_pure l0 l1 hm0 (fun x hx => (hw0 x hx).1) hm1 (fun x hx => (hw1 x hx).1)
  exact laws_FnExactKeepsForm.calls k A0 c0 l0 A1 c1 l1 true w hr0 hc0 hr1 hc1 h
end Go.Proofs.Ytojclcknndpdgaa.G

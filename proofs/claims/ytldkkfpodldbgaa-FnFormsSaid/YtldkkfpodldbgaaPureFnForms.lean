/- The value of a form is the product of a vector with itself, products do not depend on the order, and a matrix that keeps the form keeps them. -/
import Derived.Test.YtldkkfpodldbgaaOx1
import Derived.Test.YtldkkfpodldbgaaOx3
import Derived.Test.YtldkkfpodldbgaaOx5
import Derived.Test.YtldkkfpodldbgaaOx8
import Derived.Test.YtldkkfpodldbgaaOx9
import Derived.Test.YtldkkfpodldbgaaOx10
import Derived.Test.YtldkkfpodldbgaaOx12
import Derived.Test.YtldkkfpodldbgaaOx14
import Derived.Test.YtldkkfpodldbgaaOx15
import Derived.Test.YtldkkfpodldbgaaOx16
import Derived.Test.YtldkkfpodldbgaaQ2
import Derived.Test.YtldkkfpodldbgaaQ1
namespace Go.Proofs.Ytldkkfpodldbgaa.Pure
open Go.RowKit Go.Proofs.Ytldkkfpodldbgaa.P Go.Proofs.YtldkkfpodldbgaaW.PrintWords Go.Proofs.YtldkkfpodldbgaaW.PrintLast Go.Proofs.Ytldkkfpodldbgaa.Q Go.Proofs.Ytldkkfpodldbgaa.G
theorem fits_small {M : List (List Int)} (h : M.length ≤ 5) (hx : ∀ x ∈ M, x.length ≤ 4) : Fits M := ⟨by omega, fun x hm => by have := hx x hm; omega⟩
theorem refR_fits (L : List (List Int)) (v : List Int) : Fits (refR L v).1 := by
  rcases refR_sq L v with h | h
  · exact fits_sq h
  · rw [h]; exact ⟨by simp, fun x hx => by cases hx⟩
theorem draw_product {l : List Int} (hl : Bytes l) : ∃ F v w, Ev (fun k => spec_DrawProductAt.f k l) (F, v, w) ∧ Fits F ∧ v.length ≤ 20 ∧ w.length ≤ 20 := by
  obtain ⟨x, t, s, e, h1, h4, h0, ht⟩ := size_eq hl
  unfold spec_DrawProductAt.f
  rw [e]
  simp only [Option.bind_some]
  obtain ⟨⟨F, t1, s1⟩, hF, f1, f2, f3, f4⟩ := form_evP hl (x := x) (t := t) (s := s) h1 h4 h0 (by omega)
  have f3 : t ≤ t1 := f3
  have f4 : t1 ≤ t + 400 := f4
  obtain ⟨⟨v, t2, s2⟩, hv, v1, v2, v3⟩ := vector_evP hl (x := x) (t := t1) (s := s1) h1 h4 (by omega) (by omega)
  have v2 : t1 ≤ t2 := v2
  have v3 : t2 ≤ t1 + 100 := v3
  obtain ⟨⟨w, t3, s3⟩, hw, w1, _⟩ := vector_evP hl (x := x) (t := t2) (s := s2) h1 h4 (by omega) (by omega)
  exact ⟨F, v, w, Ev.bind hF (Ev.bind hv (Ev.bind hw Ev_some)), fits_small f1 f2, v1, w1⟩
theorem draw_apply {l : List Int} (hl : Bytes l) : ∃ M v, Ev (fun k => spec_DrawApplyMatrix.f k l) (M, v) ∧ Fits M ∧ v.length ≤ 20 := by
  obtain ⟨x, t, s, e, h1, h4, h0, ht⟩ := size_eq hl
  unfold spec_DrawApplyMatrix.f
  rw [e]
  simp only [Option.bind_some]
  obtain ⟨⟨M, t1, s1⟩, hM, f1, f2, f3, f4⟩ := matrix_evP hl (x := x) (t := t) (s := s) h1 h4 h0 (by omega)
  have f3 : t ≤ t1 := f3
  have f4 : t1 ≤ t + 300 := f4
  obtain ⟨⟨v, t2, s2⟩, hv, v1, _⟩ := vector_evP hl (x := x) (t := t1) (s := s1) h1 h4 (by omega) (by omega)
  exact ⟨M, v, Ev.bind hM (Ev.bind hv Ev_some), fits_small f1 f2, v1⟩
theorem draw_keeps {l : List Int} (hl : Bytes l) : ∃ M F, Ev (fun k => spec_DrawKeepsForm.f k l) (M, F) ∧ Fits M ∧ Fits F := by
  obtain ⟨x, t, s, e, h1, h4, h0, ht⟩ := size_eq hl
  unfold spec_DrawKeepsForm.f
  rw [e]
  simp only [Option.bind_some]
  obtain ⟨⟨F, t1, s1⟩, hF, f1, f2, f3, f4⟩ := form_evP hl (x := x) (t := t) (s := s) h1 h4 h0 (by omega)
  have f3 : t ≤ t1 := f3
  have f4 : t1 ≤ t + 400 := f4
  have hFf : Fits F := fits_small f1 f2
  obtain ⟨⟨v, t2, s2⟩, hv, v1, v2, v3⟩ := vector_evP hl (x := x) (t := t1) (s := s1) h1 h4 (by omega) (by omega)
  have v1 : v.length ≤ 20 := v1
  have v2 : t1 ≤ t2 := v2
  have v3 : t2 ≤ t1 + 100 := v3
  have hr := specRef_ev (L := F) (v := v) hFf (by omega)
  have mat : ∀ t s : Int, 0 ≤ t → t ≤ 1000000 → ∃ M t' s', Ev (fun k => spec_l1Cur_matrix.f k l t s x) (M, t', s') ∧ Fits M := by
    intro t s h0 h5
    obtain ⟨⟨M, t', s'⟩, hM, m1, m2, _⟩ := matrix_evP hl (x := x) (t := t) (s := s) h1 h4 h0 h5
    exact ⟨M, t', s', hM, fits_small m1 m2⟩
  by_cases ho : (refR F v).2 = true
  · obtain ⟨b, t3, s3, e3, g1, g2⟩ := one_eq hl t2 s2 4 (by omega) (by omega) (by omega)
    by_cases hb : b = true
    · obtain ⟨M, t', s', hM, hMf⟩ := mat t3 s3 (by omega) (by omega)
      refine ⟨M, F, Ev.bind hF (Ev.bind hv (Ev.bind hr (Ev_true ho ?_))), hMf, hFf⟩
      rw [e3]
      simp only [Option.bind_some]
      exact Ev_true hb (Ev.bind hM Ev_some)
    · refine ⟨(refR F v).1, F, Ev.bind hF (Ev.bind hv (Ev.bind hr (Ev_true ho ?_))), refR_fits F v, hFf⟩
      rw [e3]
      simp only [Option.bind_some]
      exact Ev_false hb Ev_some
  · obtain ⟨M, t', s', hM, hMf⟩ := mat t2 s2 (by omega) (by omega)
    exact ⟨M, F, Ev.bind hF (Ev.bind hv (Ev.bind hr (Ev_false ho (Ev.bind hM Ev_some)))), hMf, hFf⟩
theorem prod_ok {L : List (List Int)} {v w : List Int} : (productR L v w).2 = true ↔ isFormB L = true ∧ isVec L.length v = true ∧ isVec L.length w = true := by
  unfold productR
  constructor
  · intro h
    split at h
    · rename_i h1
      split at h
      · rename_i h2
        split at h
        · rename_i h3
          exact ⟨h1, h2, h3⟩
        · cases h
      · cases h
    · cases h
  · rintro ⟨h1, h2, h3⟩
    rw [if_pos h1, if_pos h2, if_pos h3]
theorem prod_val {L : List (List Int)} {v w : List Int} (h : (productR L v w).2 = true) : (productR L v w).1 = dotV v (applyL L w) L.length := by
  obtain ⟨h1, h2, h3⟩ := prod_ok.1 h
  unfold productR
  rw [if_pos h1, if_pos h2, if_pos h3]
theorem prod_turn {L : List (List Int)} {v w : List Int} : (productR L w v).2 = (productR L v w).2 := by
  rw [Bool.eq_iff_iff, prod_ok, prod_ok]
  exact ⟨fun h => ⟨h.1, h.2.2, h.2.1⟩, fun h => ⟨h.1, h.2.2, h.2.1⟩⟩
theorem prod_same {L : List (List Int)} {v w : List Int} (h : (productR L v w).2 = true) : (productR L w v).1 = (productR L v w).1 := by
  obtain ⟨h1, h2, h3⟩ := prod_ok.1 h
  rw [prod_val h, prod_val (by rw [prod_turn]; exact h)]
  exact product_comm h1 (vec_Vd h3) (vec_Vd h2)
theorem law_j4 {l : List Int} (hl : Bytes l) : Ev (fun k => laws_FnForms.j4 k l) true := by
  obtain ⟨M, v, hd, hM, hv⟩ := draw_apply hl
  have h4 := applyR_len M v
  refine Ev_succ ?_
  simp only [laws_FnForms.j4]
  have hv' : v.length ≤ 1048576 := by omega
  exact Ev.bind hd (Ev.bind (applyMatrix_ev M v) (Ev.bind (foApplyMatrix_ev hM hv') (Ev_true (by simp) (Ev.bind (dSame_same (by omega)) Ev_some))))
theorem law_j3 {l v w : List Int} {M F : List (List Int)} (hl : Bytes l) {b : Bool} (h : b = true → keepsR M F = (true, true) ∧ (productR F v w).2 = true) : Ev (fun k => laws_FnForms.j3 k l v w b M F) true := by
  refine Ev_succ ?_
  simp only [laws_FnForms.j3]
  cases b with
  | false => exact Ev_false (by simp) (law_j4 hl)
  | true =>
    obtain ⟨hk, hp⟩ := h rfl
    refine Ev_true (by first | rfl | trivial) (Ev.bind (applyMatrix_ev M v) (Ev.bind (applyMatrix_ev M w) (Ev.bind (productAt_ev F _ _) (Ev.bind (productAt_ev F v w) ?_))))
    by_cases h1 : (applyR M v).2 = true
    · refine Ev_true h1 ?_
      by_cases h2 : (applyR M w).2 = true
      · refine Ev_true h2 ?_
        have fact : ∀ u : List Int, (applyR M u).2 = true → (applyR M u).1 = applyL M u ∧ isVec M.length (applyL M u) = true := by
          intro u hu
          unfold applyR at hu ⊢
          split at hu
          · rename_i c1
            split at hu
            · rename_i c2
              split at hu
              · rename_i c3
                rw [if_pos c1, if_pos c2, if_pos c3]
                exact ⟨rfl, c3⟩
              · cases hu
            · cases hu
          · cases hu
        obtain ⟨e1, i1⟩ := fact v h1
        obtain ⟨e2, i2⟩ := fact w h2
        have hB : keepsB M F = true := by
          unfold keepsR at hk
          split at hk
          · assumption
          · cases hk
        obtain ⟨_, _, hlen, _, hF⟩ := (keepsB_iff M F).1 hB
        rw [hlen] at i1 i2
        obtain ⟨_, p2, p3⟩ := prod_ok.1 hp
        have hq : (productR F (applyL M v) (applyL M w)).2 = true := prod_ok.2 ⟨hF, i1, i2⟩
        rw [e1, e2, hq, hp, prod_val hq, prod_val hp, keeps_product hk (vec_Vd p2) (vec_Vd p3) (vec_Vd i1) (vec_Vd i2)]
        exact Ev_false (by simp) (Ev_true (by first | rfl | trivial) (law_j4 hl))
      · exact Ev_false h2 (law_j4 hl)
    · exact Ev_false h1 (law_j4 hl)
theorem law_j1 {l v w : List Int} {L : List (List Int)} (hl : Bytes l) {ok : Bool} (h : ok = true → isVec L.length v = true ∧ isVec L.length w = true) : Ev (fun k => laws_FnForms.j1 k l v w ok false) true := by
  obtain ⟨M, F, hd, hM, hF⟩ := draw_keeps hl
  refine Ev_succ ?_
  simp only [laws_FnForms.j1]
  refine Ev_false (by simp) (Ev.bind hd (Ev.bind (keeps_ev M F) (Ev.bind (foKeeps_ev hM hF) (Ev_false (by simp) ?_))))
  rw [bne_self_eq_false]
  refine Ev_succ ?_
  simp only [laws_FnForms.j2]
  refine Ev_false (by simp) ?_
  by_cases hk : (keepsR M F).1 = true
  · refine Ev_true hk ?_
    cases ok with
    | false => exact Ev_false (by simp) (law_j3 hl (fun hb => by cases hb))
    | true =>
      refine Ev_true (by first | rfl | trivial) (law_j3 hl fun hb => ?_)
      have hk2 : keepsR M F = (true, true) := by
        unfold keepsR at hk ⊢
        split at hk
        · rename_i c1
          rw [if_pos c1]
          exact Prod.ext hk rfl
        · cases hk
      have hB : keepsB M F = true := by
        unfold keepsR at hk
        split at hk
        · assumption
        · cases hk
      obtain ⟨_, _, _, _, hFm⟩ := (keepsB_iff M F).1 hB
      obtain ⟨h1, h2⟩ := h rfl
      have hlv := isVec_len h1
      have hle : F.length = L.length := by
        have := beq_iff_eq.1 hb
        omega
      exact ⟨hk2, prod_ok.2 ⟨hFm, by rw [hle]; exact h1, by rw [hle]; exact h2⟩⟩
  · exact Ev_false hk (law_j3 hl (fun hb => by cases hb))
theorem FnForms : laws_FnForms.Pure := by
  intro l m hl1 hl2 hl3 hm1 hm2 hm3
  have hl := Bytes.of hl2 hl3
  have hm := Bytes.of hm2 hm3
  refine Ev_out (g := fun k => laws_FnForms.f k l m) ?_
  unfold laws_FnForms.f
  obtain ⟨b, hb⟩ := big_eq l m
  rw [hb]
  simp only [Option.bind_some]
  by_cases hbt : b = true
  · exact Ev_true hbt Ev_some
  refine Ev_false hbt ?_
  obtain ⟨L, v, w, hd, hL, hv, hw⟩ := draw_product hl
  have hj0 : Ev (fun k => laws_FnForms.j0 k m v w (productR L v w).2 false L) true := by
    refine Ev_succ ?_
    simp only [laws_FnForms.j0]
    rw [symmetric_eq]
    simp only [Option.bind_some]
    refine Ev_false (by simp) ?_
    by_cases ho : (productR L v w).2 = true
    · obtain ⟨h1, h2, h3⟩ := prod_ok.1 ho
      have hs : symmetricR L = (true, true) := by
        unfold symmetricR
        rw [if_pos (isForm_mat h1).1, decide_eq_true (isForm_mat h1).2.2]
      rw [hs]
      exact Ev_true ho (Ev_true (by first | rfl | trivial) (law_j1 (L := L) hm (fun _ => ⟨h2, h3⟩)))
    · exact Ev_false ho (by rw [Bool.eq_false_iff.2 ho]; exact law_j1 (L := L) hm (fun h => by cases h))
  have hv' : v.length ≤ 1048576 := by omega
  have hw' : w.length ≤ 1048576 := by omega
  refine Ev.bind hd (Ev.bind (productAt_ev L v w) (Ev.bind (foProductAt_ev hL hv' hw') (Ev.bind (productAt_ev L w v) (Ev.bind (formAt_ev L v) (Ev.bind (productAt_ev L v v) (Ev_false (by simp) (Ev_true (by first | rfl | trivial) (Ev_false (by rw [prod_turn]; simp) ?_))))))))
  by_cases ho : (productR L v w).2 = true
  · refine Ev_true ho (Ev_true (prod_same ho) (Ev_false (by simp) ?_))
    rw [bne_self_eq_false]
    exact hj0
  · refine Ev_false ho (Ev_false (by simp) ?_)
    rw [bne_self_eq_false]
    exact hj0
end Go.Proofs.Ytldkkfpodldbgaa.Pure

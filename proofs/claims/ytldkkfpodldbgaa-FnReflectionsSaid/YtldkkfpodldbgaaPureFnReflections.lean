/- A reflection keeps its form, is its own inverse, and takes its vector to its opposite; the matrix of a word. -/
import Derived.Test.YtldkkfpodldbgaaRx3
import Derived.Test.YtldkkfpodldbgaaRx4
import Derived.Test.YtldkkfpodldbgaaRx5
import Derived.Test.YtldkkfpodldbgaaRx8
import Derived.Test.YtldkkfpodldbgaaRx11
import Derived.Test.YtldkkfpodldbgaaRx12
import Derived.Test.YtldkkfpodldbgaaRx15
import Derived.Test.YtldkkfpodldbgaaRx16
import Derived.Test.YtldkkfpodldbgaaRx17
import Derived.Test.YtldkkfpodldbgaaQRB
namespace Go.Proofs.Ytldkkfpodldbgaa.Pure
open Go.RowKit Go.Proofs.Ytldkkfpodldbgaa.P Go.Proofs.YtldkkfpodldbgaaW.PrintWords Go.Proofs.YtldkkfpodldbgaaW.PrintLast Go.Proofs.Ytldkkfpodldbgaa.Q Go.Proofs.Ytldkkfpodldbgaa.G
theorem size_at {l : List Int} (hl : Bytes l) {t s : Int} (h0 : 0 ≤ t) (h1 : t ≤ 1000000) : ∃ x t' s', spec_l1Cur_size.f l t s = some (x, t', s') ∧ 1 ≤ x ∧ x ≤ 4 ∧ t ≤ t' ∧ t' ≤ t + 2 := by
  obtain ⟨y, t2, s2, e2, hy, h1, h2⟩ := among_eq hl t s ([1, 2, 2, 3, 3, 4] : List Int) (by omega) (by omega) (by simp) (by simp)
  unfold spec_l1Cur_size.f
  rw [e2]
  simp only [List.mem_cons, List.not_mem_nil, or_false] at hy
  exact ⟨y, t2, s2, rfl, by omega, by omega, h1, by omega⟩
theorem refl_l0 {l : List Int} (hl : Bytes l) {x : Int} (h1 : 1 ≤ x) (h4 : x ≤ 4) : ∀ (d i : Nat) (v : List Int) (t s : Int), i + d = v.length → v.length ≤ 20 → 0 ≤ t → t + 2 * d ≤ 900000 → EvP (fun r : List (List Int) × List Int => Fits r.1 ∧ r.2.length ≤ 20) (fun k => spec_DrawReflectionOf.l0 k x v (v.length : Int) (i : Int) l t s)
  | 0, i, v, t, s, hi, hv, h0, ht => by
    refine EvP_succ ?_
    simp only [spec_DrawReflectionOf.l0]
    obtain ⟨r, hF, f1, f2, _⟩ := form_evP hl (x := x) (t := t) (s := s) h1 h4 h0 (by omega)
    exact EvP_false (by omega) (EvP_bind hF (EvP_some ⟨fits_small f1 f2, hv⟩))
  | d + 1, i, v, t, s, hi, hv, h0, ht => by
    refine EvP_succ ?_
    simp only [spec_DrawReflectionOf.l0]
    obtain ⟨y, t2, s2, e2, _, h2, h3⟩ := among_eq hl t s ([0, 1, (-1), 0, 2] : List Int) (by omega) (by omega) (by simp) (by simp)
    refine EvP_true (by omega) ?_
    rw [e2]
    simp only [Option.bind_some]
    rw [w64 (x := (i : Int) + 1) (by omega) (by omega)]
    have hs : (v.set ((i : Int)).toNat y).length = v.length := List.length_set ..
    have := refl_l0 hl h1 h4 d (i + 1) (v.set ((i : Int)).toNat y) t2 s2 (by omega) (by omega) (by omega) (by omega)
    rw [hs] at this
    exact EvP_true (by omega) (EvP_true (by omega) this)
theorem draw_refl {l : List Int} (hl : Bytes l) : ∃ F v, Ev (fun k => spec_DrawReflectionOf.f k l) (F, v) ∧ Fits F ∧ v.length ≤ 20 := by
  obtain ⟨x, t, s, e, h1, h4, h0, ht⟩ := size_at hl (t := 0) (s := 0) (by omega) (by omega)
  obtain ⟨⟨v, t1, s1⟩, hv, v1, v2, v3⟩ := vector_evP hl (x := x) (t := t) (s := s) h1 h4 (by omega) (by omega)
  have v1 : v.length ≤ 20 := v1
  have v2 : t ≤ t1 := v2
  have v3 : t1 ≤ t + 100 := v3
  obtain ⟨b, t2, s2, e2, g1, g2⟩ := one_eq hl t1 s1 2 (by omega) (by omega) (by omega)
  unfold spec_DrawReflectionOf.f
  rw [e]
  simp only [Option.bind_some]
  by_cases hb : b = true
  · obtain ⟨⟨F, u⟩, hr, hF, hu⟩ := refl_l0 hl h1 h4 v.length 0 v t2 s2 (by omega) v1 (by omega) (by omega)
    refine ⟨F, u, Ev.bind hv ?_, hF, hu⟩
    rw [e2]
    simp only [Option.bind_some]
    exact Ev_true hb hr
  · obtain ⟨⟨F, t3, s3⟩, hF, f1, f2, _⟩ := form_evP hl (x := x) (t := t2) (s := s2) h1 h4 (by omega) (by omega)
    refine ⟨F, v, Ev.bind hv ?_, fits_small f1 f2, v1⟩
    rw [e2]
    simp only [Option.bind_some]
    exact Ev_false hb (Ev.bind hF Ev_some)
theorem word_draw1 {l : List Int} (hl : Bytes l) {G : List S26} (hG : G.length ≤ 20) : ∀ (d : Nat) (x : Int) (w : List Int) (t s : Int), x.toNat ≤ d → x ≤ 100 → w.length + d ≤ 100 → 0 ≤ t → t + 2 * d ≤ 900000 → EvP (fun r : List S26 × List Int => r.1 = G ∧ r.2.length ≤ 100) (fun k => spec_DrawWordMatrix.l1 k G w x l t s) := by
  have last : ∀ (x : Int) (w : List Int) (t s : Int), ¬ x > 0 → w.length ≤ 100 → 0 ≤ t → t ≤ 900000 → EvP (fun r : List S26 × List Int => r.1 = G ∧ r.2.length ≤ 100) (fun k => spec_DrawWordMatrix.l1 k G w x l t s) := by
    intro x w t s hx hw h0 ht
    refine EvP_succ ?_
    simp only [spec_DrawWordMatrix.l1]
    refine EvP_false hx (EvP_ite (fun hp => ?_) (fun _ => EvP_some ⟨rfl, hw⟩))
    obtain ⟨b, t2, s2, e2, g1, g2⟩ := one_eq hl t s 15 (by omega) (by omega) (by omega)
    rw [e2]
    simp only [Option.bind_some]
    refine EvP_ite (fun _ => ?_) (fun _ => EvP_some ⟨rfl, hw⟩)
    obtain ⟨y, t3, s3, e3, _⟩ := among_eq hl t2 s2 ([(-1), (G.length : Int)] : List Int) (by omega) (by omega) (by simp) (by simp)
    rw [e3]
    simp only [Option.bind_some]
    exact EvP_true (by omega) (EvP_some ⟨rfl, by rw [List.length_set]; exact hw⟩)
  intro d
  induction d with
  | zero => exact fun x w t s hx _ hw h0 ht => last x w t s (by omega) (by omega) h0 (by omega)
  | succ d ih =>
    intro x w t s hx hx1 hw h0 ht
    by_cases h : x > 0
    · refine EvP_succ ?_
      simp only [spec_DrawWordMatrix.l1]
      refine EvP_true h ?_
      have hm : ∃ m : Int, spec_l1Most.f 1 (G.length : Int) = some m ∧ m ≤ 100 := by
        unfold spec_l1Most.f
        by_cases c : (1 : Int) > (G.length : Int)
        · rw [if_pos c]; exact ⟨1, rfl, by omega⟩
        · rw [if_neg c]; exact ⟨_, rfl, by omega⟩
      obtain ⟨m, em, hm⟩ := hm
      rw [em]
      simp only [Option.bind_some]
      obtain ⟨y, t2, s2, e2, _, _, g1, g2⟩ := pick_eq hl t s m (by omega) (by omega) (by omega)
      rw [e2]
      simp only [Option.bind_some]
      rw [w64 (x := x - 1) (by omega) (by omega)]
      exact EvP_true (by omega) (ih (x - 1) _ t2 s2 (by omega) (by omega) (by rw [List.length_append, List.length_singleton]; omega) (by omega) (by omega))
    · exact last x w t s h (by omega) h0 (by omega)
theorem word_draw0 {l : List Int} (hl : Bytes l) {n : Int} (h1 : 1 ≤ n) (h4 : n ≤ 4) : ∀ (d : Nat) (x : Int) (G : List S26) (t s : Int), x.toNat ≤ d → x ≤ 20 → G.length + d ≤ 20 → (∀ g ∈ G, Fits g.f0) → 0 ≤ t → t + 300 * d ≤ 800000 → EvP (fun r : List S26 × List Int => (∀ g ∈ r.1, Fits g.f0) ∧ r.2.length ≤ 100) (fun k => spec_DrawWordMatrix.l0 k n G x l t s) := by
  have last : ∀ (x : Int) (G : List S26) (t s : Int), ¬ x > 0 → G.length ≤ 20 → (∀ g ∈ G, Fits g.f0) → 0 ≤ t → t ≤ 800000 → EvP (fun r : List S26 × List Int => (∀ g ∈ r.1, Fits g.f0) ∧ r.2.length ≤ 100) (fun k => spec_DrawWordMatrix.l0 k n G x l t s) := by
    intro x G t s hx hG hf h0 ht
    refine EvP_succ ?_
    simp only [spec_DrawWordMatrix.l0]
    obtain ⟨y, t2, s2, e2, hy, g1, g2⟩ := among_eq hl t s ([0, 1, 2, 4, 6, 40, 41] : List Int) (by omega) (by omega) (by simp) (by simp)
    refine EvP_false hx ?_
    rw [e2]
    simp only [Option.bind_some]
    simp only [List.mem_cons, List.not_mem_nil, or_false] at hy
    exact EvP_mono (word_draw1 hl hG 41 y [] t2 s2 (by omega) (by omega) (by simp) (by omega) (by omega)) fun r hr => ⟨by rw [hr.1]; exact hf, hr.2⟩
  intro d
  induction d with
  | zero => exact fun x G t s hx _ hG hf h0 ht => last x G t s (by omega) (by omega) hf h0 (by omega)
  | succ d ih =>
    intro x G t s hx hx1 hG hf h0 ht
    by_cases h : x > 0
    · refine EvP_succ ?_
      simp only [spec_DrawWordMatrix.l0]
      obtain ⟨⟨M, t2, s2⟩, hM, m1, m2, m3, m4⟩ := matrix_evP hl (x := n) (t := t) (s := s) h1 h4 h0 (by omega)
      have m3 : t ≤ t2 := m3
      have m4 : t2 ≤ t + 300 := m4
      refine EvP_true h (EvP_bind hM (EvP_true (by omega) ?_))
      rw [w64 (x := x - 1) (by omega) (by omega)]
      refine ih (x - 1) _ t2 s2 (by omega) (by omega) (by rw [List.length_append, List.length_singleton]; omega) ?_ (by omega) (by omega)
      intro g hg
      rcases List.mem_append.1 hg with hg | hg
      · exact hf g hg
      · rw [List.mem_singleton.1 hg]
        exact fits_small m1 m2
    · exact last x G t s h (by omega) hf h0 (by omega)
theorem draw_word {l : List Int} (hl : Bytes l) : ∃ G w, Ev (fun k => spec_DrawWordMatrix.f k l) (G, w) ∧ (∀ g ∈ G, Fits g.f0) ∧ w.length ≤ 100 := by
  obtain ⟨x, t, s, e, h1, h4, h0, ht⟩ := size_at hl (t := 0) (s := 0) (by omega) (by omega)
  obtain ⟨y, t2, s2, e2, hy, g1, g2⟩ := among_eq hl t s ([1, 2, 3, 8, 9, 0] : List Int) (by omega) (by omega) (by simp) (by simp)
  simp only [List.mem_cons, List.not_mem_nil, or_false] at hy
  obtain ⟨⟨G, w⟩, hr, h5, h6⟩ := word_draw0 hl h1 h4 9 y [] t2 s2 (by omega) (by omega) (by simp) (fun g hg => by cases hg) (by omega) (by omega)
  refine ⟨G, w, ?_, h5, h6⟩
  unfold spec_DrawWordMatrix.f
  rw [e]
  simp only [Option.bind_some]
  rw [e2]
  simp only [Option.bind_some]
  exact hr
theorem law_j5 {G : List S26} {w : List Int} {b : Bool} (hb : b = true → w.length > 0 ∧ w.length ≤ 100 ∧ (wordR G w).2 = true) : Ev (fun k => laws_FnReflections.j5 k G w b (wordR G w).1) true := by
  refine Ev_succ ?_
  simp only [laws_FnReflections.j5]
  cases b with
  | false => exact Ev_false (by simp) Ev_some
  | true =>
    obtain ⟨h1, h2, h3⟩ := hb rfl
    obtain ⟨a, x, rfl⟩ : ∃ a x, w = a ++ [x] := by
      rcases List.eq_nil_or_concat w with h | ⟨a, x, h⟩
      · rw [h] at h1; simp at h1
      · exact ⟨a, x, by rw [h, List.concat_eq_append]⟩
    have el : ((a ++ [x]).length : Int) - 1 = (a.length : Int) := by rw [List.length_append, List.length_singleton]; omega
    have hla : a.length + 1 ≤ 100 := by rw [List.length_append, List.length_singleton] at h2; exact h2
    have er : rd (a ++ [x]) (a.length : Int) = x := by simp [rd]
    obtain ⟨hx, hA, hM⟩ := wordR_last h3
    rw [el, w64 (x := (a.length : Int)) (by omega) (by omega), Int.toNat_natCast, List.take_left', er]
    · refine Ev_true rfl (Ev_true (by omega) (Ev_true (by rw [List.length_append, List.length_singleton]; omega) (Ev.bind (word_ev G a) (Ev_true (by rw [List.length_append, List.length_singleton]; omega) (Ev_true hx.1 (Ev_true hx.2 ?_))))))
      rw [mult_eq, hM]
      simp only [Option.bind_some]
      exact Ev_true hA (Ev_true trivial (Ev.bind (dMatrix_same (wordR_fits' G _)) Ev_some))
    · rfl
theorem law_j3 {l : List Int} (hl : Bytes l) : Ev (fun k => laws_FnReflections.j3 k l) true := by
  obtain ⟨G, w, hd, hG, hw⟩ := draw_word hl
  refine Ev_succ ?_
  simp only [laws_FnReflections.j3]
  refine Ev.bind hd (Ev.bind (word_ev G w) (Ev.bind (specWord_ev hG (by show w.length ≤ _; omega)) (Ev_false (by simp) (Ev.bind (dMatrix_same (wordR_fits' G w)) ?_))))
  refine Ev_succ ?_
  simp only [laws_FnReflections.j4]
  refine Ev_false (by simp) ?_
  by_cases h : (wordR G w).2 = true
  · exact Ev_true h (law_j5 fun hb => ⟨by have := of_decide_eq_true hb; omega, hw, h⟩)
  · exact Ev_false h (law_j5 fun hb => by cases hb)
theorem law_l0 {l : List Int} (hl : Bytes l) {u v : List Int} (hn : v.length ≤ 20) (hu : u.length = v.length) (h : ∀ i : Nat, i < v.length → rd u (i : Int) = -rd v (i : Int)) (hv : ∀ i : Int, -1000000 ≤ rd v i ∧ rd v i ≤ 1000000) (d : Nat) : ∀ i : Nat, i + d = v.length → Ev (fun k => laws_FnReflections.l0 k l u v (v.length : Int) (i : Int)) true := by
  induction d with
  | zero =>
    intro i hi
    refine Ev_succ ?_
    simp only [laws_FnReflections.l0]
    exact Ev_false (by omega) (law_j3 hl)
  | succ d ih =>
    intro i hi
    refine Ev_succ ?_
    simp only [laws_FnReflections.l0]
    have hb := hv (i : Int)
    rw [w64 (x := (i : Int) + 1) (by omega) (by omega), w64 (x := -rd v (i : Int)) (by omega) (by omega)]
    exact Ev_true (by omega) (Ev_true (by omega) (Ev_true (by omega) (Ev_true (by omega) (Ev_true (h i (by omega)) (ih (i + 1) (by omega))))))
theorem isVec_of {n : Nat} {l : List Int} (h : l.length = n) (hb : ∀ x ∈ l, -1000000 ≤ x ∧ x ≤ 1000000) : isVec (n : Int) l = true := by
  unfold isVec
  rw [Bool.and_eq_true, decide_eq_true_iff]
  refine ⟨by omega, List.all_eq_true.2 fun x hx => ?_⟩
  unfold inB
  rw [Bool.and_eq_true, decide_eq_true_iff, decide_eq_true_iff]
  exact hb x hx
theorem law_j0 {l : List Int} (hl : Bytes l) {F : List (List Int)} {v : List Int} (hv : v.length ≤ 20) : Ev (fun k => laws_FnReflections.j0 k l v (refR F v).2 false F (refR F v).1) true := by
  refine Ev_succ ?_
  simp only [laws_FnReflections.j0]
  refine Ev_false (by simp) ?_
  by_cases h : (refR F v).2 = true
  · obtain ⟨hF, hvec, hm, hlen, _⟩ := refR_ok h
    have hlv := isVec_len hvec
    have h4 := isMat_len (isForm_mat hF).1
    have hk := refl_keeps h
    have ht := refl_twice h
    have hi := refl_image h
    have hb := vec_Vd hvec
    refine Ev_true h ?_
    generalize (refR F v).1 = M at hm hlen hk ht hi ⊢
    have hal : (applyL M v).length = F.length := by rw [applyL_length, hlen]
    have hval : ∀ x ∈ applyL M v, -1000000 ≤ x ∧ x ≤ 1000000 := fun x hx => by
      obtain ⟨i, hi1, rfl⟩ := List.getElem_of_mem hx
      have e := hi i (by omega)
      rw [rd_at hi1] at e
      have := hb i
      omega
    have ha : applyR M v = (applyL M v, true) := by
      unfold applyR
      rw [if_pos hm, hlen, if_pos hvec, if_pos (isVec_of hal hval)]
    rw [mult_eq, unit_eq, if_pos (show 1 ≤ (v.length : Int) ∧ (v.length : Int) ≤ 4 by omega), Int.toNat_natCast]
    simp only [Option.bind_some]
    refine Ev.bind (keeps_ev M F) (Ev.bind (applyMatrix_ev M v) ?_)
    rw [ha]
    have hj1 : Ev (fun k => laws_FnReflections.j1 k l v (applyL M v) (!true)) true := by
      refine Ev_succ ?_
      simp only [laws_FnReflections.j1]
      exact Ev_false (by simp) (law_l0 hl hv (by omega) (fun i hi1 => hi i (by omega)) (fun i => by
        have := rd_bd (A := 1000000) (by omega) (vec_mem hvec) i
        exact this) v.length 0 (by omega))
    have hu : Fits (unitL v.length) := fits_sq (isSq_rowsOf _ (by omega))
    have e2 : (multR M M).2 = true → (multR M M).1 = unitL v.length := fun c => by rw [(multR_ok c).2.2, hlv]; exact ht
    have inner : Ev (fun k => if (multR M M).2 = true then ((laws_dMatrix.f k (multR M M).1 (unitL v.length)).bind fun t610 => if t610 = true then (if (true = true) then laws_FnReflections.j1 k l v (applyL M v) (!true) else laws_FnReflections.j1 k l v (applyL M v) true) else laws_FnReflections.j1 k l v (applyL M v) true) else (if (true = true) then laws_FnReflections.j1 k l v (applyL M v) (!true) else laws_FnReflections.j1 k l v (applyL M v) true)) true := by
      by_cases c : (multR M M).2 = true
      · refine Ev_true c ?_
        rw [e2 c]
        exact Ev.bind (dMatrix_same hu) (Ev_true rfl (Ev_true rfl hj1))
      · exact Ev_false c (Ev_true rfl hj1)
    unfold keepsR
    by_cases c : keepsB M F = true
    · rw [if_pos c, decide_eq_true hk]
      exact Ev_true rfl (Ev_true rfl inner)
    · rw [if_neg c]
      exact Ev_false (by simp) inner
  · exact Ev_false h (law_j3 hl)
theorem FnReflections : laws_FnReflections.Pure := by
  intro l m hl1 hl2 hl3 hm1 hm2 hm3
  have hl := Bytes.of hl2 hl3
  have hm := Bytes.of hm2 hm3
  refine Ev_out (g := fun k => laws_FnReflections.f k l m) ?_
  unfold laws_FnReflections.f
  obtain ⟨b, hb⟩ := big_eq l m
  rw [hb]
  simp only [Option.bind_some]
  by_cases hbt : b = true
  · exact Ev_true hbt Ev_some
  refine Ev_false hbt ?_
  obtain ⟨F, v, hd, hF, hv⟩ := draw_refl hl
  refine Ev.bind hd ?_
  unfold impl_ReflectionOf.f
  simp only [Option.bind_some]
  exact Ev.bind (specRef_ev hF (by show v.length ≤ _; omega)) (Ev_false (by simp) (Ev.bind (dMatrix_same (fits_or (refR_sq F v))) (law_j0 hm hv)))
end Go.Proofs.Ytldkkfpodldbgaa.Pure

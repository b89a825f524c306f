/- Each quad comes to a root by falling sums, its word leads there and the word backwards leads up again. -/
import Derived.Test.YtnaginnhccldhaaBx1
import Derived.Test.YtnaginnhccldhaaBx2
import Derived.Test.YtnaginnhccldhaaBx4
import Derived.Test.YtnaginnhccldhaaBx15
import Derived.Test.YtnaginnhccldhaaBx16
import Derived.Test.YtnaginnhccldhaaBx17
import Derived.Test.YtnaginnhccldhaaBQQuadX
import Derived.Test.YtnaginnhccldhaaBQQuadD
import Derived.Test.YtnaginnhccldhaaBQBig
import Derived.Test.YtnaginnhccldhaaBQDS
namespace Go.Proofs.Ytnaginnhccldhaa.Pure
open Go.RowKit Go.Proofs.Ytnaginnhccldhaa.P Go.Proofs.YtnaginnhccldhaaW.PrintWords Go.Proofs.YtnaginnhccldhaaW.PrintLast Go.Proofs.Ytnaginnhccldhaa.Q Go.Proofs.Ytnaginnhccldhaa.G
theorem sum_swap {q : List Int} (hq : q.length = 4) {i : Nat} (hi : i < 4) : sum4 (swapL q i) = sum4 q + (rd (swapL q i) (i : Int) - rd q (i : Int)) := by
  match q, hq with
  | [a, b, c, d], _ =>
    rcases (show i = 0 ∨ i = 1 ∨ i = 2 ∨ i = 3 by omega) with rfl | rfl | rfl | rfl
    · show 2 * (b + c + d) - a + b + c + d = a + b + c + d + ((2 * (b + c + d) - a) - a); omega
    · show a + (2 * (a + c + d) - b) + c + d = a + b + c + d + ((2 * (a + c + d) - b) - b); omega
    · show a + b + (2 * (a + b + d) - c) + d = a + b + c + d + ((2 * (a + b + d) - c) - c); omega
    · show a + b + c + (2 * (a + b + c) - d) = a + b + c + d + ((2 * (a + b + c) - d) - d); omega
theorem law_l2 {r : List Int} (h : Quad4 r) (hr : rootB r = true) : ∀ (d i : Nat), i + d = 4 → Ev (fun k => laws_FnFallingQuads.l2 k r (i : Int)) true
  | 0, i, hi => by
    refine Ev_succ ?_
    simp only [laws_FnFallingQuads.l2]
    exact Ev_false (by omega) Ev_some
  | d + 1, i, hi => by
    have ih := law_l2 h hr d (i + 1) (by omega)
    refine Ev_succ ?_
    simp only [laws_FnFallingQuads.l2]
    rw [w64 (x := (i : Int) + 1) (by omega) (by omega)]
    refine Ev_true (by omega) (Ev.bind (swapAt_ev h (show i < 4 by omega)) ?_)
    unfold swapR
    by_cases hc : InC (rd (swapL r i) (i : Int))
    · rw [if_pos hc]
      have hs := swap_quad h (show i < 4 by omega) hc
      refine Ev_true (by first | rfl | trivial) (Ev.bind (dSum_ev hs) (Ev.bind (dSum_ev h) (Ev_false ?_ ih)))
      rw [sum_swap (quad_len h) (show i < 4 by omega)]
      have := (root_iff h).1 hr i (by omega)
      omega
    · rw [if_neg hc]
      exact Ev_false (by simp) ih
theorem draw_root {l : List Int} (hl : Bytes l) : ∃ q, Ev (fun k => spec_DrawIsRoot.f k l) q ∧ q.length ≤ 5 := by
  obtain ⟨⟨q, t, s⟩, h1, h2, _⟩ := quad_ev hl
  unfold spec_DrawIsRoot.f spec_DrawIsQuad.f
  exact ⟨q, Ev.bind (Ev.bind (f := fun _ (t : List Int × Int × Int) => some t.1) h1 Ev_some) Ev_some, h2⟩
theorem draw_down {l : List Int} (hl : Bytes l) : ∃ q, Ev (fun k => spec_DrawDownPath.f k l) q ∧ q.length ≤ 5 := by
  obtain ⟨⟨q, t, s⟩, h1, h2, _⟩ := quad_ev hl
  unfold spec_DrawDownPath.f spec_DrawIsQuad.f
  exact ⟨q, Ev.bind (Ev.bind (f := fun _ (t : List Int × Int × Int) => some t.1) h1 Ev_some) Ev_some, h2⟩
theorem draw_at {l : List Int} (hl : Bytes l) : ∃ q i, Ev (fun k => spec_DrawSwapAt.f k l) (q, i) ∧ q.length ≤ 5 := by
  obtain ⟨⟨q, t, s⟩, h1, h2, h3, h4⟩ := quad_ev hl
  have h3 : 0 ≤ t := h3
  have h4 : t ≤ 80000 := h4
  obtain ⟨y, t2, s2, e2, hy, _⟩ := among_eq hl t s ([0, 1, 2, 3, 3, 4, (-1)] : List Int) h3 (by omega) (by simp) (by simp)
  unfold spec_DrawSwapAt.f
  refine ⟨q, y, Ev.bind h1 ?_, h2⟩
  simp only
  rw [e2]
  exact Ev_some
theorem law_j7 {l : List Int} (hl : Bytes l) : Ev (fun k => laws_FnFallingQuads.j7 k l) true := by
  obtain ⟨r, hd, hn⟩ := draw_root hl
  refine Ev_succ ?_
  simp only [laws_FnFallingQuads.j7]
  refine Ev.bind hd ?_
  have hq := isQuad_ev r
  by_cases h : Quad4 r
  · rw [isQ_true h] at hq
    refine Ev.bind (isRoot_impl h) (Ev.bind (isRoot_spec h) (Ev_false (by simp) (Ev_false (by simp) (Ev.bind hq ?_))))
    rw [bne_self_eq_false]
    refine Ev_succ ?_
    simp only [laws_FnFallingQuads.j8]
    refine Ev_false (by simp) ?_
    by_cases hr : rootB r = true
    · exact Ev_true hr (law_l2 h hr 4 0 rfl)
    · exact Ev_false hr Ev_some
  · rw [isQ_false h] at hq
    refine Ev.bind (isRoot_impl_no h) (Ev.bind (isRoot_spec_no h) (Ev_false (by simp) (Ev_false (by simp) (Ev.bind hq ?_))))
    rw [bne_self_eq_false]
    refine Ev_succ ?_
    simp only [laws_FnFallingQuads.j8]
    exact Ev_false (by simp) (Ev_false (by simp) Ev_some)
theorem srt_len (l : List Int) : (srt l).length = l.length := (srt_perm l).length_eq
theorem law_j5 {l : List Int} (hl : Bytes l) : Ev (fun k => laws_FnFallingQuads.j5 k l) true := by
  obtain ⟨p, i, hd, hn⟩ := draw_at hl
  refine Ev_succ ?_
  simp only [laws_FnFallingQuads.j5]
  refine Ev.bind hd ?_
  have no : Ev (fun k => laws_FnFallingQuads.j6 k l p i [] false false) true := by
    refine Ev_succ ?_
    simp only [laws_FnFallingQuads.j6]
    exact Ev_false (by simp) (Ev_false (by simp) (law_j7 hl))
  by_cases h : Quad4 p ∧ 0 ≤ i ∧ i ≤ 3
  · obtain ⟨h, h0, h3⟩ := h
    obtain ⟨j, rfl⟩ := Int.eq_ofNat_of_zero_le h0
    have hj : j < 4 := by omega
    refine Ev.bind (swapAt_ev h hj) (Ev.bind (swapAt_spec h hj) (Ev_false (by simp) (Ev.bind (dSame_same (by
      unfold swapR
      split
      · show (swapL p j).length ≤ _; rw [swap_len h]; omega
      · show ([] : List Int).length ≤ _; simp)) ?_)))
    rw [Bool.not_true]
    unfold swapR
    by_cases hc : InC (rd (swapL p j) (j : Int))
    · rw [if_pos hc]
      have hs := swap_quad h hj hc
      have hb := swap_swap (quad_len h) hj
      have hin : InC (rd p (j : Int)) := by
        obtain ⟨a, b, c, d, rfl, ⟨ha, hb, hc, hd⟩, _⟩ := h
        rcases (show j = 0 ∨ j = 1 ∨ j = 2 ∨ j = 3 by omega) with rfl | rfl | rfl | rfl <;> assumption
      have hback := swapAt_ev hs hj
      unfold swapR at hback
      rw [hb, if_pos hin] at hback
      have hq := isQuad_ev (swapL p j)
      rw [isQ_true hs] at hq
      refine Ev_succ ?_
      simp only [laws_FnFallingQuads.j6]
      refine Ev_false (by simp) (Ev_true (by first | rfl | trivial) (Ev.bind hback (Ev.bind (rootQuad_impl h) (Ev.bind (rootQuad_impl hs) (Ev.bind hq (Ev_true rfl (Ev_true (by first | rfl | trivial) (Ev.bind (dSame_same (by rw [quad_len h]; omega)) (Ev_true (by first | rfl | trivial) ?_)))))))))
      unfold rootR
      by_cases h1 : okQ p = true
      · rw [if_pos h1]
        refine Ev_true (by first | rfl | trivial) ?_
        by_cases h2 : okQ (swapL p j) = true
        · rw [if_pos h2, same_root h hj hs (okQ_true.1 h1) (okQ_true.1 h2)]
          exact Ev_true (by first | rfl | trivial) (Ev.bind (dSame_same (by show (srt (rootP 200 p)).length ≤ _; rw [srt_len, quad_len (root_quad h)]; omega)) (Ev_true (by first | rfl | trivial) (law_j7 hl)))
        · rw [if_neg h2]
          exact Ev_false (by simp) (law_j7 hl)
      · rw [if_neg h1]
        exact Ev_false (by simp) (law_j7 hl)
    · rw [if_neg hc]
      exact no
  · obtain ⟨e1, e2⟩ := swapAt_no (q := p) (i := i) (by
      by_cases h1 : Quad4 p
      · exact .inr (fun h2 => h ⟨h1, h2⟩)
      · exact .inl h1)
    refine Ev.bind e1 (Ev.bind e2 (Ev_false (by simp) (Ev.bind (dSame_same (by simp)) ?_)))
    rw [Bool.not_true]
    exact no
theorem follow_word_ev {q : List Int} (h : Quad4 q) (ho : okQ q = true) : Ev (fun k => impl_FollowSwaps.f k q (wordQ 200 q)) (rootP 200 q, true) ∧ Ev (fun k => impl_FollowSwaps.f k (rootP 200 q) (wordQ 200 q).reverse) (q, true) := by
  have hl := path_len 200 q
  have hk := okQ_true.1 ho
  have hr := root_quad (n := 200) h
  have h1 := followSwaps_impl q (wordQ 200 q) (by rw [quad_len h]; omega)
  have h2 := followSwaps_impl (rootP 200 q) (wordQ 200 q).reverse (by rw [quad_len hr]; omega)
  unfold followR at h1 h2
  rw [if_pos ⟨h, by omega, word_all 200 q⟩, follow_word h] at h1
  rw [if_pos ⟨hr, by rw [List.length_reverse]; omega, fun x hx => word_all 200 q x (List.mem_reverse.1 hx)⟩, follow_back h] at h2
  exact ⟨h1, h2⟩
theorem law_l1 {l q : List Int} (hl : Bytes l) (h : Quad4 q) (ho : okQ q = true) : ∀ (d : Nat) (x : Int), x + 1 = (d : Int) → d ≤ (wordQ 200 q).length → Ev (fun k => laws_FnFallingQuads.l1 k l q (wordQ 200 q) (rootP 200 q) ((wordQ 200 q).drop d).reverse x) true
  | 0, x, hx, hd => by
    refine Ev_succ ?_
    simp only [laws_FnFallingQuads.l1]
    rw [List.drop_zero]
    exact Ev_false (by omega) (Ev.bind (follow_word_ev h ho).2 (Ev_true (by first | rfl | trivial) (Ev.bind (dSame_same (by rw [quad_len h]; omega)) (Ev_true (by first | rfl | trivial) (law_j5 hl)))))
  | d + 1, x, hx, hd => by
    have hlen := path_len 200 q
    have hk := okQ_true.1 ho
    obtain rfl : x = (d : Int) := by omega
    refine Ev_succ ?_
    simp only [laws_FnFallingQuads.l1]
    refine Ev_true (by omega) (Ev_true (by omega) (Ev_true (by omega) (Ev_true (by rw [List.length_reverse, List.length_drop]; omega) ?_)))
    have ih := law_l1 hl h ho d ((d : Int) - 1) (by omega) (by omega)
    rw [rdn (by omega), w64 (by omega) (by omega)]
    rw [List.drop_eq_getElem_cons (by omega), List.reverse_cons] at ih
    exact ih
theorem law_j3 {l q : List Int} (hl : Bytes l) (h : Quad4 q) (ho : okQ q = true) : Ev (fun k => laws_FnFallingQuads.j3 k l q (wordQ 200 q) (rootP 200 q) false) true := by
  have hlen := path_len 200 q
  have hk := okQ_true.1 ho
  refine Ev_succ ?_
  simp only [laws_FnFallingQuads.j3]
  refine Ev_false (by simp) ?_
  have := law_l1 hl h ho (wordQ 200 q).length (((wordQ 200 q).length : Int) - 1) (by omega) (Nat.le_refl _)
  rw [List.drop_length, List.reverse_nil] at this
  rw [w64 (by omega) (by omega)]
  exact this
theorem law_l0 {l q : List Int} (hl : Bytes l) (h : Quad4 q) (ho : okQ q = true) : ∀ (d i : Nat), i + d = (pathQ 200 q).length → 1 ≤ i → Ev (fun k => laws_FnFallingQuads.l0 k l q (pathQ 200 q) (wordQ 200 q) (i : Int)) true
  | 0, i, hi, h1 => by
    have hlen := path_len 200 q
    have hk := okQ_true.1 ho
    have hr := root_quad (n := 200) h
    have hrr : rootB (rootP 200 q) = true := root_root hk
    refine Ev_succ ?_
    simp only [laws_FnFallingQuads.l0]
    refine Ev_false (by omega) ?_
    rw [w64 (x := ((pathQ 200 q).length : Int) - 1) (by omega) (by omega)]
    refine Ev_true (by omega) (Ev_true (by omega) ?_)
    rw [show ((pathQ 200 q).length : Int) - 1 = (((pathQ 200 q).length - 1 : Nat) : Int) by omega, rd2 (by omega), path_last]
    unfold sameRow.f
    simp only [Option.bind_some]
    have hri := isRoot_impl hr
    rw [hrr] at hri
    refine Ev.bind hri (Ev.bind (follow_word_ev h ho).1 (Ev_true (by first | rfl | trivial) (Ev_true (by first | rfl | trivial) (Ev_true (by first | rfl | trivial) (Ev.bind (dSame_same (by show (rootP 200 q).length ≤ _; rw [quad_len hr]; omega)) ?_)))))
    rw [Bool.not_true]
    exact law_j3 hl h ho
  | d + 1, i, hi, h1 => by
    have hlen := path_len 200 q
    have hk := okQ_true.1 ho
    have ih := law_l0 hl h ho d (i + 1) (by omega) (by omega)
    obtain ⟨e1, e2, e3⟩ := path_step (n := 200) h (i - 1) (by omega) (by omega)
    have hp := path_all h _ (List.getElem_mem (show i - 1 < (pathQ 200 q).length by omega))
    have hd := down_quad hp e3
    have hsw := swapAt_ev hp (best_lt (pathQ 200 q)[i - 1])
    unfold swapR at hsw
    rw [if_pos hd.2.2] at hsw
    have e1' : (pathQ 200 q)[i] = downQ (pathQ 200 q)[i - 1] := by
      rw [← e1]
      congr 1
      omega
    refine Ev_succ ?_
    simp only [laws_FnFallingQuads.l0]
    rw [w64 (x := (i : Int) - 1) (by omega) (by omega), w64 (x := (i : Int) + 1) (by omega) (by omega)]
    rw [show (i : Int) - 1 = ((i - 1 : Nat) : Int) by omega, rd2 (show i - 1 < (pathQ 200 q).length by omega), rdn (show i - 1 < (wordQ 200 q).length by omega), rd2 (show i < (pathQ 200 q).length by omega), e2, e1']
    refine Ev_true (by omega) (Ev_true (by omega) (Ev_true (by omega) (Ev_true (by omega) (Ev.bind hsw (Ev_true (by first | rfl | trivial) (Ev_true (by omega) (Ev.bind (dSame_same (by show (downQ (pathQ 200 q)[i - 1]).length ≤ _; rw [quad_len hd.1]; omega)) (Ev_true (by first | rfl | trivial) (Ev.bind (dSum_ev hd.1) (Ev.bind (dSum_ev hp) (Ev_false (by have := hd.2.1; omega) ih)))))))))))
theorem law_j0 {l q : List Int} (hl : Bytes l) (h : Quad4 q) : Ev (fun k => laws_FnFallingQuads.j0 k l q (pathR q).1 (pathR q).2 (wordR q).1 (swapD q).1 (swapD q).2 false) true := by
  have hlen := path_len 200 q
  refine Ev_succ ?_
  simp only [laws_FnFallingQuads.j0]
  refine Ev_false (by simp) ?_
  unfold pathR wordR
  by_cases ho : okQ q = true
  · have hk := okQ_true.1 ho
    obtain ⟨t, ht⟩ := path_head 200 q
    have h0 : 0 < (pathQ 200 q).length := by rw [ht]; simp
    rw [if_pos ho, if_pos ho]
    have e0 : rd_L2 (pathQ 200 q) 0 = q := by
      have := rd2 h0
      rw [show ((0 : Nat) : Int) = 0 from rfl] at this
      rw [this]
      simp [ht]
    have hj1 : Ev (fun k => laws_FnFallingQuads.j1 k l q (pathQ 200 q) (wordQ 200 q) false) true := by
      refine Ev_succ ?_
      simp only [laws_FnFallingQuads.j1]
      exact Ev_false (by simp) (law_l0 hl h ho ((pathQ 200 q).length - 1) 1 (by omega) (by omega))
    simp only []
    rw [e0, w64 (x := ((pathQ 200 q).length : Int) - 1) (by omega) (by omega)]
    refine Ev_true (by first | rfl | trivial) (Ev_true (by omega) (Ev.bind (dSame_same (by rw [quad_len h]; omega)) (Ev_true (by first | rfl | trivial) (Ev_true (by omega) ?_))))
    unfold swapD
    by_cases hr : rootB q = true
    · have ew : wordQ 200 q = [] := by rw [show (200 : Nat) = 199 + 1 from rfl, wordQ, if_pos hr]
      rw [if_pos hr]
      refine Ev_false ?_ (Ev_false (by simp) hj1)
      rw [ew]
      decide
    · have ew : wordQ 200 q = ((best q : Nat) : Int) :: wordQ 199 (downQ q) := by rw [show (200 : Nat) = 199 + 1 from rfl, wordQ, if_neg hr]
      rw [if_neg hr]
      have hpos : 0 < (wordQ 200 q).length := by rw [ew]; simp
      refine Ev_false ?_ (Ev_true (by first | rfl | trivial) (Ev_true (by omega) ?_))
      · rw [decide_eq_true (show ((wordQ 200 q).length : Int) > 0 by omega)]
        simp
      · have e1 : ((((best q : Nat) : Int), true).1 != rd (wordQ 200 q) 0) = false := by
          rw [ew]
          simp [rd]
        rw [e1]
        exact hj1
  · rw [if_neg ho, if_neg ho]
    exact Ev_false (by simp) (law_j5 hl)
theorem FnFallingQuads : laws_FnFallingQuads.Pure := by
  intro l m hl1 hl2 hl3 hm1 hm2 hm3
  have hl := Bytes.of hl2 hl3
  have hm := Bytes.of hm2 hm3
  refine Ev_out (g := fun k => laws_FnFallingQuads.f k l m) ?_
  unfold laws_FnFallingQuads.f
  obtain ⟨b, hb⟩ := big_eq l m
  rw [hb]
  simp only [Option.bind_some]
  by_cases hbt : b = true
  · exact Ev_true hbt Ev_some
  refine Ev_false hbt ?_
  obtain ⟨q, hd, hn⟩ := draw_down hl
  refine Ev.bind hd ?_
  by_cases h : Quad4 q
  · have hlen := path_len 200 q
    have hpl : (pathR q).1.length ≤ 4611686018427387904 := by
      unfold pathR
      split
      · show (pathQ 200 q).length ≤ _; omega
      · show ([] : List (List Int)).length ≤ _; simp
    have hpx : ∀ x ∈ (pathR q).1, x.length ≤ 4611686018427387904 := by
      unfold pathR
      split
      · intro x hx; rw [quad_len (path_all h x hx)]; omega
      · intro x hx; cases hx
    have hwl : (wordR q).1.length ≤ 4611686018427387904 := by
      unfold wordR
      split
      · show (wordQ 200 q).length ≤ _; omega
      · show ([] : List Int).length ≤ _; simp
    have hrl : (rootR q).1.length ≤ 4611686018427387904 := by
      unfold rootR
      split
      · show (srt (rootP 200 q)).length ≤ _; rw [srt_len, quad_len (root_quad h)]; omega
      · show ([] : List Int).length ≤ _; simp
    have hok : (wordR q).2 = (pathR q).2 ∧ (rootR q).2 = (pathR q).2 := by
      unfold wordR pathR rootR
      split <;> exact ⟨rfl, rfl⟩
    refine Ev.bind (downPath_impl h) (Ev.bind (downPath_spec h) (Ev.bind (downWord_impl h) (Ev.bind (downWord_spec h) (Ev.bind (rootQuad_impl h) (Ev.bind (rootQuad_spec h) (Ev.bind (downSwap_impl h) (Ev.bind (downSwap_spec h) ?_)))))))
    refine Ev_false (by simp) (Ev.bind (dLists_same hpl hpx) (Ev_true (by first | rfl | trivial) (Ev_false (by simp) (Ev.bind (dSame_same hwl) (Ev_true (by first | rfl | trivial) (Ev_false (by simp) (Ev.bind (dSame_same hrl) (Ev_true (by first | rfl | trivial) (Ev_false (by simp) (Ev_true (by first | rfl | trivial) ?_))))))))))
    rw [hok.1, hok.2]
    refine Ev_false (by simp) ?_
    rw [bne_self_eq_false]
    exact law_j0 hm h
  · refine Ev.bind (downPath_impl_no h) (Ev.bind (downPath_spec_no h) (Ev.bind (downWord_impl_no h) (Ev.bind (downWord_spec_no h) (Ev.bind (rootQuad_impl_no h) (Ev.bind (rootQuad_spec_no h) (Ev.bind (downSwap_impl_no h) (Ev.bind (downSwap_spec_no h) ?_)))))))
    refine Ev_false (by simp) (Ev.bind (dLists_same (by simp) (by simp)) (Ev_true (by first | rfl | trivial) (Ev_false (by simp) (Ev.bind (dSame_same (by simp)) (Ev_true (by first | rfl | trivial) (Ev_false (by simp) (Ev.bind (dSame_same (by simp)) (Ev_true (by first | rfl | trivial) (Ev_false (by simp) (Ev_true (by first | rfl | trivial) (Ev_false (by simp) ?_)))))))))))
    rw [bne_self_eq_false]
    refine Ev_succ ?_
    simp only [laws_FnFallingQuads.j0]
    exact Ev_false (by simp) (Ev_false (by simp) (law_j5 hm))
end Go.Proofs.Ytnaginnhccldhaa.Pure

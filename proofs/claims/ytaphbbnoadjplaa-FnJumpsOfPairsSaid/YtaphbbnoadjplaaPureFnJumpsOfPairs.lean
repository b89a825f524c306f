/- Jumps lead to pairs of the same equation, and jumps up and down undo each other. -/
import Derived.Test.YtaphbbnoadjplaaPx1
import Derived.Test.YtaphbbnoadjplaaPx2
import Derived.Test.YtaphbbnoadjplaaPx3
import Derived.Test.YtaphbbnoadjplaaPx4
import Derived.Test.YtaphbbnoadjplaaPx5
import Derived.Test.YtaphbbnoadjplaaQPair
import Derived.Test.YtaphbbnoadjplaaQDrawPair
import Derived.Test.YtaphbbnoadjplaaQBig
import Derived.Test.YtaphbbnoadjplaaQV
import Derived.Test.YtaphbbnoadjplaaQApplyM
import Derived.Test.YtaphbbnoadjplaaQDetM
namespace Go.Proofs.Ytaphbbnoadjplaa.Pure
open Go.RowKit Go.Proofs.Ytaphbbnoadjplaa.P Go.Proofs.YtaphbbnoadjplaaW.PrintWords Go.Proofs.YtaphbbnoadjplaaW.PrintLast Go.Proofs.Ytaphbbnoadjplaa.Q Go.Proofs.Ytaphbbnoadjplaa.G

theorem vPair_yes {k c x y : Int} (hk : KC k c) (h : Pr k c x y) : laws_vPair.f x y k c = some true := by
  unfold laws_vPair.f impl_IsJump.f
  rw [constants_eq]
  simp only [Option.bind_some]
  rw [if_pos (decide_eq_true hk), isJump_eq hk, decide_eq_true h]
  rfl
theorem one_eq {l : List Int} (hl : Bytes l) (t s n : Int) (h0 : 0 ≤ t) (h1 : t ≤ 100000000000000) (hn : n ≤ 1000000000000) : ∃ v t' s', spec_l1Cur_one.f l t s n = some (v, t', s') ∧ t ≤ t' ∧ t' ≤ t + 2 := by
  unfold spec_l1Cur_one.f
  obtain ⟨v, t1, s1, e1, v0, v1, ht, ht'⟩ := pick_eq hl t s n h0 h1 hn
  rw [e1]
  exact ⟨_, _, _, rfl, ht, ht'⟩
theorem drawMatrix_eq {l : List Int} (hl : Bytes l) : ∃ i, spec_DrawJumpMatrix.f l = some i := by
  unfold spec_DrawJumpMatrix.f
  obtain ⟨v, t1, s1, e1, ht, ht'⟩ := one_eq hl 0 0 4 (by omega) (by omega) (by omega)
  rw [e1]
  simp only [Option.bind_some]
  split
  · obtain ⟨u, t2, s2, e2, _⟩ := among_eq hl t1 s1 ([(-1), 0, 1, 1000, 1001] : List Int) (by omega) (by omega) (by simp) (by simp)
    rw [e2]
    exact ⟨_, rfl⟩
  · obtain ⟨u, t2, s2, e2, _⟩ := pick_eq hl t1 s1 20 (by omega) (by omega) (by omega)
    rw [e2]
    exact ⟨_, rfl⟩
def jumpM (k : Int) : List (List Int) := [[k, -1], [1, 0]]
theorem matrix_eq (i : Int) : impl_JumpMatrix.f i = some (if 1 ≤ i ∧ i ≤ 1000 then (jumpM i, true) else ([], false)) ∧ spec_JumpMatrix.f i = some (if 1 ≤ i ∧ i ≤ 1000 then (jumpM i, true) else ([], false)) := by
  unfold impl_JumpMatrix.f spec_JumpMatrix.f
  rw [within_eq, in_eq]
  simp only [Option.bind_some]
  by_cases h : 1 ≤ i ∧ i ≤ 1000
  · rw [if_pos (decide_eq_true h), if_pos h]
    exact ⟨rfl, rfl⟩
  · rw [if_neg (by simpa using h)]
    first | exact ⟨rfl, rfl⟩ | (rw [if_neg h]; exact ⟨rfl, rfl⟩)
theorem inB_yes {lo hi x : Int} (h : lo ≤ x ∧ x ≤ hi) : inB lo hi x = true := by unfold inB; rw [decide_eq_true h.1, decide_eq_true h.2]; rfl
theorem jumpM_small {i : Int} (h : 1 ≤ i ∧ i ≤ 1000) : isMat (jumpM i) = true ∧ (jumpM i).all (isLow 1000) = true := by
  have hw : wrap64 (-1000) = -1000 := w64 (by omega) (by omega)
  constructor
  · unfold isMat isVec jumpM
    simp only [List.all_cons, List.all_nil, List.length_cons, List.length_nil]
    rw [inB_yes (x := i) (by omega), inB_yes (x := -1) (by omega), inB_yes (x := 1) (by omega), inB_yes (x := 0) (by omega)]
    simp
  · unfold isLow jumpM
    simp only [List.all_cons, List.all_nil]
    rw [hw, inB_yes (x := i) (by omega), inB_yes (x := -1) (by omega), inB_yes (x := 1) (by omega), inB_yes (x := 0) (by omega)]
    simp
theorem jumpM_det {i : Int} (h : 1 ≤ i ∧ i ≤ 1000) : detN 2 (jumpM i) = 1 := by
  have m0 : minorL (jumpM i) 0 ((0 : Nat) : Int) = [[0]] := rfl
  have m1 : minorL (jumpM i) 0 ((1 : Nat) : Int) = [[1]] := rfl
  have d : ∀ x : Int, -1000 ≤ x → x ≤ 1000 → detN 1 [[x]] = x := fun x h1 h2 => by
    show wrap64 (0 + wrap64 (wrap64 (1 * x) * 1)) = x
    rw [w64 (x := 1 * x) (by omega) (by omega), w64 (x := 1 * x * 1) (by omega) (by omega), w64 (by omega) (by omega)]
    omega
  show wrap64 (wrap64 (0 + wrap64 (wrap64 (1 * i) * detN 1 (minorL (jumpM i) 0 ((0 : Nat) : Int)))) + wrap64 (wrap64 (-1 * -1) * detN 1 (minorL (jumpM i) 0 ((1 : Nat) : Int)))) = 1
  rw [m0, m1, d 0 (by omega) (by omega), d 1 (by omega) (by omega), w64 (x := 1 * i) (by omega) (by omega), w64 (x := 1 * i * 0) (by omega) (by omega), w64 (x := -1 * -1) (by omega) (by omega), w64 (x := -1 * -1 * 1) (by omega) (by omega), w64 (x := 0 + 1 * i * 0) (by omega) (by omega), w64 (by omega) (by omega)]
  omega
theorem law_j7 {l : List Int} (hl : Bytes l) : Ev (fun k => laws_FnJumpsOfPairs.j7 k l) true := by
  obtain ⟨i, e⟩ := drawMatrix_eq hl
  refine Ev_succ ?_
  simp only [laws_FnJumpsOfPairs.j7]
  rw [e]
  simp only [Option.bind_some]
  rw [(matrix_eq i).1, (matrix_eq i).2]
  simp only [Option.bind_some]
  refine Ev_false (by simp) ?_
  by_cases h : 1 ≤ i ∧ i ≤ 1000
  · rw [if_pos h]
    refine Ev.bind (vSameLists_same (L := jumpM i) (by simp [jumpM]) (by simp [jumpM])) (Ev_succ ?_)
    simp only [laws_FnJumpsOfPairs.j8]
    obtain ⟨h1, h2⟩ := jumpM_small h
    have hd : determinantR (jumpM i) = (1, true) := by
      unfold determinantR
      rw [h1, h2, if_pos (by rfl)]
      show (detN 2 (jumpM i), true) = _
      rw [jumpM_det h]
    have hdet := determinantOf_ev (jumpM i)
    rw [hd] at hdet
    refine Ev_false (by simp) (Ev_true (by trivial) (Ev.bind hdet (Ev_true (by trivial) ?_)))
    exact Ev_some
  · rw [if_neg h]
    refine Ev.bind (vSameLists_same (L := []) (by simp) (by simp)) (Ev_succ ?_)
    simp only [laws_FnJumpsOfPairs.j8]
    exact Ev_false (by simp) (Ev_false (by simp) Ev_some)
theorem apply_jumpM {m z w : Int} (hm : 1 ≤ m ∧ m ≤ 1000) (hz : 0 ≤ z ∧ z ≤ 1000000) (hw : 0 ≤ w ∧ w ≤ 1000000) : applyL (jumpM m) [z, w] = [m * z - w, z] := by
  have a3 : 0 ≤ m * z ∧ m * z ≤ 1000000000 := ⟨Int.mul_nonneg (by omega) (by omega), by have := Int.mul_le_mul hm.2 hz.2 (by omega) (by omega); omega⟩
  show [wrap64 (wrap64 (0 + wrap64 (m * z)) + wrap64 (-1 * w)), wrap64 (wrap64 (0 + wrap64 (1 * z)) + wrap64 (0 * w))] = _
  rw [w64 (x := m * z) (by omega) (by omega), w64 (x := -1 * w) (by omega) (by omega), w64 (x := 1 * z) (by omega) (by omega), w64 (x := 0 * w) (by omega) (by omega), w64 (x := 0 + m * z) (by omega) (by omega), w64 (x := 0 + 1 * z) (by omega) (by omega), w64 (x := 0 + m * z + -1 * w) (by omega) (by omega), w64 (x := 0 + 1 * z + 0 * w) (by omega) (by omega)]
  simp only [List.cons.injEq, and_true]
  omega
theorem law_j3 {l : List Int} (hl : Bytes l) : Ev (fun k => laws_FnJumpsOfPairs.j3 k l) true := by
  obtain ⟨⟨z, w, m, d⟩, hd⟩ := drawIsJump_ev hl
  refine Ev_succ ?_
  simp only [laws_FnJumpsOfPairs.j3]
  have hu : Ev (fun k => spec_DrawJumpUp.f k l) (z, w, m, d) := by
    unfold spec_DrawJumpUp.f
    exact Ev.bind hd Ev_some
  refine Ev.bind hu ?_
  simp only
  rw [JumpUp_eq, foJumpUp_eq]
  simp only [Option.bind_some]
  refine Ev_false (by simp) (Ev_true (by trivial) (Ev_succ ?_))
  simp only [laws_FnJumpsOfPairs.j4]
  refine Ev_false (by simp) ?_
  by_cases h : KC m d ∧ Pr m d z w
  · by_cases hn : z ≤ m * z - w ∧ m * z - w ≤ 1000000
    · rw [show UpR z w m d = (m * z - w, z, true) from by unfold UpR upR; rw [if_pos h, if_pos hn]]
      have hp := h.2.up hn
      obtain ⟨hk, h0, h1, h2, he⟩ := h
      have hz : 0 ≤ z := by omega
      refine Ev_true (by trivial) ?_
      rw [vPair_yes hk hp]
      simp only [Option.bind_some]
      refine Ev_true (by trivial) (Ev_true (by trivial) (Ev_succ ?_))
      simp only [laws_FnJumpsOfPairs.j5]
      rw [(matrix_eq m).1, if_pos hk.1]
      simp only [Option.bind_some]
      refine Ev_false (by simp; omega) (Ev_true (by trivial) (Ev.bind (applyMatrix_ev (jumpM m) [z, w]) ?_))
      have hj7 := law_j7 hl
      have hj6 : Ev (fun k => laws_FnJumpsOfPairs.j6 k l z w m d (m * z - w) z false) true := by
        refine Ev_succ ?_
        simp only [laws_FnJumpsOfPairs.j6]
        refine Ev_false (by simp) ?_
        by_cases hw : w < m * z - w
        · refine Ev_true hw ?_
          rw [JumpDown_eq, show DownR (m * z - w) z m d = (z, w, true) from by
            unfold DownR downR
            rw [if_pos ⟨hk, hp⟩, if_pos (by omega), show max (m * z - (m * z - w)) z = z by omega, show min (m * z - (m * z - w)) z = w by omega]]
          simp only [Option.bind_some]
          exact Ev_true (by trivial) (Ev_true (by trivial) (Ev_true (by trivial) hj7))
        · exact Ev_false hw hj7
      by_cases hf : (applyR (jumpM m) [z, w]).2 = true
      · refine Ev_true hf ?_
        have e1 : (applyR (jumpM m) [z, w]).1 = [m * z - w, z] := by
          rw [← apply_jumpM hk.1 ⟨hz, h2⟩ ⟨h0, by omega⟩]
          unfold applyR at hf ⊢
          split
          · rename_i c1
            rw [if_pos c1] at hf
            split
            · rename_i c2
              rw [if_pos c2] at hf
              split
              · rfl
              · rename_i c3
                rw [if_neg c3] at hf
                cases hf
            · rename_i c2
              rw [if_neg c2] at hf
              cases hf
          · rename_i c1
            rw [if_neg c1] at hf
            cases hf
        rw [e1]
        exact Ev.bind (vSame_same (l := [m * z - w, z]) (by simp)) hj6
      · exact Ev_false hf hj6
    · rw [show UpR z w m d = (0, 0, false) from by unfold UpR upR; rw [if_pos h, if_neg hn]]
      exact Ev_false (by simp) (law_j7 hl)
  · rw [show UpR z w m d = (0, 0, false) from by unfold UpR; rw [if_neg h]]
    exact Ev_false (by simp) (law_j7 hl)
theorem FnJumpsOfPairs : laws_FnJumpsOfPairs.Pure := by
  intro l0 l1 _ hs0 hw0 _ hs1 hw1
  have b0 := Bytes.of hs0 hw0
  have b1 := Bytes.of hs1 hw1
  refine Ev_out (g := fun k => laws_FnJumpsOfPairs.f k l0 l1) ?_
  unfold laws_FnJumpsOfPairs.f
  obtain ⟨bb, eb⟩ := big_eq l0 l1
  rw [eb]
  simp only [Option.bind_some]
  cases bb with
  | true => exact Ev_true rfl Ev_some
  | false =>
    obtain ⟨⟨x, y, k, c⟩, hd⟩ := drawIsJump_ev b0
    have hu : Ev (fun k => spec_DrawJumpDown.f k l0) (x, y, k, c) := by
      unfold spec_DrawJumpDown.f
      exact Ev.bind hd Ev_some
    refine Ev_false (by simp) (Ev.bind hu ?_)
    simp only
    rw [JumpDown_eq, foJumpDown_eq]
    simp only [Option.bind_some]
    have h3 := law_j3 b1
    refine Ev_false (by simp) (Ev_true (by trivial) (Ev_succ ?_))
    simp only [laws_FnJumpsOfPairs.j0]
    refine Ev_false (by simp) ?_
    by_cases h : KC k c ∧ Pr k c x y
    · by_cases hn : 0 ≤ k * y - x ∧ k * y - x < x
      · rw [show DownR x y k c = (max (k * y - x) y, min (k * y - x) y, true) from by unfold DownR downR; rw [if_pos h, if_pos hn]]
        obtain ⟨hp, hsum⟩ := h.2.down hn
        obtain ⟨hk, hxy⟩ := h
        obtain ⟨h0, h1, h2, he⟩ := id hxy
        obtain ⟨_, _, e3, _, _⟩ := pr_bounds hk h0 h1 h2
        refine Ev_true (by trivial) ?_
        rw [vPair_yes hk hp]
        simp only [Option.bind_some]
        rw [hsum, w64 (x := k * y - x + y) (by omega) (by omega), w64 (x := x + y) (by omega) (by omega)]
        refine Ev_true (by trivial) (Ev_succ ?_)
        simp only [laws_FnJumpsOfPairs.j1]
        rw [e3]
        refine Ev_false (by simp; omega) ?_
        have hj2 : ∀ b : Bool, Ev (fun q => laws_FnJumpsOfPairs.j2 q l1 x y k c (max (k * y - x) y) (min (k * y - x) y) b) true := fun b => by
          refine Ev_succ ?_
          simp only [laws_FnJumpsOfPairs.j2]
          cases b with
          | false => exact Ev_false (by simp) h3
          | true =>
            refine Ev_true (by trivial) ?_
            rw [JumpUp_eq]
            simp only [Option.bind_some]
            by_cases hay : max (k * y - x) y = y
            · refine Ev_true hay ?_
              rw [show UpR (max (k * y - x) y) (min (k * y - x) y) k c = (x, y, true) from by
                unfold UpR upR
                rw [if_pos ⟨hk, hp⟩, hay, show min (k * y - x) y = k * y - x by omega, if_pos (by omega), show k * y - (k * y - x) = x by omega]]
              exact Ev_true (by trivial) (Ev_true (by trivial) (Ev_true (by trivial) h3))
            · exact Ev_false hay h3
        by_cases hb : min (k * y - x) y < k * y - x
        · exact Ev_true hb (hj2 true)
        · exact Ev_false hb (hj2 _)
      · rw [show DownR x y k c = (0, 0, false) from by unfold DownR downR; rw [if_pos h, if_neg hn]]
        exact Ev_false (by simp) h3
    · rw [show DownR x y k c = (0, 0, false) from by unfold DownR; rw [if_neg h]]
      exact Ev_false (by simp) h3
end Go.Proofs.Ytaphbbnoadjplaa.Pure

/- Children in the first tree are those of its matrices, which keep the form; words, parents. -/
import Derived.Test.YtnfbkakblnppaaaFx1
import Derived.Test.YtnfbkakblnppaaaFx4
import Derived.Test.YtnfbkakblnppaaaFx5
import Derived.Test.YtnfbkakblnppaaaFx6
import Derived.Test.YtnfbkakblnppaaaFx8
import Derived.Test.YtnfbkakblnppaaaFx11
import Derived.Test.YtnfbkakblnppaaaFx14
import Derived.Test.YtnfbkakblnppaaaFx15
import Derived.Test.YtnfbkakblnppaaaFQRiKidB
import Derived.Test.YtnfbkakblnppaaaFQRiDrawB
import Derived.Test.YtnfbkakblnppaaaFQApplyM
import Derived.Test.YtnfbkakblnppaaaFQBig
import Derived.Test.YtnfbkakblnppaaaFQV
namespace Go.Proofs.Ytnfbkakblnppaaa.Pure
open Go.RowKit Go.Proofs.Ytnfbkakblnppaaa.P Go.Proofs.YtnfbkakblnppaaaW.PrintWords Go.Proofs.YtnfbkakblnppaaaW.PrintLast Go.Proofs.Ytnfbkakblnppaaa.Q Go.Proofs.Ytnfbkakblnppaaa.G
def form3 : List (List Int) := [[1, 0, 0], [0, 1, 0], [0, 0, -1]]
def mat3 : Nat → List (List Int)
  | 0 => [[1, -2, 2], [2, -1, 2], [2, -2, 3]]
  | 1 => [[1, 2, 2], [2, 1, 2], [2, 2, 3]]
  | _ => [[-1, 2, 2], [-2, 1, 2], [-2, 2, 3]]
theorem matrix_eq (x : Int) : ∃ q : List (List Int) × Bool, impl_BergMatrix.f x = some q ∧ spec_BergMatrix.f x = some q ∧ ((q = ([], false) ∧ ¬ (0 ≤ x ∧ x ≤ 2)) ∨ ∃ k : Nat, k ≤ 2 ∧ x = (k : Int) ∧ q = (mat3 k, true)) := by
  unfold impl_BergMatrix.f spec_BergMatrix.f
  by_cases h0 : x = 0
  · exact ⟨_, if_pos h0, if_pos h0, .inr ⟨0, by omega, h0, rfl⟩⟩
  by_cases h1 : x = 1
  · rw [if_neg h0, if_pos h1]
    exact ⟨_, rfl, rfl, .inr ⟨1, by omega, h1, rfl⟩⟩
  by_cases h2 : x = 2
  · rw [if_neg h0, if_neg h1, if_pos h2]
    exact ⟨_, rfl, rfl, .inr ⟨2, by omega, h2, rfl⟩⟩
  · rw [if_neg h0, if_neg h1, if_neg h2]
    exact ⟨_, rfl, rfl, .inl ⟨rfl, by omega⟩⟩
theorem matrix_told {k : Nat} (hk : k ≤ 2) : impl_BergMatrix.f (k : Int) = some (mat3 k, true) := by
  rcases (show k = 0 ∨ k = 1 ∨ k = 2 by omega) with rfl | rfl | rfl <;> rfl
theorem keeps_all : ∀ k < 3, impl_KeepsForm.f 40 (mat3 k) form3 = some (true, true) := by decide +kernel
theorem det_all : ∀ k < 3, impl_DeterminantOf.f 40 (mat3 k) = some (1, true) ∨ impl_DeterminantOf.f 40 (mat3 k) = some (-1, true) := by decide +kernel
theorem dot3 {x y z : Int} (hx : -10000000000 ≤ x ∧ x ≤ 10000000000) (hy : -10000000000 ≤ y ∧ y ≤ 10000000000) (hz : -10000000000 ≤ z ∧ z ≤ 10000000000) : wrap64 (wrap64 (wrap64 (0 + wrap64 x) + wrap64 y) + wrap64 z) = x + y + z := by
  rw [w64 (x := x) (by omega) (by omega), w64 (x := y) (by omega) (by omega), w64 (x := z) (by omega) (by omega), w64 (x := 0 + x) (by omega) (by omega), w64 (x := 0 + x + y) (by omega) (by omega), w64 (x := 0 + x + y + z) (by omega) (by omega), Int.zero_add]
/-- The matrix of a child, and the triple. -/
theorem apply_kid {m n k : Nat} (hk : k ≤ 2) (h : PairN m n) (hs : (kid (k + 0) m n).1 * (kid (k + 0) m n).1 + (kid (k + 0) m n).2 * (kid (k + 0) m n).2 ≤ 1000000) : applyR (mat3 k) (trip m n) = (trip (kid (k + 0) m n).1 (kid (k + 0) m n).2, true) := by
  have hg := (kid_more h (k + 0)).2
  have hl := h.lt
  have hp := h.pos
  have hm : m ≤ 1000 := by
    have h1 : m * m < 1001 * 1001 := by have : 1001 * 1001 = 1002001 := rfl; omega
    have := sq_lt h1
    omega
  have q2 : n * n ≤ m * m := Nat.mul_le_mul (by omega) (by omega)
  have q3 : m * n ≤ m * m := Nat.mul_le_mul (Nat.le_refl _) (by omega)
  have q4 : n * n ≤ m * n := Nat.mul_le_mul (by omega) (Nat.le_refl _)
  have hkp := h.kid (k + 0)
  have hkl := hkp.lt
  have t1 : trip m n = [((m * m : Nat) : Int) - ((n * n : Nat) : Int), 2 * ((m * n : Nat) : Int), ((m * m : Nat) : Int) + ((n * n : Nat) : Int)] := by
    unfold trip
    rw [Nat.mul_assoc]
    congr 1
    omega
  have hmm : m * m ≤ 1000000 := by omega
  have big : ∀ P Q : Nat, Q ≤ P → P * P + Q * Q ≤ 1000000 → isVec ((3 : Nat) : Int) (trip P Q) = true := by
    intro P Q hq hb
    have r2 : Q * Q ≤ P * P := Nat.mul_le_mul hq hq
    have r3 : 2 * P * Q ≤ P * P + Q * Q := by
      obtain ⟨d, rfl⟩ := Nat.exists_eq_add_of_le hq
      have e1 : (Q + d) * (Q + d) = Q * Q + 2 * (Q * d) + d * d := by grind
      have e2 : 2 * (Q + d) * Q = 2 * (Q * Q) + 2 * (Q * d) := by grind
      have : 0 ≤ d * d := Nat.zero_le _
      omega
    unfold isVec trip inB
    simp only [List.length_cons, List.length_nil, List.all_cons, List.all_nil, Bool.and_true, Bool.and_eq_true, decide_eq_true_eq]
    refine ⟨by first | trivial | omega, ⟨by omega, by omega⟩, ⟨by omega, by omega⟩, ⟨by omega, by omega⟩⟩
  have v1 := big m n (by omega) (by omega)
  have v2 := big _ _ (Nat.le_of_lt hkl) hs
  have hA : applyL (mat3 k) (trip m n) = trip (kid (k + 0) m n).1 (kid (k + 0) m n).2 := by
    rcases (show k = 0 ∨ k = 1 ∨ k = 2 by omega) with rfl | rfl | rfl
    · show applyL [[1, -2, 2], [2, -1, 2], [2, -2, 3]] (trip m n) = trip (2 * m - n) m
      rw [t1]
      simp only [applyL, List.map_cons, List.map_nil, List.length_cons, List.length_nil, dotV, rd30_, rd31_, rd32_, show ((0 + 1 + 1 : Nat) : Int) = 2 from rfl, show ((0 + 1 : Nat) : Int) = 1 from rfl, show ((0 : Nat) : Int) = 0 from rfl]
      obtain ⟨d, hd⟩ := Nat.exists_eq_add_of_le (show n ≤ 2 * m by omega)
      have e1 : (2 * m - n) * (2 * m - n) + 4 * (m * n) = 4 * (m * m) + n * n := by
        rw [hd, Nat.add_sub_cancel_left]
        have : 4 * (m * n) = 2 * ((2 * m) * n) := by grind
        have : 4 * (m * m) = (2 * m) * (2 * m) := by grind
        rw [hd] at *
        grind
      have e3 : 2 * (2 * m - n) * m + 2 * (m * n) = 4 * (m * m) := by
        rw [hd, Nat.add_sub_cancel_left]
        have : 4 * (m * m) = 2 * ((2 * m) * m) := by grind
        rw [hd] at *
        grind
      have e4 : m * m ≤ (2 * m - n) * (2 * m - n) := Nat.mul_le_mul (by omega) (by omega)
      unfold trip
      generalize (2 * m - n) * (2 * m - n) = D at *
      generalize 2 * (2 * m - n) * m = F at *
      generalize m * m = A at *
      generalize m * n = B at *
      generalize n * n = C at *
      rw [dot3 (by omega) (by omega) (by omega), dot3 (by omega) (by omega) (by omega), dot3 (by omega) (by omega) (by omega)]
      congr 1
      · omega
      congr 1
      · omega
      congr 1
      omega
    · show applyL [[1, 2, 2], [2, 1, 2], [2, 2, 3]] (trip m n) = trip (2 * m + n) m
      rw [t1]
      simp only [applyL, List.map_cons, List.map_nil, List.length_cons, List.length_nil, dotV, rd30_, rd31_, rd32_, show ((0 + 1 + 1 : Nat) : Int) = 2 from rfl, show ((0 + 1 : Nat) : Int) = 1 from rfl, show ((0 : Nat) : Int) = 0 from rfl]
      have e1 : (2 * m + n) * (2 * m + n) = 4 * (m * m) + 4 * (m * n) + n * n := by grind
      have e3 : 2 * (2 * m + n) * m = 4 * (m * m) + 2 * (m * n) := by grind
      unfold trip
      rw [e1, e3]
      generalize m * m = A at *
      generalize m * n = B at *
      generalize n * n = C at *
      unfold wrap64
      congr 1
      · omega
      congr 1
      · omega
      congr 1
      omega
    · show applyL [[-1, 2, 2], [-2, 1, 2], [-2, 2, 3]] (trip m n) = trip (m + 2 * n) n
      rw [t1]
      simp only [applyL, List.map_cons, List.map_nil, List.length_cons, List.length_nil, dotV, rd30_, rd31_, rd32_, show ((0 + 1 + 1 : Nat) : Int) = 2 from rfl, show ((0 + 1 : Nat) : Int) = 1 from rfl, show ((0 : Nat) : Int) = 0 from rfl]
      have e1 : (m + 2 * n) * (m + 2 * n) = m * m + 4 * (m * n) + 4 * (n * n) := by grind
      have e3 : 2 * (m + 2 * n) * n = 2 * (m * n) + 4 * (n * n) := by grind
      unfold trip
      rw [e1, e3]
      generalize m * m = A at *
      generalize m * n = B at *
      generalize n * n = C at *
      unfold wrap64
      congr 1
      · omega
      congr 1
      · omega
      congr 1
      omega
  have hM : isMat (mat3 k) = true ∧ (mat3 k).length = 3 := by
    rcases (show k = 0 ∨ k = 1 ∨ k = 2 by omega) with rfl | rfl | rfl <;> exact ⟨by decide, rfl⟩
  unfold applyR
  rw [hM.2, hA, if_pos hM.1, if_pos v1, if_pos v2]
theorem law_j4 {l : List Int} (hl : Bytes l) : Ev (fun j => laws_FnFirstTree.j4 j l) true := by
  refine Ev_succ ?_
  simp only [laws_FnFirstTree.j4]
  obtain ⟨x, hx, hxl⟩ := draw_triple hl
  refine Ev.bind hx ?_
  have hright := isRight_ev x
  by_cases hg : GoodT x
  · rw [isR_true hg] at hright
    obtain ⟨m, n, hok, rfl⟩ := hg
    have hvt : ∀ m n : Nat, Ev (fun j => laws_vSame.f j (trip m n) (trip m n)) true := fun m n => vSame_same (by simp [trip])
    by_cases hr : m = 2 * n
    · obtain ⟨a1, a2⟩ := parent_root hok hr
      refine Ev.bind a1 (Ev.bind a2 (Ev_false (by simp) (Ev.bind (vSame_same (by simp)) (Ev_true rfl (Ev_true (by first | rfl | trivial) (Ev.bind hright (Ev_true rfl ?_)))))))
      rw [len_trip, rd2_trip, (five hok).2 hr]
      refine Ev_true (by omega) (Ev_succ ?_)
      simp only [laws_FnFirstTree.j5]
      exact Ev_false (by simp) (Ev_false (by simp) Ev_some)
    · obtain ⟨a1, a2, a3, a4, a5⟩ := parent_good hok hr
      refine Ev.bind a1 (Ev.bind a2 (Ev_false (by simp) (Ev.bind (hvt _ _) (Ev_true rfl (Ev_true (by first | rfl | trivial) (Ev.bind hright (Ev_true rfl ?_)))))))
      rw [len_trip, rd2_trip]
      have hne : ((((m * m + n * n : Nat) : Int)) != 5) = true := by
        rw [bne_iff_ne]
        intro e
        exact hr ((five hok).1 (by omega))
      rw [hne]
      refine Ev_true (by omega) (Ev_succ ?_)
      simp only [laws_FnFirstTree.j5]
      have hc := (child_good a3 a4).1
      have hgr := (kid_more a3.1 ((upB m n).2.2 + 0)).2
      rw [a5] at hc hgr
      dsimp only at hgr
      rw [show rightP m n = (trip m n, true) from rightP_good hok] at hc
      refine Ev_false (by simp) (Ev_true (by first | rfl | trivial) (Ev.bind hc (Ev_true rfl (Ev.bind (hvt _ _) (Ev_true rfl ?_)))))
      rw [len_trip, len_trip, rd2_trip, rd2_trip]
      refine Ev_true (by omega) (Ev_true (by omega) ?_)
      rw [decide_eq_true (by omega)]
      exact Ev_some
  · rw [isR_false hg] at hright
    obtain ⟨a1, a2⟩ := parent_no hg
    refine Ev.bind a1 (Ev.bind a2 (Ev_false (by simp) (Ev.bind (vSame_same (by simp)) (Ev_true rfl (Ev_true (by first | rfl | trivial) (Ev.bind hright (Ev_false (by simp) ?_)))))))
    refine Ev_succ ?_
    simp only [laws_FnFirstTree.j5]
    exact Ev_false (by simp) (Ev_false (by simp) Ev_some)
/-- What is behind the told child. -/
theorem law_j2 {l : List Int} (hl : Bytes l) {t : List Int} {x : Int} {q : List Int × Bool} (h : q = ([], false) ∨ ∃ m n k, OkP m n ∧ k ≤ 2 ∧ t = trip m n ∧ x = ((k : Nat) : Int) ∧ OkP (kid (k + 0) m n).1 (kid (k + 0) m n).2 ∧ q = (trip (kid (k + 0) m n).1 (kid (k + 0) m n).2, true)) :
    Ev (fun j => laws_FnFirstTree.j2 j l t x q.1 q.2) true := by
  have h4 := law_j4 hl
  refine Ev_succ ?_
  simp only [laws_FnFirstTree.j2]
  rcases h with rfl | ⟨m, n, k, hok, hk, rfl, rfl, hko, rfl⟩
  · exact Ev_false (by simp) h4
  · have hvt : ∀ m n : Nat, Ev (fun j => laws_vSame.f j (trip m n) (trip m n)) true := fun m n => vSame_same (by simp [trip])
    obtain ⟨b1, b2⟩ := upB_kid hok.1 k hk
    obtain ⟨a1, _⟩ := parent_good hko b2
    rw [show upB (kid (k + 0) m n).1 (kid (k + 0) m n).2 = (m, n, k) from b1] at a1
    obtain ⟨w, hd, hw⟩ := has_word 0 (.inl rfl) m m n (Nat.le_refl _) hok.1
    have hs : sumP 0 w ≤ 1000000000 := by unfold sumP; rw [hw]; exact hok.2
    have hw' : reach 0 (w ++ [k]) = kid (k + 0) m n := by rw [reach_snoc, hw]
    have hs' : sumP 0 (w ++ [k]) ≤ 1000000000 := by unfold sumP; rw [hw']; exact hko.2
    have hd' : Digs (w ++ [k]) := by
      intro y hy
      rcases List.mem_append.1 hy with hy | hy
      · exact hd y hy
      · rw [List.mem_singleton.1 hy]; exact hk
    have w1 := wordB_trip hd hs
    have w2 := wordB_trip hd' hs'
    rw [hw] at w1
    rw [hw', toI_snoc] at w2
    have hlen := (sum_small hs).2.2
    have hl2 := toI_len w
    rw [matrix_told hk]
    simp only [Option.bind_some]
    refine Ev.bind a1 (Ev.bind w2 (Ev.bind w1 (Ev_true (by first | rfl | trivial) (Ev_true (by first | rfl | trivial) (Ev_true (by first | rfl | trivial) (Ev_true (by first | rfl | trivial) (Ev.bind (hvt _ _) (Ev_true rfl (Ev_true (by first | rfl | trivial) ?_))))))))) 
    simp only [List.nil_append, List.length_nil]
    refine Ev_true (by omega) (Ev_true (by omega) (Ev.bind (vSame_same (by simp only [List.length_append, List.length_singleton]; omega)) ?_))
    refine Ev_succ ?_
    simp only [laws_FnFirstTree.j3]
    rw [len_trip, rd2_trip]
    refine Ev_false (by simp) (Ev_true (by omega) ?_)
    by_cases hb : (kid (k + 0) m n).1 * (kid (k + 0) m n).1 + (kid (k + 0) m n).2 * (kid (k + 0) m n).2 ≤ 1000000
    · have g := applyMatrix_ev (mat3 k) (trip m n)
      rw [apply_kid hk hok.1 hb] at g
      exact Ev_true (by omega) (Ev.bind g (Ev_true rfl (Ev.bind (hvt _ _) (Ev_true rfl h4))))
    · exact Ev_false (by omega) h4
theorem mat3_small (k : Nat) : (mat3 k).length = 3 ∧ ∀ z ∈ mat3 k, z.length ≤ 3 := by
  match k with
  | 0 => exact ⟨rfl, by decide⟩
  | 1 => exact ⟨rfl, by decide⟩
  | k + 2 => exact ⟨rfl, by show ∀ z ∈ ([[-1, 2, 2], [-2, 1, 2], [-2, 2, 3]] : List (List Int)), z.length ≤ 3; decide⟩
theorem FnFirstTree : laws_FnFirstTree.Pure := by
  intro l m hl1 hl2 hl3 hm1 hm2 hm3
  have hl := Bytes.of hl2 hl3
  have hm := Bytes.of hm2 hm3
  refine Ev_out (g := fun k => laws_FnFirstTree.f k l m) ?_
  unfold laws_FnFirstTree.f
  obtain ⟨b, hb⟩ := big_eq l m
  rw [hb]
  simp only [Option.bind_some]
  by_cases h : b = true
  · exact Ev_true h Ev_some
  refine Ev_false h ?_
  obtain ⟨t, x, hd⟩ := draw_child hl
  refine Ev.bind hd ?_
  obtain ⟨q, q1, q2, q3⟩ : ∃ q : List Int × Bool, Ev (fun j => impl_BergChild.f j t x) q ∧ Ev (fun j => spec_BergChild.f j t x) q ∧ (q = ([], false) ∨ ∃ m n k, OkP m n ∧ k ≤ 2 ∧ t = trip m n ∧ x = ((k : Nat) : Int) ∧ OkP (kid (k + 0) m n).1 (kid (k + 0) m n).2 ∧ q = (trip (kid (k + 0) m n).1 (kid (k + 0) m n).2, true)) := by
    by_cases hg : GoodT t ∧ 0 ≤ x ∧ x ≤ 2
    · obtain ⟨⟨a, c, hok, rfl⟩, h0, h1⟩ := hg
      obtain ⟨k, rfl⟩ := Int.eq_ofNat_of_zero_le h0
      obtain ⟨g1, g2⟩ := child_good hok (k := k) (by omega)
      refine ⟨_, g1, g2, ?_⟩
      by_cases hs : (kid (k + 0) a c).1 * (kid (k + 0) a c).1 + (kid (k + 0) a c).2 * (kid (k + 0) a c).2 ≤ 1000000000
      · exact .inr ⟨a, c, k, hok, by omega, rfl, rfl, ⟨hok.1.kid _, hs⟩, if_pos hs⟩
      · exact .inl (if_neg hs)
    · obtain ⟨g1, g2⟩ := child_no hg
      exact ⟨_, g1, g2, .inl rfl⟩
  have hql : q.1.length ≤ 3 := by
    rcases q3 with rfl | ⟨_, _, _, _, _, _, _, _, rfl⟩
    · simp
    · exact Nat.le_refl 3
  have h2 := law_j2 hm q3
  refine Ev.bind q1 (Ev.bind q2 (Ev_false (by simp) (Ev.bind (vSame_same (by omega)) ?_)))
  refine Ev_succ ?_
  simp only [laws_FnFirstTree.j0]
  obtain ⟨y, hy⟩ := draw_matrix hm
  rw [hy]
  simp only [Option.bind_some]
  obtain ⟨M, m1, m2, m3⟩ := matrix_eq y
  rw [m1, m2]
  simp only [Option.bind_some]
  have hml : M.1.length ≤ 3 ∧ ∀ z ∈ M.1, z.length ≤ 3 := by
    rcases m3 with ⟨rfl, _⟩ | ⟨k, _, _, rfl⟩
    · simp
    · exact ⟨Nat.le_of_eq (mat3_small k).1, (mat3_small k).2⟩
  refine Ev_false (by simp) (Ev_false (by simp) (Ev.bind (vSameLists_same (by omega) (fun z hz => by have := hml.2 z hz; omega)) (Ev_true rfl ?_)))
  rcases m3 with ⟨rfl, hno⟩ | ⟨k, hk, rfl, rfl⟩
  · have j1 : Ev (fun j => laws_FnFirstTree.j1 j m t x q.1 q.2 false false form3 ([] : List (List Int))) true := by
      refine Ev_succ ?_
      simp only [laws_FnFirstTree.j1]
      exact Ev_false (by simp) (Ev_false (by simp) h2)
    by_cases hy0 : y ≥ 0
    · refine Ev_true hy0 ?_
      rw [decide_eq_false (show ¬ y ≤ 2 by omega)]
      exact j1
    · exact Ev_false hy0 j1
  · refine Ev_true (by omega) ?_
    rw [decide_eq_true (show ((k : Nat) : Int) ≤ 2 by omega)]
    have c1 : Ev (fun j => impl_KeepsForm.f j (mat3 k) form3) (true, true) := Ev.of (fun j => impl_KeepsForm.mono _ _ j) (keeps_all k (by omega))
    refine Ev_succ ?_
    simp only [laws_FnFirstTree.j1]
    refine Ev_false (by simp) (Ev_true (by first | rfl | trivial) (Ev.bind c1 ?_))
    rcases det_all k (by omega) with e | e
    · have c2 : Ev (fun j => impl_DeterminantOf.f j (mat3 k)) (1, true) := Ev.of (fun j => impl_DeterminantOf.mono _ j) e
      exact Ev.bind c2 (Ev_true (by first | rfl | trivial) (Ev_true (by first | rfl | trivial) (Ev_true (by first | rfl | trivial) (Ev_true (by first | rfl | trivial) h2))))
    · have c2 : Ev (fun j => impl_DeterminantOf.f j (mat3 k)) (-1, true) := Ev.of (fun j => impl_DeterminantOf.mono _ j) e
      exact Ev.bind c2 (Ev_true (by first | rfl | trivial) (Ev_true (by first | rfl | trivial) (Ev_true (by first | rfl | trivial) (Ev_false (by decide) (Ev_true (by first | rfl | trivial) h2)))))
end Go.Proofs.Ytnfbkakblnppaaa.Pure

/- Each number is a sum of four squares, in as many ways as divisors tell, and a sum of three unless the remainder by 8 refuses it. -/
import Derived.Test.YtpmbffchkcemoaaHx2
import Derived.Test.YtpmbffchkcemoaaHx4
import Derived.Test.YtpmbffchkcemoaaHx5
import Derived.Test.YtpmbffchkcemoaaHx6
import Derived.Test.YtpmbffchkcemoaaHQ2
import Derived.Test.YtpmbffchkcemoaaHQ3
namespace Go.Proofs.Ytpmbffchkcemoaa.Pure
open Go.RowKit Go.Proofs.Ytpmbffchkcemoaa.P Go.Proofs.YtpmbffchkcemoaaW.PrintWords Go.Proofs.YtpmbffchkcemoaaW.PrintLast Go.Proofs.Ytpmbffchkcemoaa.Q Go.Proofs.Ytpmbffchkcemoaa.ThreeSq Go.Proofs.Ytpmbffchkcemoaa.FourCnt

theorem vBefore_l0 {a b : List Int} (ha : a.length ≤ 1000000) : ∀ (d i : Nat), i + d = a.length → Ev (fun k => laws_vBefore.l0 k a b (i : Int)) (bef (a.drop i) (b.drop i)) := by
  have hno : ∀ i : Nat, Ev (fun k => laws_vBefore.j1 k a b (i : Int) false) (decide ((a.length : Int) < (b.length : Int))) := by
    intro i
    refine Ev_succ ?_
    simp only [laws_vBefore.j1]
    exact Ev_false (by simp) Ev_some
  intro d
  induction d with
  | zero =>
    intro i hi
    refine Ev_succ ?_
    simp only [laws_vBefore.l0]
    refine Ev_false (by omega) ?_
    have e : bef (a.drop i) (b.drop i) = decide ((a.length : Int) < (b.length : Int)) := by
      rw [List.drop_of_length_le (show a.length ≤ i by omega)]
      unfold bef
      simp only [List.length_nil, List.length_drop]
      by_cases h : (a.length : Int) < (b.length : Int)
      · rw [decide_eq_true h, decide_eq_true (by omega)]
      · rw [decide_eq_false h, decide_eq_false (by omega)]
    rw [e]
    exact hno i
  | succ d ih =>
    intro i hi
    have h1 : i < a.length := by omega
    refine Ev_succ ?_
    simp only [laws_vBefore.l0]
    refine Ev_true (by omega) ?_
    by_cases h2 : i < b.length
    · rw [decide_eq_true (show (i : Int) < (b.length : Int) by omega), List.drop_eq_getElem_cons h1, List.drop_eq_getElem_cons h2]
      refine Ev_succ ?_
      simp only [laws_vBefore.j1, bef]
      rw [rdv h1, rdv h2, w64 (x := (i : Int) + 1) (by omega) (by omega)]
      refine Ev_true trivial (Ev_true (by omega) (Ev_true (by omega) (Ev_true (by omega) ?_)))
      by_cases h3 : a[i] = b[i]
      · rw [if_pos h3]
        exact Ev_true h3 (ih (i + 1) (by omega))
      · rw [if_neg h3]
        exact Ev_false h3 Ev_some
    · rw [decide_eq_false (show ¬ (i : Int) < (b.length : Int) by omega), List.drop_of_length_le (show b.length ≤ i by omega)]
      have e : bef (a.drop i) [] = decide ((a.length : Int) < (b.length : Int)) := by
        rw [List.drop_eq_getElem_cons h1]
        unfold bef
        rw [decide_eq_false (show ¬ (a.length : Int) < (b.length : Int) by omega)]
        simp
      rw [e]
      exact hno i
theorem vBefore_ev {a b : List Int} (ha : a.length ≤ 1000000) : Ev (fun k => laws_vBefore.f k a b) (bef a b) := vBefore_l0 ha a.length 0 (by omega)
theorem psum_div (n : Nat) : ∀ m d, sumL g4 (divL n m d) = ((8 * psum n m d : Nat) : Int)
  | 0, d => rfl
  | m + 1, d => by
    have hg : ∀ x : Nat, g4 x = ((8 * no4 x : Nat) : Int) := by
      intro x
      unfold g4 no4
      by_cases h : x % 4 = 0
      · rw [if_pos h, beq_true h]
        rfl
      · rw [if_neg h, beq_false h]
        show 8 * (x : Int) = ((8 * x : Nat) : Int)
        omega
    unfold divL psum
    by_cases h1 : d * d ≤ n
    · rw [if_pos h1, Nat.ble_eq_true_of_le h1, sumL_append, psum_div n m (d + 1), here_sum]
      unfold pairTerm
      by_cases h2 : d ∣ n
      · rw [if_pos h2, beq_true (Nat.mod_eq_zero_of_dvd h2), hg d]
        by_cases h3 : d * d < n
        · rw [if_pos h3, blt_true h3, hg (n / d)]
          show ((8 * no4 d : Nat) : Int) + ((8 * no4 (n / d) : Nat) : Int) + ((8 * psum n m (d + 1) : Nat) : Int) = ((8 * (no4 d + no4 (n / d) + psum n m (d + 1)) : Nat) : Int)
          omega
        · rw [if_neg h3, blt_false h3]
          show ((8 * no4 d : Nat) : Int) + 0 + ((8 * psum n m (d + 1) : Nat) : Int) = ((8 * (no4 d + 0 + psum n m (d + 1)) : Nat) : Int)
          omega
      · rw [if_neg h2, beq_false (fun q => h2 (Nat.dvd_of_mod_eq_zero q))]
        show 0 + ((8 * psum n m (d + 1) : Nat) : Int) = ((8 * (0 + psum n m (d + 1)) : Nat) : Int)
        omega
    · rw [if_neg h1, ble_false h1]
      rfl
theorem psum_pos {n : Nat} (h : 1 ≤ n) : 1 ≤ psum n 1001 1 := by
  unfold psum
  rw [Nat.ble_eq_true_of_le (by omega), beq_true (Nat.mod_one n)]
  show 1 ≤ no4 1 + _ + _
  have : no4 1 = 1 := rfl
  omega
/-- The count, and that there is a list. -/
theorem count_val {n : Nat} (h : n ≤ 2000) : sumSigns (allL 4 n n) = (if n = 0 then 1 else 8 * psum n 1001 1) := by
  rw [count_four h]
  by_cases e : n = 0
  · subst e
    rw [if_pos rfl]
    exact chk_0
  · rw [if_neg e]
    exact all_count (by omega) h
theorem some_list {n : Nat} (h : n ≤ 2000) : 0 < (allL 4 n n).length := by
  have h1 := count_val h
  cases hL : allL 4 n n with
  | nil =>
    rw [hL] at h1
    exfalso
    have h2 : sumSigns [] = 0 := rfl
    rw [h2] at h1
    by_cases e : n = 0
    · rw [if_pos e] at h1
      omega
    · rw [if_neg e] at h1
      have := psum_pos (n := n) (by omega)
      omega
  | cons l L => simp
theorem rows_ev {n : Nat} (hn : n ≤ 2000) : ∀ (d i : Nat), i + d = (allL 4 n n).length → Ev (fun k => laws_FnFourSquaresCounted.l0 k (n : Int) (allL 4 n n) (allL 4 n n) ((allL 4 n n).length : Int) (i : Int)) true := by
  have hfew := few4 hn
  have hlen : ∀ l ∈ allL 4 n n, l.length = 4 := fun l hl => allL_len hl
  have hfall : ∀ l ∈ allL 4 n n, sqs l = (n : Int) ∧ Fall (n : Int) l := fun l hl => allL_fall hl
  have hpair := allL_pair 4 n n
  generalize allL 4 n n = L at hfew hlen hfall hpair ⊢
  intro d
  induction d with
  | zero =>
    intro i hi
    refine Ev_succ ?_
    simp only [laws_FnFourSquaresCounted.l0]
    exact Ev_false (by omega) Ev_some
  | succ d ih =>
    intro i hi
    have h1 : i < L.length := by omega
    have k1 := hlen L[i] (List.getElem_mem h1)
    obtain ⟨k2, k3⟩ := hfall L[i] (List.getElem_mem h1)
    have ih := ih (i + 1) (by omega)
    have hb : 0 < i → Ev (fun k => laws_vBefore.f k L[i] (rd_L2 L ((i - 1 : Nat) : Int))) true := by
      intro h0
      have h2 : i - 1 < L.length := by omega
      rw [rdvRow h2]
      have := (List.pairwise_iff_getElem.1 hpair) (i - 1) i h2 h1 (by omega)
      rw [← this]
      exact vBefore_ev (by omega)
    refine Ev_succ ?_
    simp only [laws_FnFourSquaresCounted.l0]
    rw [rdvRow h1, w64 (x := (i : Int) + 1) (by omega) (by omega)]
    generalize L[i] = row at k1 k2 k3 hb ⊢
    match row, k1 with
    | [a, b, c, e], _ =>
      obtain ⟨a0, a1, b0, b1, c0, c1, e0, e1, _⟩ := k3
      refine Ev_true (by omega) (Ev_true (by omega) (Ev_true (by omega) (Ev_true rfl (Ev.bind (a := (n : Int)) ?_ (Ev_true rfl (Ev_true (by simp) (Ev_true (by simp) (Ev_false ?_ (Ev_true (by simp) (Ev_false ?_ (Ev_true (by simp) (Ev_false ?_ (Ev_false ?_ ?_)))))))))))))
      · have := vSq_ev (l := [a, b, c, e]) (by simp) (by rw [k2]; omega)
        rwa [k2] at this
      · show ¬ a < b
        omega
      · show ¬ b < c
        omega
      · show ¬ c < e
        omega
      · show ¬ e < 0
        omega
      · by_cases h0 : 0 < i
        · refine Ev_true (by omega) ?_
          rw [show wrap64 ((i : Int) - 1) = ((i - 1 : Nat) : Int) from (w64 (by omega) (by omega)).trans (by omega)]
          exact Ev_true (by omega) (Ev_true (by omega) (Ev.bind (hb h0) (Ev_true rfl ih)))
        · exact Ev_false (by omega) ih
theorem law_j1 (a : Int) : Ev (fun k => laws_FnFourSquaresCounted.j1 k a (allFourAns a).1 (allFourAns a).2 (fourAns a).1 (countAns a).1 (dsumAns a).1 (dsumAns a).2 false) true := by
  unfold allFourAns fourAns countAns dsumAns
  by_cases h : 0 ≤ a ∧ a ≤ 2000
  · obtain ⟨n, rfl⟩ := Int.eq_ofNat_of_zero_le h.1
    rw [if_pos h, if_pos h, if_pos h, Int.toNat_natCast]
    have hn : n ≤ 2000 := by omega
    have hpos := some_list hn
    have hcount := count_val hn
    have hrows := rows_ev hn (allL 4 n n).length 0 (by omega)
    have hlen : ∀ l ∈ allL 4 n n, l.length = 4 := fun l hl => allL_len hl
    have hj2 : Ev (fun k => laws_FnFourSquaresCounted.j2 k (n : Int) (allL 4 n n) false) true := by
      refine Ev_succ ?_
      simp only [laws_FnFourSquaresCounted.j2]
      exact Ev_false (by simp) hrows
    generalize allL 4 n n = L at hpos hcount hlen hj2 ⊢
    match L, hpos with
    | l :: L, _ =>
      have hl : l.length = 4 := hlen l List.mem_cons_self
      have e0 : rd_L2 (l :: L) 0 = l := rdvRow (l := l :: L) (i := 0) (by simp)
      refine Ev_succ ?_
      simp only [laws_FnFourSquaresCounted.j1]
      refine Ev_false (by simp) (Ev_true trivial (Ev_false (by simp only [List.length_cons]; omega) (Ev_true (by simp only [List.length_cons]; omega) ?_)))
      rw [e0]
      refine Ev.bind (a := true) (vSame_same (l := l) (by omega)) (Ev_true rfl ?_)
      by_cases hz : n = 0
      · rw [if_pos hz] at hcount
        refine Ev_false (by omega) (Ev_true (by omega) ?_)
        rw [hcount]
        exact hj2
      · rw [if_neg hz] at hcount
        rw [if_pos (show 1 ≤ (n : Int) ∧ (n : Int) ≤ 2000 by omega), hcount]
        refine Ev_true (by omega) (Ev_true rfl (Ev_true ?_ (Ev_false (by omega) hj2)))
        show ((8 * psum n 1001 1 : Nat) : Int) = 0 + sumL g4 ((divL n 1001 1).drop 0)
        rw [List.drop_zero, psum_div, Int.zero_add]
  · rw [if_neg h, if_neg h, if_neg h]
    refine Ev_succ ?_
    simp only [laws_FnFourSquaresCounted.j1]
    exact Ev_false (by simp) (Ev_false (by simp) Ev_some)
/-- The numbers that are drawn for three squares. -/
theorem drawThree_ev {l : List Int} (hl : Bytes l) : ∃ v, spec_DrawThreeSquares.f l = some v ∧ (v < 0 ∨ v < 40002 ∨ v = 1000000 ∨ v = 1000001) := by
  unfold spec_DrawThreeSquares.f
  obtain ⟨v, t, s, e1, hd, h0, h1⟩ := number9_eq hl (n := 40000) (by omega) (by omega)
  rw [e1]
  simp only [Option.bind_some]
  obtain ⟨w, t2, s2, e2, a1, a2⟩ := one_any hl t s 16 h0 (by omega) (by omega)
  rw [e2]
  simp only [Option.bind_some]
  by_cases hw : w = true
  · rw [if_pos hw]
    obtain ⟨u, t3, s3, e3, hu, _⟩ := among_eq hl t2 s2 ([1000000, 1000001] : List Int) (by omega) (by omega) (by simp) (by simp)
    rw [e3]
    simp only [List.mem_cons, List.not_mem_nil, or_false] at hu
    exact ⟨u, rfl, by omega⟩
  · rw [if_neg hw]
    refine ⟨v, rfl, ?_⟩
    rcases hd with hd | hd
    · simp only [List.mem_cons, List.not_mem_nil, or_false] at hd
      omega
    · omega

theorem FnFourSquaresCounted : laws_FnFourSquaresCounted.Pure := by
  intro l m hl1 hl2 hl3 hm1 hm2 hm3
  have hl := Bytes.of hl2 hl3
  have hm := Bytes.of hm2 hm3
  refine Ev_out (g := fun k => laws_FnFourSquaresCounted.f k l m) ?_
  unfold laws_FnFourSquaresCounted.f
  obtain ⟨b, hb⟩ := big_eq l m
  rw [hb]
  simp only [Option.bind_some]
  by_cases h : b = true
  · exact Ev_true h Ev_some
  refine Ev_false h ?_
  obtain ⟨a, t, s, hd, _, _, _⟩ := number9_eq hl (n := 2000) (by omega) (by omega)
  have hdraw : spec_DrawAllFourSquares.f l = some a := by
    unfold spec_DrawAllFourSquares.f spec_DrawFourSquares.f
    rw [hd]
    rfl
  rw [hdraw]
  simp only [Option.bind_some]
  obtain ⟨p1, p2⟩ := allFour_ev a
  obtain ⟨p3, p4⟩ := fourSq_ev a
  obtain ⟨p5, p6⟩ := cfour_ev a
  obtain ⟨p7, p8⟩ := sum_ev a
  refine Ev.bind p2 (Ev.bind p1 (Ev.bind p4 (Ev.bind p3 (Ev.bind p6 (Ev.bind p5 (Ev.bind p8 (Ev.bind p7 (Ev_false (by simp) ?_))))))))
  have hj1 := law_j1 a
  have hall : (allFourAns a).1.length ≤ 1000000 ∧ ∀ x ∈ (allFourAns a).1, x.length ≤ 4 := by
    unfold allFourAns
    split
    · refine ⟨few4 (by omega), fun x hx => by have := allL_len (show x ∈ allL 4 a.toNat a.toNat from hx); omega⟩
    · simp
  have hfour : (fourAns a).1.length ≤ 4 := by
    unfold fourAns
    split
    · have := firstOf_len (p := 4) (most := a.toNat) (n := a.toNat)
      omega
    · simp
  have hsame : ((fourAns a).2 != (allFourAns a).2) = false := by
    unfold fourAns allFourAns
    by_cases h : 0 ≤ a ∧ a ≤ 2000
    · rw [if_pos h, if_pos h]
      have := some_list (n := a.toNat) (by omega)
      cases hL : allL 4 a.toNat a.toNat with
      | nil => rw [hL] at this; exact absurd this (by simp)
      | cons l L => rfl
    · rw [if_neg h, if_neg h]
      rfl
  refine Ev.bind (vSameLists_same (by omega) (fun x hx => by have := hall.2 x hx; omega)) (Ev_true rfl (Ev_false (by simp) (Ev.bind (vSame_same (by omega)) (Ev_true rfl (Ev_false (by simp) (Ev_true rfl (Ev_false (by simp) (Ev_true rfl ?_))))))))
  rw [hsame]
  refine Ev_succ ?_
  simp only [laws_FnFourSquaresCounted.j0]
  refine Ev_false (by simp) ?_
  obtain ⟨v, e1, hv⟩ := drawThree_ev hm
  rw [e1]
  simp only [Option.bind_some]
  obtain ⟨q1, q2⟩ := three_ev v
  obtain ⟨r, r1, r2, r3⟩ := refused_ev v
  have hthree : (threeAns v).1.length ≤ 3 := by
    unfold threeAns
    split
    · exact firstOf_len (p := 3) (most := v.toNat) (n := v.toNat)
    · simp
  refine Ev.bind q2 (Ev.bind q1 (Ev.bind r1 (Ev.bind r2 (Ev_false (by simp) (Ev.bind (vSame_same (by omega)) (Ev_true rfl (Ev_false (by simp) (Ev_false (by simp) ?_))))))))
  by_cases hr : 0 ≤ v ∧ v ≤ 1000000
  · obtain ⟨n, rfl⟩ := Int.eq_ofNat_of_zero_le hr.1
    have r3 := r3 hr
    rw [Int.toNat_natCast] at r3
    have hone : (threeAns (n : Int)).2 = true ↔ ¬ Refused n := by
      unfold threeAns
      rw [if_pos hr, Int.toNat_natCast, three_found]
      constructor
      · rintro ⟨a, b, c, e⟩ q
        exact no_three q a b c e
      · intro q
        by_cases h4 : n < 40002
        · rcases three_or_refused n h4 with w | w
          · exact w
          · exact absurd w q
        · exact ⟨1000, 0, 0, by omega⟩
    have hval : (threeAns (n : Int)).2 = true → sqs (threeAns (n : Int)).1 = (n : Int) ∧ (threeAns (n : Int)).1.length = 3 := by
      unfold threeAns
      rw [if_pos hr, Int.toNat_natCast]
      intro q
      cases hL : allL 3 n n with
      | nil => rw [hL] at q; exact absurd q (by simp [firstOf])
      | cons l L =>
        have hm : l ∈ allL 3 n n := by rw [hL]; exact List.mem_cons_self
        exact ⟨(allL_fall hm).1, allL_len hm⟩
    refine Ev_true (decide_eq_true hr) (Ev_false ?_ ?_)
    · rw [beq_iff_eq]
      intro q
      rw [q, r3] at hone
      by_cases w : Refused n
      · exact (hone.1 w) w
      · exact w (hone.2 w)
    · by_cases ht : (threeAns (n : Int)).2 = true
      · obtain ⟨w1, w2⟩ := hval ht
        refine Ev_true ht (Ev.bind (vSq_ev (by omega) (by omega)) (Ev_true w1 ?_))
        rw [show (((threeAns (n : Int)).1.length : Int) != 3) = false from by rw [w2]; rfl]
        exact hj1
      · exact Ev_false ht hj1
  · refine Ev_false (by simpa using hr) (Ev_false ?_ hj1)
    unfold threeAns
    rw [if_neg hr]
    simp
end Go.Proofs.Ytpmbffchkcemoaa.Pure

/- Right triples are those of pairs, their inner radius is told by the pair, and they are counted up to a bound in order. -/
import Derived.Test.YtnfbkakblnppaaaRx1
import Derived.Test.YtnfbkakblnppaaaRx3
import Derived.Test.YtnfbkakblnppaaaRx4
import Derived.Test.YtnfbkakblnppaaaRx6
import Derived.Test.YtnfbkakblnppaaaRx12
import Derived.Test.YtnfbkakblnppaaaRQRiUp
import Derived.Test.YtnfbkakblnppaaaRQRiDrawR
import Derived.Test.YtnfbkakblnppaaaRQBig
import Derived.Test.YtnfbkakblnppaaaRQV
namespace Go.Proofs.Ytnfbkakblnppaaa.Pure
open Go.RowKit Go.Proofs.Ytnfbkakblnppaaa.P Go.Proofs.YtnfbkakblnppaaaW.PrintWords Go.Proofs.YtnfbkakblnppaaaW.PrintLast Go.Proofs.Ytnfbkakblnppaaa.Q Go.Proofs.Ytnfbkakblnppaaa.G
theorem draw_pair {l : List Int} (hl : Bytes l) : ∃ m n, spec_DrawRightOfPair.f l = some (m, n) ∧ m ∈ Ms ∧ n ∈ Ns := by
  unfold spec_DrawRightOfPair.f
  obtain ⟨v, t1, s1, e1, v0, v1, ht1, ht1'⟩ := pick_eq hl 0 0 60 (by omega) (by omega) (by omega)
  have hv := v1 (by omega)
  rw [e1]
  simp only [Option.bind_some]
  rw [w64 (x := 2 + v) (by omega) (by omega)]
  obtain ⟨u, t2, s2, e2, u0, u1, ht2, ht2'⟩ := pick_eq hl t1 s1 (2 + v) (by omega) (by omega) (by omega)
  have hu := u1 (by omega)
  rw [e2]
  simp only [Option.bind_some]
  rw [w64 (x := 1 + u) (by omega) (by omega)]
  obtain ⟨x, t3, s3, e3, x0, x1, ht3, ht3'⟩ := pick_eq hl t2 s2 12 (by omega) (by omega) (by omega)
  rw [e3]
  simp only [Option.bind_some]
  by_cases h0 : x = 0
  · rw [if_pos h0]
    obtain ⟨y, t4, s4, e4, hy, _⟩ := among_eq hl t3 s3 ([(-1), 0, 1, 31622, 31623, 31624, 4611686018427387904] : List Int) (by omega) (by omega) (by simp) (by simp)
    rw [e4]
    exact ⟨_, _, rfl, List.mem_append.2 (.inl hy), mem_Ns (by omega) (by omega)⟩
  · rw [if_neg h0]
    by_cases h1 : x = 1
    · rw [if_pos h1]
      obtain ⟨y, t4, s4, e4, hy, _⟩ := among_eq hl t3 s3 ([(-1), 0, 2 + v, 4611686018427387904] : List Int) (by omega) (by omega) (by simp) (by simp)
      rw [e4]
      refine ⟨_, _, rfl, mem_Ms (by omega) (by omega), ?_⟩
      show y ∈ Ns
      simp only [List.mem_cons, List.not_mem_nil, or_false] at hy
      rcases hy with rfl | rfl | rfl | rfl
      · exact List.mem_append.2 (.inl (by simp))
      · exact List.mem_append.2 (.inl (by simp))
      · exact mem_Ns (by omega) (by omega)
      · exact List.mem_append.2 (.inl (by simp))
    · rw [if_neg h1]
      exact ⟨_, _, rfl, mem_Ms (by omega) (by omega), mem_Ns (by omega) (by omega)⟩
theorem draw_most {l : List Int} (hl : Bytes l) : ∃ b, spec_DrawRightUpTo.f l = some b := by
  unfold spec_DrawRightUpTo.f
  obtain ⟨v, t1, s1, e1, h1, h2⟩ := one_eq hl 0 0 10 (by omega) (by omega) (by omega)
  rw [e1]
  simp only [Option.bind_some]
  by_cases h : v = true
  · rw [if_pos h]
    obtain ⟨y, t4, s4, e4, hy, _⟩ := among_eq hl t1 s1 ([(-1), 0, 4, 5, 1000, 5001] : List Int) (by omega) (by omega) (by simp) (by simp)
    rw [e4]
    exact ⟨_, rfl⟩
  · rw [if_neg h]
    obtain ⟨y, t4, s4, e4, _⟩ := pick_eq hl t1 s1 400 (by omega) (by omega) (by omega)
    rw [e4]
    exact ⟨_, rfl⟩
theorem len_trip (m n : Nat) : (((trip m n).length : Nat) : Int) = 3 := rfl
theorem rd0_trip (m n : Nat) : rd (trip m n) 0 = ((m * m - n * n : Nat) : Int) := rfl
theorem rd1_trip (m n : Nat) : rd (trip m n) 1 = ((2 * m * n : Nat) : Int) := rfl
theorem rd2_trip (m n : Nat) : rd (trip m n) 2 = ((m * m + n * n : Nat) : Int) := rfl
theorem pairImpl_good {m n : Nat} (h : OkP m n) : Ev (fun k => impl_PairOfRight.f k (trip m n)) ((m : Int), (n : Int), true) := by
  have hr := isRight_ev (trip m n)
  rw [isR_true ⟨m, n, h, rfl⟩] at hr
  unfold impl_PairOfRight.f
  exact Ev.bind hr (Ev_true rfl (Ev.bind (f := fun _ (q : Int × Int) => some (q.1, q.2, true)) (pairOf_ev h) Ev_some))
theorem pairImpl_no {t : List Int} (h : ¬ GoodT t) : Ev (fun k => impl_PairOfRight.f k t) (0, 0, false) := by
  have hr := isRight_ev t
  rw [isR_false h] at hr
  unfold impl_PairOfRight.f
  exact Ev.bind hr (Ev_false (by simp) Ev_some)
theorem pairSpec_good {m n : Nat} (h : OkP m n) : Ev (fun k => spec_PairOfRight.f k (trip m n)) ((m : Int), (n : Int), true) := by
  have hr := riGood_ev (trip m n)
  rw [isR_true ⟨m, n, h, rfl⟩] at hr
  unfold spec_PairOfRight.f
  exact Ev.bind hr (Ev_true rfl (Ev.bind (f := fun _ (q : Int × Int) => some (q.1, q.2, true)) (back_trip h) Ev_some))
theorem pairSpec_no {t : List Int} (h : ¬ GoodT t) : Ev (fun k => spec_PairOfRight.f k t) (0, 0, false) := by
  have hr := riGood_ev t
  rw [isR_false h] at hr
  unfold spec_PairOfRight.f
  exact Ev.bind hr (Ev_false (by simp) Ev_some)
theorem inner_good {m n : Nat} (h : OkP m n) : Ev (fun k => impl_InnerRadius.f k (trip m n)) (((n * (m - n) : Nat) : Int), true) := by
  have hr := isRight_ev (trip m n)
  rw [isR_true ⟨m, n, h, rfl⟩] at hr
  obtain ⟨b1, b2, b3, b4, b5⟩ := trip_bounds h
  have hb := h.2
  have e : 2 * (n * (m - n)) + 2 * (n * n) = 2 * m * n := by
    obtain ⟨d, rfl⟩ := Nat.exists_eq_add_of_le (Nat.le_of_lt h.1.lt)
    rw [Nat.add_sub_cancel_left]
    grind
  unfold impl_InnerRadius.f
  refine Ev.bind hr (Ev_true rfl ?_)
  rw [len_trip, rd0_trip, rd1_trip, rd2_trip]
  refine Ev_true (by omega) (Ev_true (by omega) (Ev_true (by omega) ?_))
  generalize m * m = A at *
  generalize n * n = C at *
  generalize 2 * m * n = D at *
  generalize n * (m - n) = E at *
  rw [w64 (x := ((A - C : Nat) : Int) + (D : Int)) (by omega) (by omega), w64 (x := ((A - C : Nat) : Int) + (D : Int) - ((A + C : Nat) : Int)) (by omega) (by omega),
    show ((A - C : Nat) : Int) + (D : Int) - ((A + C : Nat) : Int) = ((2 * E : Nat) : Int) by omega, tdiv2, show 2 * E / 2 = E by omega, w64 (x := (E : Int)) (by omega) (by omega)]
  exact Ev_some
theorem law_l0 {b : Nat} {L : List (List Int)} (hlen : L.length ≤ 10000) (hg : ∀ x ∈ L, GoodT x ∧ rd x 2 ≤ (b : Int)) (hn : ∀ i (h : i + 1 < L.length), rd L[i] 2 < rd L[i + 1] 2 ∨ (rd L[i] 2 = rd L[i + 1] 2 ∧ rd L[i] 0 < rd L[i + 1] 0)) : ∀ (d i : Nat), i + d = L.length → Ev (fun k => laws_FnRightTriples.l0 k (b : Int) L L (L.length : Int) (i : Int)) true
  | 0, i, hi => by
    refine Ev_succ ?_
    simp only [laws_FnRightTriples.l0]
    exact Ev_false (by omega) Ev_some
  | d + 1, i, hi => by
    have h1 : i < L.length := by omega
    have ih := law_l0 hlen hg hn d (i + 1) (by omega)
    have row : ∀ {j : Nat} (h : j < L.length), rd_L2 L (j : Int) = L[j] := fun {j} h => by simp [rd_L2, List.getD_eq_getElem?_getD, List.getElem?_eq_getElem h]
    have lens : ∀ {j : Nat} (h : j < L.length), ((L[j].length : Nat) : Int) = 3 := fun {j} h => by
      obtain ⟨a, b, c, e, _⟩ := good_three (hg _ (List.getElem_mem h)).1
      rw [e]
      rfl
    have hgi := hg _ (List.getElem_mem h1)
    have hr := isRight_ev L[i]
    rw [isR_true hgi.1] at hr
    refine Ev_succ ?_
    simp only [laws_FnRightTriples.l0]
    rw [row h1, lens h1, wnext i (by omega)]
    refine Ev_true (by omega) (Ev_true (by omega) (Ev_true (by omega) (Ev.bind hr (Ev_true rfl (Ev_true (by omega) (Ev_false (by omega) ?_))))))
    match i, hi, h1, hgi, ih, hr with
    | 0, hi, h1, hgi, ih, hr => exact Ev_false (by omega) ih
    | i + 1, hi, h1, hgi, ih, hr =>
      have hnx := hn i h1
      rw [show wrap64 (((i + 1 : Nat) : Int) - 1) = (i : Int) by rw [w64 (by omega) (by omega)]; omega, row (show i < L.length by omega), lens (show i < L.length by omega)]
      refine Ev_true (by omega) (Ev_true (by omega) (Ev_true (by omega) (Ev_true (by omega) (Ev_false (by omega) ?_))))
      by_cases he : rd L[i] 2 = rd L[i + 1] 2
      · exact Ev_true he (Ev_true (by omega) (Ev_true (by omega) (Ev_false (by omega) ih)))
      · exact Ev_false he ih
theorem law_j3 {l : List Int} (hl : Bytes l) : Ev (fun j => laws_FnRightTriples.j3 j l) true := by
  refine Ev_succ ?_
  simp only [laws_FnRightTriples.j3]
  obtain ⟨b, hb⟩ := draw_most hl
  rw [hb]
  simp only [Option.bind_some]
  have hL : (upA b).1.length ≤ 6240 ∧ ∀ x ∈ (upA b).1, x.length ≤ 4611686018427387904 := by
    unfold upA
    split
    · refine ⟨upL_len _, fun x hx => ?_⟩
      obtain ⟨p, _, rfl⟩ := upL_mem hx
      show 3 ≤ 4611686018427387904
      omega
    · exact ⟨Nat.zero_le _, fun x hx => by cases hx⟩
  refine Ev.bind (upTo_impl b) (Ev.bind (upTo_spec b) (Ev.bind (count_impl b) (Ev_false (by simp) (Ev.bind (vSameLists_same (by omega) hL.2) (Ev_true rfl (Ev_false (by simp) ?_))))))
  refine Ev_succ ?_
  simp only [laws_FnRightTriples.j4]
  refine Ev_false (by simp) ?_
  unfold upA
  by_cases h : 0 ≤ b ∧ b ≤ 5000
  · obtain ⟨n, rfl⟩ := Int.eq_ofNat_of_zero_le h.1
    rw [if_pos h]
    have hlen := upL_len n
    refine law_l0 (L := upL n) (by omega) (fun x hx => ?_) (fun i hi => upL_next hi) (upL n).length 0 (by omega)
    obtain ⟨p, hp, rfl⟩ := upL_mem hx
    have hu := (enP_mem _ _ hp).2
    refine ⟨⟨p.1, p.2, ⟨hu.1, ?_⟩, rfl⟩, ?_⟩
    · have := hu.2
      omega
    · show ((p.1 * p.1 + p.2 * p.2 : Nat) : Int) ≤ (n : Int)
      have := hu.2
      omega
  · rw [if_neg h]
    refine Ev_succ ?_
    simp only [laws_FnRightTriples.l0]
    exact Ev_false (by simp) Ev_some
theorem law_j1 {l : List Int} (hl : Bytes l) : Ev (fun j => laws_FnRightTriples.j1 j l) true := by
  refine Ev_succ ?_
  simp only [laws_FnRightTriples.j1]
  obtain ⟨x, hx, hxl⟩ := draw_triple hl
  refine Ev.bind hx ?_
  have hr := isRight_ev x
  have h3 := law_j3 hl
  by_cases hg : GoodT x
  · rw [isR_true hg] at hr
    obtain ⟨m, n, hok, rfl⟩ := hg
    refine Ev.bind (pairImpl_good hok) (Ev.bind (pairSpec_good hok) (Ev_false (by simp) (Ev_true rfl (Ev_true rfl (Ev.bind hr ?_)))))
    refine Ev_succ ?_
    simp only [laws_FnRightTriples.j2]
    refine Ev_false (by simp) (Ev_true (by first | trivial | rfl) (Ev.bind (ofPair_good hok) (Ev_true rfl (Ev.bind (vSame_same (by simp [trip])) (Ev_true rfl h3)))))
  · rw [isR_false hg] at hr
    refine Ev.bind (pairImpl_no hg) (Ev.bind (pairSpec_no hg) (Ev_false (by simp) (Ev_true rfl (Ev_true rfl (Ev.bind hr ?_)))))
    refine Ev_succ ?_
    simp only [laws_FnRightTriples.j2]
    exact Ev_false (by simp) (Ev_false (by simp) h3)
theorem law_no {l : List Int} (hl : Bytes l) {x y : Int} : Ev (fun j => laws_FnRightTriples.j0 j l x y [] false false) true := by
  refine Ev_succ ?_
  simp only [laws_FnRightTriples.j0]
  exact Ev_false (by simp) (Ev_false (by simp) (law_j1 hl))
theorem wadd {A B : Nat} (h : A + B ≤ 1000000000000000000) : wrap64 ((A : Int) + (B : Int)) = ((A + B : Nat) : Int) := by
  rw [w64 (x := (A : Int) + (B : Int)) (by omega) (by omega)]
  omega
theorem law_good {l : List Int} (hl : Bytes l) {a c : Nat} (hok : OkP a c) : Ev (fun j => laws_FnRightTriples.j0 j l (a : Int) (c : Int) (trip a c) true false) true := by
  have h1 := law_j1 hl
  have hr := isRight_ev (trip a c)
  rw [isR_true ⟨a, c, hok, rfl⟩] at hr
  have hlt := hok.1.lt
  have hs := hok.small
  obtain ⟨b1, b2, b3, b4, b5⟩ := trip_bounds hok
  have hbb := hok.2
  have hpy := PairN.pyth (Nat.le_of_lt hok.1.lt)
  have hcc : c * (a - c) ≤ 999950884 := Nat.le_trans (Nat.mul_le_mul (show c ≤ 31622 by omega) (show a - c ≤ 31622 by omega)) (by decide)
  have e1 := w_sq (a := a * a - c * c) (by omega)
  have e2 := w_sq (a := 2 * a * c) (by omega)
  have e3 := w_sq (a := a * a + c * c) (by omega)
  have g1 := pairImpl_good hok
  have g2 := inner_good hok
  have q3 := len_trip a c
  have q0 := rd0_trip a c
  have q1 := rd1_trip a c
  have q2 := rd2_trip a c
  generalize trip a c = T at hr g1 g2 q3 q0 q1 q2 ⊢
  obtain ⟨e1, f1⟩ := e1
  obtain ⟨e2, f2⟩ := e2
  obtain ⟨e3, f3⟩ := e3
  have ed : (a : Int) - (c : Int) = ((a - c : Nat) : Int) := by omega
  have ec : (c : Int) * ((a - c : Nat) : Int) = ((c * (a - c) : Nat) : Int) := by push_cast; rfl
  have ew : wrap64 ((a : Int) - c) = ((a - c : Nat) : Int) := by rw [ed]; exact w64 (by omega) (by omega)
  have er : wrap64 ((c : Int) * ((a - c : Nat) : Int)) = ((c * (a - c) : Nat) : Int) := by rw [ec]; exact w64 (by omega) (by omega)
  clear hs b1 b2 b3 b4 b5 hbb hok
  rw [← hpy] at e3 f3
  generalize (a * a - c * c) * (a * a - c * c) = A at e1 f1 e3 f3
  generalize (2 * a * c) * (2 * a * c) = B at e2 f2 e3 f3
  have es : wrap64 ((A : Int) + (B : Int)) = ((A + B : Nat) : Int) := wadd f3
  refine Ev_succ ?_
  simp only [laws_FnRightTriples.j0]
  rw [q3, q0, q1, q2, e1, e2, e3, es, ew, er]
  exact Ev_false (by simp) (Ev_true (by first | trivial | rfl) (Ev.bind g1 (Ev.bind g2 (Ev_true rfl (Ev_true rfl (Ev_true rfl (Ev_true rfl (Ev_true rfl (Ev.bind hr (Ev_true rfl (Ev_true (by decide) (Ev_true (by decide) (Ev_true (by decide) (Ev_true rfl h1))))))))))))))
theorem FnRightTriples : laws_FnRightTriples.Pure := by
  intro l m hl1 hl2 hl3 hm1 hm2 hm3
  have hl := Bytes.of hl2 hl3
  have hm := Bytes.of hm2 hm3
  refine Ev_out (g := fun k => laws_FnRightTriples.f k l m) ?_
  unfold laws_FnRightTriples.f
  obtain ⟨b, hb⟩ := big_eq l m
  rw [hb]
  simp only [Option.bind_some]
  by_cases h : b = true
  · exact Ev_true h Ev_some
  refine Ev_false h ?_
  obtain ⟨x, y, hd, hx, hy⟩ := draw_pair hl
  rw [hd]
  simp only [Option.bind_some]
  have h1 := law_j1 hm
  have hq : (ofPair x y).1.length ≤ 3 := by unfold ofPair; split <;> simp [trip]
  refine Ev.bind (ofPair_impl hx hy) (Ev.bind (ofPair_spec hx hy) (Ev_false (by simp) (Ev.bind (vSame_same (by omega)) ?_)))
  by_cases hok : 0 ≤ x ∧ 0 ≤ y ∧ OkP x.toNat y.toNat
  · have e : ofPair x y = (trip x.toNat y.toNat, true) := if_pos hok
    rw [e]
    have h2 := law_good hm hok.2.2
    rw [show ((x.toNat : Nat) : Int) = x by omega, show ((y.toNat : Nat) : Int) = y by omega] at h2
    exact h2
  · have e : ofPair x y = ([], false) := if_neg hok
    rw [e]
    exact law_no hm
end Go.Proofs.Ytnfbkakblnppaaa.Pure

/- Right triples, of both programs: they are those of pairs. -/
import Derived.Test.YtnfbkakblnppaaaRx1
import Derived.Test.YtnfbkakblnppaaaRx2
import Derived.Test.YtnfbkakblnppaaaRx3
import Derived.Test.YtnfbkakblnppaaaRx4
import Derived.Test.YtnfbkakblnppaaaRx6
import Derived.Test.YtnfbkakblnppaaaRQGcd
import Derived.Test.YtnfbkakblnppaaaRQIsq
import Derived.Test.YtnfbkakblnppaaaRQPyth
namespace Go.Proofs.Ytnfbkakblnppaaa.Q
open Go.RowKit Go.Proofs.Ytnfbkakblnppaaa.P Go.Proofs.YtnfbkakblnppaaaW.PrintWords Go.Proofs.YtnfbkakblnppaaaW.PrintLast
theorem in_eq (a lo hi : Int) : spec_l1In.f a lo hi = some (decide (lo ≤ a ∧ a ≤ hi)) := by
  unfold spec_l1In.f
  by_cases h : lo ≤ a
  · rw [if_pos h]; simp [h]
  · rw [if_neg h]; simp [h]
def allB (lo hi : Int) (l : List Int) : Bool := l.all (fun x => decide (lo ≤ x ∧ x ≤ hi))
theorem allWithin_eq (l : List Int) (lo hi : Int) : impl_allWithin.f l lo hi = some (allB lo hi l) := by
  unfold impl_allWithin.f allB
  congr 1
  congr 1
  funext x
  simp [Go.Proofs.Ytnfbkakblnppaaa.G.inB]
theorem rdn {l : List Int} {i : Nat} (h : i < l.length) : rd l (i : Int) = l[i] := by
  simp [rd, List.getD_eq_getElem?_getD, List.getElem?_eq_getElem h]
theorem l1All_l0 {l : List Int} (lo up : Int) (hn : l.length ≤ 1000000000000) : ∀ (d i : Nat), i + d = l.length → Ev (fun k => spec_l1All.l0 k lo up l (l.length : Int) (i : Int)) (allB lo up (l.drop i)) := by
  intro d
  induction d with
  | zero =>
    intro i hi
    refine Ev_succ ?_
    simp only [spec_l1All.l0]
    rw [List.drop_of_length_le (by omega)]
    exact Ev_false (by omega) Ev_some
  | succ d ih =>
    intro i hi
    have h1 : i < l.length := by omega
    refine Ev_succ ?_
    simp only [spec_l1All.l0]
    rw [rdn h1, in_eq, List.drop_eq_getElem_cons h1, w64 (x := (i : Int) + 1) (by omega) (by omega)]
    simp only [Option.bind_some]
    refine Ev_true (by omega) (Ev_true (by omega) (Ev_true (by omega) ?_))
    have ih := ih (i + 1) (by omega)
    unfold allB at ih ⊢
    rw [List.all_cons]
    by_cases hc : lo ≤ l[i] ∧ l[i] ≤ up
    · rw [decide_eq_true hc, Bool.true_and]
      exact Ev_true rfl ih
    · rw [decide_eq_false hc, Bool.false_and]
      exact Ev_false (by simp) Ev_some
theorem l1All_ev {l : List Int} (lo hi : Int) (hn : l.length ≤ 1000000000000) : Ev (fun k => spec_l1All.f k l lo hi) (allB lo hi l) := by
  unfold spec_l1All.f
  exact l1All_l0 lo hi hn l.length 0 (by omega)
def OkP (m n : Nat) : Prop := PairN m n ∧ m * m + n * n ≤ 1000000000
instance (m n : Nat) : Decidable (OkP m n) := inferInstanceAs (Decidable (_ ∧ _))
theorem sq_lt {m b : Nat} (h : m * m < b * b) : m < b := by
  apply Nat.lt_of_not_le
  intro hl
  have := Nat.mul_le_mul hl hl
  omega
theorem OkP.small {m n : Nat} (h : OkP m n) : m ≤ 31622 := by
  have h1 := h.2
  have : m * m < 31623 * 31623 := by omega
  have := sq_lt this
  omega
def trip (m n : Nat) : List Int := [((m * m - n * n : Nat) : Int), ((2 * m * n : Nat) : Int), ((m * m + n * n : Nat) : Int)]
theorem riPair_ev {m n : Nat} (hm : m ≤ 1000000000) (hn : n ≤ 1000000000) : Ev (fun k => spec_riPair.f k (m : Int) (n : Int)) (decide (OkP m n)) := by
  unfold spec_riPair.f
  rw [in_eq]
  simp only [Option.bind_some]
  by_cases h1 : 2 ≤ m ∧ m ≤ 31623
  · refine Ev_true (by simp; omega) ?_
    rw [w64 (x := (m : Int) - 1) (by omega) (by omega), in_eq]
    simp only [Option.bind_some]
    by_cases h2 : 1 ≤ n ∧ n < m
    · refine Ev_true (by simp; omega) ?_
      rw [w64 (x := (m : Int) + n) (by omega) (by omega), show (m : Int) + (n : Int) = ((m + n : Nat) : Int) by omega, show (2 : Int) = ((2 : Nat) : Int) from rfl, tmod_nat]
      by_cases h3 : (m + n) % 2 = 1
      · refine Ev_true (by omega) (Ev.bind (foGcd_ev (by omega) (by omega)) ?_)
        by_cases h4 : Nat.gcd m n = 1
        · refine Ev_true (by omega) ?_
          have q1 : m * m ≤ 31623 * 31623 := Nat.mul_le_mul h1.2 h1.2
          have q2 : n * n ≤ 31623 * 31623 := Nat.mul_le_mul (by omega) (by omega)
          have e1 : (m : Int) * m = ((m * m : Nat) : Int) := by push_cast; rfl
          have e2 : (n : Int) * n = ((n * n : Nat) : Int) := by push_cast; rfl
          rw [e1, e2, w64 (x := ((m * m : Nat) : Int)) (by omega) (by omega), w64 (x := ((n * n : Nat) : Int)) (by omega) (by omega), w64 (by omega) (by omega),
            show decide (OkP m n) = decide (((m * m : Nat) : Int) + ((n * n : Nat) : Int) ≤ 1000000000) from decide_eq_decide.2 ⟨fun h => by have := h.2; omega, fun h => ⟨⟨h2.2, h2.1, h3, h4⟩, by omega⟩⟩]
          exact Ev_some
        · rw [decide_eq_false (fun h : OkP m n => h4 h.1.cop)]
          exact Ev_false (by omega) Ev_some
      · rw [decide_eq_false (fun h : OkP m n => h3 h.1.odd)]
        exact Ev_false (by omega) Ev_some
    · rw [decide_eq_false (fun h : OkP m n => h2 ⟨h.1.pos, h.1.lt⟩)]
      exact Ev_false (by simp; omega) Ev_some
  · rw [decide_eq_false (fun h : OkP m n => h1 ⟨by have := h.1.lt; have := h.1.pos; omega, by have := h.small; omega⟩)]
    exact Ev_false (by simp; omega) Ev_some
theorem trip_w {m n : Nat} (hl : n ≤ m) (hm : m ≤ 40000) : wrap64 (wrap64 ((m : Int) * m) - wrap64 ((n : Int) * n)) = ((m * m - n * n : Nat) : Int) ∧ wrap64 (wrap64 (2 * (m : Int)) * n) = ((2 * m * n : Nat) : Int) ∧ wrap64 (wrap64 ((m : Int) * m) + wrap64 ((n : Int) * n)) = ((m * m + n * n : Nat) : Int) := by
  have q1 : m * m ≤ 40000 * 40000 := Nat.mul_le_mul hm hm
  have q2 : n * n ≤ m * m := Nat.mul_le_mul hl hl
  have q3 : 2 * m * n ≤ 2 * 40000 * 40000 := Nat.mul_le_mul (by omega) (by omega)
  have e1 : (m : Int) * m = ((m * m : Nat) : Int) := by push_cast; rfl
  have e2 : (n : Int) * n = ((n * n : Nat) : Int) := by push_cast; rfl
  have e3 : 2 * (m : Int) * n = ((2 * m * n : Nat) : Int) := by push_cast; rfl
  rw [e1, e2, w64 (x := ((m * m : Nat) : Int)) (by omega) (by omega), w64 (x := ((n * n : Nat) : Int)) (by omega) (by omega), w64 (x := 2 * (m : Int)) (by omega) (by omega), e3]
  exact ⟨(w64 (by omega) (by omega)).trans (by omega), w64 (by omega) (by omega), (w64 (by omega) (by omega)).trans (by omega)⟩
theorem riOf_eq {m n : Nat} (hl : n ≤ m) (hm : m ≤ 40000) : spec_riOf.f (m : Int) (n : Int) = some (trip m n) := by
  obtain ⟨e1, e2, e3⟩ := trip_w hl hm
  unfold spec_riOf.f trip
  rw [e1, e2, e3]
def rightP (m n : Nat) : List Int × Bool := if m * m + n * n ≤ 1000000000 then (trip m n, true) else ([], false)
theorem right_eq {m n : Nat} (hl : n ≤ m) : impl_pair_right.f (m : Int) (n : Int) = some (rightP m n) := by
  unfold impl_pair_right.f rightP
  by_cases h1 : m ≤ 40000
  · obtain ⟨e1, e2, e3⟩ := trip_w hl h1
    rw [if_neg (by omega), e1, e2, e3]
    by_cases h2 : m * m + n * n ≤ 1000000000
    · rw [if_neg (by omega), if_pos h2]; rfl
    · rw [if_pos (by omega), if_neg h2]
  · have : 40001 * 40001 ≤ m * m := Nat.mul_le_mul (by omega) (by omega)
    rw [if_pos (by omega), if_neg (by omega)]
def GoodT (t : List Int) : Prop := ∃ m n, OkP m n ∧ t = trip m n
open Classical in
noncomputable def isR (t : List Int) : Bool := decide (GoodT t)
open Classical in
theorem isR_true {t : List Int} (h : GoodT t) : isR t = true := decide_eq_true h
open Classical in
theorem isR_false {t : List Int} (h : ¬ GoodT t) : isR t = false := decide_eq_false h
theorem isR_no {t : List Int} {c : Prop} (h : GoodT t → c) (hc : ¬ c) : isR t = false := isR_false (fun hg => hc (h hg))
theorem trip_bounds {m n : Nat} (h : OkP m n) : 1 ≤ m * m - n * n ∧ 1 ≤ 2 * m * n ∧ m * m - n * n < m * m + n * n ∧ 2 * m * n ≤ m * m + n * n ∧ n * n < m * m := by
  have hl := h.1.lt
  have hp := h.1.pos
  obtain ⟨d, rfl⟩ := Nat.exists_eq_add_of_lt hl
  have e : (n + d + 1) * (n + d + 1) = n * n + (2 * n * d + 2 * n + d * d + 2 * d + 1) := by grind
  have e2 : 2 * (n + d + 1) * n = 2 * (n * n) + 2 * n * d + 2 * n := by grind
  have h3 : 1 ≤ n * n := Nat.mul_le_mul hp hp
  refine ⟨by omega, by omega, by omega, by omega, by omega⟩
theorem isq_sq (m : Nat) : isq (m * m) = m := by
  have h : (m + 1) * (m + 1) = m * m + 2 * m + 1 := by grind
  exact isq_uniq (Nat.le_refl _) (by omega)
theorem halves {m n : Nat} (h : n * n < m * m) : (m * m + n * n + (m * m - n * n)) / 2 = m * m ∧ (m * m + n * n - (m * m - n * n)) / 2 = n * n := by omega
theorem tdiv2 (a : Nat) : Int.tdiv (a : Int) 2 = ((a / 2 : Nat) : Int) := half_cast a
theorem pairOf_ev {m n : Nat} (h : OkP m n) : Ev (fun k => impl_pairOf.f k (trip m n)) ((m : Int), (n : Int)) := by
  obtain ⟨b1, b2, b3, b4, b5⟩ := trip_bounds h
  have hb := h.2
  have r0 : rd (trip m n) 0 = ((m * m - n * n : Nat) : Int) := rfl
  have r2 : rd (trip m n) 2 = ((m * m + n * n : Nat) : Int) := rfl
  unfold impl_pairOf.f
  rw [r0, r2, w64 (x := ((m * m + n * n : Nat) : Int) + ((m * m - n * n : Nat) : Int)) (by omega) (by omega), w64 (x := ((m * m + n * n : Nat) : Int) - ((m * m - n * n : Nat) : Int)) (by omega) (by omega),
    show ((m * m + n * n : Nat) : Int) + ((m * m - n * n : Nat) : Int) = ((m * m + n * n + (m * m - n * n) : Nat) : Int) by omega,
    show ((m * m + n * n : Nat) : Int) - ((m * m - n * n : Nat) : Int) = ((m * m + n * n - (m * m - n * n) : Nat) : Int) by omega, tdiv2, tdiv2, (halves b5).1, (halves b5).2, w64 (x := ((m * m : Nat) : Int)) (by omega) (by omega), w64 (x := ((n * n : Nat) : Int)) (by omega) (by omega)]
  refine Ev_true (by simp [trip]) (Ev_true (by simp [trip]) ?_)
  have e1 := root_ev (n := m * m) (by omega)
  have e2 := root_ev (n := n * n) (by omega)
  rw [isq_sq] at e1 e2
  exact Ev.bind e1 (Ev.bind e2 Ev_some)
theorem w_sq {a : Nat} (h : a ≤ 1000000000) : wrap64 ((a : Int) * a) = ((a * a : Nat) : Int) ∧ a * a ≤ 1000000000000000000 := by
  have q : a * a ≤ 1000000000 * 1000000000 := Nat.mul_le_mul h h
  have e : (a : Int) * a = ((a * a : Nat) : Int) := by push_cast; rfl
  rw [e]
  exact ⟨w64 (by omega) (by omega), by omega⟩
theorem allB3 (a b c : Int) : allB 1 1000000000 [a, b, c] = decide ((1 ≤ a ∧ a ≤ 1000000000) ∧ (1 ≤ b ∧ b ≤ 1000000000) ∧ 1 ≤ c ∧ c ≤ 1000000000) := by
  simp only [allB, List.all_cons, List.all_nil, Bool.and_true, Bool.decide_and]
theorem mod2 (a : Nat) : Int.tmod (a : Int) 2 = ((a % 2 : Nat) : Int) := tmod_nat a 2
theorem rd30_ (a b c : Int) : rd [a, b, c] 0 = a := rfl
theorem rd31_ (a b c : Int) : rd [a, b, c] 1 = b := rfl
theorem rd32_ (a b c : Int) : rd [a, b, c] 2 = c := rfl
theorem len3_ (a b c : Int) : (([a, b, c] : List Int).length : Int) = 3 := rfl
/-- The tests of a right triple. -/
def Tests (a b c : Nat) : Prop := (a % 2 = 1 ∧ b % 2 = 0) ∧ Nat.gcd a b = 1 ∧ a * a + b * b = c * c
theorem good_tests {a b c : Nat} (hb : 1 ≤ b) (hc : c ≤ 1000000000) : GoodT [(a : Int), (b : Int), (c : Int)] ↔ Tests a b c := by
  constructor
  · rintro ⟨m, n, h, e⟩
    simp only [trip, List.cons.injEq, and_true] at e
    obtain ⟨e1, e2, e3⟩ := e
    obtain ⟨s1, s2⟩ := h.1.sides
    have hp := PairN.pyth (Nat.le_of_lt h.1.lt)
    have e1 : a = m * m - n * n := by omega
    have e2 : b = 2 * m * n := by omega
    have e3 : c = m * m + n * n := by omega
    subst e1
    subst e2
    subst e3
    exact ⟨⟨s1, by rw [Nat.mul_assoc]; exact Nat.mul_mod_right 2 _⟩, s2, hp⟩
  · rintro ⟨⟨t1, t2⟩, t3, t4⟩
    obtain ⟨m, n, hp, e1, e2, e3, _⟩ := pair_of t1 t2 hb t3 t4
    exact ⟨m, n, ⟨hp, by omega⟩, by unfold trip; rw [← e1, ← e2, ← e3]⟩
theorem good_three {t : List Int} (h : GoodT t) : ∃ a b c : Nat, t = [(a : Int), (b : Int), (c : Int)] ∧ 1 ≤ a ∧ 1 ≤ b ∧ a < c ∧ b ≤ c ∧ c ≤ 1000000000 := by
  obtain ⟨m, n, h, rfl⟩ := h
  obtain ⟨b1, b2, b3, b4, b5⟩ := trip_bounds h
  exact ⟨_, _, _, rfl, b1, b2, b3, b4, h.2⟩
theorem isRight_ev (t : List Int) : Ev (fun k => impl_IsRight.f k t) (isR t) := by
  unfold impl_IsRight.f
  match t with
  | [] => rw [isR_no (c := False) (fun h => by obtain ⟨_, _, _, e, _⟩ := good_three h; simp at e) id]; exact Ev_false (by simp) Ev_some
  | [_] => rw [isR_no (c := False) (fun h => by obtain ⟨_, _, _, e, _⟩ := good_three h; simp at e) id]; exact Ev_false (by simp) Ev_some
  | [_, _] => rw [isR_no (c := False) (fun h => by obtain ⟨_, _, _, e, _⟩ := good_three h; simp at e) id]; exact Ev_false (by simp) Ev_some
  | _ :: _ :: _ :: _ :: _ => rw [isR_no (c := False) (fun h => by obtain ⟨_, _, _, e, _⟩ := good_three h; simp at e) id]; exact Ev_false (by simp; omega) Ev_some
  | [a, b, c] =>
    rw [allWithin_eq, allB3, rd30_, rd31_, rd32_, len3_]
    simp only [Option.bind_some]
    refine Ev_true (by first | trivial | rfl) ?_
    by_cases h1 : (1 ≤ a ∧ a ≤ 1000000000) ∧ (1 ≤ b ∧ b ≤ 1000000000) ∧ 1 ≤ c ∧ c ≤ 1000000000
    · obtain ⟨x, rfl⟩ := Int.eq_ofNat_of_zero_le (show 0 ≤ a by omega)
      obtain ⟨y, rfl⟩ := Int.eq_ofNat_of_zero_le (show 0 ≤ b by omega)
      obtain ⟨z, rfl⟩ := Int.eq_ofNat_of_zero_le (show 0 ≤ c by omega)
      have hT := good_tests (a := x) (b := y) (c := z) (by omega) (by omega)
      rw [mod2, mod2]
      refine Ev_true (decide_eq_true h1) (Ev_true (by omega) ?_)
      by_cases h2 : x % 2 = 1
      · refine Ev_true (by omega) (Ev_true (by omega) ?_)
        by_cases h3 : y % 2 = 0
        · refine Ev_true (by omega) (Ev.bind (divisor_ev (by omega) (by omega)) ?_)
          by_cases h4 : Nat.gcd x y = 1
          · refine Ev_true (by omega) (Ev_true (by omega) ?_)
            obtain ⟨ex, bx⟩ := w_sq (a := x) (by omega)
            obtain ⟨ey, b_y⟩ := w_sq (a := y) (by omega)
            obtain ⟨ez, bz⟩ := w_sq (a := z) (by omega)
            rw [ex, ey, ez, w64 (by omega) (by omega)]
            by_cases h5 : x * x + y * y = z * z
            · rw [isR_true (hT.2 ⟨⟨h2, h3⟩, h4, h5⟩), show ((x * x : Nat) : Int) + ((y * y : Nat) : Int) = ((z * z : Nat) : Int) by omega, beq_self_eq_true]
              exact Ev_some
            · rw [isR_no hT.1 (fun q => h5 q.2.2), beq_eq_false_iff_ne.2 (show ((x * x : Nat) : Int) + ((y * y : Nat) : Int) ≠ ((z * z : Nat) : Int) by omega)]
              exact Ev_some
          · rw [isR_no hT.1 (fun q => h4 q.2.1)]
            exact Ev_false (by omega) Ev_some
        · rw [isR_no hT.1 (fun q => h3 q.1.2)]
          exact Ev_false (by omega) Ev_some
      · rw [isR_no hT.1 (fun q => h2 q.1.1)]
        exact Ev_false (by omega) Ev_some
    · rw [isR_no (c := (1 ≤ a ∧ a ≤ 1000000000) ∧ (1 ≤ b ∧ b ≤ 1000000000) ∧ 1 ≤ c ∧ c ≤ 1000000000) (fun h => by
        obtain ⟨x, y, z, e, q1, q2, q3, q4, q5⟩ := good_three h
        simp only [List.cons.injEq, and_true] at e
        omega) h1]
      exact Ev_false (by simpa using h1) Ev_some
theorem back_ev {a c : Nat} (b : Int) (h : a ≤ c) (hc : c ≤ 1000000000) : Ev (fun k => spec_riBack.f k [(a : Int), b, (c : Int)]) (((isq ((c + a) / 2) : Nat) : Int), ((isq ((c - a) / 2) : Nat) : Int)) := by
  unfold spec_riBack.f
  rw [rd30_, rd32_, len3_, w64 (x := (c : Int) + a) (by omega) (by omega), w64 (x := (c : Int) - a) (by omega) (by omega), show (c : Int) + a = ((c + a : Nat) : Int) by omega, show (c : Int) - a = ((c - a : Nat) : Int) by omega, tdiv2, tdiv2,
    w64 (x := (((c + a) / 2 : Nat) : Int)) (by omega) (by omega), w64 (x := (((c - a) / 2 : Nat) : Int)) (by omega) (by omega)]
  exact Ev_true (by omega) (Ev_true (by omega) (Ev.bind (foRoot_ev (by omega)) (Ev.bind (foRoot_ev (by omega)) Ev_some)))
theorem back_trip {m n : Nat} (h : OkP m n) : Ev (fun k => spec_riBack.f k (trip m n)) ((m : Int), (n : Int)) := by
  obtain ⟨b1, b2, b3, b4, b5⟩ := trip_bounds h
  have e := back_ev (a := m * m - n * n) (c := m * m + n * n) ((2 * m * n : Nat) : Int) (by omega) h.2
  rw [(halves b5).1, (halves b5).2, isq_sq, isq_sq] at e
  exact e
theorem same3_ev (a b c x y z : Int) : Ev (fun k => spec_l1Same.f k [a, b, c] [x, y, z]) (decide ([a, b, c] = [x, y, z])) := by
  unfold spec_l1Same.f
  have w1 : wrap64 ((0 : Int) + 1) = 1 := w64 (by omega) (by omega)
  have w2 : wrap64 ((1 : Int) + 1) = 2 := w64 (by omega) (by omega)
  have w3 : wrap64 ((2 : Int) + 1) = 3 := w64 (by omega) (by omega)
  refine Ev_true rfl (Ev_succ ?_)
  simp only [spec_l1Same.l0, len3_, rd30_, w1]
  refine Ev_true (by omega) (Ev_true (by omega) (Ev_true (by omega) (Ev_true (by omega) ?_)))
  by_cases h1 : a = x
  · refine Ev_true h1 (Ev_succ ?_)
    simp only [spec_l1Same.l0, len3_, rd31_, w2]
    refine Ev_true (by omega) (Ev_true (by omega) (Ev_true (by omega) (Ev_true (by omega) ?_)))
    by_cases h2 : b = y
    · refine Ev_true h2 (Ev_succ ?_)
      simp only [spec_l1Same.l0, len3_, rd32_, w3]
      refine Ev_true (by omega) (Ev_true (by omega) (Ev_true (by omega) (Ev_true (by omega) ?_)))
      by_cases h3 : c = z
      · refine Ev_true h3 (Ev_succ ?_)
        simp only [spec_l1Same.l0]
        rw [h1, h2, h3, decide_eq_true rfl]
        exact Ev_false (by omega) Ev_some
      · rw [decide_eq_false (by simp [h3])]
        exact Ev_false h3 Ev_some
    · rw [decide_eq_false (by simp [h2])]
      exact Ev_false h2 Ev_some
  · rw [decide_eq_false (by simp [h1])]
    exact Ev_false h1 Ev_some
theorem riGood_ev (t : List Int) : Ev (fun k => spec_riGood.f k t) (isR t) := by
  have hj : Ev (fun k => spec_riGood.j0 k t true) false := by
    refine Ev_succ ?_
    simp only [spec_riGood.j0]
    exact Ev_true trivial Ev_some
  unfold spec_riGood.f
  match t, hj with
  | [], hj => rw [isR_no (c := False) (fun h => by obtain ⟨_, _, _, e, _⟩ := good_three h; simp at e) id]; exact Ev_false (by simp) hj
  | [_], hj => rw [isR_no (c := False) (fun h => by obtain ⟨_, _, _, e, _⟩ := good_three h; simp at e) id]; exact Ev_false (by simp) hj
  | [_, _], hj => rw [isR_no (c := False) (fun h => by obtain ⟨_, _, _, e, _⟩ := good_three h; simp at e) id]; exact Ev_false (by simp) hj
  | _ :: _ :: _ :: _ :: _, hj => rw [isR_no (c := False) (fun h => by obtain ⟨_, _, _, e, _⟩ := good_three h; simp at e) id]; exact Ev_false (by simp; omega) hj
  | [a, b, c], hj =>
    have hal := l1All_ev (l := [a, b, c]) 1 1000000000 (by simp)
    rw [allB3] at hal
    rw [rd30_, rd32_, len3_]
    refine Ev_true rfl (Ev.bind hal ?_)
    by_cases h1 : (1 ≤ a ∧ a ≤ 1000000000) ∧ (1 ≤ b ∧ b ≤ 1000000000) ∧ 1 ≤ c ∧ c ≤ 1000000000
    · refine Ev_true (decide_eq_true h1) (Ev_true (by omega) (Ev_true (by omega) ?_))
      by_cases h2 : c ≤ a
      · rw [decide_eq_true h2, isR_no (c := a < c) (fun h => by
          obtain ⟨x, y, z, e, q1, q2, q3, q4, q5⟩ := good_three h
          simp only [List.cons.injEq, and_true] at e
          omega) (by omega)]
        exact hj
      · rw [decide_eq_false h2]
        obtain ⟨x, rfl⟩ := Int.eq_ofNat_of_zero_le (show 0 ≤ a by omega)
        obtain ⟨z, rfl⟩ := Int.eq_ofNat_of_zero_le (show 0 ≤ c by omega)
        refine Ev_succ ?_
        simp only [spec_riGood.j0]
        have hi1 : isq ((z + x) / 2) ≤ 1000000 := isq_le (by omega)
        have hi2 : isq ((z - x) / 2) ≤ 1000000 := isq_le (by omega)
        refine Ev_false (by simp) (Ev.bind (back_ev b (by omega) (by omega)) (Ev.bind (riPair_ev (by omega) (by omega)) ?_))
        by_cases h3 : OkP (isq ((z + x) / 2)) (isq ((z - x) / 2))
        · refine Ev_true (decide_eq_true h3) ?_
          have hs := h3.small
          rw [riOf_eq (Nat.le_of_lt h3.1.lt) (by omega)]
          simp only [Option.bind_some]
          refine Ev.bind (f := fun _ t => some t) (a := isR [(x : Int), b, (z : Int)]) ?_ Ev_some
          have hs3 : Ev (fun k => spec_l1Same.f k (trip (isq ((z + x) / 2)) (isq ((z - x) / 2))) [(x : Int), b, (z : Int)]) (decide (trip (isq ((z + x) / 2)) (isq ((z - x) / 2)) = [(x : Int), b, (z : Int)])) := same3_ev _ _ _ _ _ _
          by_cases h4 : trip (isq ((z + x) / 2)) (isq ((z - x) / 2)) = [(x : Int), b, (z : Int)]
          · rw [isR_true ⟨_, _, h3, h4.symm⟩]
            rw [decide_eq_true h4] at hs3
            exact hs3
          · rw [isR_no (c := trip (isq ((z + x) / 2)) (isq ((z - x) / 2)) = [(x : Int), b, (z : Int)]) (fun h => by
              obtain ⟨m, n, hm, e⟩ := h
              obtain ⟨b1, b2, b3, b4, b5⟩ := trip_bounds hm
              have e' := e
              simp only [trip, List.cons.injEq, and_true] at e
              have e1 : x = m * m - n * n := by omega
              have e3 : z = m * m + n * n := by omega
              rw [e', e1, e3, (halves b5).1, (halves b5).2, isq_sq, isq_sq]) h4]
            rw [decide_eq_false h4] at hs3
            exact hs3
        · rw [isR_no (c := OkP (isq ((z + x) / 2)) (isq ((z - x) / 2))) (fun h => by
            obtain ⟨m, n, hm, e⟩ := h
            obtain ⟨b1, b2, b3, b4, b5⟩ := trip_bounds hm
            simp only [trip, List.cons.injEq, and_true] at e
            have e1 : x = m * m - n * n := by omega
            have e3 : z = m * m + n * n := by omega
            rw [e1, e3, (halves b5).1, (halves b5).2, isq_sq, isq_sq]
            exact hm) h3]
          exact Ev_false (by simpa using h3) Ev_some
    · rw [isR_no (c := (1 ≤ a ∧ a ≤ 1000000000) ∧ (1 ≤ b ∧ b ≤ 1000000000) ∧ 1 ≤ c ∧ c ≤ 1000000000) (fun h => by
        obtain ⟨x, y, z, e, q1, q2, q3, q4, q5⟩ := good_three h
        simp only [List.cons.injEq, and_true] at e
        omega) h1]
      exact Ev_false (by simpa using h1) hj
end Go.Proofs.Ytnfbkakblnppaaa.Q

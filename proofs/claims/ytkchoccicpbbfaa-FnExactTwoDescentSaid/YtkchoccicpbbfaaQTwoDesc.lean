/- The descent for two squares: both programs go through the same numbers. -/
import Derived.Test.YtkchoccicpbbfaaPx2
import Derived.Test.YtkchoccicpbbfaaPureFnExactRootOfMinusOne
import Derived.Test.YtkchoccicpbbfaaQPrime
namespace Go.Proofs.Ytkchoccicpbbfaa.Q
def near (a m : Int) : Int := if 2 * (a % m) > m then a % m - m else a % m
theorem near_bound {a m : Int} (hm : 0 < m) : -m ≤ 2 * near a m ∧ 2 * near a m ≤ m := by
  have h1 := Int.emod_nonneg a (show m ≠ 0 by omega)
  have h2 := Int.emod_lt_of_pos a hm
  unfold near
  split <;> omega
theorem near_eq (a m : Int) : ∃ q, near a m = a - m * q := by
  have h := Int.emod_add_mul_ediv a m
  unfold near
  split
  · exact ⟨a / m + 1, by rw [Int.mul_add]; omega⟩
  · exact ⟨a / m, by omega⟩
def p1 (a b m : Int) : Int := a * near a m + b * near b m
def p2 (a b m : Int) : Int := a * near b m - b * near a m
def t1 (a b m : Int) : Int := ((p1 a b m).natAbs : Int) / m
def t2 (a b m : Int) : Int := ((p2 a b m).natAbs : Int) / m
/-- What stands at every round. -/
structure Inv (p a b m : Int) : Prop where
  a0 : 0 ≤ a
  b0 : 0 ≤ b
  m0 : 0 < m
  mp : m < p
  eq : a * a + b * b = m * p
/-- No number between 1 and it divides it. -/
def NoDiv (p : Int) : Prop := ∀ d e : Int, 1 < d → d < p → p ≠ d * e
theorem sq_lt {a b : Int} (ha : 0 ≤ a) (hb : 0 ≤ b) (h : a * a < b * b) : a < b := by
  rcases Int.lt_or_le a b with h1 | h1
  · exact h1
  · have h2 := Int.mul_le_mul h1 h1 hb ha
    omega
theorem sq_nonneg (a : Int) : 0 ≤ a * a := by
  rcases Int.le_total 0 a with h | h
  · exact Int.mul_nonneg h h
  · exact Int.mul_nonneg_of_nonpos_of_nonpos h h
theorem sq_zero {a b : Int} (h : a * a + b * b = 0) : a = 0 ∧ b = 0 := by
  have h1 := sq_nonneg a
  have h2 := sq_nonneg b
  exact ⟨by rcases Int.mul_eq_zero.1 (show a * a = 0 by omega) with h | h <;> exact h, by rcases Int.mul_eq_zero.1 (show b * b = 0 by omega) with h | h <;> exact h⟩
theorem abs_div {m s x : Int} (hm : 0 < m) (h : x = m * s) : ((x.natAbs : Int) / m) = s.natAbs := by
  rw [h, Int.natAbs_mul, Int.natCast_mul, Int.natAbs_of_nonneg (by omega : 0 ≤ m)]
  exact Int.mul_ediv_cancel_left _ (by omega)
theorem abs_sq (s : Int) : (s.natAbs : Int) * s.natAbs = s * s := Int.natAbs_mul_self
theorem sq_half {u m : Int} (h : -m ≤ 2 * u ∧ 2 * u ≤ m) : 4 * (u * u) ≤ m * m := by
  have h1 : (m - 2 * u) * (m + 2 * u) = m * m - 4 * (u * u) := by grind
  have h2 := Int.mul_nonneg (show 0 ≤ m - 2 * u by omega) (show 0 ≤ m + 2 * u by omega)
  omega
theorem id1 {a b m p : Int} (x y : Int) (h : a * a + b * b = m * p) : (p - a * x - b * y) * (p - a * x - b * y) + (b * x - a * y) * (b * x - a * y) = (p - 2 * (a * x + b * y) + m * (x * x + y * y)) * p := by
  have e : (p - a * x - b * y) * (p - a * x - b * y) + (b * x - a * y) * (b * x - a * y) = p * p - 2 * (a * x + b * y) * p + (a * a + b * b) * (x * x + y * y) := by grind
  rw [e, h]
  grind
theorem id2 {a b m p x y : Int} (h : a * a + b * b = m * p) (hx : a = m * x) (hy : b = m * y) : m * p = m * (m * (x * x + y * y)) := by
  rw [← h, hx, hy]
  grind
theorem step {p a b m : Int} (h : Inv p a b m) (hp : NoDiv p) (hm : 1 < m) :
    ∃ m', t1 a b m * t1 a b m + t2 a b m * t2 a b m = m' * p ∧ Inv p (t1 a b m) (t2 a b m) m' ∧ 2 * m' ≤ m := by
  obtain ⟨qa, ha⟩ := near_eq a m
  obtain ⟨qb, hb⟩ := near_eq b m
  have hu := near_bound (a := a) h.m0
  have hv := near_bound (a := b) h.m0
  have e0 := h.eq
  generalize hU : near a m = u at *
  generalize hV : near b m = v at *
  have e1 : p1 a b m = m * (p - a * qa - b * qb) := by
    unfold p1
    rw [hU, hV, ha, hb]
    grind
  have e2 : p2 a b m = m * (b * qa - a * qb) := by
    unfold p2
    rw [hU, hV, ha, hb]
    grind
  have e3 : u * u + v * v = m * (p - 2 * (a * qa + b * qb) + m * (qa * qa + qb * qb)) := by
    rw [ha, hb]
    grind
  have f1 : t1 a b m = ((p - a * qa - b * qb).natAbs : Int) := abs_div h.m0 e1
  have f2 : t2 a b m = ((b * qa - a * qb).natAbs : Int) := abs_div h.m0 e2
  have g1 : t1 a b m * t1 a b m = (p - a * qa - b * qb) * (p - a * qa - b * qb) := by rw [f1]; exact abs_sq _
  have g2 : t2 a b m * t2 a b m = (b * qa - a * qb) * (b * qa - a * qb) := by rw [f2]; exact abs_sq _
  generalize hw : p - 2 * (a * qa + b * qb) + m * (qa * qa + qb * qb) = w at e3
  have e4 : (p - a * qa - b * qb) * (p - a * qa - b * qb) + (b * qa - a * qb) * (b * qa - a * qb) = w * p := by
    rw [← hw]
    exact id1 qa qb e0
  have q1 := sq_half hu
  have q2 := sq_half hv
  have w2 : 2 * w ≤ m := by
    have k : m * (2 * w) ≤ m * m := by
      have : m * (2 * w) = 2 * (u * u + v * v) := by rw [e3]; grind
      omega
    exact Int.le_of_mul_le_mul_left k h.m0
  have w0 : 0 < w := by
    rcases Int.lt_trichotomy w 0 with k | k | k
    · have k1 := sq_nonneg u
      have k2 := sq_nonneg v
      have k3 := Int.mul_neg_of_pos_of_neg h.m0 k
      omega
    · rw [k, Int.mul_zero] at e3
      obtain ⟨u0, v0⟩ := sq_zero e3
      have k1 : a = m * qa := by omega
      have k2 : b = m * qb := by omega
      have k3 : m * p = m * (m * (qa * qa + qb * qb)) := id2 e0 k1 k2
      exact absurd (Int.eq_of_mul_eq_mul_left (by omega) k3) (hp m _ hm h.mp)
    · exact k
  refine ⟨w, by rw [g1, g2, e4], ⟨by rw [f1]; omega, by rw [f2]; omega, w0, by have := h.mp; omega, by rw [g1, g2, e4]⟩, w2⟩
end Go.Proofs.Ytkchoccicpbbfaa.Q
namespace Go.Proofs.Ytkchoccicpbbfaa.Q
open Go.RowKit Go.Proofs.Ytkchoccicpbbfaa.P Go.Proofs.YtkchoccicpbbfaaW.PrintWords Go.Proofs.YtkchoccicpbbfaaW.PrintLast
/-- The rows of the descent. -/
def trun (p : Int) : Nat → Int → Int → Int → List (List Int)
  | 0, a, b, m => [[a, b, m]]
  | f + 1, a, b, m => [a, b, m] :: if m ≤ 1 then [] else trun p f (t1 a b m) (t2 a b m) ((t1 a b m * t1 a b m + t2 a b m * t2 a b m) / p)
theorem trun_len (p : Int) : ∀ f a b m, (trun p f a b m).length ≤ f + 1 ∧ ∀ x ∈ trun p f a b m, x.length = 3
  | 0, a, b, m => by simp [trun]
  | f + 1, a, b, m => by
    have ih := trun_len p f (t1 a b m) (t2 a b m) ((t1 a b m * t1 a b m + t2 a b m * t2 a b m) / p)
    simp only [trun]
    split
    · simp
    · refine ⟨by simp only [List.length_cons]; omega, ?_⟩
      intro x hx
      rcases List.mem_cons.1 hx with rfl | hx
      · rfl
      · exact ih.2 x hx
theorem near_fits {a m : Int} (ha : 0 ≤ a) (hm : 0 < m) (hm2 : m ≤ 1000000000) :
    (if (wrap64 (2 * (Int.tmod (wrap64 ((Int.tmod a m) + m)) m))) > m then (some (wrap64 ((Int.tmod (wrap64 ((Int.tmod a m) + m)) m) - m))) else (some (Int.tmod (wrap64 ((Int.tmod a m) + m)) m))) = some (near a m) := by
  have h1 := Int.emod_nonneg a (show m ≠ 0 by omega)
  have h2 := Int.emod_lt_of_pos a hm
  rw [Int.tmod_eq_emod_of_nonneg ha, w64 (x := a % m + m) (by omega) (by omega), Int.tmod_eq_emod_of_nonneg (by omega), Int.add_emod_right, Int.emod_emod_of_dvd _ (Int.dvd_refl m), w64 (x := 2 * (a % m)) (by omega) (by omega), w64 (x := a % m - m) (by omega) (by omega)]
  unfold near
  split <;> rfl
theorem sqNear_eq {a m : Int} (ha : 0 ≤ a) (hm : 0 < m) (hm2 : m ≤ 1000000000) : spec_sqNear.f a m = some (near a m) := by
  unfold spec_sqNear.f
  rw [if_neg (by omega)]
  exact near_fits ha hm hm2
theorem nearest_eq {a m : Int} (ha : 0 ≤ a) (hm : 0 < m) (hm2 : m ≤ 1000000000) : impl_nearest.f a m = some (near a m) := by
  unfold impl_nearest.f
  rw [if_neg (by omega)]
  exact near_fits ha hm hm2
theorem l1Abs_eq {x : Int} (h1 : -4611686018427387904 ≤ x) (h2 : x ≤ 4611686018427387904) : spec_l1Abs.f x = some (x.natAbs : Int) := by
  unfold spec_l1Abs.f spec_l1Most.f
  rw [w64 (by omega) (by omega)]
  split
  · simp only [Option.bind_some, Option.some.injEq]
    omega
  · simp only [Option.bind_some, Option.some.injEq]
    omega
theorem size_eq {x : Int} (h1 : -4611686018427387904 ≤ x) (h2 : x ≤ 4611686018427387904) : impl_size.f x = some (x.natAbs : Int) := by
  unfold impl_size.f mx
  rw [w64 (by omega) (by omega)]
  split
  · simp only [Option.some.injEq]
    omega
  · simp only [Option.some.injEq]
    omega
theorem mul_abs {x y : Int} {A B : Int} (hx : -A ≤ x ∧ x ≤ A) (hy : -B ≤ y ∧ y ≤ B) : -(A * B) ≤ x * y ∧ x * y ≤ A * B := by
  have h1 : (x * y).natAbs ≤ (A * B).natAbs := by
    rw [Int.natAbs_mul, Int.natAbs_mul]
    exact Nat.mul_le_mul (by omega) (by omega)
  have h2 : 0 ≤ A * B := Int.mul_nonneg (by omega) (by omega)
  omega
theorem inv_lt {p a b m : Int} (h : Inv p a b m) : a < p ∧ b < p := by
  have hp : 0 ≤ p := by have := h.m0; have := h.mp; omega
  have h1 : m * p < p * p := Int.mul_lt_mul_of_pos_right h.mp (by have := h.m0; have := h.mp; omega)
  have h2 := sq_nonneg a
  have h3 := sq_nonneg b
  have h4 := h.eq
  exact ⟨sq_lt h.a0 hp (by omega), sq_lt h.b0 hp (by omega)⟩
theorem desc_ev {p : Int} (hp : NoDiv p) (hp6 : p ≤ 1000000) : ∀ (f : Nat) (a b m : Int) (xs : List (List Int)), Inv p a b m → m ≤ f → xs.length + f ≤ 4000000 →
    Ev (fun k => spec_TwoDescent.l0 k p a b m (xs ++ [[a, b, m]])) (xs ++ trun p f a b m, true) ∧ Ev (fun k => impl_TwoDescent.l0 k p a b xs) (xs ++ trun p f a b m, true)
  | 0, a, b, m, xs, h, hm, _ => by have := h.m0; omega
  | f + 1, a, b, m, xs, h, hm, hl => by
    obtain ⟨ha, hb⟩ := inv_lt h
    have ha0 := h.a0
    have hb0 := h.b0
    have hm0 := h.m0
    have hmp := h.mp
    have heq := h.eq
    have q1 := mul_abs (x := a) (y := a) (A := 1000000) (B := 1000000) (by omega) (by omega)
    have q2 := mul_abs (x := b) (y := b) (A := 1000000) (B := 1000000) (by omega) (by omega)
    have em : wrap64 (Int.tdiv (wrap64 ((wrap64 (a * a)) + (wrap64 (b * b)))) p) = m := by
      rw [w64 (x := a * a) (by omega) (by omega), w64 (x := b * b) (by omega) (by omega), w64 (x := a * a + b * b) (by omega) (by omega), heq, Int.mul_tdiv_cancel _ (by omega)]
      exact w64 (by omega) (by omega)
    by_cases h1 : m ≤ 1
    · have e1 : m = 1 := by omega
      have et : trun p (f + 1) a b m = [[a, b, m]] := by simp only [trun]; rw [if_pos h1]
      rw [et]
      refine ⟨Ev_succ ?_, Ev_succ ?_⟩
      · simp only [spec_TwoDescent.l0]
        exact Ev_false (by omega) Ev_some
      · simp only [impl_TwoDescent.l0]
        rw [em]
        refine Ev_false (by omega) (Ev_true (by omega) ?_)
        simp only [Option.bind_some]
        exact Ev_true e1 Ev_some
    · obtain ⟨m', k1, k2, k3⟩ := step h hp (by omega)
      have n1 := near_bound (a := a) hm0
      have n2 := near_bound (a := b) hm0
      have em' : (t1 a b m * t1 a b m + t2 a b m * t2 a b m) / p = m' := by rw [k1]; exact Int.mul_ediv_cancel _ (by omega)
      have et : trun p (f + 1) a b m = [a, b, m] :: trun p f (t1 a b m) (t2 a b m) m' := by simp only [trun]; rw [if_neg h1, em']
      have ih := desc_ev hp hp6 f (t1 a b m) (t2 a b m) m' (xs ++ [[a, b, m]]) k2 (by omega) (by rw [List.length_append]; simp only [List.length_singleton]; omega)
      have ee : xs ++ [[a, b, m]] ++ trun p f (t1 a b m) (t2 a b m) m' = xs ++ trun p (f + 1) a b m := by rw [et, List.append_assoc]; rfl
      rw [ee] at ih
      have r1 := mul_abs (x := a) (y := near a m) (A := 1000000) (B := 1000000) (by omega) (by omega)
      have r2 := mul_abs (x := b) (y := near b m) (A := 1000000) (B := 1000000) (by omega) (by omega)
      have r3 := mul_abs (x := a) (y := near b m) (A := 1000000) (B := 1000000) (by omega) (by omega)
      have r4 := mul_abs (x := b) (y := near a m) (A := 1000000) (B := 1000000) (by omega) (by omega)
      have x1 : wrap64 ((wrap64 (a * near a m)) + (wrap64 (b * near b m))) = p1 a b m := by
        rw [w64 (x := a * near a m) (by omega) (by omega), w64 (x := b * near b m) (by omega) (by omega), w64 (by omega) (by omega)]
        rfl
      have x2 : wrap64 ((wrap64 (a * near b m)) - (wrap64 (b * near a m))) = p2 a b m := by
        rw [w64 (x := a * near b m) (by omega) (by omega), w64 (x := b * near a m) (by omega) (by omega), w64 (by omega) (by omega)]
        rfl
      have hp1 : -2000000000000 ≤ p1 a b m ∧ p1 a b m ≤ 2000000000000 := by unfold p1; omega
      have hp2 : -2000000000000 ≤ p2 a b m ∧ p2 a b m ≤ 2000000000000 := by unfold p2; omega
      obtain ⟨b1, b2⟩ := inv_lt k2
      have c1 := k2.a0
      have c2 := k2.b0
      have y1 : wrap64 (Int.tdiv ((p1 a b m).natAbs : Int) m) = t1 a b m := by
        rw [Int.tdiv_eq_ediv_of_nonneg (by omega)]
        exact w64 (x := t1 a b m) (by omega) (by omega)
      have y2 : wrap64 (Int.tdiv ((p2 a b m).natAbs : Int) m) = t2 a b m := by
        rw [Int.tdiv_eq_ediv_of_nonneg (by omega)]
        exact w64 (x := t2 a b m) (by omega) (by omega)
      have z1 : ((Int.tdiv (p1 a b m) m).natAbs : Int) = t1 a b m := by
        rw [Int.natAbs_tdiv]
        show (((p1 a b m).natAbs / m.natAbs : Nat) : Int) = _
        rw [Int.natCast_ediv, Int.natAbs_of_nonneg (by omega : 0 ≤ m)]
        rfl
      have z2 : ((Int.tdiv (p2 a b m) m).natAbs : Int) = t2 a b m := by
        rw [Int.natAbs_tdiv]
        show (((p2 a b m).natAbs / m.natAbs : Nat) : Int) = _
        rw [Int.natCast_ediv, Int.natAbs_of_nonneg (by omega : 0 ≤ m)]
        rfl
      have w1 : wrap64 (Int.tdiv (p1 a b m) m) = Int.tdiv (p1 a b m) m := w64 (by omega) (by omega)
      have w2 : wrap64 (Int.tdiv (p2 a b m) m) = Int.tdiv (p2 a b m) m := w64 (by omega) (by omega)
      have q3 := mul_abs (x := t1 a b m) (y := t1 a b m) (A := 1000000) (B := 1000000) (by omega) (by omega)
      have q4 := mul_abs (x := t2 a b m) (y := t2 a b m) (A := 1000000) (B := 1000000) (by omega) (by omega)
      have em2 : wrap64 (Int.tdiv (wrap64 ((wrap64 (t1 a b m * t1 a b m)) + (wrap64 (t2 a b m * t2 a b m)))) p) = m' := by
        have := k2.mp
        have := k2.m0
        rw [w64 (x := t1 a b m * t1 a b m) (by omega) (by omega), w64 (x := t2 a b m * t2 a b m) (by omega) (by omega), w64 (x := t1 a b m * t1 a b m + t2 a b m * t2 a b m) (by omega) (by omega), k1, Int.mul_tdiv_cancel _ (by omega)]
        exact w64 (by omega) (by omega)
      refine ⟨Ev_succ ?_, Ev_succ ?_⟩
      · simp only [spec_TwoDescent.l0]
        rw [sqNear_eq ha0 hm0 (by omega), sqNear_eq hb0 hm0 (by omega)]
        simp only [Option.bind_some]
        rw [x1, x2, l1Abs_eq (by omega) (by omega), l1Abs_eq (by omega) (by omega)]
        simp only [Option.bind_some]
        rw [y1, y2, em2]
        exact Ev_true (by omega) (Ev_false (by omega) (Ev_false (by omega) (Ev_true (by rw [List.length_append]; simp only [List.length_singleton]; omega) ih.1)))
      · simp only [impl_TwoDescent.l0]
        rw [em, nearest_eq ha0 hm0 (by omega), nearest_eq hb0 hm0 (by omega)]
        simp only [Option.bind_some]
        rw [x1, x2, w1, w2, size_eq (by omega) (by omega), size_eq (by omega) (by omega)]
        simp only [Option.bind_some]
        rw [z1, z2]
        exact Ev_false (by omega) (Ev_true (by omega) (Ev_false (by omega) (Ev_false (by omega) ih.2)))
theorem noDiv_of {n : Nat} (hp : isPr n) : NoDiv (n : Int) := by
  have hP : RootMinus.Prime n := RootMinus.prime_of_small hp.1 hp.2
  intro d e h1 h2 h
  obtain ⟨x, rfl⟩ := Int.eq_ofNat_of_zero_le (show 0 ≤ d by omega)
  have h3 : x ∣ n := by
    rw [← Int.natCast_dvd_natCast]
    exact ⟨e, h⟩
  have := hP.2 x h3
  omega
/-- Where the descent begins. -/
theorem begin_inv {p r : Nat} (hp : p ≤ 1000000) (hr : Pure.LeastRoot p r) : ∃ m : Int, wrap64 (Int.tdiv (wrap64 ((wrap64 ((r : Int) * (r : Int))) + 1)) (p : Int)) = m ∧ Inv (p : Int) (r : Int) 1 m := by
  obtain ⟨r1, r2, r3, r4⟩ := hr
  have h2 : (p : Int) * (((r * r + 1) / p : Nat) : Int) = ((r * r + 1 : Nat) : Int) := by
    rw [← Int.natCast_mul, Nat.mul_div_cancel' (Nat.dvd_of_mod_eq_zero r3)]
  refine ⟨(((r * r + 1) / p : Nat) : Int), ?_, ?_⟩
  · rw [Pure.sq_one hp r2, tdiv_cast]
    have h : r * r ≤ 1000000 * 1000000 := Nat.mul_le_mul (by omega) (by omega)
    have h3 := Nat.div_le_self (r * r + 1) p
    generalize (r * r + 1) / p = q at h3
    exact w64 (by omega) (by omega)
  · have hlt : r * r + 1 < p * p := by
      have h : r * r ≤ (p - 1) * (p - 1) := Nat.mul_le_mul (by omega) (by omega)
      have h4 : (p - 1) * (p - 1) + 2 * (p - 1) + 1 = p * p := by
        obtain ⟨q, rfl⟩ : ∃ q, p = q + 1 := ⟨p - 1, by omega⟩
        simp only [Nat.add_sub_cancel]
        grind
      omega
    refine ⟨by omega, by omega, ?_, ?_, ?_⟩
    · have : 0 < (r * r + 1) / p := Nat.div_pos (Nat.le_of_dvd (by omega) (Nat.dvd_of_mod_eq_zero r3)) (by omega)
      omega
    · have : (r * r + 1) / p < p := Nat.div_lt_of_lt_mul hlt
      omega
    · rw [Int.mul_comm _ (p : Int), h2]
      simp
/-- Both programs' descents. -/
theorem two_ev (a : Int) : ∃ r : List (List Int) × Bool, Ev (fun k => spec_TwoDescent.f k a) r ∧ Ev (fun k => impl_TwoDescent.f k a) r ∧ r.2 = (Pure.rootAns a).2 ∧
    (r.2 = false → r.1 = []) ∧ (r.2 = true → ∃ m : Int, 2 ≤ a ∧ a ≤ 1000000 ∧ isPr a.toNat ∧ Inv a (Pure.rootAns a).1 1 m ∧ r.1 = trun a a.toNat (Pure.rootAns a).1 1 m) := by
  have hi := Pure.impl_root_ev a
  unfold spec_TwoDescent.f impl_TwoDescent.f spec_sqGiven.f
  rw [l1In_eq]
  simp only [Option.bind_some]
  by_cases hh : (0 ≤ a ∧ a ≤ 1000000) ∧ isPr a.toNat ∧ a.toNat % 4 ≠ 3
  · have he : Pure.rootAns a = (((Classical.choose (Pure.root_of hh.2.1 hh.2.2) : Nat) : Int), true) := by unfold Pure.rootAns; rw [dif_pos hh]
    have hr := Classical.choose_spec (Pure.root_of hh.2.1 hh.2.2)
    generalize Classical.choose (Pure.root_of hh.2.1 hh.2.2) = r at hr he
    obtain ⟨n, rfl⟩ := Int.eq_ofNat_of_zero_le hh.1.1
    have hn : n ≤ 1000000 := by omega
    have h2 : 2 ≤ n := hh.2.1.1
    have hpr : isPr n := hh.2.1
    have h4 : n % 4 ≠ 3 := hh.2.2
    obtain ⟨m, hm, hinv⟩ := begin_inv hn hr
    rw [he] at hi ⊢
    have hd := desc_ev (noDiv_of hpr) (by omega) n (r : Int) 1 m [] hinv (by have := hinv.mp; omega) (by simp; omega)
    refine ⟨(trun (n : Int) n (r : Int) 1 m, true), ?_, ?_, rfl, by simp, fun _ => ⟨m, by omega, by omega, hpr, hinv, rfl⟩⟩
    · refine Ev.bind (a := true) (f := fun k t => if t = true then spec_TwoDescent.j0 k (n : Int) (Int.tmod (n : Int) 4 == 3) else spec_TwoDescent.j0 k (n : Int) true) ?_ ?_
      · refine Ev_true (by simp; omega) ?_
        refine Ev.bind (f := fun _ t => some t) (sqPrime_ev n hn) ?_
        rw [(prB_iff n).2 hpr]
        exact Ev_some
      · refine Ev_true rfl (Ev_succ ?_)
        simp only [spec_TwoDescent.j0]
        have e : (Int.tmod (n : Int) 4 == 3) = false := by
          rw [show Int.tmod (n : Int) 4 = ((n % 4 : Nat) : Int) from tmod_cast n 4, beq_eq_false_iff_ne]
          omega
        refine Ev_false (by rw [e]; simp) ?_
        refine Ev.bind (a := (r : Int)) (Pure.sqMinus_ev (p := n) hn hr (r - 1) 1 (by omega) (by have := hr.1; omega)) ?_
        rw [hm]
        refine Ev_false (by omega) ?_
        simpa using hd.1
    · refine Ev.bind hi ?_
      refine Ev_true rfl ?_
      simpa using hd.2
  · have he : Pure.rootAns a = (0, false) := by unfold Pure.rootAns; rw [dif_neg hh]
    rw [he] at hi ⊢
    refine ⟨([], false), ?_, ?_, rfl, by simp, by simp⟩
    · have hno : Ev (fun k => spec_TwoDescent.j0 k a true) ([], false) := by
        refine Ev_succ ?_
        simp only [spec_TwoDescent.j0]
        exact Ev_true trivial Ev_some
      by_cases h : 2 ≤ a ∧ a ≤ 1000000
      · obtain ⟨n, rfl⟩ := Int.eq_ofNat_of_zero_le (show 0 ≤ a by omega)
        refine Ev.bind (a := prB n) (f := fun k t => if t = true then spec_TwoDescent.j0 k (n : Int) (Int.tmod (n : Int) 4 == 3) else spec_TwoDescent.j0 k (n : Int) true) ?_ ?_
        · refine Ev_true (by simpa using h) ?_
          exact Ev.bind (f := fun _ t => some t) (sqPrime_ev n (by omega)) Ev_some
        · by_cases hp : isPr n
          · refine Ev_true ((prB_iff n).2 hp) ?_
            have h4 : n % 4 = 3 := Decidable.byContradiction fun h4 => hh ⟨⟨by omega, h.2⟩, hp, h4⟩
            have e : (Int.tmod (n : Int) 4 == 3) = true := by
              rw [show Int.tmod (n : Int) 4 = ((n % 4 : Nat) : Int) from tmod_cast n 4, beq_iff_eq]
              omega
            rw [e]
            exact hno
          · exact Ev_false (fun h => hp ((prB_iff n).1 h)) hno
      · refine Ev.bind (a := false) (f := fun k t => if t = true then spec_TwoDescent.j0 k a (Int.tmod a 4 == 3) else spec_TwoDescent.j0 k a true) ?_ ?_
        · exact Ev_false (by simpa using h) Ev_some
        · exact Ev_false (by simp) hno
    · refine Ev.bind hi ?_
      exact Ev_false (by simp) Ev_some
end Go.Proofs.Ytkchoccicpbbfaa.Q

/- A prime number that does not leave 3 by 4 is a sum of two squares, by a descent that halves, in one way; the others have no root of -1. -/
import Derived.Test.YtpmbffchkcemoaaPx5
import Derived.Test.YtpmbffchkcemoaaPQ1
import Derived.Test.YtpmbffchkcemoaaPQ2
namespace Go.Proofs.Ytpmbffchkcemoaa.Pure
open Go.RowKit Go.Proofs.Ytpmbffchkcemoaa.P Go.Proofs.YtpmbffchkcemoaaW.PrintWords Go.Proofs.YtpmbffchkcemoaaW.PrintLast Go.Proofs.Ytpmbffchkcemoaa.Q

theorem sqb {x : Int} (h : 0 ≤ x ∧ x < 1000000) : 0 ≤ x * x ∧ x * x ≤ 1000000000000 := by
  have h1 := Int.mul_nonneg h.1 h.1
  have h2 := Int.mul_le_mul (show x ≤ 1000000 by omega) (show x ≤ 1000000 by omega) h.1 (by omega)
  omega
/-- One way to be a sum of two squares. -/
theorem one_way {n : Nat} (hp : isPr n) {x y : Int} (hy : 0 ≤ y) (hxy : y ≤ x) (h : x * x + y * y = n) : allL 2 n n = [[x, y]] := by
  have hx : x ≤ n := by
    rcases Int.lt_or_le n x with k | k
    · have := Int.mul_le_mul (show (1 : Int) ≤ x by omega) (Int.le_refl x) (by omega) (by omega)
      have := sq_pos y
      omega
    · exact k
  refine one_of ?_ ?_ (allL_pair 2 n n)
  · exact allL_has [x, y] (by simp only [sqs]; omega) ⟨by omega, by omega, hy, hxy, trivial⟩
  · intro l hl
    have h1 := allL_len hl
    obtain ⟨h2, h3⟩ := allL_fall hl
    match l, h1 with
    | [c, d], _ =>
      obtain ⟨c0, c1, d0, d1, _⟩ := h3
      simp only [sqs] at h2
      obtain ⟨rfl, rfl⟩ := two_uniq (RootMinus.prime_of_small hp.1 hp.2) hy hxy d0 d1 h (by omega)
      rfl
section Rows
variable {p r m : Int} (h2 : 2 ≤ p) (h6 : p ≤ 1000000) (hpr : isPr p.toNat) (hinv : Inv p r 1 m)
include h2 h6 hpr hinv
theorem rows_at (i : Nat) (hi : i < (trun p p.toNat r 1 m).length) : ∃ x y z, (trun p p.toNat r 1 m)[i]? = some [x, y, z] ∧ Inv p x y z ∧ (z = 1 ↔ i + 1 = (trun p p.toNat r 1 m).length) ∧ (i = 0 → x = r ∧ y = 1 ∧ z = m) ∧
      (0 < i → ∃ u v w, (trun p p.toNat r 1 m)[i - 1]? = some [u, v, w] ∧ Inv p u v w ∧ 2 * z ≤ w) := by
  exact trun_at (by have := noDiv_of hpr; rwa [Int.toNat_of_nonneg (by omega)] at this) p.toNat r 1 m hinv (by have := hinv.mp; omega) (by omega) i hi
theorem last_ev {x y : Int} (hrow : (trun p p.toNat r 1 m)[(trun p p.toNat r 1 m).length - 1]? = some [x, y, 1]) (hi : Inv p x y 1) (hl : 0 < (trun p p.toNat r 1 m).length) (hbig : (trun p p.toNat r 1 m).length ≤ 2000000) :
    Ev (fun k => laws_FnTwoSquaresDescend.l0 k p (trun p p.toNat r 1 m) (trun p p.toNat r 1 m) ((trun p p.toNat r 1 m).length : Int) ((trun p p.toNat r 1 m).length : Int)) true := by
  generalize trun p p.toNat r 1 m = L at hrow hl hbig ⊢
  obtain ⟨e1, e2⟩ := rdRow hrow
  have ew : wrap64 ((L.length : Int) - 1) = ((L.length - 1 : Nat) : Int) := (w64 (by omega) (by omega)).trans (by omega)
  refine Ev_succ ?_
  simp only [laws_FnTwoSquaresDescend.l0]
  rw [ew, e1]
  refine Ev_false (by omega) (Ev_true (by omega) (Ev_true (by omega) (Ev_true (by simp) (Ev_true (by simp) ?_))))
  rw [rd30, rd31]
  obtain ⟨n, rfl⟩ := Int.eq_ofNat_of_zero_le (show 0 ≤ p by omega)
  have hsum := hi.eq
  have x0 := hi.a0
  have y0 := hi.b0
  by_cases hxy : x < y
  · have hw := one_way (n := n) (x := y) (y := x) hpr x0 (by omega) (by omega)
    refine Ev_true hxy (Ev.bind (impl_two_ev _) (Ev.bind (impl_allTwo_ev _) ?_))
    unfold twoAns allTwoAns
    rw [if_pos (by omega), if_pos (by omega), Int.toNat_natCast, hw]
    refine Ev_true rfl (Ev_true rfl (Ev_true rfl (Ev.bind (f := fun _ t => some t) (vSame_same (l := [y, x]) (by simp)) Ev_some)))
  · have hw := one_way (n := n) (x := x) (y := y) hpr y0 (by omega) (by omega)
    refine Ev_false hxy (Ev.bind (impl_two_ev _) (Ev.bind (impl_allTwo_ev _) ?_))
    unfold twoAns allTwoAns
    rw [if_pos (by omega), if_pos (by omega), Int.toNat_natCast, hw]
    refine Ev_true rfl (Ev_true rfl (Ev_true rfl (Ev.bind (f := fun _ t => some t) (vSame_same (l := [x, y]) (by simp)) Ev_some)))
theorem rows_ev : ∀ (d i : Nat), i + d = (trun p p.toNat r 1 m).length → Ev (fun k => laws_FnTwoSquaresDescend.l0 k p (trun p p.toNat r 1 m) (trun p p.toNat r 1 m) ((trun p p.toNat r 1 m).length : Int) (i : Int)) true := by
  have hl0 := trun_pos p p.toNat r 1 m
  have hbig : (trun p p.toNat r 1 m).length ≤ 2000000 := by
    have := (trun_len p p.toNat r 1 m).1
    omega
  intro d
  induction d with
  | zero =>
    intro i hi
    obtain ⟨x, y, z, g1, g2, g3, _, _⟩ := rows_at h2 h6 hpr hinv ((trun p p.toNat r 1 m).length - 1) (by omega)
    obtain rfl : z = 1 := g3.2 (by omega)
    obtain rfl : i = (trun p p.toNat r 1 m).length := by omega
    exact last_ev h2 h6 hpr hinv g1 g2 hl0 hbig
  | succ d ih =>
    intro i hi
    obtain ⟨x, y, z, g1, g2, g3, _, g5⟩ := rows_at h2 h6 hpr hinv i (by omega)
    have ih := ih (i + 1) (by omega)
    generalize trun p p.toNat r 1 m = L at hi hl0 hbig g1 g3 g5 ih ⊢
    obtain ⟨e1, e2⟩ := rdRow g1
    have x1 := inv_lt g2
    have x0 := g2.a0
    have y0 := g2.b0
    have z0 := g2.m0
    have z1 := g2.mp
    have hx := sqb (x := x) (by omega)
    have hy := sqb (x := y) (by omega)
    have hz := Int.mul_le_mul (show z ≤ 1000000 by omega) h6 (by omega) (by omega)
    have hz0 := Int.mul_nonneg (show 0 ≤ z by omega) (show 0 ≤ p by omega)
    have ew : wrap64 ((L.length : Int) - 1) = ((L.length - 1 : Nat) : Int) := (w64 (by omega) (by omega)).trans (by omega)
    have hb : ((z == 1) != ((i : Int) == ((L.length - 1 : Nat) : Int))) = false := by
      have : (z == 1) = ((i : Int) == ((L.length - 1 : Nat) : Int)) := by
        rw [Bool.eq_iff_iff, beq_iff_eq, beq_iff_eq, g3]
        omega
      rw [this, bne_self_eq_false]
    refine Ev_succ ?_
    simp only [laws_FnTwoSquaresDescend.l0]
    rw [ew, e1]
    refine Ev_true (by omega) (Ev_true (by omega) (Ev_true (by omega) (Ev_true (by simp) (Ev_true (by simp) (Ev_true (by simp) ?_)))))
    rw [rd30, rd31, rd32, w64 (x := x * x) (by omega) (by omega), w64 (x := y * y) (by omega) (by omega), w64 (x := x * x + y * y) (by omega) (by omega), w64 (x := z * p) (by omega) (by omega), hb, w64 (x := (i : Int) + 1) (by omega) (by omega)]
    refine Ev_true g2.eq ?_
    by_cases hi0 : 0 < i
    · obtain ⟨u, v, w, k1, k2, k3⟩ := g5 hi0
      obtain ⟨f1, f2⟩ := rdRow k1
      have w1 := k2.mp
      rw [show wrap64 ((i : Int) - 1) = ((i - 1 : Nat) : Int) from (w64 (by omega) (by omega)).trans (by omega), f1, rd32, w64 (x := 2 * z) (by omega) (by omega)]
      exact Ev_true (by omega) (Ev_true (by omega) (Ev_true (by omega) (Ev_true (by simp) (Ev_false (by omega) (Ev_false (by simp) ih)))))
    · exact Ev_false (by omega) (Ev_false (by simp) ih)
theorem good_ev : Ev (fun k => laws_FnTwoSquaresDescend.j3 k p (trun p p.toNat r 1 m) true r) true := by
  have hl0 := trun_pos p p.toNat r 1 m
  obtain ⟨x, y, z, g1, g2, _, g4, _⟩ := rows_at h2 h6 hpr hinv 0 hl0
  obtain ⟨rfl, rfl, rfl⟩ := g4 rfl
  have hr := rows_ev h2 h6 hpr hinv (trun p p.toNat x 1 z).length 0 (by omega)
  generalize trun p p.toNat x 1 z = L at hl0 g1 hr ⊢
  obtain ⟨e1, e2⟩ := rdRow0 g1
  have x1 := inv_lt hinv
  have x0 := hinv.a0
  have hx := sqb (x := x) (by omega)
  have he := hinv.eq
  refine Ev_succ ?_
  simp only [laws_FnTwoSquaresDescend.j3]
  rw [e1, rd30, rd31, w64 (x := x * x) (by omega) (by omega), w64 (x := x * x + 1) (by omega) (by omega)]
  refine Ev_true trivial (Ev_false (by omega) (Ev_true ?_ (Ev_true (by omega) (Ev_true (by simp) (Ev_true rfl (Ev_true (by simp) (Ev_succ ?_)))))))
  · rw [Int.tmod_eq_emod_of_nonneg (by omega), show x * x + 1 = z * p by omega, Int.mul_emod_left]
  · simp only [laws_FnTwoSquaresDescend.j4]
    exact Ev_false (by simp) hr
end Rows

theorem FnTwoSquaresDescend : laws_FnTwoSquaresDescend.Pure := by
  intro l m hl1 hl2 hl3 hm1 hm2 hm3
  have hl := Bytes.of hl2 hl3
  have hm := Bytes.of hm2 hm3
  refine Ev_out (g := fun k => laws_FnTwoSquaresDescend.f k l m) ?_
  unfold laws_FnTwoSquaresDescend.f
  obtain ⟨b, hb⟩ := big_eq l m
  rw [hb]
  simp only [Option.bind_some]
  by_cases h : b = true
  · exact Ev_true h Ev_some
  refine Ev_false h ?_
  obtain ⟨⟨p, t, s⟩, hd⟩ := drawPrime_ev hl (n := 1000000) (by omega) (by omega)
  have hdraw : Ev (fun k => spec_DrawTwoDescent.f k l) p := by
    unfold spec_DrawTwoDescent.f spec_DrawRootOfMinusOne.f
    exact Ev.bind (f := fun _ t => some t) (Ev.bind (f := fun _ (t : Int × Int × Int) => some t.1) hd Ev_some) Ev_some
  obtain ⟨⟨L, ok⟩, e1, e2, e3, e4, e5⟩ := two_ev p
  refine Ev.bind hdraw (Ev.bind e2 (Ev.bind e1 (Ev.bind (impl_root_ev p) (Ev.bind (spec_root_ev p) ?_))))
  have e3 : ok = (rootAns p).2 := e3
  have hlen : L.length ≤ 2000000 ∧ ∀ x ∈ L, x.length ≤ 1000 := by
    cases ok with
    | false => rw [show L = [] from e4 rfl]; simp
    | true =>
      obtain ⟨m, g1, g2, _, _, g3⟩ := e5 rfl
      rw [show L = _ from g3]
      have h1 := trun_len p p.toNat (rootAns p).1 1 m
      exact ⟨by omega, fun x hx => by have := h1.2 x hx; omega⟩
  have hend : Ev (fun k => laws_FnTwoSquaresDescend.j3 k p L ok (rootAns p).1) true := by
    cases ok with
    | false =>
      refine Ev_succ ?_
      simp only [laws_FnTwoSquaresDescend.j3]
      exact Ev_false (by simp) Ev_some
    | true =>
      obtain ⟨m, g1, g2, g3, g4, g5⟩ := e5 rfl
      rw [show L = _ from g5]
      exact good_ev g1 g2 g3 g4
  refine Ev_false (by simp) (Ev.bind (vSameLists_same (L := L) (by omega) (fun x hx => by have := hlen.2 x hx; omega)) (Ev_true rfl (Ev_false (by simp) (Ev_true rfl (Ev_succ ?_)))))
  rw [← e3]
  simp only [laws_FnTwoSquaresDescend.j0]
  refine Ev_false (by simp) ?_
  obtain ⟨v, t', s', hv, _, _, _⟩ := number9_eq hm (n := 1000000) (by omega) (by omega)
  have hdn : spec_DrawIsPrimeNumber.f m = some v := by
    unfold spec_DrawIsPrimeNumber.f
    rw [hv]
    rfl
  rw [hdn]
  simp only [Option.bind_some]
  refine Ev.bind (impl_prime_ev v) (Ev.bind (spec_prime_ev v) (Ev_false (by simp) (Ev_succ ?_)))
  simp only [laws_FnTwoSquaresDescend.j1]
  refine Ev_false (by simp) ?_
  have hno : Ev (fun k => laws_FnTwoSquaresDescend.j2 k p L ok (rootAns p).1 v false) true := by
    refine Ev_succ ?_
    simp only [laws_FnTwoSquaresDescend.j2]
    exact Ev_false (by simp) hend
  by_cases hr : 0 ≤ v ∧ v ≤ 1000000
  · rw [if_pos hr]
    refine Ev_true rfl ?_
    by_cases hp : isPr v.toNat
    · rw [(prB_iff _).2 hp]
      refine Ev_succ ?_
      simp only [laws_FnTwoSquaresDescend.j2]
      refine Ev_true trivial (Ev.bind (impl_root_ev v) (Ev_false ?_ hend))
      have e : (rootAns v).2 = (Int.tmod v 4 != 3) := by
        obtain ⟨n, rfl⟩ := Int.eq_ofNat_of_zero_le hr.1
        rw [show Int.tmod (n : Int) 4 = ((n % 4 : Nat) : Int) from tmod_cast n 4]
        unfold rootAns
        by_cases h4 : n % 4 = 3
        · rw [dif_neg (fun h => h.2.2 h4), h4]
          rfl
        · rw [dif_pos ⟨hr, hp, h4⟩]
          have : ¬ ((n % 4 : Nat) : Int) = 3 := by omega
          simp [this]
          omega
      rw [e, bne_self_eq_false]
      simp
    · rw [show prB v.toNat = false from by rw [Bool.eq_false_iff]; exact fun h => hp ((prB_iff _).1 h)]
      exact hno
  · rw [if_neg hr]
    exact Ev_false (by simp) hno
end Go.Proofs.Ytpmbffchkcemoaa.Pure

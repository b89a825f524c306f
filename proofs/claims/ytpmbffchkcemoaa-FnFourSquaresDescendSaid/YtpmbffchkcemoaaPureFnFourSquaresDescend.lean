/- Four squares are reached for each prime number by a descent in which the multiple falls, and products keep sums of four squares. -/
import Derived.Test.YtpmbffchkcemoaaFx11
import Derived.Test.YtpmbffchkcemoaaFQ1
import Derived.Test.YtpmbffchkcemoaaFQ2
namespace Go.Proofs.Ytpmbffchkcemoaa.Pure
open Go.RowKit Go.Proofs.Ytpmbffchkcemoaa.P Go.Proofs.YtpmbffchkcemoaaW.PrintWords Go.Proofs.YtpmbffchkcemoaaW.PrintLast Go.Proofs.Ytpmbffchkcemoaa.Q Go.Proofs.Ytpmbffchkcemoaa.FourRun

theorem sqs_four (a b c d : Nat) : sqs [(a : Int), (b : Int), (c : Int), (d : Int)] = ((sq4 a b c d : Nat) : Int) := by
  simp only [sqs, sq4]
  simp
  omega
theorem rd54 (a b c d m : Int) : rd [a, b, c, d, m] 4 = m := rfl
section Rows
variable {p x y m : Nat} (hok : fok p 60 x y 1 0 m = true)
include hok
theorem rows_ev : ∀ (d i : Nat), i + d = (frun p 60 x y 1 0 m).length → Ev (fun k => laws_FnFourSquaresDescend.l0 k (p : Int) (frun p 60 x y 1 0 m) (frun p 60 x y 1 0 m) ((frun p 60 x y 1 0 m).length : Int) (i : Int)) true := by
  have hl0 := frun_pos p 60 x y 1 0 m
  have hbig := (frun_len p 60 x y 1 0 m).1
  intro d
  induction d with
  | zero =>
    intro i hi
    refine Ev_succ ?_
    simp only [laws_FnFourSquaresDescend.l0]
    exact Ev_false (by omega) Ev_some
  | succ d ih =>
    intro i hi
    obtain ⟨a, b, c, e, z, g1, g2, g3, _, g5⟩ := frun_at 60 x y 1 0 m hok i (by omega)
    have ih := ih (i + 1) (by omega)
    generalize frun p 60 x y 1 0 m = L at hi hl0 hbig g1 g3 g5 ih ⊢
    obtain ⟨e1, e2⟩ := rdRow g1
    have hz := g2.mp
    have hs := sq4_le g2.a2 g2.b2 g2.c2 g2.d2
    have hsum := g2.sum
    have ew : wrap64 ((L.length : Int) - 1) = ((L.length - 1 : Nat) : Int) := (w64 (by omega) (by omega)).trans (by omega)
    have hb : (((z : Int) == 1) != ((i : Int) == ((L.length - 1 : Nat) : Int))) = false := by
      have : ((z : Int) == 1) = ((i : Int) == ((L.length - 1 : Nat) : Int)) := by
        rw [Bool.eq_iff_iff, beq_iff_eq, beq_iff_eq]
        constructor
        · intro h
          have := g3.1 (by omega)
          omega
        · intro h
          have := g3.2 (by omega)
          omega
      rw [this, bne_self_eq_false]
    have hsq := vSq_ev (l := [(a : Int), (b : Int), (c : Int), (e : Int)]) (by simp) (by rw [sqs_four]; omega)
    rw [sqs_four] at hsq
    have hzp : ((z : Int) * (p : Int)) = ((sq4 a b c e : Nat) : Int) := by rw [hsum]; simp
    refine Ev_succ ?_
    simp only [laws_FnFourSquaresDescend.l0]
    rw [ew, e1]
    refine Ev_true (by omega) (Ev_true (by omega) (Ev_true (by omega) (Ev_true (by simp) (Ev_true (by simp) (Ev_true (by simp) ?_)))))
    refine Ev.bind (a := ((sq4 a b c e : Nat) : Int)) hsq ?_
    rw [rd54, w64 (x := (z : Int) * (p : Int)) (by omega) (by omega), hb, w64 (x := (i : Int) + 1) (by omega) (by omega)]
    refine Ev_true hzp.symm ?_
    by_cases hi0 : 0 < i
    · obtain ⟨u, v, w, q, t, k1, k2⟩ := g5 hi0
      obtain ⟨f1, f2⟩ := rdRow k1
      rw [show wrap64 ((i : Int) - 1) = ((i - 1 : Nat) : Int) from (w64 (by omega) (by omega)).trans (by omega), f1, rd54]
      exact Ev_true (by omega) (Ev_true (by omega) (Ev_true (by omega) (Ev_true (by simp) (Ev_false (by omega) (Ev_false (by simp) ih)))))
    · exact Ev_false (by omega) (Ev_false (by simp) ih)
theorem good_ev : Ev (fun k => laws_FnFourSquaresDescend.j1 k (p : Int) (frun p 60 x y 1 0 m) true [(x : Int), (y : Int), 1, 0] false) true := by
  have hl0 := frun_pos p 60 x y 1 0 m
  obtain ⟨a, b, c, e, z, g1, g2, g3, g4, _⟩ := frun_at 60 x y 1 0 m hok 0 hl0
  obtain ⟨rfl, rfl, rfl, rfl, rfl⟩ := g4 rfl
  have hr := rows_ev hok (frun p 60 a b 1 0 z).length 0 (by omega)
  generalize frun p 60 a b 1 0 z = L at hl0 g1 hr ⊢
  obtain ⟨e1, e2⟩ := rdRow0 g1
  refine Ev_succ ?_
  simp only [laws_FnFourSquaresDescend.j1]
  rw [e1]
  refine Ev_false (by simp) (Ev_true trivial (Ev_true (by omega) (Ev_true (by simp) ?_)))
  exact Ev.bind (a := true) (vSame_same (l := [(a : Int), (b : Int), 1, 0]) (by simp)) (Ev_true rfl hr)
end Rows

theorem FnFourSquaresDescend : laws_FnFourSquaresDescend.Pure := by
  intro l m hl1 hl2 hl3 hm1 hm2 hm3
  have hl := Bytes.of hl2 hl3
  have hm := Bytes.of hm2 hm3
  refine Ev_out (g := fun k => laws_FnFourSquaresDescend.f k l m) ?_
  unfold laws_FnFourSquaresDescend.f
  obtain ⟨b, hb⟩ := big_eq l m
  rw [hb]
  simp only [Option.bind_some]
  by_cases h : b = true
  · exact Ev_true h Ev_some
  refine Ev_false h ?_
  obtain ⟨⟨p, t, s⟩, hd⟩ := drawPrime_ev hl (n := 2000) (by omega) (by omega)
  have hdraw : Ev (fun k => spec_DrawFourDescent.f k l) p := by
    unfold spec_DrawFourDescent.f spec_DrawFourStart.f
    exact Ev.bind (f := fun _ t => some t) (Ev.bind (f := fun _ (t : Int × Int × Int) => some t.1) hd Ev_some) Ev_some
  obtain ⟨⟨L, ok⟩, e1, e2, e4, e5⟩ := four_ev p
  obtain ⟨⟨st, sok⟩, q0, q1, q2⟩ := start_ev p
  have q0 : st.length ≤ 4 := q0
  refine Ev.bind hdraw (Ev.bind e2 (Ev.bind e1 (Ev.bind q2 (Ev.bind q1 ?_))))
  have hlen : L.length ≤ 1000 ∧ ∀ x ∈ L, x.length ≤ 1000 := by
    cases ok with
    | false => rw [show L = [] from (e4 rfl).1]; simp
    | true =>
      obtain ⟨p', x, y, _, _, _, g5, _⟩ := e5 rfl
      rw [show L = _ from g5]
      have h1 := frun_len p' 60 x y 1 0 ((x * x + y * y + 1) / p')
      exact ⟨by have := h1.1; omega, fun x hx => by have := h1.2 x hx; omega⟩
  have hsok : sok = ok := by
    cases ok with
    | false => exact congrArg Prod.snd (Ev_uniq q2 (e4 rfl).2)
    | true =>
      obtain ⟨p', x, y, _, _, _, _, g6⟩ := e5 rfl
      exact congrArg Prod.snd (Ev_uniq q2 g6)
  have hend : Ev (fun k => laws_FnFourSquaresDescend.j1 k p L ok st false) true := by
    cases ok with
    | false =>
      refine Ev_succ ?_
      simp only [laws_FnFourSquaresDescend.j1]
      exact Ev_false (by simp) (Ev_false (by simp) Ev_some)
    | true =>
      obtain ⟨p', x, y, rfl, g2, g3, g5, g6⟩ := e5 rfl
      rw [show L = _ from g5, show st = _ from congrArg Prod.fst (Ev_uniq q2 g6)]
      exact good_ev g3
  subst hsok
  refine Ev_false (by simp) (Ev.bind (vSameLists_same (L := L) (by omega) (fun x hx => by have := hlen.2 x hx; omega)) (Ev_true rfl (Ev_false (by simp) (Ev.bind (vSame_same (l := st) (by omega)) (Ev_true rfl (Ev_succ ?_))))))
  simp only [laws_FnFourSquaresDescend.j0]
  refine Ev_false (by simp) ?_
  obtain ⟨a, t1, s1, d1, d2, d3, d4⟩ := drawParts_ev hm 4 (by omega) (by omega) 0 0 (by omega) (by omega)
  obtain ⟨c, t2, s2, d5, d6, _, _⟩ := drawParts_ev hm 4 (by omega) (by omega) t1 s1 d3 (by omega)
  have hdm : Ev (fun k => spec_DrawMultiplyFour.f k m) (a, c) := by
    unfold spec_DrawMultiplyFour.f
    exact Ev.bind (f := fun k (t : List Int × Int × Int) => (spec_l1Cur_parts.f k m t.2.1 t.2.2 4).bind fun u => some (t.1, u.1)) d1 (Ev.bind (f := fun _ (u : List Int × Int × Int) => some (a, u.1)) d5 Ev_some)
  refine Ev.bind hdm ?_
  obtain ⟨⟨r, q⟩, r1, r2, r3, r4⟩ := mulFour_val (l := a) (m := c) (by omega) (by omega)
  have r1 : r.length ≤ 4 := r1
  simp only
  rw [r3]
  simp only [Option.bind_some]
  refine Ev.bind r2 (Ev_false (by simp) (Ev.bind (vSame_same (l := r) (by omega)) (Ev_true rfl ?_)))
  by_cases hq : q = true
  · obtain ⟨k1, k2, k3, k4, k5⟩ := r4 hq
    have k1 : sqs r = sqs a * sqs c := k1
    have k6 : sqs a * sqs c ≤ 400000000 * 400000000 := Int.mul_le_mul k3 k5 k4 (by omega)
    have k7 : 0 ≤ sqs a * sqs c := Int.mul_nonneg k2 k4
    refine Ev_true hq (Ev.bind (vSq_ev (l := r) (by omega) (by omega)) (Ev.bind (vSq_ev (l := a) (by omega) (by omega)) (Ev.bind (vSq_ev (l := c) (by omega) (by omega)) ?_)))
    rw [w64 (x := sqs a * sqs c) (by omega) (by omega), k1, bne_self_eq_false]
    exact hend
  · exact Ev_false hq hend
end Go.Proofs.Ytpmbffchkcemoaa.Pure

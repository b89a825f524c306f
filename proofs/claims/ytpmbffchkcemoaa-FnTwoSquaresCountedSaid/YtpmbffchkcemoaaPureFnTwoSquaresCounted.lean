/- A number is a sum of two squares or refused by a prime; lists are told in order and counted by divisors. -/
import Derived.Test.YtpmbffchkcemoaaIx2
import Derived.Test.YtpmbffchkcemoaaIx6
import Derived.Test.YtpmbffchkcemoaaIx8
import Derived.Test.YtpmbffchkcemoaaIQ3
import Derived.Test.YtpmbffchkcemoaaIQ2
import Derived.Test.YtpmbffchkcemoaaIQ4
namespace Go.Proofs.Ytpmbffchkcemoaa.Pure
open Go.RowKit Go.Proofs.Ytpmbffchkcemoaa.P Go.Proofs.YtpmbffchkcemoaaW.PrintWords Go.Proofs.YtpmbffchkcemoaaW.PrintLast Go.Proofs.Ytpmbffchkcemoaa.Q Go.Proofs.Ytpmbffchkcemoaa.Ref

theorem vBefore_l0 {a b : List Int} (ha : a.length ≤ 1000000) : ∀ (d i : Nat), i + d = a.length → Ev (fun k => laws_vBefore.l0 k a b (i : Int)) (bef (a.drop i) (b.drop i)) := by
 have hno : ∀ i : Nat, Ev (fun k => laws_vBefore.j1 k a b (i : Int) false) (decide ((a.length : Int) < (b.length : Int))) := by
  intro i
  refine Ev_succ ?_
  simp only [laws_vBefore.j1]
  exact Ev_false (by simp) Ev_some
 intro d
 induction d with
 | zero =>
  intro i hi
  refine Ev_succ ?_
  simp only [laws_vBefore.l0]
  refine Ev_false (by omega) ?_
  have e : bef (a.drop i) (b.drop i) = decide ((a.length : Int) < (b.length : Int)) := by
   rw [List.drop_of_length_le (show a.length ≤ i by omega)]
   unfold bef
   simp only [List.length_nil, List.length_drop]
   by_cases h : (a.length : Int) < (b.length : Int)
   ·
    rw [decide_eq_true h, decide_eq_true (by omega)]
   ·
    rw [decide_eq_false h, decide_eq_false (by omega)]
  rw [e]
  exact hno i
 | succ d ih =>
  intro i hi
  have h1 : i < a.length := by omega
  refine Ev_succ ?_
  simp only [laws_vBefore.l0]
  refine Ev_true (by omega) ?_
  by_cases h2 : i < b.length
  ·
   rw [decide_eq_true (show (i : Int) < (b.length : Int) by omega), List.drop_eq_getElem_cons h1, List.drop_eq_getElem_cons h2]
   refine Ev_succ ?_
   simp only [laws_vBefore.j1, bef]
   rw [rdv h1, rdv h2, w64 (x := (i : Int) + 1) (by omega) (by omega)]
   refine Ev_true trivial (Ev_true (by omega) (Ev_true (by omega) (Ev_true (by omega) ?_)))
   by_cases h3 : a[i] = b[i]
   ·
    rw [if_pos h3]
    exact Ev_true h3 (ih (i + 1) (by omega))
   ·
    rw [if_neg h3]
    exact Ev_false h3 Ev_some
  ·
   rw [decide_eq_false (show ¬ (i : Int) < (b.length : Int) by omega), List.drop_of_length_le (show b.length ≤ i by omega)]
   have e : bef (a.drop i) [] = decide ((a.length : Int) < (b.length : Int)) := by
    rw [List.drop_eq_getElem_cons h1]
    unfold bef
    rw [decide_eq_false (show ¬ (a.length : Int) < (b.length : Int) by omega)]
    simp
   rw [e]
   exact hno i
theorem vBefore_ev {a b : List Int} (ha : a.length ≤ 1000000) : Ev (fun k => laws_vBefore.f k a b) (bef a b) := vBefore_l0 ha a.length 0 (by omega)
/-- The numbers that are drawn. -/
def Here (n : Nat) : Prop := n < 65536 ∨ n = 1000000
theorem rows_ev {n : Nat} (hn : n ≤ 1000000) : ∀ (d i : Nat), i + d = (allL 2 n n).length → Ev (fun k => laws_FnTwoSquaresCounted.l1 k (n : Int) (allL 2 n n) (allL 2 n n) ((allL 2 n n).length : Int) (i : Int)) true := by
 have hfew : (allL 2 n n).length ≤ 1000000 := by
  have := allL_two (n := n) hn n
  omega
 have hlen : ∀ l ∈ allL 2 n n, l.length = 2 := fun l hl => allL_len hl
 have hfall : ∀ l ∈ allL 2 n n, sqs l = (n : Int) ∧ Fall (n : Int) l := fun l hl => allL_fall hl
 have hpair := allL_pair 2 n n
 generalize allL 2 n n = L at hfew hlen hfall hpair ⊢
 intro d
 induction d with
 | zero =>
  intro i hi
  refine Ev_succ ?_
  simp only [laws_FnTwoSquaresCounted.l1]
  exact Ev_false (by omega) Ev_some
 | succ d ih =>
  intro i hi
  have h1 : i < L.length := by omega
  have k1 := hlen L[i] (List.getElem_mem h1)
  obtain ⟨k2, k3⟩ := hfall L[i] (List.getElem_mem h1)
  have ih := ih (i + 1) (by omega)
  have hb : 0 < i → Ev (fun k => laws_vBefore.f k L[i] (rd_L2 L ((i - 1 : Nat) : Int))) true := by
   intro h0
   have h2 : i - 1 < L.length := by omega
   rw [rdvRow h2]
   have := (List.pairwise_iff_getElem.1 hpair) (i - 1) i h2 h1 (by omega)
   rw [← this]
   exact vBefore_ev (by omega)
  refine Ev_succ ?_
  simp only [laws_FnTwoSquaresCounted.l1]
  rw [rdvRow h1, w64 (x := (i : Int) + 1) (by omega) (by omega)]
  generalize L[i] = row at k1 k2 k3 hb ⊢
  match row, k1 with
  | [a, b], _ =>
   obtain ⟨a0, a1, b0, b1, _⟩ := k3
   refine Ev_true (by omega) (Ev_true (by omega) (Ev_true (by omega) (Ev_true rfl (Ev_true (by simp) (Ev_true (by simp) (Ev_false ?_ (Ev_false ?_ (Ev.bind (a := (n : Int)) ?_ (Ev_true rfl ?_)))))))))
   ·
    show ¬ a < b
    omega
   ·
    show ¬ b < 0
    omega
   ·
    have := vSq_ev (l := [a, b]) (by simp) (by rw [k2]; omega)
    rwa [k2] at this
   ·
    by_cases h0 : 0 < i
    ·
     refine Ev_true (by omega) ?_
     rw [show wrap64 ((i : Int) - 1) = ((i - 1 : Nat) : Int) from (w64 (by omega) (by omega)).trans (by omega)]
     exact Ev_true (by omega) (Ev_true (by omega) (Ev.bind (hb h0) (Ev_true rfl ih)))
    ·
     exact Ev_false (by omega) ih
/-- How often the prime number divides. -/
theorem times_ev {p m n : Nat} (hp : 2 ≤ p) (hp2 : p ≤ 1000000) (h4 : p % 4 = 3) (hm : 1 ≤ m) (hpm : ¬ p ∣ m) (L : List (List Int)) (hL : Ev (fun k => laws_FnTwoSquaresCounted.j4 k (n : Int) L) true) : ∀ (d t : Nat), (t + d) % 2 = 1 → t + p ^ d * m ≤ 2000000 →
 Ev (fun k => laws_FnTwoSquaresCounted.l0 k (n : Int) L (p : Int) (t : Int) ((p ^ d * m : Nat) : Int)) true
 | 0, t, h1, h2 => by
  rw [Nat.pow_zero, Nat.one_mul] at h2 ⊢
  refine Ev_succ ?_
  simp only [laws_FnTwoSquaresCounted.l0]
  have e2 : Int.tmod (p : Int) 4 = ((p % 4 : Nat) : Int) := tmod_cast p 4
  have e1 : Int.tmod (t : Int) 2 = ((t % 2 : Nat) : Int) := tmod_cast t 2
  rw [tmod_cast, e1, e2]
  have h5 : m % p ≠ 0 := fun q => hpm (Nat.dvd_of_mod_eq_zero q)
  exact Ev_false (by omega) (Ev_false (by omega) (Ev_true (by omega) (Ev_false (by omega) hL)))
 | d + 1, t, h1, h2 => by
  have e : p ^ (d + 1) * m = p * (p ^ d * m) := by rw [Nat.pow_succ, Nat.mul_comm (p ^ d) p, Nat.mul_assoc]
  rw [e] at h2 ⊢
  have hx : 1 ≤ p ^ d * m := Nat.mul_pos (Nat.pow_pos (by omega)) hm
  have hle : 2 * (p ^ d * m) ≤ p * (p ^ d * m) := Nat.mul_le_mul_right _ hp
  have ih := times_ev (n := n) hp hp2 h4 hm hpm L hL d (t + 1) (by omega) (by omega)
  refine Ev_succ ?_
  simp only [laws_FnTwoSquaresCounted.l0]
  rw [tmod_cast, tdiv_cast, Nat.mul_mod_right, Nat.mul_div_cancel_left _ (by omega), w64_nat _ (by omega), w64 (x := (t : Int) + 1) (by omega) (by omega)]
  exact Ev_false (by omega) (Ev_true rfl ih)
theorem signs_pos {n : Nat} (h : allL 2 n n ≠ []) : 1 ≤ sumSigns (allL 2 n n) := by
 have hlen : ∀ l ∈ allL 2 n n, l.length = 2 := fun l hl => allL_len hl
 have hfall : ∀ l ∈ allL 2 n n, sqs l = (n : Int) ∧ Fall (n : Int) l := fun l hl => allL_fall hl
 generalize allL 2 n n = L at h hlen hfall ⊢
 match L with
 | [] => exact absurd rfl h
 | l :: L =>
  have k1 := hlen l List.mem_cons_self
  obtain ⟨_, k3⟩ := hfall l List.mem_cons_self
  rw [sumSigns_H]
  match l, k1 with
  | [a, b], _ =>
   obtain ⟨a0, _, b0, _, _⟩ := k3
   obtain ⟨x, rfl⟩ := Int.eq_ofNat_of_zero_le a0
   obtain ⟨y, rfl⟩ := Int.eq_ofNat_of_zero_le b0
   show 1 ≤ sgn none 0 1 0 [(x : Int), (y : Int)] + _
   rw [sgn_two]
   have hw : ∀ z, 1 ≤ Theta.wt z := fun z => by unfold Theta.wt; cases Nat.beq z 0 <;> decide
   have h1 : 1 * 1 ≤ Theta.wt x * Theta.wt y := Nat.mul_le_mul (hw x) (hw y)
   unfold wsg
   split <;> omega
theorem law_j1 {a : Int} (ha : a < 65536 ∨ 1000000 ≤ a) {r : Int × Bool} (hr1 : 1 ≤ a → a ≤ 1000000 → RQ a.toNat r) (hr0 : ¬ (1 ≤ a ∧ a ≤ 1000000) → r = (0, false)) :
 Ev (fun k => laws_FnTwoSquaresCounted.j1 k a (allTwoAns a).1 (allTwoAns a).2 (twoAns a).1 (twoAns a).2 r.1 r.2 (countTwoAns a).1 (countTwoAns a).2 (balAns a).1 (balAns a).2 false) true := by
 unfold allTwoAns twoAns countTwoAns balAns
 by_cases h : 0 ≤ a ∧ a ≤ 1000000
 ·
  obtain ⟨n, rfl⟩ := Int.eq_ofNat_of_zero_le h.1
  rw [if_pos h, if_pos h, if_pos h, Int.toNat_natCast]
  rw [Int.toNat_natCast] at hr1
  have hn : n ≤ 1000000 := by omega
  have hfew : (allL 2 n n).length ≤ 1000000 := by
   have := allL_two (n := n) hn n
   omega
  have hcount : 1 ≤ n → ((sumSigns (allL 2 n n) : Nat) : Int) = 4 * sg n := fun q => signs_all q (by omega)
  have hpos := signs_pos (n := n)
  have hj4 : Ev (fun k => laws_FnTwoSquaresCounted.j4 k (n : Int) (allL 2 n n)) true := by
   refine Ev_succ ?_
   simp only [laws_FnTwoSquaresCounted.j4]
   exact rows_ev hn (allL 2 n n).length 0 (by omega)
  have hlen : ∀ l ∈ allL 2 n n, l.length = 2 := fun l hl => allL_len hl
  have hnil : allL 2 n n = [] → sumSigns (allL 2 n n) = 0 := fun q => by rw [q]; rfl
  generalize hL : allL 2 n n = L at hfew hcount hpos hj4 hlen hnil ⊢
  have hj2 : Ev (fun k => laws_FnTwoSquaresCounted.j2 k (n : Int) L r.1 r.2 false) true := by
   refine Ev_succ ?_
   simp only [laws_FnTwoSquaresCounted.j2]
   refine Ev_false (by simp) ?_
   by_cases h1 : 1 ≤ n
   ·
    rcases hr1 (by omega) (by omega) with ⟨rfl, _⟩ | ⟨p, t, m, rfl, p2, p3, p4, p5, p6, p7, p8, _⟩
    ·
     exact Ev_false (by simp) hj4
    ·
     refine Ev_true rfl ?_
     have k := times_ev (n := n) p2 p3 p4 p7 p8 L hj4 t 0 (by omega) (by omega)
     rw [← p6] at k
     exact k
   ·
    rw [hr0 (by omega)]
    exact Ev_false (by simp) hj4
  have hone : (firstOf L).2 = decide ((L.length : Int) > 0) := by
   cases L with
   | nil => rfl
   | cons l L => exact (decide_eq_true (by simp only [List.length_cons]; omega)).symm
  have href : 1 ≤ n → (r.2 == (firstOf L).2) = false := by
   intro h1
   have hc := hcount h1
   rcases hr1 (by omega) (by omega) with ⟨rfl, q⟩ | ⟨p, t, m, rfl, _, _, _, _, _, _, _, q⟩
   ·
    cases hLL : L with
    | nil =>
     have := hnil hLL
     omega
    | cons l L2 => rfl
   ·
    cases hLL : L with
    | nil => rfl
    | cons l L2 =>
     have := hpos (by rw [hLL]; simp)
     omega
  have htail : Ev (fun k => if (n : Int) > 0 then (if (r.2 == (firstOf L).2) = true then (laws_FnTwoSquaresCounted.j2 k (n : Int) L r.1 r.2 true) else (if (true : Bool) = true then (if (if 1 ≤ (n : Int) ∧ (n : Int) ≤ 1000000 then (4 * sg n, true) else ((0 : Int), false)).2 = true then (laws_FnTwoSquaresCounted.j2 k (n : Int) L r.1 r.2 (((sumSigns L : Nat) : Int) != (if 1 ≤ (n : Int) ∧ (n : Int) ≤ 1000000 then (4 * sg n, true) else ((0 : Int), false)).1)) else (laws_FnTwoSquaresCounted.j2 k (n : Int) L r.1 r.2 false)) else (laws_FnTwoSquaresCounted.j2 k (n : Int) L r.1 r.2 false))) else (if (true : Bool) = true then (if (if 1 ≤ (n : Int) ∧ (n : Int) ≤ 1000000 then (4 * sg n, true) else ((0 : Int), false)).2 = true then (laws_FnTwoSquaresCounted.j2 k (n : Int) L r.1 r.2 (((sumSigns L : Nat) : Int) != (if 1 ≤ (n : Int) ∧ (n : Int) ≤ 1000000 then (4 * sg n, true) else ((0 : Int), false)).1)) else (laws_FnTwoSquaresCounted.j2 k (n : Int) L r.1 r.2 false)) else (laws_FnTwoSquaresCounted.j2 k (n : Int) L r.1 r.2 false))) true := by
   by_cases h1 : 1 ≤ n
   ·
    rw [if_pos (by omega : 1 ≤ (n : Int) ∧ (n : Int) ≤ 1000000), href h1, hcount h1]
    refine Ev_true (by omega) (Ev_false (by simp) (Ev_true rfl (Ev_true rfl ?_)))
    rw [bne_self_eq_false]
    exact hj2
   ·
    rw [if_neg (by omega : ¬ (1 ≤ (n : Int) ∧ (n : Int) ≤ 1000000))]
    exact Ev_false (by omega) (Ev_true rfl (Ev_false (by simp) hj2))
  refine Ev_succ ?_
  simp only [laws_FnTwoSquaresCounted.j1]
  rw [hone, bne_self_eq_false]
  rw [hone] at htail
  refine Ev_false (by simp) (Ev_true trivial (Ev_false (by simp) ?_))
  cases L with
  | nil => exact Ev_false (by simp) htail
  | cons l L =>
   have hl := hlen l List.mem_cons_self
   have e0 : rd_L2 (l :: L) 0 = l := rdvRow (l := l :: L) (i := 0) (by simp)
   refine Ev_true (by simp only [List.length_cons, decide_eq_true_eq]; omega) (Ev_true (by simp only [List.length_cons]; omega) ?_)
   rw [e0]
   exact Ev.bind (a := true) (vSame_same (l := l) (by omega)) (Ev_true rfl htail)
 ·
  rw [if_neg h, if_neg h, if_neg h]
  refine Ev_succ ?_
  simp only [laws_FnTwoSquaresCounted.j1]
  exact Ev_false (by simp) (Ev_false (by simp) Ev_some)

theorem FnTwoSquaresCounted : laws_FnTwoSquaresCounted.Pure := by
 intro l m hl1 hl2 hl3 hm1 hm2 hm3
 have hl := Bytes.of hl2 hl3
 have hm := Bytes.of hm2 hm3
 refine Ev_out (g := fun k => laws_FnTwoSquaresCounted.f k l m) ?_
 unfold laws_FnTwoSquaresCounted.f
 obtain ⟨b, hb⟩ := big_eq l m
 rw [hb]
 simp only [Option.bind_some]
 by_cases h : b = true
 ·
  exact Ev_true h Ev_some
 refine Ev_false h ?_
 obtain ⟨a, t, s, hd, hdr, _, _⟩ := number9_eq hl (n := 1000000) (by omega) (by omega)
 have hdraw : spec_DrawAllTwoSquares.f l = some a := by
  unfold spec_DrawAllTwoSquares.f spec_DrawIsPrimeNumber.f
  rw [hd]
  rfl
 have ha : a < 65536 ∨ 1000000 ≤ a := by
  rcases hdr with hdr | hdr
  ·
   simp only [List.mem_cons, List.not_mem_nil, or_false] at hdr
   omega
  ·
   omega
 rw [hdraw]
 simp only [Option.bind_some]
 obtain ⟨p5, p6⟩ := ctwo_ev a
 obtain ⟨p7, p8⟩ := balance_ev a
 obtain ⟨⟨rp, rb⟩, r1, r2, r3, r4⟩ := refusing_told a
 have hj1 := law_j1 ha r3 r4
 refine Ev.bind (impl_allTwo_ev a) (Ev.bind (spec_allTwo_ev a) (Ev.bind (impl_two_ev a) (Ev.bind (spec_two_ev a) (Ev.bind r2 (Ev.bind r1 (Ev.bind p6 (Ev.bind p5 (Ev.bind p8 (Ev.bind p7 (Ev_false (by simp) ?_))))))))))
 have hall : (allTwoAns a).1.length ≤ 1000000 ∧ ∀ x ∈ (allTwoAns a).1, x.length ≤ 4 := by
  unfold allTwoAns
  split
  ·
   have h2 := allL_two (n := a.toNat) (by omega) a.toNat
   exact ⟨by show (allL 2 a.toNat a.toNat).length ≤ _; omega, fun x hx => by have := allL_len (show x ∈ allL 2 a.toNat a.toNat from hx); omega⟩
  ·
   simp
 have htwo : (twoAns a).1.length ≤ 4 := by
  unfold twoAns
  split
  ·
   have := firstOf_len (p := 2) (most := a.toNat) (n := a.toNat)
   omega
  ·
   simp
 refine Ev.bind (vSameLists_same (by omega) (fun x hx => by have := hall.2 x hx; omega)) (Ev_true rfl (Ev_false (by simp) (Ev.bind (vSame_same (by omega)) (Ev_true rfl (Ev_false (by simp) (Ev_true rfl (Ev_false (by simp) (Ev_true rfl (Ev_false (by simp) ?_))))))))) 
 rw [bne_self_eq_false]
 refine Ev_succ ?_
 simp only [laws_FnTwoSquaresCounted.j0]
 refine Ev_false (by simp) ?_
 obtain ⟨u, t1, s1, d1, d2, d3, d4⟩ := drawParts_ev hm 2 (by omega) (by omega) 0 0 (by omega) (by omega)
 obtain ⟨c, t2, s2, d5, d6, _, _⟩ := drawParts_ev hm 2 (by omega) (by omega) t1 s1 d3 (by omega)
 have hdm : Ev (fun k => spec_DrawMultiplyTwo.f k m) (u, c) := by
  unfold spec_DrawMultiplyTwo.f
  exact Ev.bind (f := fun k (t : List Int × Int × Int) => (spec_l1Cur_parts.f k m t.2.1 t.2.2 2).bind fun v => some (t.1, v.1)) d1 (Ev.bind (f := fun _ (v : List Int × Int × Int) => some (u, v.1)) d5 Ev_some)
 refine Ev.bind hdm ?_
 obtain ⟨⟨x, q⟩, r1, r2, r3, r4⟩ := mulTwo_val (l := u) (m := c) (by omega) (by omega)
 have r1 : x.length ≤ 4 := r1
 simp only
 rw [r3]
 simp only [Option.bind_some]
 refine Ev.bind r2 (Ev_false (by simp) (Ev.bind (vSame_same (l := x) (by omega)) (Ev_true rfl ?_)))
 by_cases hq : q = true
 ·
  obtain ⟨k1, k2, k3, k4, k5⟩ := r4 hq
  have k1 : sqs x = sqs u * sqs c := k1
  have k6 : sqs u * sqs c ≤ 400000000 * 400000000 := Int.mul_le_mul k3 k5 k4 (by omega)
  have k7 : 0 ≤ sqs u * sqs c := Int.mul_nonneg k2 k4
  refine Ev_true hq (Ev.bind (vSq_ev (l := x) (by omega) (by omega)) (Ev.bind (vSq_ev (l := u) (by omega) (by omega)) (Ev.bind (vSq_ev (l := c) (by omega) (by omega)) ?_)))
  rw [w64 (x := sqs u * sqs c) (by omega) (by omega), k1, bne_self_eq_false]
  exact hj1
 ·
  exact Ev_false hq hj1
end Go.Proofs.Ytpmbffchkcemoaa.Pure

/- Several parts in one text: A prime number that does not leave 3 by 4 divides a square and 1. The lists of squares that both programs find: which they are, and in which order. Choices drawn from bytes: each comes to a number within its bounds. The draw of the numbers to be multiplied. The search for divisors. The draws of chapter 9: a number up to a bound, and a prime number. The laws' test of their codes' sizes. The laws' own comparisons of lists. Reads of a row, and of its numbers, by what stands there. laws.vSquares: the sum of the squares. -/
import Derived.Test.YtpmbffchkcemoaaIQ1
import Derived.Test.YtpmbffchkcemoaaIQ3
import Derived.Test.YtpmbffchkcemoaaIx2
import Derived.Test.YtpmbffchkcemoaaIQEv
import Derived.Laws.BitsAllLaws
import Derived.Test.YtpmbffchkcemoaaIx6
import Derived.Test.YtpmbffchkcemoaaIx1
namespace Go.Proofs.Ytpmbffchkcemoaa.RootMinus











end Go.Proofs.Ytpmbffchkcemoaa.RootMinus
namespace Go.Proofs.Ytpmbffchkcemoaa.Q

--BODY
/-- No number is greater than the one before it, and none is less than 0. -/
def Fall : Int → List Int → Prop
 | _, [] => True
 | m, x :: l => 0 ≤ x ∧ x ≤ m ∧ Fall x l
theorem allL_fall : ∀ {p most n} {l : List Int}, l ∈ allL p most n → sqs l = (n : Int) ∧ Fall most l
 | 0, most, n, l, h => by
  unfold allL at h
  split at h
  ·
   simp at h
   subst h
   simp_all [sqs, Fall]
  ·
   simp at h
 | p + 1, most, n, l, h => by
  unfold allL at h
  obtain ⟨b, hb, hx⟩ := downL_mem h
  obtain ⟨l', hl', rfl⟩ := List.mem_map.1 hx
  obtain ⟨h1, h2⟩ := allL_fall hl'
  have h3 : b * b ≤ n := Nat.le_trans (Nat.mul_le_mul (Nat.le_trans hb (Nat.min_le_right _ _)) (Nat.le_trans hb (Nat.min_le_right _ _))) (isq_spec n).1
  refine ⟨?_, by omega, by omega, h2⟩
  simp only [sqs]
  rw [h1]
  omega
/-- A list is before another one, the least first, as the law tells it. -/
def bef : List Int → List Int → Bool
 | x :: a, y :: b => if x = y then bef a b else decide (x < y)
 | a, b => decide (a.length < b.length)
theorem downL_pair {α : Type} {R : α → α → Prop} {f : Nat → List α} {c : Nat → Bool} (h1 : ∀ a, (f a).Pairwise R) (h2 : ∀ a b x y, a < b → x ∈ f b → y ∈ f a → R x y) : ∀ top, (downL f c top).Pairwise R
 | 0 => by
  unfold downL
  split
  ·
   exact h1 0
  ·
   exact List.Pairwise.nil
 | t + 1 => by
  unfold downL
  split
  ·
   refine List.pairwise_append.2 ⟨h1 _, downL_pair h1 h2 t, ?_⟩
   intro x hx y hy
   obtain ⟨b, hb, hy⟩ := downL_mem hy
   exact h2 b (t + 1) x y (by omega) hx hy
  ·
   exact List.Pairwise.nil
theorem allL_pair : ∀ p most n, (allL p most n).Pairwise (fun x y => bef y x = true)
 | 0, most, n => by
  unfold allL
  split <;> simp
 | p + 1, most, n => by
  unfold allL
  refine downL_pair ?_ ?_ _
  ·
   intro a
   refine List.pairwise_map.2 ((allL_pair p a (n - a * a)).imp ?_)
   intro x y h
   simpa [bef] using h
  ·
   intro a b x y hab hx hy
   obtain ⟨x', _, rfl⟩ := List.mem_map.1 hx
   obtain ⟨y', _, rfl⟩ := List.mem_map.1 hy
   have : ¬ ((a : Int) = (b : Int)) := by omega
   simp only [bef, if_neg this]
   exact decide_eq_true (by omega)
--END
end Go.Proofs.Ytpmbffchkcemoaa.Q
namespace Go.Proofs.Ytpmbffchkcemoaa.Q
open Go.RowKit Go.Proofs.Ytpmbffchkcemoaa.P Go.Proofs.YtpmbffchkcemoaaW.PrintWords Go.Proofs.YtpmbffchkcemoaaW.PrintLast

/-- Bytes. -/
def Bytes (l : List Int) : Prop := l.length ≤ 1000000000000000 ∧ ∀ x ∈ l, 0 ≤ x ∧ x ≤ 255
theorem Bytes.of {l : List Int} (h1 : l.length * 1 ≤ 140737488351232) (h2 : ∀ x ∈ l, (Lit.int .u8 x).wf = true) : Bytes l := by
 refine ⟨by omega, fun x hx => ?_⟩
 have h := h2 x hx
 simp [Lit.wf, IntKind.min, IntKind.max, IntKind.signed, IntKind.bits] at h
 omega
theorem seed_bound (x : Int) : 0 ≤ wrap64 (Go.bits .and .u64 (IntKind.u64.wrap x / 1099511627776) 255) ∧ wrap64 (Go.bits .and .u64 (IntKind.u64.wrap x / 1099511627776) 255) ≤ 255 := by
 have e := IntKind.wrap_u64 x
 have h1 : 0 ≤ IntKind.u64.wrap x / 1099511627776 ∧ IntKind.u64.wrap x / 1099511627776 < 18446744073709551616 := by
  rw [e]
  omega
 rw [u64_and _ _ h1.1 h1.2 (by omega) (by omega)]
 have h2 : (IntKind.u64.wrap x / 1099511627776).toNat &&& (255 : Int).toNat ≤ 255 := Nat.and_le_right
 rw [w64 (by omega) (by omega)]
 omega
theorem next_eq {l : List Int} (hl : Bytes l) (t s : Int) (h0 : 0 ≤ t) (h1 : t ≤ 1000000000000000) : ∃ v s', spec_l1Cur_next.f l t s = some (v, t + 1, s') ∧ 0 ≤ v ∧ v ≤ 255 := by
 have hn := hl.1
 unfold spec_l1Cur_next.f
 rw [w64 (x := t + 1) (by omega) (by omega)]
 by_cases h : t < (l.length : Int)
 ·
  have hm : 0 ≤ rd l t ∧ rd l t ≤ 255 := by
   have h2 : t.toNat < l.length := by omega
   have h3 : rd l t = l[t.toNat] := by simp [rd, List.getD_eq_getElem?_getD, List.getElem?_eq_getElem h2]
   rw [h3]
   exact hl.2 _ (List.getElem_mem h2)
  rw [if_pos h, if_pos h0, if_pos (by omega), w64 (x := rd l t) (by omega) (by omega)]
  exact ⟨_, _, rfl, hm.1, hm.2⟩
 ·
  rw [if_neg h, if_neg (by omega)]
  have h2 := seed_bound (IntKind.u64.wrap (IntKind.u64.wrap (s * 6364136223846793005)) + 1442695040888963407)
  exact ⟨_, _, rfl, h2.1, h2.2⟩
theorem pick_eq {l : List Int} (hl : Bytes l) (t s n : Int) (h0 : 0 ≤ t) (h1 : t ≤ 100000000000000) (hn : n ≤ 1000000000000) :
 ∃ v t' s', spec_l1Cur_pick.f l t s n = some (v, t', s') ∧ 0 ≤ v ∧ (1 ≤ n → v < n) ∧ t ≤ t' ∧ t' ≤ t + 2 := by
 unfold spec_l1Cur_pick.f
 by_cases h : n ≤ 1
 ·
  rw [if_pos h]
  exact ⟨_, _, _, rfl, by omega, by omega, by omega, by omega⟩
 ·
  rw [if_neg h]
  obtain ⟨v, s1, e1, v0, v1⟩ := next_eq hl t s h0 (by omega)
  rw [e1]
  simp only [Option.bind_some]
  by_cases h2 : n > 200
  ·
   rw [if_pos h2]
   obtain ⟨u, s2, e2, u0, u1⟩ := next_eq hl (t + 1) s1 (by omega) (by omega)
   rw [e2]
   simp only [Option.bind_some]
   rw [if_neg (by omega), w64 (x := v * 256) (by omega) (by omega), w64 (x := v * 256 + u) (by omega) (by omega), Int.tmod_eq_emod_of_nonneg (by omega)]
   have h3 := Int.emod_nonneg (v * 256 + u) (show n ≠ 0 by omega)
   have h4 := Int.emod_lt_of_pos (v * 256 + u) (show 0 < n by omega)
   exact ⟨_, _, _, rfl, h3, fun _ => h4, by omega, by omega⟩
  ·
   rw [if_neg h2, if_neg (by omega), Int.tmod_eq_emod_of_nonneg v0]
   have h3 := Int.emod_nonneg v (show n ≠ 0 by omega)
   have h4 := Int.emod_lt_of_pos v (show 0 < n by omega)
   exact ⟨_, _, _, rfl, h3, fun _ => h4, by omega, by omega⟩
theorem among_eq {l : List Int} (hl : Bytes l) (t s : Int) (m : List Int) (h0 : 0 ≤ t) (h1 : t ≤ 100000000000000) (hm : 1 ≤ m.length) (hm2 : m.length ≤ 1000000000) :
 ∃ v t' s', spec_l1Cur_among.f l t s m = some (v, t', s') ∧ v ∈ m ∧ t ≤ t' ∧ t' ≤ t + 2 := by
 unfold spec_l1Cur_among.f
 obtain ⟨v, t', s', e, v0, v1, ht, ht'⟩ := pick_eq hl t s (m.length : Int) h0 h1 (by omega)
 rw [e]
 simp only [Option.bind_some]
 have h2 := v1 (by omega)
 rw [if_pos v0, if_pos h2]
 have h3 : v.toNat < m.length := by omega
 have h4 : rd m v = m[v.toNat] := by simp [rd, List.getD_eq_getElem?_getD, List.getElem?_eq_getElem h3]
 exact ⟨_, _, _, rfl, by rw [h4]; exact List.getElem_mem h3, ht, ht'⟩
end Go.Proofs.Ytpmbffchkcemoaa.Q
namespace Go.Proofs.Ytpmbffchkcemoaa.Q
open Go.RowKit Go.Proofs.Ytpmbffchkcemoaa.P Go.Proofs.YtpmbffchkcemoaaW.PrintWords Go.Proofs.YtpmbffchkcemoaaW.PrintLast
theorem parts_l0 {l : List Int} (hl : Bytes l) (n : Nat) (hn : n ≤ 10) : ∀ (d : Nat) (x : List Int) (t s : Int), 1 ≤ n → x.length + d = n → 0 ≤ t → t + 4 * d ≤ 1000 →
 ∃ y t' s', Ev (fun k => spec_l1Cur_parts.l0 k (n : Int) x l t s) (y, t', s') ∧ y.length ≤ n + 1 ∧ 0 ≤ t' ∧ t' ≤ t + 4 * d + 10
 | 0, x, t, s, h1, hx, h0, ht => by
  obtain ⟨v, t1, s1, e1, _, _, a1, a2⟩ := pick_eq hl t s 14 h0 (by omega) (by omega)
  by_cases hv : v = 0
  ·
   obtain ⟨u, t2, s2, e2, _, a3, a4⟩ := among_eq hl t1 s1 ([(-10001), (-10000), 10000, 10001] : List Int) (by omega) (by omega) (by simp) (by simp)
   refine ⟨x.set (0 : Int).toNat u, t2, s2, ?_, by simp; omega, by omega, by omega⟩
   refine Ev_succ ?_
   simp only [spec_l1Cur_parts.l0]
   refine Ev_false (by omega) ?_
   rw [e1]
   simp only [Option.bind_some]
   refine Ev_true hv ?_
   rw [e2]
   simp only [Option.bind_some]
   exact Ev_true (by omega) Ev_some
  ·
   by_cases hv1 : v = 1
   ·
    refine ⟨x ++ [1], t1, s1, ?_, by simp; omega, by omega, by omega⟩
    refine Ev_succ ?_
    simp only [spec_l1Cur_parts.l0]
    refine Ev_false (by omega) ?_
    rw [e1]
    simp only [Option.bind_some]
    exact Ev_false hv (Ev_true hv1 (Ev_true (by omega) Ev_some))
   ·
    refine ⟨x, t1, s1, ?_, by omega, by omega, by omega⟩
    refine Ev_succ ?_
    simp only [spec_l1Cur_parts.l0]
    refine Ev_false (by omega) ?_
    rw [e1]
    simp only [Option.bind_some]
    exact Ev_false hv (Ev_false hv1 Ev_some)
 | d + 1, x, t, s, h1, hx, h0, ht => by
  obtain ⟨v, t1, s1, e1, _, _, a1, a2⟩ := pick_eq hl t s 41 h0 (by omega) (by omega)
  obtain ⟨y, t', s', g1, g2, g3, g4⟩ := parts_l0 hl n hn d (x ++ [wrap64 (v - 20)]) t1 s1 h1 (by simp; omega) (by omega) (by omega)
  refine ⟨y, t', s', ?_, g2, g3, by omega⟩
  refine Ev_succ ?_
  simp only [spec_l1Cur_parts.l0]
  refine Ev_true (by omega) ?_
  rw [e1]
  simp only [Option.bind_some]
  exact Ev_true (by omega) g1
theorem drawParts_ev {l : List Int} (hl : Bytes l) (n : Nat) (hn : n ≤ 10) (h1 : 1 ≤ n) (t s : Int) (h0 : 0 ≤ t) (ht : t ≤ 900) : ∃ y t' s', Ev (fun k => spec_l1Cur_parts.f k l t s (n : Int)) (y, t', s') ∧ y.length ≤ n + 1 ∧ 0 ≤ t' ∧ t' ≤ t + 100 := by
 obtain ⟨y, t', s', g1, g2, g3, g4⟩ := parts_l0 hl n hn n [] t s h1 (by simp) h0 (by omega)
 exact ⟨y, t', s', g1, g2, g3, by omega⟩
end Go.Proofs.Ytpmbffchkcemoaa.Q
namespace Go.Proofs.Ytpmbffchkcemoaa.Q
open Go.RowKit Go.Proofs.Ytpmbffchkcemoaa.P Go.Proofs.YtpmbffchkcemoaaW.PrintWords Go.Proofs.YtpmbffchkcemoaaW.PrintLast






end Go.Proofs.Ytpmbffchkcemoaa.Q
namespace Go.Proofs.Ytpmbffchkcemoaa.Q
open Go.RowKit Go.Proofs.Ytpmbffchkcemoaa.P Go.Proofs.YtpmbffchkcemoaaW.PrintWords Go.Proofs.YtpmbffchkcemoaaW.PrintLast
theorem pick_low {l : List Int} (hl : Bytes l) (t s n : Int) (h0 : 0 ≤ t) (h1 : t ≤ 100000000000000) (hn : n ≤ 1000000000000) :
 ∃ v t' s', spec_l1Cur_pick.f l t s n = some (v, t', s') ∧ 0 ≤ v ∧ (1 ≤ n → v < n) ∧ v ≤ 65535 ∧ t ≤ t' ∧ t' ≤ t + 2 := by
 unfold spec_l1Cur_pick.f
 by_cases h : n ≤ 1
 ·
  rw [if_pos h]
  exact ⟨_, _, _, rfl, by omega, by omega, by omega, by omega, by omega⟩
 ·
  rw [if_neg h]
  obtain ⟨v, s1, e1, v0, v1⟩ := next_eq hl t s h0 (by omega)
  rw [e1]
  simp only [Option.bind_some]
  by_cases h2 : n > 200
  ·
   rw [if_pos h2]
   obtain ⟨u, s2, e2, u0, u1⟩ := next_eq hl (t + 1) s1 (by omega) (by omega)
   rw [e2]
   simp only [Option.bind_some]
   rw [if_neg (by omega), w64 (x := v * 256) (by omega) (by omega), w64 (x := v * 256 + u) (by omega) (by omega), Int.tmod_eq_emod_of_nonneg (by omega)]
   have h3 := Int.emod_nonneg (v * 256 + u) (show n ≠ 0 by omega)
   have h4 := Int.emod_lt_of_pos (v * 256 + u) (show 0 < n by omega)
   have h5 : (v * 256 + u) % n ≤ v * 256 + u := by
    have k1 := Int.mul_ediv_add_emod (v * 256 + u) n
    have k2 := Int.mul_nonneg (show 0 ≤ n by omega) (Int.ediv_nonneg (show 0 ≤ v * 256 + u by omega) (show 0 ≤ n by omega))
    omega
   exact ⟨_, _, _, rfl, h3, fun _ => h4, by omega, by omega, by omega⟩
  ·
   rw [if_neg h2, if_neg (by omega), Int.tmod_eq_emod_of_nonneg v0]
   have h3 := Int.emod_nonneg v (show n ≠ 0 by omega)
   have h4 := Int.emod_lt_of_pos v (show 0 < n by omega)
   exact ⟨_, _, _, rfl, h3, fun _ => h4, by omega, by omega, by omega⟩
theorem least_eq (a b : Int) : spec_l1Least.f a b = some (if a < b then a else b) := by
 unfold spec_l1Least.f
 split <;> rfl
/-- The numbers that are drawn. -/
def Drawn9 (n v : Int) : Prop := v ∈ ([-1, 0, 1, 2, 3, 7, n, n + 1] : List Int) ∨ (0 ≤ v ∧ v < n ∧ v ≤ 65535)
theorem number9_eq {l : List Int} (hl : Bytes l) {n : Int} (h1 : 600 ≤ n) (h2 : n ≤ 1000000000) :
 ∃ v t' s', spec_l1Cur_number9.f l 0 0 n = some (v, t', s') ∧ Drawn9 n v ∧ 0 ≤ t' ∧ t' ≤ 10 := by
 unfold spec_l1Cur_number9.f
 obtain ⟨v, t1, s1, e1, _, _, ht, ht'⟩ := pick_eq hl 0 0 8 (by omega) (by omega) (by omega)
 rw [e1]
 simp only [Option.bind_some]
 split
 ·
  obtain ⟨u, t2, s2, e2, hu, _, _⟩ := among_eq hl t1 s1 ([(-1), 0, 1, 2, 3, 7, n, wrap64 (n + 1)] : List Int) (by omega) (by omega) (by simp) (by simp)
  rw [e2]
  rw [w64 (by omega) (by omega)] at hu
  exact ⟨u, t2, s2, rfl, Or.inl hu, by omega, by omega⟩
 ·
  split
  ·
   obtain ⟨u, t2, s2, e2, u0, u1, u2, _, _⟩ := pick_low hl t1 s1 n (by omega) (by omega) (by omega)
   rw [e2]
   exact ⟨u, t2, s2, rfl, Or.inr ⟨u0, u1 (by omega), u2⟩, by omega, by omega⟩
  ·
   rw [least_eq]
   simp only [Option.bind_some]
   have hq : (if n < 600 then n else 600) = 600 := if_neg (by omega)
   rw [hq]
   obtain ⟨u, t2, s2, e2, u0, u1, u2, _, _⟩ := pick_low hl t1 s1 600 (by omega) (by omega) (by omega)
   rw [e2]
   have := u1 (by omega)
   exact ⟨u, t2, s2, rfl, Or.inr ⟨u0, by omega, u2⟩, by omega, by omega⟩
end Go.Proofs.Ytpmbffchkcemoaa.Q
namespace Go.Proofs.Ytpmbffchkcemoaa.Q
open Go.RowKit Go.Proofs.Ytpmbffchkcemoaa.P Go.Proofs.YtpmbffchkcemoaaW.PrintWords Go.Proofs.YtpmbffchkcemoaaW.PrintLast

theorem big_eq (l m : List Int) : ∃ b, laws_big.f l m = some b := by
 unfold laws_big.f
 split <;> exact ⟨_, rfl⟩
end Go.Proofs.Ytpmbffchkcemoaa.Q
namespace Go.Proofs.Ytpmbffchkcemoaa.Q
open Go.RowKit Go.Proofs.Ytpmbffchkcemoaa.P Go.Proofs.YtpmbffchkcemoaaW.PrintWords Go.Proofs.YtpmbffchkcemoaaW.PrintLast

theorem rdv {l : List Int} {i : Nat} (h : i < l.length) : rd l (i : Int) = l[i] := by
 simp [rd, List.getD_eq_getElem?_getD, List.getElem?_eq_getElem h]
theorem rdvRow {l : List (List Int)} {i : Nat} (h : i < l.length) : rd_L2 l (i : Int) = l[i] := by
 simp [rd_L2, List.getD_eq_getElem?_getD, List.getElem?_eq_getElem h]
theorem vSame_l0 {l m : List Int} (hl : l.length = m.length) (hn : l.length ≤ 4611686018427387904) (d : Nat) : ∀ i : Nat, i + d = l.length → Ev (fun k => laws_vSame.l0 k l m (l.length : Int) (i : Int)) (decide (l.drop i = m.drop i)) := by
 induction d with
 | zero =>
  intro i hi
  refine Ev_succ ?_
  simp only [laws_vSame.l0]
  rw [List.drop_of_length_le (by omega), List.drop_of_length_le (by omega)]
  exact Ev_false (by omega) Ev_some
 | succ d ih =>
  intro i hi
  have h1 : i < l.length := by omega
  have h2 : i < m.length := by omega
  refine Ev_succ ?_
  simp only [laws_vSame.l0]
  rw [rdv h1, rdv h2, List.drop_eq_getElem_cons h1, List.drop_eq_getElem_cons h2, w64 (by omega) (by omega)]
  refine Ev_true (by omega) (Ev_true (by omega) (Ev_true (by omega) (Ev_true (by omega) ?_)))
  by_cases he : l[i] = m[i]
  ·
   have e : decide (l[i] :: l.drop (i + 1) = m[i] :: m.drop (i + 1)) = decide (l.drop (i + 1) = m.drop (i + 1)) :=
    decide_eq_decide.2 ⟨fun h => (List.cons.inj h).2, fun h => by rw [he, h]⟩
   rw [e]
   exact Ev_true he (ih (i + 1) (by omega))
  ·
   have e : decide (l[i] :: l.drop (i + 1) = m[i] :: m.drop (i + 1)) = false := by
    rw [decide_eq_false_iff_not]
    intro h
    exact he (List.cons.inj h).1
   rw [e]
   exact Ev_false he Ev_some
theorem vSame_ev {l m : List Int} (hn : l.length ≤ 4611686018427387904) : Ev (fun k => laws_vSame.f k l m) (decide (l = m)) := by
 unfold laws_vSame.f
 by_cases h : l.length = m.length
 ·
  exact Ev_true (by omega) (vSame_l0 h hn l.length 0 (by omega))
 ·
  have e : decide (l = m) = false := by
   rw [decide_eq_false_iff_not]
   intro he
   exact h (by rw [he])
  rw [e]
  exact Ev_false (by omega) Ev_some
theorem vSame_same {l : List Int} (hn : l.length ≤ 4611686018427387904) : Ev (fun k => laws_vSame.f k l l) true := by
 have h := vSame_ev (m := l) hn
 simpa using h
theorem vSameLists_l0 {L : List (List Int)} (hn : L.length ≤ 4611686018427387904) (hx : ∀ x ∈ L, x.length ≤ 4611686018427387904) (d : Nat) : ∀ i : Nat, i + d = L.length → Ev (fun k => laws_vSameLists.l0 k L L (L.length : Int) (i : Int)) true := by
 induction d with
 | zero =>
  intro i hi
  refine Ev_succ ?_
  simp only [laws_vSameLists.l0]
  exact Ev_false (by omega) Ev_some
 | succ d ih =>
  intro i hi
  have h1 : i < L.length := by omega
  refine Ev_succ ?_
  simp only [laws_vSameLists.l0]
  rw [rdvRow h1, w64 (by omega) (by omega)]
  exact Ev_true (by omega) (Ev_true (by omega) (Ev_true (by omega) (Ev_true (by omega) (Ev.bind (vSame_same (hx _ (List.getElem_mem h1))) (Ev_true rfl (ih (i + 1) (by omega)))))))
theorem vSameLists_same {L : List (List Int)} (hn : L.length ≤ 4611686018427387904) (hx : ∀ x ∈ L, x.length ≤ 4611686018427387904) : Ev (fun k => laws_vSameLists.f k L L) true := by
 unfold laws_vSameLists.f
 exact Ev_true rfl (vSameLists_l0 hn hx L.length 0 (by omega))
end Go.Proofs.Ytpmbffchkcemoaa.Q
namespace Go.Proofs.Ytpmbffchkcemoaa.Q
open Go.RowKit Go.Proofs.Ytpmbffchkcemoaa.P Go.Proofs.YtpmbffchkcemoaaW.PrintWords Go.Proofs.YtpmbffchkcemoaaW.PrintLast
end Go.Proofs.Ytpmbffchkcemoaa.Q
namespace Go.Proofs.Ytpmbffchkcemoaa.Q
open Go.RowKit Go.Proofs.Ytpmbffchkcemoaa.P Go.Proofs.YtpmbffchkcemoaaW.PrintWords Go.Proofs.YtpmbffchkcemoaaW.PrintLast
theorem vSq_l0 {l : List Int} (hn : l.length ≤ 4611686018427387904) (d : Nat) : ∀ (i : Nat) (acc : Int), i + d = l.length → 0 ≤ acc → acc + sqs (l.drop i) ≤ 9000000000000000000 →
 Ev (fun k => laws_vSquares.l0 k acc l (l.length : Int) (i : Int)) (acc + sqs (l.drop i)) := by
 induction d with
 | zero =>
  intro i acc hi _ _
  refine Ev_succ ?_
  simp only [laws_vSquares.l0]
  refine Ev_false (by omega) ?_
  rw [List.drop_of_length_le (by omega)]
  simp only [sqs, Int.add_zero]
  exact Ev_some
 | succ d ih =>
  intro i acc hi h0 hb
  have h1 : i < l.length := by omega
  refine Ev_succ ?_
  simp only [laws_vSquares.l0]
  rw [List.drop_eq_getElem_cons h1] at hb ⊢
  simp only [sqs] at hb ⊢
  have k1 := sq_nn l[i]
  have k2 := sqs_nn (l.drop (i + 1))
  rw [rdv h1, w64 (x := l[i] * l[i]) (by omega) (by omega), w64 (x := acc + l[i] * l[i]) (by omega) (by omega), w64 (x := (i : Int) + 1) (by omega) (by omega)]
  have := ih (i + 1) (acc + l[i] * l[i]) (by omega) (by omega) (by omega)
  rw [show acc + (l[i] * l[i] + sqs (l.drop (i + 1))) = acc + l[i] * l[i] + sqs (l.drop (i + 1)) by omega]
  exact Ev_true (by omega) (Ev_true (by omega) (Ev_true (by omega) this))
theorem vSq_ev {l : List Int} (hn : l.length ≤ 4611686018427387904) (hb : sqs l ≤ 9000000000000000000) : Ev (fun k => laws_vSquares.f k l) (sqs l) := by
 have h := vSq_l0 hn l.length 0 0 (by omega) (by omega) (by simpa using hb)
 simpa [laws_vSquares.f] using h
end Go.Proofs.Ytpmbffchkcemoaa.Q

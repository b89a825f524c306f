/- Swaps of quads and their divisors, of both programs. -/
import Derived.Test.YtnaginnhccldhaaAx2
import Derived.Test.YtnaginnhccldhaaAx7
import Derived.Test.YtnaginnhccldhaaAx9
import Derived.Test.YtnaginnhccldhaaAx10
import Derived.Test.YtnaginnhccldhaaAx11
import Derived.Test.YtnaginnhccldhaaAx12
import Derived.Test.YtnaginnhccldhaaAQQuad
namespace Go.Proofs.Ytnaginnhccldhaa.Q
open Go.RowKit Go.Proofs.Ytnaginnhccldhaa.P Go.Proofs.YtnaginnhccldhaaW.PrintWords Go.Proofs.YtnaginnhccldhaaW.PrintLast
/-! ### Divisors -/
theorem gcd_tmod (x y : Int) : Int.gcd y (Int.tmod x y) = Int.gcd x y := by
  unfold Int.gcd
  rw [Int.natAbs_tmod, Nat.gcd_comm x.natAbs, Nat.gcd_rec y.natAbs x.natAbs, Nat.gcd_comm]
theorem divisor_i : ∀ (f : Nat) (x y : Int), y.natAbs ≤ f → x.natAbs ≤ 1000000000000 → y.natAbs ≤ 1000000000000 → Ev (fun k => impl_divisor.l0 k x y) ((Int.gcd x y : Nat) : Int) := by
  intro f
  induction f with
  | zero =>
    intro x y hf hx hy
    obtain rfl : y = 0 := by omega
    refine Ev_succ ?_
    simp only [impl_divisor.l0]
    rw [Int.gcd_zero_right, w64 (x := -x) (by omega) (by omega), show mx x (-x) = (x.natAbs : Int) by unfold mx; omega]
    exact Ev_true trivial Ev_some
  | succ f ih =>
    intro x y hf hx hy
    by_cases h : y = 0
    · subst h
      refine Ev_succ ?_
      simp only [impl_divisor.l0]
      rw [Int.gcd_zero_right, w64 (x := -x) (by omega) (by omega), show mx x (-x) = (x.natAbs : Int) by unfold mx; omega]
      exact Ev_true trivial Ev_some
    · refine Ev_succ ?_
      simp only [impl_divisor.l0]
      have h1 : (Int.tmod x y).natAbs = x.natAbs % y.natAbs := Int.natAbs_tmod ..
      have h2 := Nat.mod_lt x.natAbs (show 0 < y.natAbs by omega)
      rw [← gcd_tmod]
      exact Ev_false h (ih y (Int.tmod x y) (by omega) hy (by omega))
theorem divisor_int {x y : Int} (hx : x.natAbs ≤ 1000000000000) (hy : y.natAbs ≤ 1000000000000) : Ev (fun k => impl_divisor.f k x y) ((Int.gcd x y : Nat) : Int) := divisor_i _ x y (Nat.le_refl _) hx hy
theorem scale_l0 {L : List Int} (hn : L.length ≤ 1000000000000) (hL : ∀ x ∈ L, x.natAbs ≤ 1000000000) : ∀ (d i : Nat) (x : Nat), i + d = L.length → x ≤ 1000000000 → Ev (fun k => impl_scale.l0 k (x : Int) L (L.length : Int) (i : Int)) (((L.drop i).foldl (fun (s : Nat) (y : Int) => Int.gcd (s : Int) y) x : Nat) : Int)
  | 0, i, x, hi, hx => by
    refine Ev_succ ?_
    simp only [impl_scale.l0]
    rw [List.drop_of_length_le (by omega)]
    exact Ev_false (by omega) Ev_some
  | d + 1, i, x, hi, hx => by
    have h1 : i < L.length := by omega
    have h2 := hL _ (List.getElem_mem h1)
    have h3 : Int.gcd (x : Int) L[i] ≤ 1000000000 := by
      rcases Nat.eq_zero_or_pos x with h | h
      · subst h
        rw [show ((0 : Nat) : Int) = 0 from rfl, Int.gcd_zero_left]
        exact h2
      · have := Nat.le_of_dvd h (show Int.gcd (x : Int) L[i] ∣ x from Int.natCast_dvd_natCast.1 (Int.gcd_dvd_left ..))
        omega
    refine Ev_succ ?_
    simp only [impl_scale.l0]
    rw [rdn h1, List.drop_eq_getElem_cons h1, w64 (x := (i : Int) + 1) (by omega) (by omega)]
    exact Ev_true (by omega) (Ev_true (by omega) (Ev_true (by omega) (Ev.bind (divisor_int (by omega) (by omega)) (scale_l0 hn hL d (i + 1) _ (by omega) h3))))
theorem divisorOf_l0 {L : List Int} (hn : L.length ≤ 1000000000000) (hL : ∀ x ∈ L, x.natAbs ≤ 1000000000) : ∀ (d i : Nat) (x : Nat), i + d = L.length → x ≤ 1000000000 → Ev (fun k => impl_DivisorOf.l0 k (x : Int) L (L.length : Int) (i : Int)) (((L.drop i).foldl (fun (s : Nat) (y : Int) => Int.gcd (s : Int) y) x : Nat), true)
  | 0, i, x, hi, hx => by
    refine Ev_succ ?_
    simp only [impl_DivisorOf.l0]
    rw [List.drop_of_length_le (by omega)]
    exact Ev_false (by omega) Ev_some
  | d + 1, i, x, hi, hx => by
    have h1 : i < L.length := by omega
    have h2 := hL _ (List.getElem_mem h1)
    have h3 : Int.gcd (x : Int) L[i] ≤ 1000000000 := by
      rcases Nat.eq_zero_or_pos x with h | h
      · subst h
        rw [show ((0 : Nat) : Int) = 0 from rfl, Int.gcd_zero_left]
        exact h2
      · have := Nat.le_of_dvd h (show Int.gcd (x : Int) L[i] ∣ x from Int.natCast_dvd_natCast.1 (Int.gcd_dvd_left ..))
        omega
    refine Ev_succ ?_
    simp only [impl_DivisorOf.l0]
    rw [rdn h1, List.drop_eq_getElem_cons h1, w64 (x := (i : Int) + 1) (by omega) (by omega)]
    exact Ev_true (by omega) (Ev_true (by omega) (Ev_true (by omega) (Ev.bind (divisor_int (by omega) (by omega)) (divisorOf_l0 hn hL d (i + 1) _ (by omega) h3))))
def scl (q : List Int) : Nat := q.foldl (fun (s : Nat) (y : Int) => Int.gcd (s : Int) y) 0
theorem scl4 (a b c d : Int) : scl [a, b, c, d] = gcd4 a b c d := rfl
theorem quad_small {q : List Int} (h : Quad4 q) : ∀ x ∈ q, x.natAbs ≤ 1000000000 := by
  obtain ⟨a, b, c, d, rfl, ⟨ha, hb, hc, hd⟩, _⟩ := h
  intro x hx
  obtain ⟨a1, a2⟩ := ha
  obtain ⟨b1, b2⟩ := hb
  obtain ⟨c1, c2⟩ := hc
  obtain ⟨d1, d2⟩ := hd
  simp only [List.mem_cons, List.not_mem_nil, or_false] at hx
  rcases hx with rfl | rfl | rfl | rfl <;> omega
theorem scaleOf_good {q : List Int} (h : Quad4 q) : Ev (fun k => impl_ScaleOf.f k q) ((scl q : Int), true) := by
  have hr := isQuad_ev q
  rw [isQ_true h] at hr
  have hl := quad_len h
  unfold impl_ScaleOf.f impl_scale.f
  refine Ev.bind hr (Ev_true rfl (Ev.bind (f := fun _ (t : Int) => some (t, true)) (a := (scl q : Int)) ?_ Ev_some))
  have hs := scale_l0 (L := q) (by omega) (quad_small h) q.length 0 0 (by omega) (by omega)
  rw [List.drop_zero] at hs
  exact hs
theorem divisorOf_good {q : List Int} (h : Quad4 q) : Ev (fun k => impl_DivisorOf.f k q) ((scl q : Int), true) := by
  have hl := quad_len h
  have hsm := quad_small h
  unfold impl_DivisorOf.f
  rw [allWithin_eq]
  simp only [Option.bind_some]
  have e : allB (-1000000000) 1000000000 q = true := by
    unfold allB
    rw [List.all_eq_true]
    intro x hx
    have := hsm x hx
    exact decide_eq_true (by omega)
  rw [e]
  refine Ev_false (by omega) (Ev_succ ?_)
  simp only [impl_DivisorOf.j0]
  refine Ev_false (by simp) ?_
  have hs := divisorOf_l0 (L := q) (by omega) hsm q.length 0 0 (by omega) (by omega)
  rw [List.drop_zero] at hs
  exact hs
/-! ### Swaps -/
def swapL : List Int → Nat → List Int
  | [a, b, c, d], 0 => [2 * (b + c + d) - a, b, c, d]
  | [a, b, c, d], 1 => [a, 2 * (a + c + d) - b, c, d]
  | [a, b, c, d], 2 => [a, b, 2 * (a + b + d) - c, d]
  | [a, b, c, d], _ => [a, b, c, 2 * (a + b + c) - d]
  | q, _ => q
theorem swap_z {a b c d : Int} (h : QuadZ a b c d) (i : Nat) : ∃ a' b' c' d', swapL [a, b, c, d] i = [a', b', c', d'] ∧ QuadZ a' b' c' d' ∧ gcd4 a' b' c' d' = gcd4 a b c d := by
  match i with
  | 0 =>
    refine ⟨_, _, _, _, rfl, h.rot.swap.rot.rot.rot, nat_ext fun k => ?_⟩
    rw [gcd4_dvd, gcd4_dvd]
    constructor
    · rintro ⟨h1, h2, h3, h4⟩
      exact ⟨(dvd_swap (Int.dvd_add (Int.dvd_add h2 h3) h4)).1 h1, h2, h3, h4⟩
    · rintro ⟨h1, h2, h3, h4⟩
      exact ⟨(dvd_swap (Int.dvd_add (Int.dvd_add h2 h3) h4)).2 h1, h2, h3, h4⟩
  | 1 =>
    refine ⟨_, _, _, _, rfl, ?_, nat_ext fun k => ?_⟩
    · have h1 := h.rot.rot.swap.rot.rot
      rwa [show 2 * (c + d + a) - b = 2 * (a + c + d) - b by omega] at h1
    rw [gcd4_dvd, gcd4_dvd]
    constructor
    · rintro ⟨h1, h2, h3, h4⟩
      exact ⟨h1, (dvd_swap (Int.dvd_add (Int.dvd_add h1 h3) h4)).1 h2, h3, h4⟩
    · rintro ⟨h1, h2, h3, h4⟩
      exact ⟨h1, (dvd_swap (Int.dvd_add (Int.dvd_add h1 h3) h4)).2 h2, h3, h4⟩
  | 2 =>
    refine ⟨_, _, _, _, rfl, ?_, nat_ext fun k => ?_⟩
    · have h1 := h.rot.rot.rot.swap.rot
      rwa [show 2 * (d + a + b) - c = 2 * (a + b + d) - c by omega] at h1
    rw [gcd4_dvd, gcd4_dvd]
    constructor
    · rintro ⟨h1, h2, h3, h4⟩
      exact ⟨h1, h2, (dvd_swap (Int.dvd_add (Int.dvd_add h1 h2) h4)).1 h3, h4⟩
    · rintro ⟨h1, h2, h3, h4⟩
      exact ⟨h1, h2, (dvd_swap (Int.dvd_add (Int.dvd_add h1 h2) h4)).2 h3, h4⟩
  | i + 3 =>
    refine ⟨_, _, _, _, rfl, h.swap, nat_ext fun k => ?_⟩
    rw [gcd4_dvd, gcd4_dvd]
    constructor
    · rintro ⟨h1, h2, h3, h4⟩
      exact ⟨h1, h2, h3, (dvd_swap (Int.dvd_add (Int.dvd_add h1 h2) h3)).1 h4⟩
    · rintro ⟨h1, h2, h3, h4⟩
      exact ⟨h1, h2, h3, (dvd_swap (Int.dvd_add (Int.dvd_add h1 h2) h3)).2 h4⟩
theorem rd40 (a b c d : Int) : rd [a, b, c, d] 0 = a := rfl
theorem rd41 (a b c d : Int) : rd [a, b, c, d] 1 = b := rfl
theorem rd42 (a b c d : Int) : rd [a, b, c, d] 2 = c := rfl
theorem rd43 (a b c d : Int) : rd [a, b, c, d] 3 = d := rfl
theorem w_swap {s x : Int} (h0 : -500000 ≤ s) (h1 : s ≤ 500000) (hx : InC x) : wrap64 (wrap64 (2 * wrap64 (s - x)) - x) = 2 * (s - x) - x := by
  obtain ⟨x1, x2⟩ := hx
  rw [w64 (x := s - x) (by omega) (by omega), w64 (x := 2 * (s - x)) (by omega) (by omega), w64 (by omega) (by omega)]
theorem set_swap {a b c d : Int} {i : Nat} (hi : i < 4) (ha : InC a) (hb : InC b) (hc : InC c) (hd : InC d) :
    ([a, b, c, d] : List Int).set (i : Int).toNat (wrap64 (wrap64 (2 * wrap64 (a + b + c + d - rd [a, b, c, d] (i : Int))) - rd [a, b, c, d] (i : Int))) = swapL [a, b, c, d] i := by
  have h0 : -500000 ≤ a + b + c + d := by have := ha.1; have := hb.1; have := hc.1; have := hd.1; omega
  have h1 : a + b + c + d ≤ 500000 := by have := ha.2; have := hb.2; have := hc.2; have := hd.2; omega
  rcases (show i = 0 ∨ i = 1 ∨ i = 2 ∨ i = 3 by omega) with rfl | rfl | rfl | rfl
  · rw [show ((0 : Nat) : Int) = 0 from rfl, rd40, w_swap h0 h1 ha, show 2 * (a + b + c + d - a) - a = 2 * (b + c + d) - a by omega]; rfl
  · rw [show ((1 : Nat) : Int) = 1 from rfl, rd41, w_swap h0 h1 hb, show 2 * (a + b + c + d - b) - b = 2 * (a + c + d) - b by omega]; rfl
  · rw [show ((2 : Nat) : Int) = 2 from rfl, rd42, w_swap h0 h1 hc, show 2 * (a + b + c + d - c) - c = 2 * (a + b + d) - c by omega]; rfl
  · rw [show ((3 : Nat) : Int) = 3 from rfl, rd43, w_swap h0 h1 hd, show 2 * (a + b + c + d - d) - d = 2 * (a + b + c) - d by omega]; rfl
theorem swapped_ev {q : List Int} (h : Quad4 q) {i : Nat} (hi : i < 4) : Ev (fun k => impl_swapped.f k q (i : Int)) (swapL q i) := by
  obtain ⟨a, b, c, d, rfl, ⟨ha, hb, hc, hd⟩, _⟩ := h
  unfold impl_swapped.f slices_Clone_int_int.f
  rw [if_pos (by simp)]
  simp only [Option.bind_some]
  refine Ev.bind (sum_ev ha hb hc hd) (Ev_true (by omega) (Ev_true (by simp; omega) (Ev_true (by simp; omega) ?_)))
  rw [set_swap hi ha hb hc hd]
  exact Ev_some
theorem apSwap_eq {q : List Int} (h : Quad4 q) {i : Nat} (hi : i < 4) : spec_apSwap.f q (i : Int) = some (swapL q i) := by
  obtain ⟨a, b, c, d, rfl, ⟨ha, hb, hc, hd⟩, _⟩ := h
  obtain ⟨a1, a2⟩ := ha
  obtain ⟨b1, b2⟩ := hb
  obtain ⟨c1, c2⟩ := hc
  obtain ⟨d1, d2⟩ := hd
  unfold spec_apSwap.f spec_l1Own.f spec_apSum.f
  simp only [Option.bind_some, List.nil_append, List.length_nil]
  rw [if_pos (by simp), rd40, rd41, rd42, rd43, if_pos (by simp), if_pos (by simp), if_pos (by simp), if_pos (by simp)]
  simp only [Option.bind_some]
  rw [w64 (x := a + b) (by omega) (by omega), w64 (x := a + b + c) (by omega) (by omega), w64 (x := a + b + c + d) (by omega) (by omega), if_pos (by omega), if_pos (by simp; omega), if_pos (by simp; omega), set_swap hi ⟨a1, a2⟩ ⟨b1, b2⟩ ⟨c1, c2⟩ ⟨d1, d2⟩]
end Go.Proofs.Ytnaginnhccldhaa.Q

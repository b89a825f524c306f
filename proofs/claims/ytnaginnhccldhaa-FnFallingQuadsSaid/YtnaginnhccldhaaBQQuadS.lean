/- Swaps of quads and their divisors, of both programs. -/
import Derived.Test.YtnaginnhccldhaaBx1
import Derived.Test.YtnaginnhccldhaaBx2
import Derived.Test.YtnaginnhccldhaaBx3
import Derived.Test.YtnaginnhccldhaaBQQuad
namespace Go.Proofs.Ytnaginnhccldhaa.Q
open Go.RowKit Go.Proofs.Ytnaginnhccldhaa.P Go.Proofs.YtnaginnhccldhaaW.PrintWords Go.Proofs.YtnaginnhccldhaaW.PrintLast
/-! ### Divisors -/
theorem gcd_tmod (x y : Int) : Int.gcd y (Int.tmod x y) = Int.gcd x y := by
  unfold Int.gcd
  rw [Int.natAbs_tmod, Nat.gcd_comm x.natAbs, Nat.gcd_rec y.natAbs x.natAbs, Nat.gcd_comm]
def scl (q : List Int) : Nat := q.foldl (fun (s : Nat) (y : Int) => Int.gcd (s : Int) y) 0
theorem scl4 (a b c d : Int) : scl [a, b, c, d] = gcd4 a b c d := rfl
theorem quad_small {q : List Int} (h : Quad4 q) : ∀ x ∈ q, x.natAbs ≤ 1000000000 := by
  obtain ⟨a, b, c, d, rfl, ⟨ha, hb, hc, hd⟩, _⟩ := h
  intro x hx
  obtain ⟨a1, a2⟩ := ha
  obtain ⟨b1, b2⟩ := hb
  obtain ⟨c1, c2⟩ := hc
  obtain ⟨d1, d2⟩ := hd
  simp only [List.mem_cons, List.not_mem_nil, or_false] at hx
  rcases hx with rfl | rfl | rfl | rfl <;> omega
/-! ### Swaps -/
def swapL : List Int → Nat → List Int
  | [a, b, c, d], 0 => [2 * (b + c + d) - a, b, c, d]
  | [a, b, c, d], 1 => [a, 2 * (a + c + d) - b, c, d]
  | [a, b, c, d], 2 => [a, b, 2 * (a + b + d) - c, d]
  | [a, b, c, d], _ => [a, b, c, 2 * (a + b + c) - d]
  | q, _ => q
theorem swap_z {a b c d : Int} (h : QuadZ a b c d) (i : Nat) : ∃ a' b' c' d', swapL [a, b, c, d] i = [a', b', c', d'] ∧ QuadZ a' b' c' d' ∧ gcd4 a' b' c' d' = gcd4 a b c d := by
  match i with
  | 0 =>
    refine ⟨_, _, _, _, rfl, h.rot.swap.rot.rot.rot, nat_ext fun k => ?_⟩
    rw [gcd4_dvd, gcd4_dvd]
    constructor
    · rintro ⟨h1, h2, h3, h4⟩
      exact ⟨(dvd_swap (Int.dvd_add (Int.dvd_add h2 h3) h4)).1 h1, h2, h3, h4⟩
    · rintro ⟨h1, h2, h3, h4⟩
      exact ⟨(dvd_swap (Int.dvd_add (Int.dvd_add h2 h3) h4)).2 h1, h2, h3, h4⟩
  | 1 =>
    refine ⟨_, _, _, _, rfl, ?_, nat_ext fun k => ?_⟩
    · have h1 := h.rot.rot.swap.rot.rot
      rwa [show 2 * (c + d + a) - b = 2 * (a + c + d) - b by omega] at h1
    rw [gcd4_dvd, gcd4_dvd]
    constructor
    · rintro ⟨h1, h2, h3, h4⟩
      exact ⟨h1, (dvd_swap (Int.dvd_add (Int.dvd_add h1 h3) h4)).1 h2, h3, h4⟩
    · rintro ⟨h1, h2, h3, h4⟩
      exact ⟨h1, (dvd_swap (Int.dvd_add (Int.dvd_add h1 h3) h4)).2 h2, h3, h4⟩
  | 2 =>
    refine ⟨_, _, _, _, rfl, ?_, nat_ext fun k => ?_⟩
    · have h1 := h.rot.rot.rot.swap.rot
      rwa [show 2 * (d + a + b) - c = 2 * (a + b + d) - c by omega] at h1
    rw [gcd4_dvd, gcd4_dvd]
    constructor
    · rintro ⟨h1, h2, h3, h4⟩
      exact ⟨h1, h2, (dvd_swap (Int.dvd_add (Int.dvd_add h1 h2) h4)).1 h3, h4⟩
    · rintro ⟨h1, h2, h3, h4⟩
      exact ⟨h1, h2, (dvd_swap (Int.dvd_add (Int.dvd_add h1 h2) h4)).2 h3, h4⟩
  | i + 3 =>
    refine ⟨_, _, _, _, rfl, h.swap, nat_ext fun k => ?_⟩
    rw [gcd4_dvd, gcd4_dvd]
    constructor
    · rintro ⟨h1, h2, h3, h4⟩
      exact ⟨h1, h2, h3, (dvd_swap (Int.dvd_add (Int.dvd_add h1 h2) h3)).1 h4⟩
    · rintro ⟨h1, h2, h3, h4⟩
      exact ⟨h1, h2, h3, (dvd_swap (Int.dvd_add (Int.dvd_add h1 h2) h3)).2 h4⟩
theorem rd40 (a b c d : Int) : rd [a, b, c, d] 0 = a := rfl
theorem rd41 (a b c d : Int) : rd [a, b, c, d] 1 = b := rfl
theorem rd42 (a b c d : Int) : rd [a, b, c, d] 2 = c := rfl
theorem rd43 (a b c d : Int) : rd [a, b, c, d] 3 = d := rfl
theorem w_swap {s x : Int} (h0 : -500000 ≤ s) (h1 : s ≤ 500000) (hx : InC x) : wrap64 (wrap64 (2 * wrap64 (s - x)) - x) = 2 * (s - x) - x := by
  obtain ⟨x1, x2⟩ := hx
  rw [w64 (x := s - x) (by omega) (by omega), w64 (x := 2 * (s - x)) (by omega) (by omega), w64 (by omega) (by omega)]
theorem set_swap {a b c d : Int} {i : Nat} (hi : i < 4) (ha : InC a) (hb : InC b) (hc : InC c) (hd : InC d) :
    ([a, b, c, d] : List Int).set (i : Int).toNat (wrap64 (wrap64 (2 * wrap64 (a + b + c + d - rd [a, b, c, d] (i : Int))) - rd [a, b, c, d] (i : Int))) = swapL [a, b, c, d] i := by
  have h0 : -500000 ≤ a + b + c + d := by have := ha.1; have := hb.1; have := hc.1; have := hd.1; omega
  have h1 : a + b + c + d ≤ 500000 := by have := ha.2; have := hb.2; have := hc.2; have := hd.2; omega
  rcases (show i = 0 ∨ i = 1 ∨ i = 2 ∨ i = 3 by omega) with rfl | rfl | rfl | rfl
  · rw [show ((0 : Nat) : Int) = 0 from rfl, rd40, w_swap h0 h1 ha, show 2 * (a + b + c + d - a) - a = 2 * (b + c + d) - a by omega]; rfl
  · rw [show ((1 : Nat) : Int) = 1 from rfl, rd41, w_swap h0 h1 hb, show 2 * (a + b + c + d - b) - b = 2 * (a + c + d) - b by omega]; rfl
  · rw [show ((2 : Nat) : Int) = 2 from rfl, rd42, w_swap h0 h1 hc, show 2 * (a + b + c + d - c) - c = 2 * (a + b + d) - c by omega]; rfl
  · rw [show ((3 : Nat) : Int) = 3 from rfl, rd43, w_swap h0 h1 hd, show 2 * (a + b + c + d - d) - d = 2 * (a + b + c) - d by omega]; rfl
theorem swapped_ev {q : List Int} (h : Quad4 q) {i : Nat} (hi : i < 4) : Ev (fun k => impl_swapped.f k q (i : Int)) (swapL q i) := by
  obtain ⟨a, b, c, d, rfl, ⟨ha, hb, hc, hd⟩, _⟩ := h
  unfold impl_swapped.f slices_Clone_int_int.f
  rw [if_pos (by simp)]
  simp only [Option.bind_some]
  refine Ev.bind (sum_ev ha hb hc hd) (Ev_true (by omega) (Ev_true (by simp; omega) (Ev_true (by simp; omega) ?_)))
  rw [set_swap hi ha hb hc hd]
  exact Ev_some
theorem apSwap_eq {q : List Int} (h : Quad4 q) {i : Nat} (hi : i < 4) : spec_apSwap.f q (i : Int) = some (swapL q i) := by
  obtain ⟨a, b, c, d, rfl, ⟨ha, hb, hc, hd⟩, _⟩ := h
  obtain ⟨a1, a2⟩ := ha
  obtain ⟨b1, b2⟩ := hb
  obtain ⟨c1, c2⟩ := hc
  obtain ⟨d1, d2⟩ := hd
  unfold spec_apSwap.f spec_l1Own.f spec_apSum.f
  simp only [Option.bind_some, List.nil_append, List.length_nil]
  rw [if_pos (by simp), rd40, rd41, rd42, rd43, if_pos (by simp), if_pos (by simp), if_pos (by simp), if_pos (by simp)]
  simp only [Option.bind_some]
  rw [w64 (x := a + b) (by omega) (by omega), w64 (x := a + b + c) (by omega) (by omega), w64 (x := a + b + c + d) (by omega) (by omega), if_pos (by omega), if_pos (by simp; omega), if_pos (by simp; omega), set_swap hi ⟨a1, a2⟩ ⟨b1, b2⟩ ⟨c1, c2⟩ ⟨d1, d2⟩]
end Go.Proofs.Ytnaginnhccldhaa.Q

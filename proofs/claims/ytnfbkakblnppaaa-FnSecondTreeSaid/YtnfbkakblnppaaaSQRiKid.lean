/- Children and parents in the second tree, of both programs. -/
import Derived.Test.YtnfbkakblnppaaaSx5
import Derived.Test.YtnfbkakblnppaaaSx6
import Derived.Test.YtnfbkakblnppaaaSx7
import Derived.Test.YtnfbkakblnppaaaSx10
import Derived.Test.YtnfbkakblnppaaaSx11
import Derived.Test.YtnfbkakblnppaaaSQRi
namespace Go.Proofs.Ytnfbkakblnppaaa.Q
open Go.RowKit Go.Proofs.Ytnfbkakblnppaaa.P Go.Proofs.YtnfbkakblnppaaaW.PrintWords Go.Proofs.YtnfbkakblnppaaaW.PrintLast
theorem within_eq (a lo hi : Int) : impl_within.f a lo hi = some (decide (lo ≤ a ∧ a ≤ hi)) := by
  unfold impl_within.f
  by_cases h : lo ≤ a
  · rw [if_pos h]; simp [h]
  · rw [if_neg h]; simp [h]
theorem kid_grow {m n : Nat} (h : PairN m n) (k : Nat) : m < (kid k m n).1 ∧ m * m + n * n < (kid k m n).1 * (kid k m n).1 + (kid k m n).2 * (kid k m n).2 := by
  have hl := h.lt
  have hp := h.pos
  have sq : ∀ {a b c d : Nat}, a < c → b ≤ d → a * a + b * b < c * c + d * d := fun h1 h2 => Nat.add_lt_add_of_lt_of_le (Nat.mul_self_lt_mul_self h1) (Nat.mul_le_mul h2 h2)
  match k with
  | 0 => exact ⟨by show m < 2 * m - n; omega, sq (show m < 2 * m - n by omega) (show n ≤ m by omega)⟩
  | 1 => exact ⟨by show m < 2 * m + n; omega, sq (show m < 2 * m + n by omega) (show n ≤ m by omega)⟩
  | 2 => exact ⟨by show m < m + 2 * n; omega, sq (show m < m + 2 * n by omega) (Nat.le_refl n)⟩
  | 3 => exact ⟨by show m < m + n; omega, sq (show m < m + n by omega) (show n ≤ 2 * n by omega)⟩
  | 4 =>
    refine ⟨by show m < 2 * m; omega, ?_⟩
    show m * m + n * n < 2 * m * (2 * m) + (m - n) * (m - n)
    have h1 : n * n ≤ m * m := Nat.mul_le_mul (by omega) (by omega)
    have h2 : 2 * m * (2 * m) = 4 * (m * m) := by grind
    have h3 : 1 * 1 ≤ m * m := Nat.mul_le_mul (by omega) (by omega)
    omega
  | k + 5 => exact ⟨by show m < 2 * m; omega, sq (show m < 2 * m by omega) (show n ≤ m + n by omega)⟩
theorem kid_le {m n : Nat} (h : PairN m n) {k : Nat} : (kid k m n).1 ≤ 3 * m := by
  have hl := h.lt
  match k with
  | 0 => show 2 * m - n ≤ 3 * m; omega
  | 1 => show 2 * m + n ≤ 3 * m; omega
  | 2 => show m + 2 * n ≤ 3 * m; omega
  | 3 => show m + n ≤ 3 * m; omega
  | 4 => show 2 * m ≤ 3 * m; omega
  | k + 5 => show 2 * m ≤ 3 * m; omega
theorem price1_eq {m n : Nat} (h : PairN m n) (hm : m ≤ 1000000) {k : Nat} (hk : k ≤ 2) : impl_price_1.f (m : Int) (n : Int) (k : Int) = some (((kid (k + 3) m n).1 : Int), ((kid (k + 3) m n).2 : Int)) := by
  have hl := h.lt
  unfold impl_price_1.f
  simp only [Option.bind_some, List.length_cons, List.length_nil]
  rw [if_pos (show (0 : Int) ≤ (k : Int) by omega), if_pos (show (k : Int) < ((0 + 1 + 1 + 1 : Nat) : Int) by omega)]
  rcases (show k = 0 ∨ k = 1 ∨ k = 2 by omega) with rfl | rfl | rfl
  · show some (wrap64 ((m : Int) + n), wrap64 (2 * (n : Int))) = some (((m + n : Nat) : Int), ((2 * n : Nat) : Int))
    congr 1
    refine Prod.ext ?_ ?_
    · show wrap64 ((m : Int) + n) = ((m + n : Nat) : Int)
      unfold wrap64; omega
    · show wrap64 (2 * (n : Int)) = ((2 * n : Nat) : Int)
      unfold wrap64; omega
  · show some (wrap64 (2 * (m : Int)), wrap64 ((m : Int) - n)) = some (((2 * m : Nat) : Int), ((m - n : Nat) : Int))
    congr 1
    refine Prod.ext ?_ ?_
    · show wrap64 (2 * (m : Int)) = ((2 * m : Nat) : Int)
      unfold wrap64; omega
    · show wrap64 ((m : Int) - n) = ((m - n : Nat) : Int)
      unfold wrap64; omega
  · show some (wrap64 (2 * (m : Int)), wrap64 ((m : Int) + n)) = some (((2 * m : Nat) : Int), ((m + n : Nat) : Int))
    congr 1
    refine Prod.ext ?_ ?_
    · show wrap64 (2 * (m : Int)) = ((2 * m : Nat) : Int)
      unfold wrap64; omega
    · show wrap64 ((m : Int) + n) = ((m + n : Nat) : Int)
      unfold wrap64; omega
theorem riPrice_eq {m n : Nat} (h : PairN m n) (hm : m ≤ 1000000) {k : Nat} (hk : k ≤ 2) : spec_riPrice.f (m : Int) (n : Int) (k : Int) = some (((kid (k + 3) m n).1 : Int), ((kid (k + 3) m n).2 : Int)) := by
  have hl := h.lt
  rw [← price1_eq h hm hk]
  unfold spec_riPrice.f impl_price_1.f
  simp only [Option.bind_some, List.length_cons, List.length_nil]
  rw [if_pos (show (0 : Int) ≤ (k : Int) by omega), if_pos (show (k : Int) < ((0 + 1 + 1 + 1 : Nat) : Int) by omega)]
  rcases (show k = 0 ∨ k = 1 ∨ k = 2 by omega) with rfl | rfl | rfl
  · rw [if_pos (by omega)]; rfl
  · rw [if_neg (by omega), if_pos (by omega)]; rfl
  · rw [if_neg (by omega), if_neg (by omega)]; rfl
theorem rightP_good {m n : Nat} (h : OkP m n) : rightP m n = (trip m n, true) := if_pos h.2
/-- A child. -/
theorem child_good {m n k : Nat} (h : OkP m n) (hk : k ≤ 2) : Ev (fun j => impl_PriceChild.f j (trip m n) (k : Int)) (rightP (kid (k + 3) m n).1 (kid (k + 3) m n).2) ∧ Ev (fun j => spec_PriceChild.f j (trip m n) (k : Int)) (rightP (kid (k + 3) m n).1 (kid (k + 3) m n).2) := by
  have hs := h.small
  have hkp := h.1.kid (k + 3)
  have hkl := hkp.lt
  have hle := kid_le h.1 (k := k + 3)
  have h1 := isRight_ev (trip m n)
  have h2 := riGood_ev (trip m n)
  rw [isR_true ⟨_, _, h, rfl⟩] at h1 h2
  constructor
  · unfold impl_PriceChild.f impl_price.f
    simp only [Option.bind_some]
    refine Ev.bind (f := fun _ (b : List Int × Bool) => some (b.1, b.2)) (a := rightP (kid (k + 3) m n).1 (kid (k + 3) m n).2) ?_ Ev_some
    unfold impl_tree_childOfP.f
    rw [within_eq]
    simp only [Option.bind_some]
    refine Ev.bind h1 (Ev_true rfl ?_)
    rw [decide_eq_true (show (0 : Int) ≤ (k : Int) ∧ (k : Int) ≤ 2 by omega)]
    refine Ev_succ ?_
    simp only [impl_tree_childOfP.j0]
    refine Ev_false (by simp) (Ev.bind (pairOf_ev h) ?_)
    simp only
    rw [price1_eq h.1 (by omega) hk]
    simp only [Option.bind_some]
    rw [right_eq (Nat.le_of_lt hkl)]
    exact Ev_some
  · unfold spec_PriceChild.f
    rw [in_eq]
    simp only [Option.bind_some]
    refine Ev.bind h2 (Ev_true rfl ?_)
    rw [decide_eq_true (show (0 : Int) ≤ (k : Int) ∧ (k : Int) ≤ 2 by omega)]
    refine Ev_succ ?_
    simp only [spec_PriceChild.j0]
    refine Ev_false (by simp) (Ev.bind (back_trip h) ?_)
    simp only
    rw [riPrice_eq h.1 (by omega) hk]
    simp only [Option.bind_some]
    refine Ev.bind (f := fun _ (b : List Int × Bool) => some (b.1, b.2)) (a := rightP (kid (k + 3) m n).1 (kid (k + 3) m n).2) ?_ Ev_some
    unfold spec_riIf.f
    refine Ev.bind (riPair_ev (by omega) (by omega)) ?_
    by_cases hq : OkP (kid (k + 3) m n).1 (kid (k + 3) m n).2
    · have := hq.small
      rw [rightP_good hq, riOf_eq (Nat.le_of_lt hkl) (by omega)]
      exact Ev_true (decide_eq_true hq) Ev_some
    · rw [show rightP (kid (k + 3) m n).1 (kid (k + 3) m n).2 = ([], false) from if_neg (fun q => hq ⟨hkp, q⟩)]
      exact Ev_false (by simpa using hq) Ev_some
theorem child_no {t : List Int} {k : Int} (h : ¬ (GoodT t ∧ 0 ≤ k ∧ k ≤ 2)) : Ev (fun j => impl_PriceChild.f j t k) (([] : List Int), false) ∧ Ev (fun j => spec_PriceChild.f j t k) (([] : List Int), false) := by
  have h1 := isRight_ev t
  have h2 := riGood_ev t
  have j1 : Ev (fun j => impl_tree_childOfP.j0 j t k true) (([] : List Int), false) := by
    refine Ev_succ ?_
    simp only [impl_tree_childOfP.j0]
    exact Ev_true trivial Ev_some
  have j2 : Ev (fun j => spec_PriceChild.j0 j t k true) (([] : List Int), false) := by
    refine Ev_succ ?_
    simp only [spec_PriceChild.j0]
    exact Ev_true trivial Ev_some
  constructor
  · unfold impl_PriceChild.f impl_price.f
    simp only [Option.bind_some]
    refine Ev.bind (f := fun _ (b : List Int × Bool) => some (b.1, b.2)) (a := (([] : List Int), false)) ?_ Ev_some
    unfold impl_tree_childOfP.f
    rw [within_eq]
    simp only [Option.bind_some]
    refine Ev.bind h1 ?_
    by_cases hg : GoodT t
    · rw [isR_true hg, decide_eq_false (fun q => h ⟨hg, q⟩)]
      exact Ev_true rfl j1
    · rw [isR_false hg]
      exact Ev_false (by simp) j1
  · unfold spec_PriceChild.f
    rw [in_eq]
    simp only [Option.bind_some]
    refine Ev.bind h2 ?_
    by_cases hg : GoodT t
    · rw [isR_true hg, decide_eq_false (fun q => h ⟨hg, q⟩)]
      exact Ev_true rfl j2
    · rw [isR_false hg]
      exact Ev_false (by simp) j2
theorem price2_root {n : Nat} (h : n = 1) : impl_price_2.f ((2 * n : Nat) : Int) (n : Int) = some (2, 1, -1) := by
  subst h
  show impl_price_2.f 2 1 = some (2, 1, -1)
  decide +kernel
theorem price2_eq {m n : Nat} (h : PairN m n) (hm : m ≤ 1000000) (hr : m ≠ 2 * n) : impl_price_2.f (m : Int) (n : Int) = some (((upP m n).1 : Int), ((upP m n).2.1 : Int), ((upP m n).2.2 : Int)) := by
  have hl := h.lt
  have ho := h.odd
  unfold impl_price_2.f upP
  rw [tdiv2, tdiv2, mod2, w64 (x := ((n / 2 : Nat) : Int)) (by omega) (by omega), w64 (x := ((m / 2 : Nat) : Int)) (by omega) (by omega), w64 (x := (m : Int) - ((n / 2 : Nat) : Int)) (by omega) (by omega), w64 (x := ((m / 2 : Nat) : Int) - n) (by omega) (by omega), w64 (x := (n : Int) - ((m / 2 : Nat) : Int)) (by omega) (by omega)]
  by_cases h1 : n % 2 = 0
  · rw [if_pos (by omega), if_pos h1]
    congr 2
    show (m : Int) - ((n / 2 : Nat) : Int) = ((m - n / 2 : Nat) : Int)
    omega
  · rw [if_neg (by omega), if_neg h1]
    by_cases h2 : n < m / 2
    · rw [if_pos (by omega), if_pos (by omega)]
      congr 2
      congr 1
      show ((m / 2 : Nat) : Int) - n = ((m / 2 - n : Nat) : Int)
      omega
    · rw [if_neg (by omega), if_neg (by omega), if_neg (by omega)]
      congr 2
      congr 1
      show (n : Int) - ((m / 2 : Nat) : Int) = ((n - m / 2 : Nat) : Int)
      omega
theorem priceUp_eq {m n : Nat} (h : PairN m n) (hm : m ≤ 1000000) : spec_riPriceUp.f (m : Int) (n : Int) = some (((upP m n).1 : Int), ((upP m n).2.1 : Int), ((upP m n).2.2 : Int)) := by
  have hl := h.lt
  have ho := h.odd
  unfold spec_riPriceUp.f upP
  rw [tdiv2, tdiv2, mod2, w64 (x := ((n / 2 : Nat) : Int)) (by omega) (by omega), w64 (x := ((m / 2 : Nat) : Int)) (by omega) (by omega), w64 (x := (m : Int) - ((n / 2 : Nat) : Int)) (by omega) (by omega), w64 (x := ((m / 2 : Nat) : Int) - n) (by omega) (by omega), w64 (x := (n : Int) - ((m / 2 : Nat) : Int)) (by omega) (by omega), w64 (x := 2 * (n : Int)) (by omega) (by omega)]
  by_cases h1 : n % 2 = 0
  · rw [if_pos (by omega), if_pos h1]
    congr 2
    show (m : Int) - ((n / 2 : Nat) : Int) = ((m - n / 2 : Nat) : Int)
    omega
  · rw [if_neg (by omega), if_neg h1]
    by_cases h2 : 2 * n < m
    · rw [if_pos (by omega), if_pos h2]
      congr 2
      congr 1
      show ((m / 2 : Nat) : Int) - n = ((m / 2 - n : Nat) : Int)
      omega
    · rw [if_neg (by omega), if_neg h2]
      congr 2
      congr 1
      show (n : Int) - ((m / 2 : Nat) : Int) = ((n - m / 2 : Nat) : Int)
      omega
theorem five {m n : Nat} (h : OkP m n) : m * m + n * n = 5 ↔ m = 2 * n := by
  have hl := h.1.lt
  have hp := h.1.pos
  constructor
  · intro e
    have h1 : m < 3 := sq_lt (by have : 3 * 3 = 9 := rfl; omega)
    omega
  · intro e
    obtain ⟨rfl, rfl⟩ := h.1.root e
    rfl
theorem len_trip (m n : Nat) : ((trip m n).length : Int) = 3 := rfl
theorem rd2_trip (m n : Nat) : rd (trip m n) 2 = ((m * m + n * n : Nat) : Int) := rfl
/-- A parent. -/
theorem parent_good {m n : Nat} (h : OkP m n) (hr : m ≠ 2 * n) : Ev (fun j => impl_PriceParent.f j (trip m n)) (trip (upP m n).1 (upP m n).2.1, (((upP m n).2.2 : Nat) : Int), true) ∧ Ev (fun j => spec_PriceParent.f j (trip m n)) (trip (upP m n).1 (upP m n).2.1, (((upP m n).2.2 : Nat) : Int), true) ∧ OkP (upP m n).1 (upP m n).2.1 ∧ (upP m n).2.2 ≤ 2 ∧ kid ((upP m n).2.2 + 3) (upP m n).1 (upP m n).2.1 = (m, n) := by
  have hs := h.small
  have h1 := isRight_ev (trip m n)
  have h2 := riGood_ev (trip m n)
  rw [isR_true ⟨_, _, h, rfl⟩] at h1 h2
  obtain ⟨u1, u2, u3, u4⟩ := upP_spec h.1 hr
  have hg := (kid_grow u2 ((upP m n).2.2 + 3)).2
  rw [u3] at hg
  simp only at hg
  have hok : OkP (upP m n).1 (upP m n).2.1 := ⟨u2, by have := h.2; omega⟩
  refine ⟨?_, ?_, hok, u1, u3⟩
  · unfold impl_PriceParent.f impl_price.f
    simp only [Option.bind_some]
    refine Ev.bind (f := fun _ (b : List Int × Int × Bool) => some (b.1, b.2.1, b.2.2)) (a := (trip (upP m n).1 (upP m n).2.1, (((upP m n).2.2 : Nat) : Int), true)) ?_ Ev_some
    unfold impl_tree_parentOfP.f
    refine Ev.bind h1 (Ev_true rfl (Ev.bind (pairOf_ev h) ?_))
    simp only
    rw [price2_eq h.1 (by omega) hr]
    simp only [Option.bind_some]
    rw [right_eq (Nat.le_of_lt u2.lt), rightP_good hok]
    exact Ev_false (by omega) Ev_some
  · unfold spec_PriceParent.f
    rw [len_trip, rd2_trip]
    refine Ev.bind h2 (Ev_true rfl (Ev_true (by omega) ?_))
    have hb : ((((m * m + n * n : Nat) : Int)) == 5) = false := by
      rw [beq_eq_false_iff_ne]
      intro e
      exact hr ((five h).1 (by omega))
    rw [hb]
    refine Ev_succ ?_
    simp only [spec_PriceParent.j0]
    refine Ev_false (by simp) (Ev.bind (back_trip h) ?_)
    simp only
    rw [priceUp_eq h.1 (by omega)]
    simp only [Option.bind_some]
    rw [riOf_eq (Nat.le_of_lt u2.lt) (by omega)]
    exact Ev_some
theorem parent_root {m n : Nat} (h : OkP m n) (hr : m = 2 * n) : Ev (fun j => impl_PriceParent.f j (trip m n)) (([] : List Int), 0, false) ∧ Ev (fun j => spec_PriceParent.f j (trip m n)) (([] : List Int), 0, false) := by
  have h1 := isRight_ev (trip m n)
  have h2 := riGood_ev (trip m n)
  rw [isR_true ⟨_, _, h, rfl⟩] at h1 h2
  have hn := h.1.root hr
  constructor
  · unfold impl_PriceParent.f impl_price.f
    simp only [Option.bind_some]
    refine Ev.bind (f := fun _ (b : List Int × Int × Bool) => some (b.1, b.2.1, b.2.2)) (a := (([] : List Int), 0, false)) ?_ Ev_some
    unfold impl_tree_parentOfP.f
    refine Ev.bind h1 (Ev_true rfl (Ev.bind (pairOf_ev h) ?_))
    simp only
    rw [hr, price2_root hn.2]
    simp only [Option.bind_some]
    exact Ev_true (by omega) Ev_some
  · unfold spec_PriceParent.f
    rw [len_trip, rd2_trip, (five h).2 hr]
    refine Ev.bind h2 (Ev_true rfl (Ev_true (by omega) ?_))
    refine Ev_succ ?_
    simp only [spec_PriceParent.j0]
    exact Ev_true rfl Ev_some
theorem parent_no {t : List Int} (h : ¬ GoodT t) : Ev (fun j => impl_PriceParent.f j t) (([] : List Int), 0, false) ∧ Ev (fun j => spec_PriceParent.f j t) (([] : List Int), 0, false) := by
  have h1 := isRight_ev t
  have h2 := riGood_ev t
  rw [isR_false h] at h1 h2
  constructor
  · unfold impl_PriceParent.f impl_price.f
    simp only [Option.bind_some]
    refine Ev.bind (f := fun _ (b : List Int × Int × Bool) => some (b.1, b.2.1, b.2.2)) (a := (([] : List Int), 0, false)) ?_ Ev_some
    unfold impl_tree_parentOfP.f
    exact Ev.bind h1 (Ev_false (by simp) Ev_some)
  · unfold spec_PriceParent.f
    refine Ev.bind h2 (Ev_false (by simp) ?_)
    refine Ev_succ ?_
    simp only [spec_PriceParent.j0]
    exact Ev_true trivial Ev_some
end Go.Proofs.Ytnfbkakblnppaaa.Q

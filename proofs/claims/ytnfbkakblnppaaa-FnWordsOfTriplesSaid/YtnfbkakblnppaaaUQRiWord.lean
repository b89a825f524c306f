/- Words of right triples in both trees, of both programs. -/
import Derived.Test.YtnfbkakblnppaaaUx3
import Derived.Test.YtnfbkakblnppaaaUx4
import Derived.Test.YtnfbkakblnppaaaUx5
import Derived.Test.YtnfbkakblnppaaaUx6
import Derived.Test.YtnfbkakblnppaaaUx7
import Derived.Test.YtnfbkakblnppaaaUx10
import Derived.Test.YtnfbkakblnppaaaUx11
import Derived.Test.YtnfbkakblnppaaaUQRi
namespace Go.Proofs.Ytnfbkakblnppaaa.Q
open Go.RowKit Go.Proofs.Ytnfbkakblnppaaa.P Go.Proofs.YtnfbkakblnppaaaW.PrintWords Go.Proofs.YtnfbkakblnppaaaW.PrintLast
theorem snoc_ind {α : Type} {P : List α → Prop} (h0 : P []) (h1 : ∀ w k, P w → P (w ++ [k])) : ∀ w, P w := by
  intro w
  have h : ∀ v : List α, P v.reverse := by
    intro v
    induction v with
    | nil => exact h0
    | cons a v ih => rw [List.reverse_cons]; exact h1 _ _ ih
  have := h w.reverse
  rwa [List.reverse_reverse] at this
/-! ### Words and pairs -/
def stp (o : Nat) (p : Nat × Nat) (k : Nat) : Nat × Nat := kid (k + o) p.1 p.2
def reach (o : Nat) (w : List Nat) : Nat × Nat := w.foldl (stp o) (2, 1)
theorem reach_snoc (o : Nat) (w : List Nat) (k : Nat) : reach o (w ++ [k]) = kid (k + o) (reach o w).1 (reach o w).2 := by
  simp [reach, stp]
def Digs (w : List Nat) : Prop := ∀ k ∈ w, k ≤ 2
theorem reach_pair (o : Nat) (w : List Nat) : PairN (reach o w).1 (reach o w).2 := by
  refine snoc_ind (P := fun w => PairN (reach o w).1 (reach o w).2) two_one (fun w k ih => ?_) w
  rw [reach_snoc]
  exact ih.kid _
theorem kid_grow {m n : Nat} (h : PairN m n) (k : Nat) : m < (kid k m n).1 ∧ m * m + n * n ≤ (kid k m n).1 * (kid k m n).1 + (kid k m n).2 * (kid k m n).2 := by
  have hl := h.lt
  have hp := h.pos
  have sq : ∀ {a b c d : Nat}, a ≤ c → b ≤ d → a * a + b * b ≤ c * c + d * d := fun h1 h2 => Nat.add_le_add (Nat.mul_le_mul h1 h1) (Nat.mul_le_mul h2 h2)
  match k with
  | 0 => exact ⟨by show m < 2 * m - n; omega, sq (show m ≤ 2 * m - n by omega) (show n ≤ m by omega)⟩
  | 1 => exact ⟨by show m < 2 * m + n; omega, sq (show m ≤ 2 * m + n by omega) (show n ≤ m by omega)⟩
  | 2 => exact ⟨by show m < m + 2 * n; omega, sq (show m ≤ m + 2 * n by omega) (Nat.le_refl n)⟩
  | 3 => exact ⟨by show m < m + n; omega, sq (show m ≤ m + n by omega) (show n ≤ 2 * n by omega)⟩
  | 4 =>
    refine ⟨by show m < 2 * m; omega, ?_⟩
    show m * m + n * n ≤ 2 * m * (2 * m) + (m - n) * (m - n)
    have h1 : n * n ≤ m * m := Nat.mul_le_mul (by omega) (by omega)
    have h2 : 2 * m * (2 * m) = 4 * (m * m) := by grind
    omega
  | k + 5 => exact ⟨by show m < 2 * m; omega, sq (show m ≤ 2 * m by omega) (show n ≤ m + n by omega)⟩
theorem reach_long (o : Nat) (w : List Nat) : w.length + 2 ≤ (reach o w).1 := by
  refine snoc_ind (P := fun w => w.length + 2 ≤ (reach o w).1) (Nat.le_refl 2) (fun w k ih => ?_) w
  rw [reach_snoc]
  have := (kid_grow (reach_pair o w) (k + o)).1
  simp only [List.length_append, List.length_singleton]
  omega
/-- Each pair has a word. -/
theorem has_word (o : Nat) (ho : o = 0 ∨ o = 3) : ∀ (f m n : Nat), m ≤ f → PairN m n → ∃ w, Digs w ∧ reach o w = (m, n)
  | 0, m, n, hf, h => by have := h.lt; omega
  | f + 1, m, n, hf, h => by
    by_cases e : m = 2 * n
    · obtain ⟨rfl, rfl⟩ := h.root e
      exact ⟨[], by intro k hk; simp at hk, rfl⟩
    · have hu : ∃ u, Ups m n o u := by
        rcases ho with rfl | rfl
        · exact ⟨_, upB_spec h e⟩
        · exact ⟨_, upP_spec h e⟩
      obtain ⟨u, h1, h2, h3, h4⟩ := hu
      obtain ⟨w, hw, he⟩ := has_word o ho f u.1 u.2.1 (by omega) h2
      refine ⟨w ++ [u.2.2], ?_, ?_⟩
      · intro k hk
        rcases List.mem_append.1 hk with hk | hk
        · exact hw k hk
        · rw [List.mem_singleton.1 hk]; exact h1
      · rw [reach_snoc, he]; exact h3
/-! ### Up -/
def upI (o m n : Nat) : Nat × Nat × Nat := if o = 0 then upB m n else upP m n
theorem upI_kid {o : Nat} (ho : o = 0 ∨ o = 3) {m n : Nat} (h : PairN m n) {k : Nat} (hk : k ≤ 2) : upI o (kid (k + o) m n).1 (kid (k + o) m n).2 = (m, n, k) ∧ (kid (k + o) m n).1 ≠ 2 * (kid (k + o) m n).2 := by
  rcases ho with rfl | rfl
  · exact upB_kid h k hk
  · exact upP_kid h k hk
def ups (o m n : Nat) : Int × Int × Int := if m = 2 * n then ((m : Int), (n : Int), -1) else (((upI o m n).1 : Int), ((upI o m n).2.1 : Int), ((upI o m n).2.2 : Int))
theorem berg2_eq {m n : Nat} (h : PairN m n) (hm : m ≤ 1000000) : impl_berg_2.f (m : Int) (n : Int) = some (ups 0 m n) := by
  have hl := h.lt
  unfold impl_berg_2.f ups upI upB
  rw [w64 (x := 2 * (n : Int)) (by omega) (by omega), w64 (x := 3 * (n : Int)) (by omega) (by omega), w64 (x := 2 * (n : Int) - m) (by omega) (by omega), w64 (x := (m : Int) - 2 * n) (by omega) (by omega), if_pos (show (0 : Nat) = 0 from rfl)]
  by_cases h1 : m < 2 * n
  · rw [if_pos (by omega), if_neg (by omega), if_pos h1]
    congr 2
    congr 1
    show 2 * (n : Int) - m = ((2 * n - m : Nat) : Int)
    omega
  · rw [if_neg (by omega)]
    by_cases h2 : m = 2 * n
    · rw [if_pos (by omega), if_pos h2]
    · rw [if_neg (by omega), if_neg h2, if_neg h1]
      by_cases h3 : m < 3 * n
      · rw [if_pos (by omega), if_pos h3]
        congr 2
        congr 1
        show (m : Int) - 2 * n = ((m - 2 * n : Nat) : Int)
        omega
      · rw [if_neg (by omega), if_neg h3]
        congr 2
        show (m : Int) - 2 * n = ((m - 2 * n : Nat) : Int)
        omega
theorem price2_eq {m n : Nat} (h : PairN m n) (hm : m ≤ 1000000) : impl_price_2.f (m : Int) (n : Int) = some (ups 3 m n) := by
  have hl := h.lt
  have ho := h.odd
  unfold impl_price_2.f ups upI upP
  rw [tdiv2, tdiv2, mod2, w64 (x := ((n / 2 : Nat) : Int)) (by omega) (by omega), w64 (x := ((m / 2 : Nat) : Int)) (by omega) (by omega), w64 (x := (m : Int) - ((n / 2 : Nat) : Int)) (by omega) (by omega), w64 (x := ((m / 2 : Nat) : Int) - n) (by omega) (by omega), w64 (x := (n : Int) - ((m / 2 : Nat) : Int)) (by omega) (by omega), if_neg (show ¬ (3 : Nat) = 0 by decide)]
  by_cases h1 : n % 2 = 0
  · rw [if_pos (by omega), if_neg (by omega), if_pos h1]
    congr 2
    show (m : Int) - ((n / 2 : Nat) : Int) = ((m - n / 2 : Nat) : Int)
    omega
  · rw [if_neg (by omega)]
    by_cases h2 : n < m / 2
    · rw [if_pos (by omega), if_neg (by omega), if_neg h1, if_pos (by omega)]
      congr 2
      congr 1
      show ((m / 2 : Nat) : Int) - n = ((m / 2 - n : Nat) : Int)
      omega
    · rw [if_neg (by omega)]
      by_cases h3 : n = m / 2
      · rw [if_pos (by omega), if_pos (by omega)]
      · rw [if_neg (by omega), if_neg (by omega), if_neg h1, if_neg (by omega)]
        congr 2
        congr 1
        show (n : Int) - ((m / 2 : Nat) : Int) = ((n - m / 2 : Nat) : Int)
        omega
theorem bergUp_eq {m n : Nat} (h : PairN m n) (hm : m ≤ 1000000) : spec_riBergUp.f (m : Int) (n : Int) = some (((upI 0 m n).1 : Int), ((upI 0 m n).2.1 : Int), ((upI 0 m n).2.2 : Int)) := by
  have hl := h.lt
  unfold spec_riBergUp.f upI upB
  rw [w64 (x := 2 * (n : Int)) (by omega) (by omega), w64 (x := 3 * (n : Int)) (by omega) (by omega), w64 (x := 2 * (n : Int) - m) (by omega) (by omega), w64 (x := (m : Int) - 2 * n) (by omega) (by omega), if_pos (show (0 : Nat) = 0 from rfl)]
  by_cases h1 : m < 2 * n
  · rw [if_pos (by omega), if_pos h1]
    congr 2
    congr 1
    show 2 * (n : Int) - m = ((2 * n - m : Nat) : Int)
    omega
  · rw [if_neg (by omega), if_neg h1]
    by_cases h3 : m < 3 * n
    · rw [if_pos (by omega), if_pos h3]
      congr 2
      congr 1
      show (m : Int) - 2 * n = ((m - 2 * n : Nat) : Int)
      omega
    · rw [if_neg (by omega), if_neg h3]
      congr 2
      show (m : Int) - 2 * n = ((m - 2 * n : Nat) : Int)
      omega
theorem priceUp_eq {m n : Nat} (h : PairN m n) (hm : m ≤ 1000000) : spec_riPriceUp.f (m : Int) (n : Int) = some (((upI 3 m n).1 : Int), ((upI 3 m n).2.1 : Int), ((upI 3 m n).2.2 : Int)) := by
  have hl := h.lt
  have ho := h.odd
  unfold spec_riPriceUp.f upI upP
  rw [tdiv2, tdiv2, mod2, w64 (x := ((n / 2 : Nat) : Int)) (by omega) (by omega), w64 (x := ((m / 2 : Nat) : Int)) (by omega) (by omega), w64 (x := (m : Int) - ((n / 2 : Nat) : Int)) (by omega) (by omega), w64 (x := ((m / 2 : Nat) : Int) - n) (by omega) (by omega), w64 (x := (n : Int) - ((m / 2 : Nat) : Int)) (by omega) (by omega), w64 (x := 2 * (n : Int)) (by omega) (by omega), if_neg (show ¬ (3 : Nat) = 0 by decide)]
  by_cases h1 : n % 2 = 0
  · rw [if_pos (by omega), if_pos h1]
    congr 2
    show (m : Int) - ((n / 2 : Nat) : Int) = ((m - n / 2 : Nat) : Int)
    omega
  · rw [if_neg (by omega), if_neg h1]
    by_cases h2 : 2 * n < m
    · rw [if_pos (by omega), if_pos h2]
      congr 2
      congr 1
      show ((m / 2 : Nat) : Int) - n = ((m / 2 - n : Nat) : Int)
      omega
    · rw [if_neg (by omega), if_neg h2]
      congr 2
      congr 1
      show (n : Int) - ((m / 2 : Nat) : Int) = ((n - m / 2 : Nat) : Int)
      omega
/-! ### Reverse -/
theorem rd_mid (P S : List Int) (z : Int) : rd (P ++ z :: S) (P.length : Int) = z := by
  rw [rdn (by simp)]
  simp
theorem reverse_l0 (A C : List Int) : ∀ (f : Nat) (M : List Int), M.length ≤ f → A.length + M.length + C.length ≤ 1000000000 →
    Ev (fun k => slices_Reverse_int_int.l0 k (A ++ M ++ C) (A.length : Int) (((A.length + M.length : Nat) : Int) - 1)) (A ++ M.reverse ++ C) := by
  intro f
  induction f using Nat.strongRecOn generalizing A C with
  | _ f ih =>
  intro M hf hn
  match M, hf, hn with
  | [], hf, hn =>
    refine Ev_succ ?_
    simp only [slices_Reverse_int_int.l0]
    exact Ev_false (by simp only [List.length_nil]; omega) (by simpa using Ev_some)
  | [x], hf, hn =>
    refine Ev_succ ?_
    simp only [slices_Reverse_int_int.l0]
    exact Ev_false (by simp only [List.length_cons, List.length_nil]; omega) (by simpa using Ev_some)
  | x :: y :: M, hf, hn =>
    obtain ⟨N, z, hN⟩ : ∃ N z, y :: M = N ++ [z] := ⟨(y :: M).dropLast, (y :: M).getLast (by simp), (List.dropLast_concat_getLast (by simp)).symm⟩
    rw [hN] at hf hn ⊢
    have hlen : (A ++ x :: (N ++ [z]) ++ C).length = A.length + N.length + 2 + C.length := by simp; omega
    have e1 : rd (A ++ x :: (N ++ [z]) ++ C) (A.length : Int) = x := by
      rw [rdn (by rw [hlen]; omega)]
      simp
    have e2 : rd (A ++ x :: (N ++ [z]) ++ C) ((A.length + N.length + 1 : Nat) : Int) = z := by
      have e : A ++ x :: (N ++ [z]) ++ C = (A ++ x :: N) ++ z :: C := by simp
      have e' : A.length + N.length + 1 = (A ++ x :: N).length := by simp; omega
      rw [e, e']
      exact rd_mid _ _ _
    have hl : (((A.length + (x :: (N ++ [z])).length : Nat) : Int) - 1) = ((A.length + N.length + 1 : Nat) : Int) := by simp; omega
    simp only [List.length_cons, List.length_append, List.length_nil] at hf hn
    refine Ev_succ ?_
    simp only [slices_Reverse_int_int.l0]
    rw [hl, e1, e2, w64 (x := (A.length : Int) + 1) (by omega) (by omega), w64 (x := ((A.length + N.length + 1 : Nat) : Int) - 1) (by omega) (by omega)]
    refine Ev_true (by omega) (Ev_true (by omega) (Ev_true (by rw [hlen]; omega) (Ev_true (by omega) (Ev_true (by rw [hlen]; omega) ?_))))
    have hs : ((A ++ x :: (N ++ [z]) ++ C).set (A.length : Int).toNat z).set ((A.length + N.length + 1 : Nat) : Int).toNat x = (A ++ [z]) ++ N ++ ([x] ++ C) := by
      rw [Int.toNat_natCast, Int.toNat_natCast]
      apply List.ext_getElem
      · simp
      · intro i h1 h2
        simp only [List.getElem_set, List.getElem_append, List.getElem_cons, List.length_append, List.length_cons, List.length_nil] at h1 h2 ⊢
        repeat' split
        all_goals first | rfl | omega | (congr 1; done) | (congr 1; omega) | (simp at *; done) | (exfalso; omega)
    rw [hs]
    have h := ih (N.length) (by omega) (A ++ [z]) ([x] ++ C) N (Nat.le_refl _) (by simp; omega)
    have g1 : (((A ++ [z]).length : Nat) : Int) = (A.length : Int) + 1 := by simp
    have g2 : (((A ++ [z]).length + N.length : Nat) : Int) - 1 = ((A.length + N.length + 1 : Nat) : Int) - 1 := by simp; omega
    rw [g1, g2] at h
    have g3 : A ++ (x :: (N ++ [z])).reverse ++ C = A ++ [z] ++ N.reverse ++ ([x] ++ C) := by simp
    rw [g3]
    exact h
theorem reverse_ev (M : List Int) (hn : M.length ≤ 1000000000) : Ev (fun k => slices_Reverse_int_int.f k M) M.reverse := by
  unfold slices_Reverse_int_int.f
  have h := reverse_l0 [] [] M.length M (Nat.le_refl _) (by simpa using hn)
  rw [w64 (x := (M.length : Int) - 1) (by omega) (by omega)]
  simpa using h
end Go.Proofs.Ytnfbkakblnppaaa.Q

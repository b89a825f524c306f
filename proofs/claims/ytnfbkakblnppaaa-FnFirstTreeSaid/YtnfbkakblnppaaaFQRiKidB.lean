/- Children, parents and words in the first tree, of both programs. -/
import Derived.Test.YtnfbkakblnppaaaFx1
import Derived.Test.YtnfbkakblnppaaaFx4
import Derived.Test.YtnfbkakblnppaaaFx7
import Derived.Test.YtnfbkakblnppaaaFx8
import Derived.Test.YtnfbkakblnppaaaFx12
import Derived.Test.YtnfbkakblnppaaaFx13
import Derived.Test.YtnfbkakblnppaaaFx14
import Derived.Test.YtnfbkakblnppaaaFQRi
namespace Go.Proofs.Ytnfbkakblnppaaa.Q
open Go.RowKit Go.Proofs.Ytnfbkakblnppaaa.P Go.Proofs.YtnfbkakblnppaaaW.PrintWords Go.Proofs.YtnfbkakblnppaaaW.PrintLast
theorem within_eq (a lo hi : Int) : impl_within.f a lo hi = some (decide (lo ≤ a ∧ a ≤ hi)) := by
  unfold impl_within.f
  by_cases h : lo ≤ a
  · rw [if_pos h]; simp [h]
  · rw [if_neg h]; simp [h]
theorem kid_more {m n : Nat} (h : PairN m n) (k : Nat) : m < (kid k m n).1 ∧ m * m + n * n < (kid k m n).1 * (kid k m n).1 + (kid k m n).2 * (kid k m n).2 := by
  have hl := h.lt
  have hp := h.pos
  have sq : ∀ {a b c d : Nat}, a < c → b ≤ d → a * a + b * b < c * c + d * d := fun h1 h2 => Nat.add_lt_add_of_lt_of_le (Nat.mul_self_lt_mul_self h1) (Nat.mul_le_mul h2 h2)
  match k with
  | 0 => exact ⟨by show m < 2 * m - n; omega, sq (show m < 2 * m - n by omega) (show n ≤ m by omega)⟩
  | 1 => exact ⟨by show m < 2 * m + n; omega, sq (show m < 2 * m + n by omega) (show n ≤ m by omega)⟩
  | 2 => exact ⟨by show m < m + 2 * n; omega, sq (show m < m + 2 * n by omega) (Nat.le_refl n)⟩
  | 3 => exact ⟨by show m < m + n; omega, sq (show m < m + n by omega) (show n ≤ 2 * n by omega)⟩
  | 4 =>
    refine ⟨by show m < 2 * m; omega, ?_⟩
    show m * m + n * n < 2 * m * (2 * m) + (m - n) * (m - n)
    have h1 : n * n ≤ m * m := Nat.mul_le_mul (by omega) (by omega)
    have h2 : 2 * m * (2 * m) = 4 * (m * m) := by grind
    have h3 : 1 * 1 ≤ m * m := Nat.mul_le_mul (by omega) (by omega)
    omega
  | k + 5 => exact ⟨by show m < 2 * m; omega, sq (show m < 2 * m by omega) (show n ≤ m + n by omega)⟩
theorem snoc_ind {α : Type} {P : List α → Prop} (h0 : P []) (h1 : ∀ w k, P w → P (w ++ [k])) : ∀ w, P w := by
  intro w
  have h : ∀ v : List α, P v.reverse := by
    intro v
    induction v with
    | nil => exact h0
    | cons a v ih => rw [List.reverse_cons]; exact h1 _ _ ih
  have := h w.reverse
  rwa [List.reverse_reverse] at this
/-! ### Words and pairs -/
def stp (o : Nat) (p : Nat × Nat) (k : Nat) : Nat × Nat := kid (k + o) p.1 p.2
def reach (o : Nat) (w : List Nat) : Nat × Nat := w.foldl (stp o) (2, 1)
theorem reach_snoc (o : Nat) (w : List Nat) (k : Nat) : reach o (w ++ [k]) = kid (k + o) (reach o w).1 (reach o w).2 := by
  simp [reach, stp]
def Digs (w : List Nat) : Prop := ∀ k ∈ w, k ≤ 2
theorem reach_pair (o : Nat) (w : List Nat) : PairN (reach o w).1 (reach o w).2 := by
  refine snoc_ind (P := fun w => PairN (reach o w).1 (reach o w).2) two_one (fun w k ih => ?_) w
  rw [reach_snoc]
  exact ih.kid _
theorem kid_grow {m n : Nat} (h : PairN m n) (k : Nat) : m < (kid k m n).1 ∧ m * m + n * n ≤ (kid k m n).1 * (kid k m n).1 + (kid k m n).2 * (kid k m n).2 := by
  have hl := h.lt
  have hp := h.pos
  have sq : ∀ {a b c d : Nat}, a ≤ c → b ≤ d → a * a + b * b ≤ c * c + d * d := fun h1 h2 => Nat.add_le_add (Nat.mul_le_mul h1 h1) (Nat.mul_le_mul h2 h2)
  match k with
  | 0 => exact ⟨by show m < 2 * m - n; omega, sq (show m ≤ 2 * m - n by omega) (show n ≤ m by omega)⟩
  | 1 => exact ⟨by show m < 2 * m + n; omega, sq (show m ≤ 2 * m + n by omega) (show n ≤ m by omega)⟩
  | 2 => exact ⟨by show m < m + 2 * n; omega, sq (show m ≤ m + 2 * n by omega) (Nat.le_refl n)⟩
  | 3 => exact ⟨by show m < m + n; omega, sq (show m ≤ m + n by omega) (show n ≤ 2 * n by omega)⟩
  | 4 =>
    refine ⟨by show m < 2 * m; omega, ?_⟩
    show m * m + n * n ≤ 2 * m * (2 * m) + (m - n) * (m - n)
    have h1 : n * n ≤ m * m := Nat.mul_le_mul (by omega) (by omega)
    have h2 : 2 * m * (2 * m) = 4 * (m * m) := by grind
    omega
  | k + 5 => exact ⟨by show m < 2 * m; omega, sq (show m ≤ 2 * m by omega) (show n ≤ m + n by omega)⟩
theorem reach_long (o : Nat) (w : List Nat) : w.length + 2 ≤ (reach o w).1 := by
  refine snoc_ind (P := fun w => w.length + 2 ≤ (reach o w).1) (Nat.le_refl 2) (fun w k ih => ?_) w
  rw [reach_snoc]
  have := (kid_grow (reach_pair o w) (k + o)).1
  simp only [List.length_append, List.length_singleton]
  omega
/-- Each pair has a word. -/
theorem has_word (o : Nat) (ho : o = 0 ∨ o = 3) : ∀ (f m n : Nat), m ≤ f → PairN m n → ∃ w, Digs w ∧ reach o w = (m, n)
  | 0, m, n, hf, h => by have := h.lt; omega
  | f + 1, m, n, hf, h => by
    by_cases e : m = 2 * n
    · obtain ⟨rfl, rfl⟩ := h.root e
      exact ⟨[], by intro k hk; simp at hk, rfl⟩
    · have hu : ∃ u, Ups m n o u := by
        rcases ho with rfl | rfl
        · exact ⟨_, upB_spec h e⟩
        · exact ⟨_, upP_spec h e⟩
      obtain ⟨u, h1, h2, h3, h4⟩ := hu
      obtain ⟨w, hw, he⟩ := has_word o ho f u.1 u.2.1 (by omega) h2
      refine ⟨w ++ [u.2.2], ?_, ?_⟩
      · intro k hk
        rcases List.mem_append.1 hk with hk | hk
        · exact hw k hk
        · rw [List.mem_singleton.1 hk]; exact h1
      · rw [reach_snoc, he]; exact h3
/-! ### Up -/
def upI (o m n : Nat) : Nat × Nat × Nat := if o = 0 then upB m n else upP m n
theorem upI_kid {o : Nat} (ho : o = 0 ∨ o = 3) {m n : Nat} (h : PairN m n) {k : Nat} (hk : k ≤ 2) : upI o (kid (k + o) m n).1 (kid (k + o) m n).2 = (m, n, k) ∧ (kid (k + o) m n).1 ≠ 2 * (kid (k + o) m n).2 := by
  rcases ho with rfl | rfl
  · exact upB_kid h k hk
  · exact upP_kid h k hk
def ups (o m n : Nat) : Int × Int × Int := if m = 2 * n then ((m : Int), (n : Int), -1) else (((upI o m n).1 : Int), ((upI o m n).2.1 : Int), ((upI o m n).2.2 : Int))
theorem berg2_eq {m n : Nat} (h : PairN m n) (hm : m ≤ 1000000) : impl_berg_2.f (m : Int) (n : Int) = some (ups 0 m n) := by
  have hl := h.lt
  unfold impl_berg_2.f ups upI upB
  rw [w64 (x := 2 * (n : Int)) (by omega) (by omega), w64 (x := 3 * (n : Int)) (by omega) (by omega), w64 (x := 2 * (n : Int) - m) (by omega) (by omega), w64 (x := (m : Int) - 2 * n) (by omega) (by omega), if_pos (show (0 : Nat) = 0 from rfl)]
  by_cases h1 : m < 2 * n
  · rw [if_pos (by omega), if_neg (by omega), if_pos h1]
    congr 2
    congr 1
    show 2 * (n : Int) - m = ((2 * n - m : Nat) : Int)
    omega
  · rw [if_neg (by omega)]
    by_cases h2 : m = 2 * n
    · rw [if_pos (by omega), if_pos h2]
    · rw [if_neg (by omega), if_neg h2, if_neg h1]
      by_cases h3 : m < 3 * n
      · rw [if_pos (by omega), if_pos h3]
        congr 2
        congr 1
        show (m : Int) - 2 * n = ((m - 2 * n : Nat) : Int)
        omega
      · rw [if_neg (by omega), if_neg h3]
        congr 2
        show (m : Int) - 2 * n = ((m - 2 * n : Nat) : Int)
        omega
theorem bergUp_eq {m n : Nat} (h : PairN m n) (hm : m ≤ 1000000) : spec_riBergUp.f (m : Int) (n : Int) = some (((upI 0 m n).1 : Int), ((upI 0 m n).2.1 : Int), ((upI 0 m n).2.2 : Int)) := by
  have hl := h.lt
  unfold spec_riBergUp.f upI upB
  rw [w64 (x := 2 * (n : Int)) (by omega) (by omega), w64 (x := 3 * (n : Int)) (by omega) (by omega), w64 (x := 2 * (n : Int) - m) (by omega) (by omega), w64 (x := (m : Int) - 2 * n) (by omega) (by omega), if_pos (show (0 : Nat) = 0 from rfl)]
  by_cases h1 : m < 2 * n
  · rw [if_pos (by omega), if_pos h1]
    congr 2
    congr 1
    show 2 * (n : Int) - m = ((2 * n - m : Nat) : Int)
    omega
  · rw [if_neg (by omega), if_neg h1]
    by_cases h3 : m < 3 * n
    · rw [if_pos (by omega), if_pos h3]
      congr 2
      congr 1
      show (m : Int) - 2 * n = ((m - 2 * n : Nat) : Int)
      omega
    · rw [if_neg (by omega), if_neg h3]
      congr 2
      show (m : Int) - 2 * n = ((m - 2 * n : Nat) : Int)
      omega
/-! ### Reverse -/
theorem rd_mid (P S : List Int) (z : Int) : rd (P ++ z :: S) (P.length : Int) = z := by
  rw [rdn (by simp)]
  simp
theorem reverse_l0 (A C : List Int) : ∀ (f : Nat) (M : List Int), M.length ≤ f → A.length + M.length + C.length ≤ 1000000000 →
    Ev (fun k => slices_Reverse_int_int.l0 k (A ++ M ++ C) (A.length : Int) (((A.length + M.length : Nat) : Int) - 1)) (A ++ M.reverse ++ C) := by
  intro f
  induction f using Nat.strongRecOn generalizing A C with
  | _ f ih =>
  intro M hf hn
  match M, hf, hn with
  | [], hf, hn =>
    refine Ev_succ ?_
    simp only [slices_Reverse_int_int.l0]
    exact Ev_false (by simp only [List.length_nil]; omega) (by simpa using Ev_some)
  | [x], hf, hn =>
    refine Ev_succ ?_
    simp only [slices_Reverse_int_int.l0]
    exact Ev_false (by simp only [List.length_cons, List.length_nil]; omega) (by simpa using Ev_some)
  | x :: y :: M, hf, hn =>
    obtain ⟨N, z, hN⟩ : ∃ N z, y :: M = N ++ [z] := ⟨(y :: M).dropLast, (y :: M).getLast (by simp), (List.dropLast_concat_getLast (by simp)).symm⟩
    rw [hN] at hf hn ⊢
    have hlen : (A ++ x :: (N ++ [z]) ++ C).length = A.length + N.length + 2 + C.length := by simp; omega
    have e1 : rd (A ++ x :: (N ++ [z]) ++ C) (A.length : Int) = x := by
      rw [rdn (by rw [hlen]; omega)]
      simp
    have e2 : rd (A ++ x :: (N ++ [z]) ++ C) ((A.length + N.length + 1 : Nat) : Int) = z := by
      have e : A ++ x :: (N ++ [z]) ++ C = (A ++ x :: N) ++ z :: C := by simp
      have e' : A.length + N.length + 1 = (A ++ x :: N).length := by simp; omega
      rw [e, e']
      exact rd_mid _ _ _
    have hl : (((A.length + (x :: (N ++ [z])).length : Nat) : Int) - 1) = ((A.length + N.length + 1 : Nat) : Int) := by simp; omega
    simp only [List.length_cons, List.length_append, List.length_nil] at hf hn
    refine Ev_succ ?_
    simp only [slices_Reverse_int_int.l0]
    rw [hl, e1, e2, w64 (x := (A.length : Int) + 1) (by omega) (by omega), w64 (x := ((A.length + N.length + 1 : Nat) : Int) - 1) (by omega) (by omega)]
    refine Ev_true (by omega) (Ev_true (by omega) (Ev_true (by rw [hlen]; omega) (Ev_true (by omega) (Ev_true (by rw [hlen]; omega) ?_))))
    have hs : ((A ++ x :: (N ++ [z]) ++ C).set (A.length : Int).toNat z).set ((A.length + N.length + 1 : Nat) : Int).toNat x = (A ++ [z]) ++ N ++ ([x] ++ C) := by
      rw [Int.toNat_natCast, Int.toNat_natCast]
      apply List.ext_getElem
      · simp
      · intro i h1 h2
        simp only [List.getElem_set, List.getElem_append, List.getElem_cons, List.length_append, List.length_cons, List.length_nil] at h1 h2 ⊢
        repeat' split
        all_goals first | rfl | omega | (congr 1; done) | (congr 1; omega) | (simp at *; done) | (exfalso; omega)
    rw [hs]
    have h := ih (N.length) (by omega) (A ++ [z]) ([x] ++ C) N (Nat.le_refl _) (by simp; omega)
    have g1 : (((A ++ [z]).length : Nat) : Int) = (A.length : Int) + 1 := by simp
    have g2 : (((A ++ [z]).length + N.length : Nat) : Int) - 1 = ((A.length + N.length + 1 : Nat) : Int) - 1 := by simp; omega
    rw [g1, g2] at h
    have g3 : A ++ (x :: (N ++ [z])).reverse ++ C = A ++ [z] ++ N.reverse ++ ([x] ++ C) := by simp
    rw [g3]
    exact h
theorem reverse_ev (M : List Int) (hn : M.length ≤ 1000000000) : Ev (fun k => slices_Reverse_int_int.f k M) M.reverse := by
  unfold slices_Reverse_int_int.f
  have h := reverse_l0 [] [] M.length M (Nat.le_refl _) (by simpa using hn)
  rw [w64 (x := (M.length : Int) - 1) (by omega) (by omega)]
  simpa using h
def toI (w : List Nat) : List Int := w.map Int.ofNat
theorem toI_snoc (w : List Nat) (k : Nat) : toI (w ++ [k]) = toI w ++ [(k : Int)] := by simp [toI]
theorem toI_len (w : List Nat) : (toI w).length = w.length := by simp [toI]
def sumP (o : Nat) (w : List Nat) : Nat := (reach o w).1 * (reach o w).1 + (reach o w).2 * (reach o w).2
theorem sum_mono (o : Nat) (v : List Nat) : ∀ s, sumP o v ≤ sumP o (v ++ s) := by
  intro s
  refine snoc_ind (P := fun s => sumP o v ≤ sumP o (v ++ s)) (by simp) (fun s k ih => ?_) s
  rw [← List.append_assoc]
  refine Nat.le_trans ih ?_
  unfold sumP
  rw [reach_snoc]
  exact (kid_grow (reach_pair o (v ++ s)) (k + o)).2
theorem sum_small {o : Nat} {w : List Nat} (h : sumP o w ≤ 1000000000) : (reach o w).1 ≤ 31622 ∧ OkP (reach o w).1 (reach o w).2 ∧ w.length ≤ 31622 := by
  have hok : OkP (reach o w).1 (reach o w).2 := ⟨reach_pair o w, h⟩
  have := reach_long o w
  have := hok.small
  exact ⟨this, hok, by omega⟩
theorem sum_pre {o : Nat} {w : List Nat} {k : Nat} (h : sumP o (w ++ [k]) ≤ 1000000000) : sumP o w ≤ 1000000000 := Nat.le_trans (sum_mono o w [k]) h
theorem kid_le {m n : Nat} (h : PairN m n) {k : Nat} : (kid k m n).1 ≤ 3 * m := by
  have hl := h.lt
  match k with
  | 0 => show 2 * m - n ≤ 3 * m; omega
  | 1 => show 2 * m + n ≤ 3 * m; omega
  | 2 => show m + 2 * n ≤ 3 * m; omega
  | 3 => show m + n ≤ 3 * m; omega
  | 4 => show 2 * m ≤ 3 * m; omega
  | k + 5 => show 2 * m ≤ 3 * m; omega
/-! ### The berg tree -/
theorem berg1_eq {m n : Nat} (h : PairN m n) (hm : m ≤ 1000000) {k : Nat} (hk : k ≤ 2) : impl_berg_1.f (m : Int) (n : Int) (k : Int) = some (((kid (k + 0) m n).1 : Int), ((kid (k + 0) m n).2 : Int)) := by
  have hl := h.lt
  unfold impl_berg_1.f
  simp only [Option.bind_some, List.length_cons, List.length_nil]
  rw [if_pos (show (0 : Int) ≤ (k : Int) by omega), if_pos (show (k : Int) < ((0 + 1 + 1 + 1 : Nat) : Int) by omega)]
  rcases (show k = 0 ∨ k = 1 ∨ k = 2 by omega) with rfl | rfl | rfl
  · show some (wrap64 (wrap64 (2 * (m : Int)) - n), (m : Int)) = some (((2 * m - n : Nat) : Int), ((m : Nat) : Int))
    congr 1
    refine Prod.ext ?_ ?_
    · show wrap64 (wrap64 (2 * (m : Int)) - n) = ((2 * m - n : Nat) : Int)
      unfold wrap64; omega
    · show (m : Int) = ((m : Nat) : Int)
      first | rfl | (unfold wrap64; omega)
  · show some (wrap64 (wrap64 (2 * (m : Int)) + n), (m : Int)) = some (((2 * m + n : Nat) : Int), ((m : Nat) : Int))
    congr 1
    refine Prod.ext ?_ ?_
    · show wrap64 (wrap64 (2 * (m : Int)) + n) = ((2 * m + n : Nat) : Int)
      unfold wrap64; omega
    · show (m : Int) = ((m : Nat) : Int)
      first | rfl | (unfold wrap64; omega)
  · show some (wrap64 ((m : Int) + wrap64 (2 * (n : Int))), (n : Int)) = some (((m + 2 * n : Nat) : Int), ((n : Nat) : Int))
    congr 1
    refine Prod.ext ?_ ?_
    · show wrap64 ((m : Int) + wrap64 (2 * (n : Int))) = ((m + 2 * n : Nat) : Int)
      unfold wrap64; omega
    · show (n : Int) = ((n : Nat) : Int)
      first | rfl | (unfold wrap64; omega)
theorem riBerg_eq {m n : Nat} (h : PairN m n) (hm : m ≤ 1000000) {k : Nat} (hk : k ≤ 2) : spec_riBerg.f (m : Int) (n : Int) (k : Int) = some (((kid (k + 0) m n).1 : Int), ((kid (k + 0) m n).2 : Int)) := by
  have hl := h.lt
  unfold spec_riBerg.f
  rcases (show k = 0 ∨ k = 1 ∨ k = 2 by omega) with rfl | rfl | rfl
  · rw [if_pos (by omega)]
    show some (wrap64 (wrap64 (2 * (m : Int)) - n), (m : Int)) = some (((2 * m - n : Nat) : Int), ((m : Nat) : Int))
    congr 1
    refine Prod.ext ?_ ?_
    · show wrap64 (wrap64 (2 * (m : Int)) - n) = ((2 * m - n : Nat) : Int)
      unfold wrap64; omega
    · show (m : Int) = ((m : Nat) : Int)
      first | rfl | (unfold wrap64; omega)
  · rw [if_neg (by omega), if_pos (by omega)]
    show some (wrap64 (wrap64 (2 * (m : Int)) + n), (m : Int)) = some (((2 * m + n : Nat) : Int), ((m : Nat) : Int))
    congr 1
    refine Prod.ext ?_ ?_
    · show wrap64 (wrap64 (2 * (m : Int)) + n) = ((2 * m + n : Nat) : Int)
      unfold wrap64; omega
    · show (m : Int) = ((m : Nat) : Int)
      first | rfl | (unfold wrap64; omega)
  · rw [if_neg (by omega), if_neg (by omega)]
    show some (wrap64 ((m : Int) + wrap64 (2 * (n : Int))), (n : Int)) = some (((m + 2 * n : Nat) : Int), ((n : Nat) : Int))
    congr 1
    refine Prod.ext ?_ ?_
    · show wrap64 ((m : Int) + wrap64 (2 * (n : Int))) = ((m + 2 * n : Nat) : Int)
      unfold wrap64; omega
    · show (n : Int) = ((n : Nat) : Int)
      first | rfl | (unfold wrap64; omega)
theorem upsB_snoc {w : List Nat} {k : Nat} (hk : k ≤ 2) : ups 0 (reach 0 (w ++ [k])).1 (reach 0 (w ++ [k])).2 = (((reach 0 w).1 : Int), ((reach 0 w).2 : Int), (k : Int)) := by
  obtain ⟨h1, h2⟩ := upI_kid (o := 0) (by omega) (reach_pair 0 w) hk
  rw [reach_snoc]
  unfold ups
  rw [if_neg h2, h1]
theorem wordOfB_ev (w : List Nat) : Digs w → sumP 0 w ≤ 1000000000 → ∀ acc : List Int, acc.length + w.length ≤ 1000000 → Ev (fun j => impl_tree_wordOfB.l0 j acc (ups 0 (reach 0 w).1 (reach 0 w).2).2.2 (ups 0 (reach 0 w).1 (reach 0 w).2).1 (ups 0 (reach 0 w).1 (reach 0 w).2).2.1) (toI w ++ acc.reverse, true) := by
  refine snoc_ind (P := fun w => Digs w → sumP 0 w ≤ 1000000000 → ∀ acc : List Int, acc.length + w.length ≤ 1000000 → Ev (fun j => impl_tree_wordOfB.l0 j acc (ups 0 (reach 0 w).1 (reach 0 w).2).2.2 (ups 0 (reach 0 w).1 (reach 0 w).2).1 (ups 0 (reach 0 w).1 (reach 0 w).2).2.1) (toI w ++ acc.reverse, true)) (fun hd hs acc hn => ?_) (fun w k ih hd hs acc hn => ?_) w
  · rw [show ups 0 (reach 0 []).1 (reach 0 []).2 = (2, 1, -1) from rfl]
    refine Ev_succ ?_
    simp only [impl_tree_wordOfB.l0]
    refine Ev_false (by omega) (Ev.bind (f := fun _ (t : List Int) => some (t, true)) (reverse_ev acc (by omega)) Ev_some)
  · have hk : k ≤ 2 := hd k (by simp)
    have hs0 := sum_pre hs
    obtain ⟨b1, b2, b3⟩ := sum_small hs0
    rw [upsB_snoc hk]
    refine Ev_succ ?_
    simp only [impl_tree_wordOfB.l0]
    rw [berg2_eq b2.1 (by omega)]
    simp only [Option.bind_some]
    simp only [List.length_append, List.length_singleton] at hn
    have h := ih (fun x hx => hd x (by simp [hx])) hs0 (acc ++ [(k : Int)]) (by simp only [List.length_append, List.length_singleton]; omega)
    rw [show toI (w ++ [k]) ++ acc.reverse = toI w ++ (acc ++ [(k : Int)]).reverse by rw [toI_snoc]; simp]
    exact Ev_true (by omega) (Ev_true (by omega) h)
theorem wordB_trip {w : List Nat} (hd : Digs w) (hs : sumP 0 w ≤ 1000000000) : Ev (fun j => impl_BergWord.f j (trip (reach 0 w).1 (reach 0 w).2)) (toI w, true) := by
  obtain ⟨b1, b2, b3⟩ := sum_small hs
  unfold impl_BergWord.f impl_berg.f
  simp only [Option.bind_some]
  refine Ev.bind (a := (toI w, true)) (f := fun _ (b : List Int × Bool) => some (b.1, b.2)) ?_ Ev_some
  unfold impl_tree_wordOfB.f
  have h1 := isRight_ev (trip (reach 0 w).1 (reach 0 w).2)
  rw [isR_true ⟨_, _, b2, rfl⟩] at h1
  refine Ev.bind h1 (Ev_true rfl (Ev.bind (pairOf_ev b2) ?_))
  simp only
  rw [berg2_eq b2.1 (by omega)]
  simp only [Option.bind_some]
  have h := wordOfB_ev w hd hs [] (by simp; omega)
  simpa using h
theorem rightP_good {m n : Nat} (h : OkP m n) : rightP m n = (trip m n, true) := if_pos h.2
/-- A child. -/
theorem child_good {m n k : Nat} (h : OkP m n) (hk : k ≤ 2) : Ev (fun j => impl_BergChild.f j (trip m n) (k : Int)) (rightP (kid (k + 0) m n).1 (kid (k + 0) m n).2) ∧ Ev (fun j => spec_BergChild.f j (trip m n) (k : Int)) (rightP (kid (k + 0) m n).1 (kid (k + 0) m n).2) := by
  have hs := h.small
  have hkp := h.1.kid (k + 0)
  have hkl := hkp.lt
  have hle := kid_le h.1 (k := k + 0)
  have h1 := isRight_ev (trip m n)
  have h2 := riGood_ev (trip m n)
  rw [isR_true ⟨_, _, h, rfl⟩] at h1 h2
  constructor
  · unfold impl_BergChild.f impl_berg.f
    simp only [Option.bind_some]
    refine Ev.bind (f := fun _ (b : List Int × Bool) => some (b.1, b.2)) (a := rightP (kid (k + 0) m n).1 (kid (k + 0) m n).2) ?_ Ev_some
    unfold impl_tree_childOfB.f
    rw [within_eq]
    simp only [Option.bind_some]
    refine Ev.bind h1 (Ev_true rfl ?_)
    rw [decide_eq_true (show (0 : Int) ≤ (k : Int) ∧ (k : Int) ≤ 2 by omega)]
    refine Ev_succ ?_
    simp only [impl_tree_childOfB.j0]
    refine Ev_false (by simp) (Ev.bind (pairOf_ev h) ?_)
    simp only
    rw [berg1_eq h.1 (by omega) hk]
    simp only [Option.bind_some]
    rw [right_eq (Nat.le_of_lt hkl)]
    exact Ev_some
  · unfold spec_BergChild.f
    rw [in_eq]
    simp only [Option.bind_some]
    refine Ev.bind h2 (Ev_true rfl ?_)
    rw [decide_eq_true (show (0 : Int) ≤ (k : Int) ∧ (k : Int) ≤ 2 by omega)]
    refine Ev_succ ?_
    simp only [spec_BergChild.j0]
    refine Ev_false (by simp) (Ev.bind (back_trip h) ?_)
    simp only
    rw [riBerg_eq h.1 (by omega) hk]
    simp only [Option.bind_some]
    refine Ev.bind (f := fun _ (b : List Int × Bool) => some (b.1, b.2)) (a := rightP (kid (k + 0) m n).1 (kid (k + 0) m n).2) ?_ Ev_some
    unfold spec_riIf.f
    refine Ev.bind (riPair_ev (by omega) (by omega)) ?_
    by_cases hq : OkP (kid (k + 0) m n).1 (kid (k + 0) m n).2
    · have := hq.small
      rw [rightP_good hq, riOf_eq (Nat.le_of_lt hkl) (by omega)]
      exact Ev_true (decide_eq_true hq) Ev_some
    · rw [show rightP (kid (k + 0) m n).1 (kid (k + 0) m n).2 = ([], false) from if_neg (fun q => hq ⟨hkp, q⟩)]
      exact Ev_false (by simpa using hq) Ev_some
theorem child_no {t : List Int} {k : Int} (h : ¬ (GoodT t ∧ 0 ≤ k ∧ k ≤ 2)) : Ev (fun j => impl_BergChild.f j t k) (([] : List Int), false) ∧ Ev (fun j => spec_BergChild.f j t k) (([] : List Int), false) := by
  have h1 := isRight_ev t
  have h2 := riGood_ev t
  have j1 : Ev (fun j => impl_tree_childOfB.j0 j t k true) (([] : List Int), false) := by
    refine Ev_succ ?_
    simp only [impl_tree_childOfB.j0]
    exact Ev_true trivial Ev_some
  have j2 : Ev (fun j => spec_BergChild.j0 j t k true) (([] : List Int), false) := by
    refine Ev_succ ?_
    simp only [spec_BergChild.j0]
    exact Ev_true trivial Ev_some
  constructor
  · unfold impl_BergChild.f impl_berg.f
    simp only [Option.bind_some]
    refine Ev.bind (f := fun _ (b : List Int × Bool) => some (b.1, b.2)) (a := (([] : List Int), false)) ?_ Ev_some
    unfold impl_tree_childOfB.f
    rw [within_eq]
    simp only [Option.bind_some]
    refine Ev.bind h1 ?_
    by_cases hg : GoodT t
    · rw [isR_true hg, decide_eq_false (fun q => h ⟨hg, q⟩)]
      exact Ev_true rfl j1
    · rw [isR_false hg]
      exact Ev_false (by simp) j1
  · unfold spec_BergChild.f
    rw [in_eq]
    simp only [Option.bind_some]
    refine Ev.bind h2 ?_
    by_cases hg : GoodT t
    · rw [isR_true hg, decide_eq_false (fun q => h ⟨hg, q⟩)]
      exact Ev_true rfl j2
    · rw [isR_false hg]
      exact Ev_false (by simp) j2
theorem five {m n : Nat} (h : OkP m n) : m * m + n * n = 5 ↔ m = 2 * n := by
  have hl := h.1.lt
  have hp := h.1.pos
  constructor
  · intro e
    have h1 : m < 3 := sq_lt (by have : 3 * 3 = 9 := rfl; omega)
    omega
  · intro e
    obtain ⟨rfl, rfl⟩ := h.1.root e
    rfl
theorem len_trip (m n : Nat) : ((trip m n).length : Int) = 3 := rfl
theorem rd2_trip (m n : Nat) : rd (trip m n) 2 = ((m * m + n * n : Nat) : Int) := rfl
/-- A parent. -/
theorem parent_good {m n : Nat} (h : OkP m n) (hr : m ≠ 2 * n) : Ev (fun j => impl_BergParent.f j (trip m n)) (trip (upB m n).1 (upB m n).2.1, (((upB m n).2.2 : Nat) : Int), true) ∧ Ev (fun j => spec_BergParent.f j (trip m n)) (trip (upB m n).1 (upB m n).2.1, (((upB m n).2.2 : Nat) : Int), true) ∧ OkP (upB m n).1 (upB m n).2.1 ∧ (upB m n).2.2 ≤ 2 ∧ kid ((upB m n).2.2 + 0) (upB m n).1 (upB m n).2.1 = (m, n) := by
  have hs := h.small
  have h1 := isRight_ev (trip m n)
  have h2 := riGood_ev (trip m n)
  rw [isR_true ⟨_, _, h, rfl⟩] at h1 h2
  obtain ⟨u1, u2, u3, u4⟩ := upB_spec h.1 hr
  have hg := (kid_more u2 ((upB m n).2.2 + 0)).2
  rw [u3] at hg
  simp only at hg
  have hok : OkP (upB m n).1 (upB m n).2.1 := ⟨u2, by have := h.2; omega⟩
  refine ⟨?_, ?_, hok, u1, u3⟩
  · unfold impl_BergParent.f impl_berg.f
    simp only [Option.bind_some]
    refine Ev.bind (f := fun _ (b : List Int × Int × Bool) => some (b.1, b.2.1, b.2.2)) (a := (trip (upB m n).1 (upB m n).2.1, (((upB m n).2.2 : Nat) : Int), true)) ?_ Ev_some
    unfold impl_tree_parentOfB.f
    refine Ev.bind h1 (Ev_true rfl (Ev.bind (pairOf_ev h) ?_))
    simp only
    rw [berg2_eq h.1 (by omega), show ups 0 m n = (((upB m n).1 : Int), ((upB m n).2.1 : Int), ((upB m n).2.2 : Int)) from if_neg hr]
    simp only [Option.bind_some]
    rw [right_eq (Nat.le_of_lt u2.lt), rightP_good hok]
    exact Ev_false (by omega) Ev_some
  · unfold spec_BergParent.f
    rw [len_trip, rd2_trip]
    refine Ev.bind h2 (Ev_true rfl (Ev_true (by omega) ?_))
    have hb : ((((m * m + n * n : Nat) : Int)) == 5) = false := by
      rw [beq_eq_false_iff_ne]
      intro e
      exact hr ((five h).1 (by omega))
    rw [hb]
    refine Ev_succ ?_
    simp only [spec_BergParent.j0]
    refine Ev_false (by simp) (Ev.bind (back_trip h) ?_)
    simp only
    rw [bergUp_eq h.1 (by omega), show upI 0 m n = upB m n from rfl]
    simp only [Option.bind_some]
    rw [riOf_eq (Nat.le_of_lt u2.lt) (by omega)]
    exact Ev_some
theorem parent_root {m n : Nat} (h : OkP m n) (hr : m = 2 * n) : Ev (fun j => impl_BergParent.f j (trip m n)) (([] : List Int), 0, false) ∧ Ev (fun j => spec_BergParent.f j (trip m n)) (([] : List Int), 0, false) := by
  have h1 := isRight_ev (trip m n)
  have h2 := riGood_ev (trip m n)
  rw [isR_true ⟨_, _, h, rfl⟩] at h1 h2
  have hn := h.1.root hr
  constructor
  · unfold impl_BergParent.f impl_berg.f
    simp only [Option.bind_some]
    refine Ev.bind (f := fun _ (b : List Int × Int × Bool) => some (b.1, b.2.1, b.2.2)) (a := (([] : List Int), 0, false)) ?_ Ev_some
    unfold impl_tree_parentOfB.f
    refine Ev.bind h1 (Ev_true rfl (Ev.bind (pairOf_ev h) ?_))
    simp only
    rw [berg2_eq h.1 (by have := h.small; omega), show ups 0 m n = ((m : Int), (n : Int), -1) from if_pos hr]
    simp only [Option.bind_some]
    exact Ev_true (by omega) Ev_some
  · unfold spec_BergParent.f
    rw [len_trip, rd2_trip, (five h).2 hr]
    refine Ev.bind h2 (Ev_true rfl (Ev_true (by omega) ?_))
    refine Ev_succ ?_
    simp only [spec_BergParent.j0]
    exact Ev_true rfl Ev_some
theorem parent_no {t : List Int} (h : ¬ GoodT t) : Ev (fun j => impl_BergParent.f j t) (([] : List Int), 0, false) ∧ Ev (fun j => spec_BergParent.f j t) (([] : List Int), 0, false) := by
  have h1 := isRight_ev t
  have h2 := riGood_ev t
  rw [isR_false h] at h1 h2
  constructor
  · unfold impl_BergParent.f impl_berg.f
    simp only [Option.bind_some]
    refine Ev.bind (f := fun _ (b : List Int × Int × Bool) => some (b.1, b.2.1, b.2.2)) (a := (([] : List Int), 0, false)) ?_ Ev_some
    unfold impl_tree_parentOfB.f
    exact Ev.bind h1 (Ev_false (by simp) Ev_some)
  · unfold spec_BergParent.f
    refine Ev.bind h2 (Ev_false (by simp) ?_)
    refine Ev_succ ?_
    simp only [spec_BergParent.j0]
    exact Ev_true trivial Ev_some
end Go.Proofs.Ytnfbkakblnppaaa.Q

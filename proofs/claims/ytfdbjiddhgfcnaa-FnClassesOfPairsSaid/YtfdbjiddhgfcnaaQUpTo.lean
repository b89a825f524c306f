/- All pairs up to a bound, or the least ones of them alone. -/
import Derived.Test.YtfdbjiddhgfcnaaPx2
import Derived.Test.YtfdbjiddhgfcnaaPx3
import Derived.Test.YtfdbjiddhgfcnaaQPair
namespace Go.Proofs.Ytfdbjiddhgfcnaa.Q
open Go.RowKit Go.Proofs.Ytfdbjiddhgfcnaa.P Go.Proofs.YtfdbjiddhgfcnaaW.PrintWords Go.Proofs.YtfdbjiddhgfcnaaW.PrintLast
def falls (k x y : Int) : Prop := 0 ≤ k * y - x ∧ k * y - x < x
instance (k x y : Int) : Decidable (falls k x y) := inferInstanceAs (Decidable (_ ∧ _))
/-- A pair, of the least ones if b. -/
def okP (b : Bool) (k c x y : Int) : Prop := Pr k c x y ∧ (b = true → ¬ falls k x y)
instance (b : Bool) (k c x y : Int) : Decidable (okP b k c x y) := inferInstanceAs (Decidable (_ ∧ _))
def rowP (b : Bool) (k c x : Int) : Nat → Int → List (Int × Int)
  | 0, _ => []
  | d + 1, y => if okP b k c x y then (x, y) :: rowP b k c x d (y + 1) else rowP b k c x d (y + 1)
def allP (b : Bool) (k c : Int) : Nat → Int → List (Int × Int)
  | 0, _ => []
  | d + 1, x => rowP b k c x (x.toNat + 1) 0 ++ allP b k c d (x + 1)
def rows2 (L : List (Int × Int)) : List (List Int) := L.map fun p => [p.1, p.2]
theorem rows2_append (L M : List (Int × Int)) : rows2 (L ++ M) = rows2 L ++ rows2 M := List.map_append
theorem rows2_length (L : List (Int × Int)) : (rows2 L).length = L.length := List.length_map ..
theorem rowP_len (b : Bool) (k c x : Int) : ∀ (d : Nat) (y : Int), (rowP b k c x d y).length ≤ d
  | 0, _ => by simp [rowP]
  | d + 1, y => by
    have := rowP_len b k c x d (y + 1)
    simp only [rowP]
    split
    · simp only [List.length_cons]; omega
    · omega
theorem rowP_mem {b : Bool} {k c x : Int} : ∀ (d : Nat) (y : Int) (p : Int × Int), p ∈ rowP b k c x d y ↔ p.1 = x ∧ y ≤ p.2 ∧ p.2 < y + d ∧ okP b k c x p.2
  | 0, y, p => by simp only [rowP, List.not_mem_nil, false_iff]; omega
  | d + 1, y, p => by
    have ih := rowP_mem (b := b) (k := k) (c := c) (x := x) d (y + 1) p
    simp only [rowP]
    split
    · rename_i h
      rw [List.mem_cons, ih]
      constructor
      · rintro (rfl | ⟨h1, h2, h3, h4⟩)
        · exact ⟨rfl, Int.le_refl _, by show y < y + ((d + 1 : Nat) : Int); omega, h⟩
        · exact ⟨h1, by omega, by omega, h4⟩
      · rintro ⟨h1, h2, h3, h4⟩
        by_cases e : p.2 = y
        · exact .inl (Prod.ext h1 e)
        · exact .inr ⟨h1, by omega, by omega, h4⟩
    · rename_i h
      rw [ih]
      constructor
      · rintro ⟨h1, h2, h3, h4⟩
        exact ⟨h1, by omega, by omega, h4⟩
      · rintro ⟨h1, h2, h3, h4⟩
        refine ⟨h1, ?_, by omega, h4⟩
        by_cases e : p.2 = y
        · rw [e] at h4; exact absurd h4 h
        · omega
theorem allP_mem {b : Bool} {k c : Int} : ∀ (d : Nat) (x : Int) (p : Int × Int), 0 ≤ x → (p ∈ allP b k c d x ↔ x ≤ p.1 ∧ p.1 < x + d ∧ okP b k c p.1 p.2)
  | 0, x, p, hx => by simp only [allP, List.not_mem_nil, false_iff]; omega
  | d + 1, x, p, hx => by
    have ih := allP_mem (b := b) (k := k) (c := c) d (x + 1) p (by omega)
    simp only [allP]
    rw [List.mem_append, rowP_mem, ih]
    constructor
    · rintro (⟨h1, h2, h3, h4⟩ | ⟨h1, h2, h3⟩)
      · rw [h1]; exact ⟨Int.le_refl _, by omega, h4⟩
      · exact ⟨by omega, by omega, h3⟩
    · rintro ⟨h1, h2, h3⟩
      by_cases e : p.1 = x
      · have := h3.1.1
        have := h3.1.2.1
        exact .inl ⟨e, by omega, by omega, by rw [← e]; exact h3⟩
      · exact .inr ⟨by omega, by omega, h3⟩
def lexLt (p q : Int × Int) : Prop := p.1 < q.1 ∨ p.1 = q.1 ∧ p.2 < q.2
theorem rowP_sorted (b : Bool) (k c x : Int) : ∀ (d : Nat) (y : Int), (rowP b k c x d y).Pairwise lexLt
  | 0, _ => List.Pairwise.nil
  | d + 1, y => by
    have ih := rowP_sorted b k c x d (y + 1)
    simp only [rowP]
    split
    · refine List.Pairwise.cons (fun q hq => ?_) ih
      have := (rowP_mem d (y + 1) q).1 hq
      exact .inr ⟨this.1.symm, by show y < q.2; omega⟩
    · exact ih
theorem allP_sorted (b : Bool) (k c : Int) : ∀ (d : Nat) (x : Int), 0 ≤ x → (allP b k c d x).Pairwise lexLt
  | 0, _, _ => List.Pairwise.nil
  | d + 1, x, hx => by
    simp only [allP]
    rw [List.pairwise_append]
    refine ⟨rowP_sorted b k c x _ _, allP_sorted b k c d (x + 1) (by omega), fun p hp q hq => .inl ?_⟩
    have h1 := (rowP_mem _ _ p).1 hp
    have h2 := (allP_mem d (x + 1) q (by omega)).1 hq
    omega
theorem rowP_le (k c x : Int) : ∀ (d : Nat) (y : Int), (rowP true k c x d y).length ≤ (rowP false k c x d y).length
  | 0, _ => Nat.le_refl _
  | d + 1, y => by
    have ih := rowP_le k c x d (y + 1)
    simp only [rowP]
    by_cases h : okP true k c x y
    · rw [if_pos h, if_pos (show okP false k c x y from ⟨h.1, by simp⟩)]
      simp only [List.length_cons]; omega
    · rw [if_neg h]
      split
      · simp only [List.length_cons]; omega
      · exact ih
theorem allP_le (k c : Int) : ∀ (d : Nat) (x : Int), (allP true k c d x).length ≤ (allP false k c d x).length
  | 0, _ => Nat.le_refl _
  | d + 1, x => by
    have h1 := allP_le k c d (x + 1)
    have h2 := rowP_le k c x (x.toNat + 1) 0
    simp only [allP, List.length_append]
    omega
section
variable {k c : Int} (hk : KC k c)
include hk
theorem falls_eq {x y : Int} (h : Pr k c x y) : impl_ClassesUpTo_1.f x y k = some (decide (¬ falls k x y)) := by
  unfold impl_ClassesUpTo_1.f
  rw [jumpDown_eq hk h]
  simp only [Option.bind_some]
  unfold downR
  by_cases hf : falls k x y
  · rw [if_pos (show 0 ≤ k * y - x ∧ k * y - x < x from hf)]
    simp [hf]
  · rw [if_neg (show ¬ (0 ≤ k * y - x ∧ k * y - x < x) from hf)]
    simp [hf]
theorem pairsA_l1 {m1 x : Int} (hx : x ≤ 200) {r : List (List Int) × Bool} : ∀ (d : Nat) (y : Int) (L : List (List Int)), 0 ≤ y → y + d = x + 1 → L.length + d ≤ 1000000 →
    Ev (fun j => impl_pairsByA.l0 j k c (L ++ rows2 (rowP false k c x d y)) m1 (x + 1)) r → Ev (fun j => impl_pairsByA.l1 j k c L x m1 x (x + 1) y) r
  | 0, y, L, hy, hd, hn, h => by
    refine Ev_succ ?_
    simp only [impl_pairsByA.l1]
    rw [w64 (x := x + 1) (by omega) (by omega)]
    refine Ev_false (by omega) ?_
    simpa [rowP, rows2] using h
  | d + 1, y, L, hy, hd, hn, h => by
    refine Ev_succ ?_
    simp only [impl_pairsByA.l1]
    rw [isJump_eq hk, w64 (x := y + 1) (by omega) (by omega)]
    simp only [Option.bind_some, impl_PairsUpTo_1.f]
    refine Ev_true (by omega) ?_
    simp only [rowP] at h
    by_cases hp : Pr k c x y
    · rw [if_pos (show okP false k c x y from ⟨hp, by simp⟩)] at h
      refine Ev_true (decide_eq_true hp) (Ev_true trivial (Ev_true (by omega) (pairsA_l1 hx d (y + 1) _ (by omega) (by omega) (by simp; omega) ?_)))
      simpa [rows2] using h
    · rw [if_neg (fun q => hp q.1)] at h
      exact Ev_false (by simpa using hp) (pairsA_l1 hx d (y + 1) _ (by omega) (by omega) (by omega) h)
theorem pairsB_l1 {m1 x : Int} (hx : x ≤ 200) {r : List (List Int) × Bool} : ∀ (d : Nat) (y : Int) (L : List (List Int)), 0 ≤ y → y + d = x + 1 → L.length + d ≤ 1000000 →
    Ev (fun j => impl_pairsByB.l0 j k c (L ++ rows2 (rowP true k c x d y)) m1 (x + 1)) r → Ev (fun j => impl_pairsByB.l1 j k c L x m1 x (x + 1) y) r
  | 0, y, L, hy, hd, hn, h => by
    refine Ev_succ ?_
    simp only [impl_pairsByB.l1]
    rw [w64 (x := x + 1) (by omega) (by omega)]
    refine Ev_false (by omega) ?_
    simpa [rowP, rows2] using h
  | d + 1, y, L, hy, hd, hn, h => by
    refine Ev_succ ?_
    simp only [impl_pairsByB.l1]
    rw [isJump_eq hk, w64 (x := y + 1) (by omega) (by omega)]
    simp only [Option.bind_some]
    refine Ev_true (by omega) ?_
    simp only [rowP] at h
    by_cases hp : Pr k c x y
    · rw [falls_eq hk hp]
      simp only [Option.bind_some]
      refine Ev_true (decide_eq_true hp) ?_
      by_cases hf : falls k x y
      · rw [if_neg (fun q => q.2 rfl hf)] at h
        exact Ev_false (by simpa using hf) (pairsB_l1 hx d (y + 1) _ (by omega) (by omega) (by omega) h)
      · rw [if_pos (show okP true k c x y from ⟨hp, fun _ => hf⟩)] at h
        refine Ev_true (by simpa using hf) (Ev_true (by omega) (pairsB_l1 hx d (y + 1) _ (by omega) (by omega) (by simp; omega) ?_))
        simpa [rows2] using h
    · rw [if_neg (fun q => hp q.1)] at h
      exact Ev_false (by simpa using hp) (pairsB_l1 hx d (y + 1) _ (by omega) (by omega) (by omega) h)
theorem foPairs_l1 (b : Bool) {m x : Int} (hx : x ≤ 200) {r : List (List Int)} : ∀ (d : Nat) (y : Int) (L : List (List Int)), 0 ≤ y → y + d = x + 1 → L.length + d ≤ 1000000 →
    Ev (fun j => spec_juUpTo.l0 j k c m b (L ++ rows2 (rowP b k c x d y)) (x + 1)) r → Ev (fun j => spec_juUpTo.l1 j k c m b L x y) r
  | 0, y, L, hy, hd, hn, h => by
    refine Ev_succ ?_
    simp only [spec_juUpTo.l1]
    rw [w64 (x := x + 1) (by omega) (by omega)]
    refine Ev_false (by omega) ?_
    simpa [rowP, rows2] using h
  | d + 1, y, L, hy, hd, hn, h => by
    refine Ev_succ ?_
    simp only [spec_juUpTo.l1]
    rw [juGood_eq hk, w64 (x := y + 1) (by omega) (by omega)]
    simp only [Option.bind_some]
    refine Ev_true (by omega) ?_
    simp only [rowP] at h
    by_cases hp : Pr k c x y
    · rw [juDown_eq hk hp]
      simp only [Option.bind_some]
      refine Ev_true (decide_eq_true hp) ?_
      have hgo : okP b k c x y → Ev (fun j => if L.length < 5864062014805 then spec_juUpTo.l1 j k c m b (L ++ [([x, y] : List Int)]) x (y + 1) else none) r := by
        intro ho
        rw [if_pos ho] at h
        refine Ev_true (by omega) (foPairs_l1 b hx d (y + 1) _ (by omega) (by omega) (by simp; omega) ?_)
        simpa [rows2] using h
      cases b with
      | false => exact Ev_false (by simp) (hgo ⟨hp, by simp⟩)
      | true =>
        refine Ev_true rfl ?_
        by_cases hf : falls k x y
        · rw [if_neg (fun q => q.2 rfl hf)] at h
          unfold downR
          rw [if_pos (show 0 ≤ k * y - x ∧ k * y - x < x from hf)]
          exact Ev_true rfl (foPairs_l1 true hx d (y + 1) _ (by omega) (by omega) (by omega) h)
        · unfold downR
          rw [if_neg (show ¬ (0 ≤ k * y - x ∧ k * y - x < x) from hf)]
          exact Ev_false (by simp) (hgo ⟨hp, fun _ => hf⟩)
    · rw [if_neg (fun q => hp q.1)] at h
      exact Ev_false (by simpa using hp) (foPairs_l1 b hx d (y + 1) _ (by omega) (by omega) (by omega) h)
def cutR (L : List (Int × Int)) : List (List Int) × Bool := if L.length > 1000 then ([], false) else (rows2 L, true)
theorem pairsA_l0 {m : Int} (hm : m ≤ 200) : ∀ (d : Nat) (x : Int) (L : List (Int × Int)), 0 ≤ x → x + d = m + 1 → L.length + 201 * d ≤ 1000000 → Ev (fun j => impl_pairsByA.l0 j k c (rows2 L) (m + 1) x) (cutR (L ++ allP false k c d x))
  | 0, x, L, hx, hd, hn => by
    refine Ev_succ ?_
    simp only [impl_pairsByA.l0, allP, List.append_nil, rows2_length]
    refine Ev_false (by omega) ?_
    unfold cutR
    by_cases h : L.length > 1000
    · rw [show (if L.length > 1000 then (([] : List (List Int)), false) else (rows2 L, true)) = ([], false) from if_pos h]
      exact Ev_true (by omega) Ev_some
    · rw [show (if L.length > 1000 then (([] : List (List Int)), false) else (rows2 L, true)) = (rows2 L, true) from if_neg h]
      exact Ev_false (by omega) Ev_some
  | d + 1, x, L, hx, hd, hn => by
    refine Ev_succ ?_
    simp only [impl_pairsByA.l0]
    rw [w64 (x := x + 1) (by omega) (by omega)]
    refine Ev_true (by omega) (pairsA_l1 hk (by omega) (x.toNat + 1) 0 _ (by omega) (by omega) (by rw [rows2_length]; omega) ?_)
    rw [← rows2_append]
    have ih := pairsA_l0 hm d (x + 1) (L ++ rowP false k c x (x.toNat + 1) 0) (by omega) (by omega) (by have := rowP_len false k c x (x.toNat + 1) 0; simp only [List.length_append]; omega)
    simpa [allP] using ih
theorem pairsB_l0 {m : Int} (hm : m ≤ 200) : ∀ (d : Nat) (x : Int) (L : List (Int × Int)), 0 ≤ x → x + d = m + 1 → L.length + 201 * d ≤ 1000000 → Ev (fun j => impl_pairsByB.l0 j k c (rows2 L) (m + 1) x) (cutR (L ++ allP true k c d x))
  | 0, x, L, hx, hd, hn => by
    refine Ev_succ ?_
    simp only [impl_pairsByB.l0, allP, List.append_nil, rows2_length]
    refine Ev_false (by omega) ?_
    unfold cutR
    by_cases h : L.length > 1000
    · rw [show (if L.length > 1000 then (([] : List (List Int)), false) else (rows2 L, true)) = ([], false) from if_pos h]
      exact Ev_true (by omega) Ev_some
    · rw [show (if L.length > 1000 then (([] : List (List Int)), false) else (rows2 L, true)) = (rows2 L, true) from if_neg h]
      exact Ev_false (by omega) Ev_some
  | d + 1, x, L, hx, hd, hn => by
    refine Ev_succ ?_
    simp only [impl_pairsByB.l0]
    rw [w64 (x := x + 1) (by omega) (by omega)]
    refine Ev_true (by omega) (pairsB_l1 hk (by omega) (x.toNat + 1) 0 _ (by omega) (by omega) (by rw [rows2_length]; omega) ?_)
    rw [← rows2_append]
    have ih := pairsB_l0 hm d (x + 1) (L ++ rowP true k c x (x.toNat + 1) 0) (by omega) (by omega) (by have := rowP_len true k c x (x.toNat + 1) 0; simp only [List.length_append]; omega)
    simpa [allP] using ih
theorem foPairs_l0 (b : Bool) {m : Int} (hm : m ≤ 200) : ∀ (d : Nat) (x : Int) (L : List (Int × Int)), 0 ≤ x → x + d = m + 1 → L.length + 201 * d ≤ 1000000 → Ev (fun j => spec_juUpTo.l0 j k c m b (rows2 L) x) (rows2 (L ++ allP b k c d x))
  | 0, x, L, hx, hd, hn => by
    refine Ev_succ ?_
    simp only [spec_juUpTo.l0, allP, List.append_nil]
    exact Ev_false (by omega) Ev_some
  | d + 1, x, L, hx, hd, hn => by
    refine Ev_succ ?_
    simp only [spec_juUpTo.l0]
    refine Ev_true (by omega) (foPairs_l1 hk b (by omega) (x.toNat + 1) 0 _ (by omega) (by omega) (by rw [rows2_length]; omega) ?_)
    rw [← rows2_append]
    have ih := foPairs_l0 b hm d (x + 1) (L ++ rowP b k c x (x.toNat + 1) 0) (by omega) (by omega) (by have := rowP_len b k c x (x.toNat + 1) 0; simp only [List.length_append]; omega)
    simpa [allP] using ih
end
def pairsR (b : Bool) (k c m : Int) : List (List Int) × Bool := if KC k c ∧ 0 ≤ m ∧ m ≤ 200 then cutR (allP b k c (m.toNat + 1) 0) else ([], false)
theorem impl_pairs (k c m : Int) : Ev (fun j => impl_PairsUpTo.f j k c m) (pairsR false k c m) := by
  have hno : Ev (fun j => impl_pairsByA.j0 j k c m true) (([] : List (List Int)), false) := by
    refine Ev_succ ?_
    simp only [impl_pairsByA.j0]
    exact Ev_true trivial Ev_some
  unfold impl_PairsUpTo.f
  refine Ev.bind (a := pairsR false k c m) (f := fun _ (bt : List (List Int) × Bool) => some (bt.1, bt.2)) ?_ Ev_some
  unfold impl_pairsByA.f pairsR
  rw [constants_eq, within_eq]
  simp only [Option.bind_some]
  by_cases h1 : KC k c
  · refine Ev_true (decide_eq_true h1) ?_
    by_cases h2 : 0 ≤ m ∧ m ≤ 200
    · rw [if_pos ⟨h1, h2⟩, decide_eq_true h2]
      refine Ev_succ ?_
      simp only [impl_pairsByA.j0]
      rw [w64 (x := m + 1) (by omega) (by omega)]
      have h := pairsA_l0 h1 h2.2 (m.toNat + 1) 0 [] (by omega) (by omega) (by simp; omega)
      exact Ev_false (by simp) (by simpa [rows2] using h)
    · rw [if_neg (fun p => h2 p.2), decide_eq_false h2]
      exact hno
  · rw [if_neg (fun p => h1 p.1)]
    exact Ev_false (by simpa using h1) hno
theorem impl_classes (k c m : Int) : Ev (fun j => impl_ClassesUpTo.f j k c m) (pairsR true k c m) := by
  have hno : Ev (fun j => impl_pairsByB.j0 j k c m true) (([] : List (List Int)), false) := by
    refine Ev_succ ?_
    simp only [impl_pairsByB.j0]
    exact Ev_true trivial Ev_some
  unfold impl_ClassesUpTo.f impl_pairsByB.f pairsR
  rw [constants_eq, within_eq]
  simp only [Option.bind_some]
  by_cases h1 : KC k c
  · refine Ev_true (decide_eq_true h1) ?_
    by_cases h2 : 0 ≤ m ∧ m ≤ 200
    · rw [if_pos ⟨h1, h2⟩, decide_eq_true h2]
      refine Ev_succ ?_
      simp only [impl_pairsByB.j0]
      rw [w64 (x := m + 1) (by omega) (by omega)]
      have h := pairsB_l0 h1 h2.2 (m.toNat + 1) 0 [] (by omega) (by omega) (by simp; omega)
      exact Ev_false (by simp) (by simpa [rows2] using h)
    · rw [if_neg (fun p => h2 p.2), decide_eq_false h2]
      exact hno
  · rw [if_neg (fun p => h1 p.1)]
    exact Ev_false (by simpa using h1) hno
theorem task_eq (k c m : Int) : spec_juTask.f k c m = some (decide (KC k c ∧ 0 ≤ m ∧ m ≤ 200)) := by
  unfold spec_juTask.f
  rw [juGiven_eq, in_eq]
  simp only [Option.bind_some]
  by_cases h : KC k c <;> simp [h]
theorem spec_pairs (k c m : Int) : Ev (fun j => spec_PairsUpTo.f j k c m) (pairsR false k c m) := by
  unfold spec_PairsUpTo.f pairsR
  rw [task_eq]
  simp only [Option.bind_some]
  by_cases h : KC k c ∧ 0 ≤ m ∧ m ≤ 200
  · rw [if_pos h]
    refine Ev_true (decide_eq_true h) ?_
    have g := foPairs_l0 h.1 false h.2.2 (m.toNat + 1) 0 [] (by omega) (by omega) (by simp; omega)
    refine Ev.bind (f := fun _ (t : List (List Int)) => if (t.length : Int) > 1000 then some (([] : List (List Int)), false) else some (t, true)) (a := rows2 (allP false k c (m.toNat + 1) 0)) (show Ev (fun j => spec_juUpTo.f j k c m false) _ from by unfold spec_juUpTo.f; simpa [rows2] using g) ?_
    rw [rows2_length]
    unfold cutR
    generalize allP false k c (m.toNat + 1) 0 = L
    by_cases h : L.length > 1000
    · rw [show (if L.length > 1000 then (([] : List (List Int)), false) else (rows2 L, true)) = ([], false) from if_pos h]
      exact Ev_true (by omega) Ev_some
    · rw [show (if L.length > 1000 then (([] : List (List Int)), false) else (rows2 L, true)) = (rows2 L, true) from if_neg h]
      exact Ev_false (by omega) Ev_some
  · rw [if_neg h]
    exact Ev_false (by simpa using h) Ev_some
theorem spec_classes (k c m : Int) : Ev (fun j => spec_ClassesUpTo.f j k c m) (pairsR true k c m) := by
  unfold spec_ClassesUpTo.f pairsR
  rw [task_eq]
  simp only [Option.bind_some]
  by_cases h : KC k c ∧ 0 ≤ m ∧ m ≤ 200
  · rw [if_pos h]
    refine Ev_true (decide_eq_true h) ?_
    have g := foPairs_l0 h.1 true h.2.2 (m.toNat + 1) 0 [] (by omega) (by omega) (by simp; omega)
    refine Ev.bind (f := fun _ (t : List (List Int)) => if (t.length : Int) > 1000 then some (([] : List (List Int)), false) else some (t, true)) (a := rows2 (allP true k c (m.toNat + 1) 0)) (show Ev (fun j => spec_juUpTo.f j k c m true) _ from by unfold spec_juUpTo.f; simpa [rows2] using g) ?_
    rw [rows2_length]
    unfold cutR
    generalize allP true k c (m.toNat + 1) 0 = L
    by_cases h : L.length > 1000
    · rw [show (if L.length > 1000 then (([] : List (List Int)), false) else (rows2 L, true)) = ([], false) from if_pos h]
      exact Ev_true (by omega) Ev_some
    · rw [show (if L.length > 1000 then (([] : List (List Int)), false) else (rows2 L, true)) = (rows2 L, true) from if_neg h]
      exact Ev_false (by omega) Ev_some
  · rw [if_neg h]
    exact Ev_false (by simpa using h) Ev_some
end Go.Proofs.Ytfdbjiddhgfcnaa.Q

/- Sums of squares: the first lists, all lists, and how many signed ones: what both programs come to. -/
import Derived.Test.YtokachiofpfagaaPx1
import Derived.Test.YtokachiofpfagaaPx4
import Derived.Test.YtokachiofpfagaaQSqs
namespace Go.Proofs.Ytokachiofpfagaa.Q
open Go.RowKit Go.Proofs.Ytokachiofpfagaa.P Go.Proofs.YtokachiofpfagaaW.PrintWords Go.Proofs.YtokachiofpfagaaW.PrintLast Go.Proofs.YtokachiofpfagaaW.PrintMore Go.Proofs.Ytokachiofpfagaa.G

/-! ### the first list -/
def firstOf : List (List Int) → List Int × Bool
  | [] => ([], false)
  | l :: _ => (l, true)
theorem firstSq_ev {p n : Nat} (hp : p ≤ 4) (hn : n ≤ 1000000) : Ev (fun k => impl_firstSquares.f k (p : Int) (n : Int)) (firstOf (allL p n n)) := by
  unfold impl_firstSquares.f firstF
  refine sqF_run firstStep p hp n n [] [] _ hn (by simpa using hp) ?_
  have e : ((allL p n n).map (([] : List Int) ++ ·)) = allL p n n := by simp
  rw [e]
  cases allL p n n with
  | nil => rfl
  | cons l L => rfl
theorem sqFirst_ev {p n : Nat} (hp : p ≤ 4) (hn : n ≤ 1000000) : Ev (fun k => spec_sqFirst.f k (n : Int) (p : Int)) (firstOf (allL p n n)) := by
  unfold spec_sqFirst.f
  refine Ev.bind (sqAll_ev p hp n n 1 hn (by omega) (by omega)) ?_
  cases allL p n n with
  | nil => exact Ev_true rfl Ev_some
  | cons l L =>
    refine Ev_false (by simp) (Ev_true (by simp) ?_)
    exact Ev_some
theorem firstOf_len {p most n : Nat} : (firstOf (allL p most n)).1.length ≤ p := by
  cases h : allL p most n with
  | nil => simp [firstOf]
  | cons l L =>
    have : l ∈ allL p most n := by rw [h]; exact List.mem_cons_self
    simp [firstOf, allL_len this]

/-! ### all lists, and that they are few -/
theorem downL_one {n : Nat} : ∀ a, a * a ≤ n → (downL (fun a => (allL 0 a (n - a * a)).map ((a : Int) :: ·)) (fun a => decide (n ≤ (0 + 1) * a * a)) a).length ≤ 1
  | 0, h => by
    unfold downL
    split
    · simp only [List.length_map, allL]
      split <;> simp
    · simp
  | a + 1, h => by
    unfold downL
    split
    · rename_i hc
      have hc : n ≤ (0 + 1) * (a + 1) * (a + 1) := by simpa using hc
      rw [List.length_append]
      have h1 : (downL (fun a => (allL 0 a (n - a * a)).map ((a : Int) :: ·)) (fun a => decide (n ≤ (0 + 1) * a * a)) a).length = 0 := by
        have hlt : ¬ n ≤ (0 + 1) * a * a := by
          have e : (a + 1) * (a + 1) = a * a + a + a + 1 := by rw [Nat.add_mul, Nat.mul_add]; omega
          rw [Nat.zero_add, Nat.one_mul] at hc ⊢
          omega
        cases a with
        | zero => unfold downL; rw [if_neg (by simpa using hlt)]; rfl
        | succ a => unfold downL; rw [if_neg (by simpa using hlt)]; rfl
      rw [h1]
      simp only [List.length_map, allL]
      split <;> simp
    · simp
theorem downL_len {α : Type} {f : Nat → List α} {c : Nat → Bool} {B : Nat} : ∀ a, (∀ b, b ≤ a → (f b).length ≤ B) → (downL f c a).length ≤ (a + 1) * B
  | 0, h => by
    unfold downL
    split
    · have := h 0 (Nat.le_refl _); omega
    · simp
  | a + 1, h => by
    unfold downL
    split
    · rw [List.length_append, Nat.succ_mul]
      have h1 := h (a + 1) (Nat.le_refl _)
      have h2 := downL_len (c := c) (f := f) (B := B) a (fun b hb => h b (by omega))
      omega
    · simp
theorem isq_mono {m n : Nat} (h : m ≤ n) : isq m ≤ isq n := isq_le (Nat.lt_of_le_of_lt h (isq_spec n).2)
theorem allL_few : ∀ p most n R, isq n ≤ R → (allL (p + 1) most n).length ≤ (R + 1) ^ p
  | 0, most, n, R, _ => by
    unfold allL
    rw [Nat.pow_zero]
    exact downL_one _ (Nat.le_trans (Nat.mul_le_mul (Nat.min_le_right _ _) (Nat.min_le_right _ _)) (isq_spec n).1)
  | p + 1, most, n, R, hR => by
    unfold allL
    have h := downL_len (c := fun a => decide (n ≤ (p + 1 + 1) * a * a)) (f := fun a => (allL (p + 1) a (n - a * a)).map ((a : Int) :: ·)) (B := (R + 1) ^ p) (min most (isq n)) (fun b _ => by
      rw [List.length_map]
      exact allL_few p b (n - b * b) R (Nat.le_trans (isq_mono (Nat.sub_le _ _)) hR))
    refine Nat.le_trans h ?_
    rw [Nat.pow_succ, Nat.mul_comm]
    exact Nat.mul_le_mul_left _ (by have := Nat.min_le_right most (isq n); omega)
theorem allL_two {n : Nat} (hn : n ≤ 1000000) (most : Nat) : (allL 2 most n).length ≤ 1001 := by
  have h := allL_few 1 most n 1000 (isq_le (by omega))
  simpa using h
theorem allL_four {n : Nat} (hn : n ≤ 2000) (most : Nat) : (allL 4 most n).length ≤ 91125 := by
  have h := allL_few 3 most n 44 (isq_le (by omega))
  simpa using h
theorem run_all (L : List (List Int)) : ∀ s : List (List Int), s.length + L.length ≤ 1000000 → run allStep s L = some (s ++ L, false)
  := by
  induction L with
  | nil => intro s _; simp [run]
  | cons l L ih =>
    intro s h
    have h1 : allStep s l = some (s ++ [l], false) := if_pos (by simp at h; omega)
    simp only [run, h1, Option.bind_some]
    rw [if_neg (by simp), ih (s ++ [l]) (by simp at h ⊢; omega)]
    simp
theorem allSq_ev {p n : Nat} (hp : p ≤ 4) (hn : n ≤ 1000000) (hl : (allL p n n).length ≤ 1000000) : Ev (fun k => impl_allSquares.f k (p : Int) (n : Int)) (allL p n n) := by
  unfold impl_allSquares.f allF
  have h := sqF_run allStep p hp n n [] [] (allL p n n, false) hn (by simpa using hp) (by
    have e : ((allL p n n).map (([] : List Int) ++ ·)) = allL p n n := by simp
    rw [e, run_all _ _ (by simpa using hl)]
    simp)
  obtain ⟨K, h⟩ := h
  exact ⟨K, fun k hk => by have h1 := h k hk; dsimp only at h1 ⊢; rw [h1]; rfl⟩
theorem sqAllAll_ev {p n : Nat} (hp : p ≤ 4) (hn : n ≤ 1000000) (hl : (allL p n n).length ≤ 1000000) : Ev (fun k => spec_sqAll.f k (n : Int) (p : Int) (n : Int) 1000000) (allL p n n) := by
  have h := sqAll_ev p hp n n 1000000 hn (by omega) (by omega)
  rwa [List.take_of_length_le hl] at h
theorem allL_pos : ∀ {p most n} {l : List Int}, l ∈ allL p most n → ∀ x ∈ l, 0 ≤ x
  | 0, most, n, l, h => by
    unfold allL at h
    split at h
    · simp at h; subst h; simp
    · simp at h
  | p + 1, most, n, l, h => by
    unfold allL at h
    obtain ⟨b, _, hx⟩ := downL_mem h
    obtain ⟨l', hl', rfl⟩ := List.mem_map.1 hx
    intro x hx
    rcases List.mem_cons.1 hx with rfl | hx
    · omega
    · exact allL_pos hl' x hx

/-! ### in how many ways a list is signed and put in order -/
/-- The numbers from index i on: before them x, met same times; so far ways. -/
def sgn : Option Int → Nat → Nat → Nat → List Int → Nat
  | _, _, w, _, [] => w
  | pr, i, w, s, x :: l =>
    let s' := if pr = some x then s + 1 else 1
    let w' := w * (i + 1) / s'
    sgn (some x) (i + 1) (if x = 0 then w' else w' * 2) s' l
def signs (l : List Int) : Nat := sgn none 0 1 0 l
def before (l : List Int) (i : Nat) : Option Int := if i = 0 then none else l[i - 1]?

theorem sgn_step {l : List Int} {i : Nat} (hi : i < l.length) (w s : Nat) : sgn (before l i) i w s (l.drop i) =
    sgn (before l (i + 1)) (i + 1) (if l[i] = 0 then w * (i + 1) / (if before l i = some l[i] then s + 1 else 1) else w * (i + 1) / (if before l i = some l[i] then s + 1 else 1) * 2) (if before l i = some l[i] then s + 1 else 1) (l.drop (i + 1)) := by
  rw [List.drop_eq_getElem_cons hi]
  have e : before l (i + 1) = some l[i] := by
    unfold before
    rw [if_neg (by omega), Nat.add_sub_cancel, List.getElem?_eq_getElem hi]
  rw [e]
  rfl
theorem rdI {l : List Int} {i : Nat} (h : i < l.length) : rd l (i : Int) = l[i] := by
  simp [rd, List.getD_eq_getElem?_getD, List.getElem?_eq_getElem h]
theorem pow8 {i w : Nat} (hw : w ≤ 8 ^ i) (hi : i < 4) : w ≤ 512 := by
  have : 8 ^ i ≤ 8 ^ 3 := Nat.pow_le_pow_right (by omega) (by omega)
  omega
theorem next8 {i w s' : Nat} (hw : w ≤ 8 ^ i) (hi : i < 4) (c : Prop) [Decidable c] : (if c then w * (i + 1) / s' else w * (i + 1) / s' * 2) ≤ 8 ^ (i + 1) := by
  have h1 : w * (i + 1) / s' ≤ w * (i + 1) := Nat.div_le_self _ _
  have h2 : w * (i + 1) ≤ w * 4 := Nat.mul_le_mul_left w (by omega)
  rw [Nat.pow_succ]
  split <;> omega
theorem ways_cast {w i s' : Nat} (hw : w ≤ 512) (hi : i < 4) : wrap64 (Int.tdiv (wrap64 ((w : Int) * wrap64 ((i : Int) + 1))) (s' : Int)) = ((w * (i + 1) / s' : Nat) : Int) := by
  have h2 : w * (i + 1) ≤ 512 * 4 := Nat.mul_le_mul hw (by omega)
  have h1 : w * (i + 1) / s' ≤ w * (i + 1) := Nat.div_le_self _ _
  rw [w64 (x := (i : Int) + 1) (by omega) (by omega)]
  have e : (w : Int) * ((i : Int) + 1) = ((w * (i + 1) : Nat) : Int) := by simp
  rw [e, w64_nat (w * (i + 1)) (by omega), Int.tdiv_eq_ediv_of_nonneg (by omega), ← Int.natCast_ediv]
  exact w64_nat _ (by omega)

theorem spec_signs {l : List Int} (hl : l.length ≤ 4) (hp : ∀ x ∈ l, 0 ≤ x) (d : Nat) : ∀ (i w s : Nat), i + d = l.length → w ≤ 8 ^ i → s ≤ i →
    Ev (fun k => spec_sqSigns.l0 k l (w : Int) (s : Int) l (l.length : Int) (i : Int)) ((sgn (before l i) i w s (l.drop i) : Nat) : Int) := by
  induction d with
  | zero =>
    intro i w s h1 h2 h3
    refine Ev_succ ?_
    simp only [spec_sqSigns.l0]
    rw [List.drop_of_length_le (by omega)]
    exact Ev_false (by omega) Ev_some
  | succ d ih =>
    intro i w s h1 h2 h3
    have hi : i < l.length := by omega
    have hx := hp l[i] (List.getElem_mem hi)
    have hw := pow8 h2 (by omega)
    rw [sgn_step hi]
    have key : ∀ b : Bool, (b = true ↔ before l i = some l[i]) → Ev (fun k => spec_sqSigns.j1 k l (w : Int) (s : Int) (i : Int) l[i] l (l.length : Int) (i : Int) b)
        ((sgn (before l (i + 1)) (i + 1) (if l[i] = 0 then w * (i + 1) / (if before l i = some l[i] then s + 1 else 1) else w * (i + 1) / (if before l i = some l[i] then s + 1 else 1) * 2) (if before l i = some l[i] then s + 1 else 1) (l.drop (i + 1)) : Nat) : Int) := by
      intro b hb
      refine Ev_succ ?_
      simp only [spec_sqSigns.j1]
      rw [w64 (x := (s : Int) + 1) (by omega) (by omega)]
      have hq := ways_cast (w := w) (i := i) (s' := s + 1) hw (by omega)
      have hq1 := ways_cast (w := w) (i := i) (s' := 1) hw (by omega)
      simp only [Int.natCast_add, Int.natCast_one] at hq hq1
      rw [hq, hq1, w64 (x := (i : Int) + 1) (by omega) (by omega)]
      have hle : w * (i + 1) ≤ 512 * 4 := Nat.mul_le_mul hw (by omega)
      have hle1 : w * (i + 1) / (s + 1) ≤ w * (i + 1) := Nat.div_le_self _ _
      have hle2 : w * (i + 1) / 1 ≤ w * (i + 1) := Nat.div_le_self _ _
      cases b with
      | true =>
        have hbe := hb.1 rfl
        rw [if_pos hbe]
        have n8 := next8 (s' := s + 1) h2 (show i < 4 by omega) (l[i] = 0)
        refine Ev_true rfl (Ev_false (by omega) ?_)
        by_cases h0 : l[i] = 0
        · rw [if_pos h0] at n8 ⊢
          exact Ev_false (by omega) (ih (i + 1) _ (s + 1) (by omega) n8 (by omega))
        · rw [if_neg h0] at n8 ⊢
          refine Ev_true (by omega) ?_
          rw [w64 (x := ((w * (i + 1) / (s + 1) : Nat) : Int) * 2) (by omega) (by omega)]
          have h := ih (i + 1) (w * (i + 1) / (s + 1) * 2) (s + 1) (by omega) n8 (by omega)
          simpa using h
      | false =>
        have hbe : ¬ before l i = some l[i] := fun h => by have := hb.2 h; cases this
        rw [if_neg hbe]
        have n8 := next8 (s' := 1) h2 (show i < 4 by omega) (l[i] = 0)
        refine Ev_false (by simp) ?_
        by_cases h0 : l[i] = 0
        · rw [if_pos h0] at n8 ⊢
          exact Ev_false (by omega) (ih (i + 1) _ 1 (by omega) n8 (by omega))
        · rw [if_neg h0] at n8 ⊢
          refine Ev_true (by omega) ?_
          rw [w64 (x := ((w * (i + 1) / 1 : Nat) : Int) * 2) (by omega) (by omega)]
          have h := ih (i + 1) (w * (i + 1) / 1 * 2) 1 (by omega) n8 (by omega)
          simpa using h
    refine Ev_succ ?_
    simp only [spec_sqSigns.l0]
    rw [rdI hi]
    refine Ev_true (by omega) (Ev_true (by omega) (Ev_true (by omega) ?_))
    by_cases hz : i = 0
    · subst hz
      refine Ev_false (by simp) (key false ?_)
      simp [before]
    · rw [w64 (x := (i : Int) - 1) (by omega) (by omega)]
      have e : (i : Int) - 1 = ((i - 1 : Nat) : Int) := by omega
      have hi1 : i - 1 < l.length := by omega
      rw [e, rdI hi1]
      refine Ev_true (by omega) (Ev_true (by omega) (Ev_true (by omega) (key _ ?_)))
      unfold before
      rw [if_neg hz, List.getElem?_eq_getElem hi1]
      simp
theorem sqSigns_ev {l : List Int} (hl : l.length ≤ 4) (hp : ∀ x ∈ l, 0 ≤ x) : Ev (fun k => spec_sqSigns.f k l) ((signs l : Nat) : Int) := by
  have h := spec_signs hl hp l.length 0 1 0 (by omega) (by simp) (by omega)
  unfold spec_sqSigns.f
  simpa [before, signs] using h

theorem impl_signs {l : List Int} (hl : l.length ≤ 4) (hp : ∀ x ∈ l, 0 ≤ x) (d : Nat) : ∀ (i w s : Nat), i + d = l.length → w ≤ 8 ^ i → s ≤ i →
    Ev (fun k => impl_signed.l0 k l (w : Int) (s : Int) l (l.length : Int) (i : Int)) ((sgn (before l i) i w s (l.drop i) : Nat) : Int) := by
  induction d with
  | zero =>
    intro i w s h1 h2 h3
    refine Ev_succ ?_
    simp only [impl_signed.l0]
    rw [List.drop_of_length_le (by omega)]
    exact Ev_false (by omega) Ev_some
  | succ d ih =>
    intro i w s h1 h2 h3
    have hi : i < l.length := by omega
    have hx := hp l[i] (List.getElem_mem hi)
    have hw := pow8 h2 (by omega)
    rw [sgn_step hi]
    have key : ∀ b : Bool, (b = true ↔ before l i = some l[i]) → Ev (fun k => impl_signed.j1 k l (w : Int) (s : Int) (i : Int) l[i] l (l.length : Int) (i : Int) b)
        ((sgn (before l (i + 1)) (i + 1) (if l[i] = 0 then w * (i + 1) / (if before l i = some l[i] then s + 1 else 1) else w * (i + 1) / (if before l i = some l[i] then s + 1 else 1) * 2) (if before l i = some l[i] then s + 1 else 1) (l.drop (i + 1)) : Nat) : Int) := by
      intro b hb
      refine Ev_succ ?_
      simp only [impl_signed.j1]
      rw [w64 (x := (s : Int) + 1) (by omega) (by omega)]
      have hq := ways_cast (w := w) (i := i) (s' := s + 1) hw (by omega)
      have hq1 := ways_cast (w := w) (i := i) (s' := 1) hw (by omega)
      simp only [Int.natCast_add, Int.natCast_one] at hq hq1
      rw [hq, hq1, w64 (x := (i : Int) + 1) (by omega) (by omega)]
      have hle : w * (i + 1) ≤ 512 * 4 := Nat.mul_le_mul hw (by omega)
      have hle1 : w * (i + 1) / (s + 1) ≤ w * (i + 1) := Nat.div_le_self _ _
      have hle2 : w * (i + 1) / 1 ≤ w * (i + 1) := Nat.div_le_self _ _
      cases b with
      | true =>
        have hbe := hb.1 rfl
        rw [if_pos hbe]
        have n8 := next8 (s' := s + 1) h2 (show i < 4 by omega) (l[i] = 0)
        refine Ev_true rfl (Ev_false (by omega) ?_)
        by_cases h0 : l[i] = 0
        · rw [if_pos h0] at n8 ⊢
          exact Ev_true h0 (ih (i + 1) _ (s + 1) (by omega) n8 (by omega))
        · rw [if_neg h0] at n8 ⊢
          refine Ev_false h0 ?_
          rw [w64 (x := ((w * (i + 1) / (s + 1) : Nat) : Int) * 2) (by omega) (by omega)]
          have h := ih (i + 1) (w * (i + 1) / (s + 1) * 2) (s + 1) (by omega) n8 (by omega)
          simpa using h
      | false =>
        have hbe : ¬ before l i = some l[i] := fun h => by have := hb.2 h; cases this
        rw [if_neg hbe]
        have n8 := next8 (s' := 1) h2 (show i < 4 by omega) (l[i] = 0)
        refine Ev_false (by simp) ?_
        by_cases h0 : l[i] = 0
        · rw [if_pos h0] at n8 ⊢
          exact Ev_true h0 (ih (i + 1) _ 1 (by omega) n8 (by omega))
        · rw [if_neg h0] at n8 ⊢
          refine Ev_false h0 ?_
          rw [w64 (x := ((w * (i + 1) / 1 : Nat) : Int) * 2) (by omega) (by omega)]
          have h := ih (i + 1) (w * (i + 1) / 1 * 2) 1 (by omega) n8 (by omega)
          simpa using h
    refine Ev_succ ?_
    simp only [impl_signed.l0]
    rw [rdI hi]
    refine Ev_true (by omega) (Ev_true (by omega) (Ev_true (by omega) ?_))
    by_cases hz : i = 0
    · subst hz
      refine Ev_false (by simp) (key false ?_)
      simp [before]
    · rw [w64 (x := (i : Int) - 1) (by omega) (by omega)]
      have e : (i : Int) - 1 = ((i - 1 : Nat) : Int) := by omega
      have hi1 : i - 1 < l.length := by omega
      rw [e, rdI hi1]
      refine Ev_true (by omega) (Ev_true (by omega) (Ev_true (by omega) (key _ ?_)))
      unfold before
      rw [if_neg hz, List.getElem?_eq_getElem hi1]
      simp
theorem signed_ev {l : List Int} (hl : l.length ≤ 4) (hp : ∀ x ∈ l, 0 ≤ x) : Ev (fun k => impl_signed.f k l) ((signs l : Nat) : Int) := by
  have h := impl_signs hl hp l.length 0 1 0 (by omega) (by simp) (by omega)
  unfold impl_signed.f
  simpa [before, signs] using h

theorem signs_le {l : List Int} (hl : l.length ≤ 4) : signs l ≤ 4096 := by
  have key : ∀ (l : List Int) (pr : Option Int) (i w s : Nat), i + l.length ≤ 4 → w ≤ 8 ^ i → sgn pr i w s l ≤ 8 ^ (i + l.length) := by
    intro l
    induction l with
    | nil => intro pr i w s _ h; simpa [sgn] using h
    | cons x l ih =>
      intro pr i w s h1 h2
      have h := ih (some x) (i + 1) _ (if pr = some x then s + 1 else 1) (by simp at h1; omega) (next8 (s' := if pr = some x then s + 1 else 1) h2 (by simp at h1; omega) (x = 0))
      have e : i + (x :: l).length = i + 1 + l.length := by simp; omega
      rw [e]
      exact h
  have h := key l none 0 1 0 (by omega) (by simp)
  have : 8 ^ (0 + l.length) ≤ 8 ^ 4 := Nat.pow_le_pow_right (by omega) (by omega)
  unfold signs
  omega
def sumSigns : List (List Int) → Nat
  | [] => 0
  | l :: L => signs l + sumSigns L
theorem rdLL {l : List (List Int)} {i : Nat} (h : i < l.length) : rd_L1 l (i : Int) = l[i] := rdL_get h

theorem count_l0 {L : List (List Int)} (hL : L.length ≤ 1000000) (h4 : ∀ l ∈ L, l.length ≤ 4 ∧ ∀ x ∈ l, 0 ≤ x) (d : Nat) : ∀ (i acc : Nat), i + d = L.length → acc ≤ 4096 * i →
    Ev (fun k => impl_countSquares.l0 k (acc : Int) L (L.length : Int) (i : Int)) ((acc + sumSigns (L.drop i) : Nat) : Int) := by
  induction d with
  | zero =>
    intro i acc h1 h2
    refine Ev_succ ?_
    simp only [impl_countSquares.l0]
    rw [List.drop_of_length_le (by omega)]
    exact Ev_false (by omega) Ev_some
  | succ d ih =>
    intro i acc h1 h2
    have hi : i < L.length := by omega
    obtain ⟨hl, hp⟩ := h4 L[i] (List.getElem_mem hi)
    have hs := signs_le hl
    refine Ev_succ ?_
    simp only [impl_countSquares.l0]
    rw [rdLL hi, List.drop_eq_getElem_cons hi, w64 (x := (i : Int) + 1) (by omega) (by omega)]
    refine Ev_true (by omega) (Ev_true (by omega) (Ev_true (by omega) (Ev.bind (signed_ev hl hp) ?_)))
    rw [w64 (x := (acc : Int) + ((signs L[i] : Nat) : Int)) (by omega) (by omega)]
    have h := ih (i + 1) (acc + signs L[i]) (by omega) (by omega)
    have e : acc + sumSigns (L[i] :: L.drop (i + 1)) = acc + signs L[i] + sumSigns (L.drop (i + 1)) := by
      show acc + (signs L[i] + sumSigns (L.drop (i + 1))) = _
      omega
    rw [e]
    simpa using h
theorem countSq_ev {p n : Nat} (hp : p ≤ 4) (hn : n ≤ 1000000) (hl : (allL p n n).length ≤ 1000000) : Ev (fun k => impl_countSquares.f k (p : Int) (n : Int)) ((sumSigns (allL p n n) : Nat) : Int) := by
  unfold impl_countSquares.f
  refine Ev.bind (allSq_ev hp hn hl) ?_
  have h := count_l0 hl (fun l hl => ⟨by have := allL_len hl; omega, allL_pos hl⟩) (allL p n n).length 0 0 (by omega) (by omega)
  simpa using h
end Go.Proofs.Ytokachiofpfagaa.Q

/- Several parts in one text: What the small tests of numbers come to. The greatest number whose square is at most n: both programs' searches find it. All lists of so many numbers, none greater than one before it, with a sum of squares: what both programs come to. The lists of squares: the first and all. The sum of the squares of a list. A prime number that does not leave 3 by 4 divides a square and 1. The lists of squares that both programs find: which they are, and in which order. A prime number is a sum of two squares in at most one way. The search for divisors. Both functions look for the first root, and a prime number that does not leave 3 by 4 has one. Both functions tell whether a number in 0..1000000 has no divisor. The descent for two squares: both programs go through the same numbers. What stands in the rows of the descent to two squares. -/
import Derived.Test.YtpmbffchkcemoaaPx1
import Derived.Test.YtpmbffchkcemoaaPx2
import Derived.Test.YtpmbffchkcemoaaPx3
import Derived.Test.YtpmbffchkcemoaaQEv
import Derived.Test.YtpmbffchkcemoaaPx4
namespace Go.Proofs.Ytpmbffchkcemoaa.Q
open Go.RowKit Go.Proofs.Ytpmbffchkcemoaa.P Go.Proofs.YtpmbffchkcemoaaW.PrintWords Go.Proofs.YtpmbffchkcemoaaW.PrintLast

theorem within_eq (a lo hi : Int) : impl_within.f a lo hi = some (decide (lo ≤ a ∧ a ≤ hi)) := by
  unfold impl_within.f
  by_cases h : lo ≤ a
  · rw [if_pos h]
    simp [h]
  · rw [if_neg h]
    simp [h]
theorem l1In_eq (a lo hi : Int) : spec_l1In.f a lo hi = some (decide (lo ≤ a ∧ a ≤ hi)) := by
  unfold spec_l1In.f
  by_cases h : lo ≤ a
  · rw [if_pos h]
    simp [h]
  · rw [if_neg h]
    simp [h]
theorem isTwo_eq (a : Int) : impl_isTwo.f a = some (decide (0 ≤ a ∧ a ≤ 1000000)) := by
  unfold impl_isTwo.f
  rw [within_eq]
  rfl
theorem sqNumber_eq (a : Int) : spec_sqNumber.f a = some (decide (0 ≤ a ∧ a ≤ 1000000)) := by
  unfold spec_sqNumber.f
  rw [l1In_eq]
  rfl

theorem tmod_cast (n d : Nat) : Int.tmod (n : Int) (d : Int) = ((n % d : Nat) : Int) := by
  rw [Int.tmod_eq_emod_of_nonneg (by omega), Int.natCast_emod]
theorem tdiv_cast (n d : Nat) : Int.tdiv (n : Int) (d : Int) = ((n / d : Nat) : Int) := by
  rw [Int.tdiv_eq_ediv_of_nonneg (by omega), Int.natCast_ediv]
theorem w64_mul {a b c d : Nat} (h1 : a ≤ c) (h2 : b ≤ d) (h3 : c * d ≤ 9223372036854775807) : wrap64 ((a : Int) * (b : Int)) = ((a * b : Nat) : Int) := by
  have h : a * b ≤ c * d := Nat.mul_le_mul h1 h2
  have e : (a : Int) * (b : Int) = ((a * b : Nat) : Int) := (Int.natCast_mul a b).symm
  rw [e]
  exact w64 (by omega) (by omega)
end Go.Proofs.Ytpmbffchkcemoaa.Q
namespace Go.Proofs.Ytpmbffchkcemoaa.Q
open Go.RowKit Go.Proofs.Ytpmbffchkcemoaa.P Go.Proofs.YtpmbffchkcemoaaW.PrintWords Go.Proofs.YtpmbffchkcemoaaW.PrintLast

def isq : Nat → Nat
  | 0 => 0
  | n + 1 => if (isq n + 1) * (isq n + 1) ≤ n + 1 then isq n + 1 else isq n
theorem isq_spec : ∀ n, isq n * isq n ≤ n ∧ n < (isq n + 1) * (isq n + 1)
  | 0 => by simp [isq]
  | n + 1 => by
    obtain ⟨h1, h2⟩ := isq_spec n
    unfold isq
    split
    · rename_i h
      refine ⟨h, ?_⟩
      have : (isq n + 1 + 1) * (isq n + 1 + 1) = (isq n + 1) * (isq n + 1) + (isq n + 1) + (isq n + 1) + 1 := by
        rw [Nat.add_mul (isq n + 1) 1, Nat.mul_add (isq n + 1)]
        omega
      omega
    · omega
theorem isq_uniq {n r : Nat} (h1 : r * r ≤ n) (h2 : n < (r + 1) * (r + 1)) : isq n = r := by
  obtain ⟨h3, h4⟩ := isq_spec n
  rcases Nat.lt_trichotomy (isq n) r with h | h | h
  · have : (isq n + 1) * (isq n + 1) ≤ r * r := Nat.mul_le_mul h h
    omega
  · exact h
  · have : (r + 1) * (r + 1) ≤ isq n * isq n := Nat.mul_le_mul h h
    omega
theorem isq_le {n m : Nat} (h : n < (m + 1) * (m + 1)) : isq n ≤ m := by
  obtain ⟨h3, _⟩ := isq_spec n
  rcases Nat.lt_or_ge m (isq n) with h1 | h1
  · have : (m + 1) * (m + 1) ≤ isq n * isq n := Nat.mul_le_mul h1 h1
    omega
  · exact h1

theorem half_cast (s : Nat) : Int.tdiv (s : Int) 2 = ((s / 2 : Nat) : Int) := by
  rw [Int.tdiv_eq_ediv_of_nonneg (by omega)]
  omega
theorem wmul {a b c : Nat} (h : a ≤ c) (h' : b ≤ c) (hc : c * c ≤ 9223372036854775807) : wrap64 ((a : Int) * (b : Int)) = ((a * b : Nat) : Int) := by
  have h3 : a * b ≤ c * c := Nat.mul_le_mul h h'
  rw [← Int.natCast_mul]
  exact w64 (by omega) (by omega)

theorem root_l0 (n : Nat) (m : Nat) : ∀ lo hi : Nat, hi - lo ≤ m → lo ≤ hi → hi ≤ 2000000000 → lo * lo ≤ n → n < (hi + 1) * (hi + 1) → Ev (fun k => impl_root.l0 k (n : Int) (lo : Int) (hi : Int)) ((isq n : Nat) : Int) := by
  induction m with
  | zero =>
    intro lo hi h1 h2 h3 h4 h5
    obtain rfl : lo = hi := by omega
    refine Ev_succ ?_
    simp only [impl_root.l0]
    rw [isq_uniq h4 h5]
    exact Ev_false (by omega) Ev_some
  | succ m ih =>
    intro lo hi h1 h2 h3 h4 h5
    refine Ev_succ ?_
    simp only [impl_root.l0]
    by_cases hlt : lo < hi
    · obtain ⟨s, hs⟩ : ∃ s : Nat, s = lo + hi + 1 := ⟨_, rfl⟩
      have e1 : wrap64 (wrap64 ((lo : Int) + (hi : Int)) + 1) = (s : Int) := by
        rw [w64 (x := (lo : Int) + (hi : Int)) (by omega) (by omega), w64 (by omega) (by omega)]
        omega
      rw [e1, half_cast]
      obtain ⟨q, hq⟩ : ∃ q : Nat, q = s / 2 := ⟨_, rfl⟩
      rw [← hq]
      have hql : lo < q ∧ q ≤ hi := by omega
      rw [w64_nat q (by omega), wmul (c := 2000000000) (by omega) (by omega) (by omega), w64 (x := (q : Int) - 1) (by omega) (by omega)]
      refine Ev_true (by omega) ?_
      by_cases h : q * q ≤ n
      · exact Ev_true (by omega) (ih q hi (by omega) (by omega) h3 h h5)
      · have e : (q : Int) - 1 = ((q - 1 : Nat) : Int) := by omega
        rw [e]
        refine Ev_false (by omega) (ih lo (q - 1) (by omega) (by omega) (by omega) h4 ?_)
        rw [show q - 1 + 1 = q by omega]
        omega
    · obtain rfl : lo = hi := by omega
      rw [isq_uniq h4 h5]
      exact Ev_false (by omega) Ev_some
theorem root_ev {n : Nat} (hn : n ≤ 4000000000000000000) : Ev (fun k => impl_root.f k (n : Int)) ((isq n : Nat) : Int) :=
  root_l0 n 2000000000 0 2000000000 (by omega) (by omega) (by omega) (by omega) (by omega)

end Go.Proofs.Ytpmbffchkcemoaa.Q
namespace Go.Proofs.Ytpmbffchkcemoaa.Q
open Go.RowKit Go.Proofs.Ytpmbffchkcemoaa.P Go.Proofs.YtpmbffchkcemoaaW.PrintWords Go.Proofs.YtpmbffchkcemoaaW.PrintLast Go.Proofs.YtpmbffchkcemoaaW.PrintMore Go.Proofs.Ytpmbffchkcemoaa.G

def downL {α : Type} (f : Nat → List α) (c : Nat → Bool) : Nat → List α
  | 0 => if c 0 then f 0 else []
  | a + 1 => if c (a + 1) then f (a + 1) ++ downL f c a else []
def allL : Nat → Nat → Nat → List (List Int)
  | 0, _, n => if n = 0 then [[]] else []
  | p + 1, most, n => downL (fun a => (allL p a (n - a * a)).map ((a : Int) :: ·)) (fun a => decide (n ≤ (p + 1) * a * a)) (min most (isq n))

theorem downL_mem {α : Type} {f : Nat → List α} {c : Nat → Bool} {x : α} : ∀ {a}, x ∈ downL f c a → ∃ b, b ≤ a ∧ x ∈ f b
  | 0, h => by
    unfold downL at h
    split at h
    · exact ⟨0, Nat.le_refl _, h⟩
    · simp at h
  | a + 1, h => by
    unfold downL at h
    split at h
    · rcases List.mem_append.1 h with h | h
      · exact ⟨a + 1, Nat.le_refl _, h⟩
      · obtain ⟨b, hb, hx⟩ := downL_mem h
        exact ⟨b, by omega, hx⟩
    · simp at h
theorem allL_len : ∀ {p most n} {l : List Int}, l ∈ allL p most n → l.length = p
  | 0, most, n, l, h => by
    unfold allL at h
    split at h
    · simp at h; subst h; rfl
    · simp at h
  | p + 1, most, n, l, h => by
    unfold allL at h
    obtain ⟨b, _, hx⟩ := downL_mem h
    obtain ⟨l', hl', rfl⟩ := List.mem_map.1 hx
    simp [allL_len hl']

/-! ### the visits -/
def run {σ : Type} (step : σ → List Int → Option (σ × Bool)) : σ → List (List Int) → Option (σ × Bool)
  | s, [] => some (s, false)
  | s, l :: ls => (step s l).bind fun q => if q.2 = true then some (q.1, true) else run step q.1 ls
theorem run_append {σ : Type} (step : σ → List Int → Option (σ × Bool)) (m : List (List Int)) : ∀ l s, run step s (l ++ m) = (run step s l).bind fun q => if q.2 = true then some (q.1, true) else run step q.1 m
  | [], s => by simp [run]
  | x :: l, s => by
    show (step s x).bind _ = ((step s x).bind _).bind _
    rw [Option.bind_assoc]
    congr 1
    funext q
    split
    · simp
    · exact run_append step m l q.1

theorem mn_cast (a b : Nat) : mn (a : Int) (b : Int) = ((min a b : Nat) : Int) := by
  unfold mn
  split <;> omega
theorem pw_parts {p a : Nat} (hp : p ≤ 4) (ha : a ≤ 1000) : wrap64 (wrap64 ((p : Int) * (a : Int)) * (a : Int)) = ((p * a * a : Nat) : Int) := by
  have h1 : p * a ≤ 4 * 1000 := Nat.mul_le_mul hp ha
  rw [← Int.natCast_mul, w64_nat (p * a) (by omega), wmul (c := 4000) (by omega) (by omega) (by omega)]

theorem sqL_run {σ : Type} (step : σ → List Int → Option (σ × Bool)) (p n : Nat) (hp : p + 1 ≤ 4) (hn : n ≤ 1000000) (xs : List Int) (hxs : xs.length + (p + 1) ≤ 4)
    (ih : ∀ (most m : Nat) (xs : List Int) (s : σ) (q : σ × Bool), m ≤ 1000000 → xs.length + p ≤ 4 → run step s ((allL p most m).map (xs ++ ·)) = some q → Ev (fun k => sqF impl_root.f step k xs (p : Int) (most : Int) (m : Int) s) q) (a : Nat) :
    ∀ (s : σ) (q : σ × Bool), a * a ≤ n → run step s ((downL (fun a => (allL p a (n - a * a)).map ((a : Int) :: ·)) (fun a => decide (n ≤ (p + 1) * a * a)) a).map (xs ++ ·)) = some q →
      Ev (fun k => sqL impl_root.f step k xs ((p + 1 : Nat) : Int) (n : Int) (a : Int) s) q := by
  have hstep : ∀ (a : Nat) (s : σ) (q : σ × Bool) (rest : List (List Int)), a * a ≤ n → (n ≤ (p + 1) * a * a) →
      run step s (((allL p a (n - a * a)).map ((a : Int) :: ·) ++ rest).map (xs ++ ·)) = some q →
      (∀ s', run step s' (rest.map (xs ++ ·)) = some q → Ev (fun k => sqL impl_root.f step k xs ((p + 1 : Nat) : Int) (n : Int) ((a : Int) - 1) s') q) →
      Ev (fun k => sqL impl_root.f step k xs ((p + 1 : Nat) : Int) (n : Int) (a : Int) s) q := by
    intro a s q rest ha hc hr hnext
    have ha2 : a ≤ 1000 := by
      rcases Nat.lt_or_ge 1000 a with h | h
      · have : 1001 * 1001 ≤ a * a := Nat.mul_le_mul h h
        omega
      · exact h
    refine Ev_succ ?_
    simp only [sqL]
    rw [pw_parts hp ha2, w64 (x := ((p + 1 : Nat) : Int) - 1) (by omega) (by omega), wmul (c := 1000) ha2 ha2 (by omega), w64 (x := (n : Int) - ((a * a : Nat) : Int)) (by omega) (by omega), w64 (x := (a : Int) - 1) (by omega) (by omega)]
    have e1 : ((p + 1 : Nat) : Int) - 1 = ((p : Nat) : Int) := by omega
    have e2 : (n : Int) - ((a * a : Nat) : Int) = ((n - a * a : Nat) : Int) := by omega
    rw [e1, e2]
    rw [List.map_append, run_append, List.map_map] at hr
    have e3 : ((xs ++ ·) ∘ ((a : Int) :: ·)) = ((xs ++ [(a : Int)]) ++ ·) := by
      funext l
      simp
    rw [e3] at hr
    obtain ⟨q1, hq1, hq2⟩ := Option.bind_eq_some_iff.mp hr
    have h1 := ih a (n - a * a) (xs ++ [(a : Int)]) s q1 (by omega) (by simp; omega) hq1
    refine Ev_true (by omega) (Ev_true (by omega) (Ev_true (by omega) ?_))
    refine Ev.bind h1 ?_
    by_cases hb : q1.2 = true
    · rw [if_pos hb] at hq2
      obtain rfl := Option.some.inj hq2
      exact Ev_true hb Ev_some
    · rw [if_neg hb] at hq2
      exact Ev_false hb (hnext _ hq2)
  induction a with
  | zero =>
    intro s q ha hr
    unfold downL at hr
    by_cases hc : n ≤ (p + 1) * 0 * 0
    · rw [if_pos (by simpa using hc)] at hr
      refine hstep 0 s q [] ha hc (by simpa using hr) (fun s' hr' => ?_)
      simp only [List.map_nil, run] at hr'
      obtain rfl := Option.some.inj hr'
      refine Ev_succ ?_
      simp only [sqL]
      exact Ev_false (by omega) Ev_some
    · rw [if_neg (by simpa using hc)] at hr
      simp only [List.map_nil, run] at hr
      obtain rfl := Option.some.inj hr
      refine Ev_succ ?_
      simp only [sqL]
      rw [pw_parts hp (by omega)]
      exact Ev_true (by omega) (Ev_false (by omega) Ev_some)
  | succ a iha =>
    intro s q ha hr
    unfold downL at hr
    have hle : a * a ≤ n := Nat.le_trans (Nat.mul_le_mul (Nat.le_succ a) (Nat.le_succ a)) ha
    have ha2 : a + 1 ≤ 1000 := by
      rcases Nat.lt_or_ge 1000 (a + 1) with h | h
      · have : 1001 * 1001 ≤ (a + 1) * (a + 1) := Nat.mul_le_mul h h
        omega
      · exact h
    by_cases hc : n ≤ (p + 1) * (a + 1) * (a + 1)
    · rw [if_pos (by simpa using hc)] at hr
      refine hstep (a + 1) s q _ ha hc hr (fun s' hr' => ?_)
      have e : ((a + 1 : Nat) : Int) - 1 = (a : Int) := by omega
      rw [e]
      exact iha s' q hle hr'
    · rw [if_neg (by simpa using hc)] at hr
      simp only [List.map_nil, run] at hr
      obtain rfl := Option.some.inj hr
      refine Ev_succ ?_
      simp only [sqL]
      rw [pw_parts hp ha2]
      exact Ev_true (by omega) (Ev_false (by omega) Ev_some)

theorem sqF_run {σ : Type} (step : σ → List Int → Option (σ × Bool)) : ∀ (p : Nat), p ≤ 4 → ∀ (most n : Nat) (xs : List Int) (s : σ) (q : σ × Bool), n ≤ 1000000 → xs.length + p ≤ 4 →
    run step s ((allL p most n).map (xs ++ ·)) = some q → Ev (fun k => sqF impl_root.f step k xs (p : Int) (most : Int) (n : Int) s) q
  | 0, _, most, n, xs, s, q, hn, hxs, hr => by
    refine Ev_succ ?_
    simp only [sqF]
    unfold allL at hr
    by_cases h : n = 0
    · rw [if_pos h] at hr
      have e : run step s ([[]].map (xs ++ ·)) = step s xs := by
        simp only [List.map_cons, List.map_nil, List.append_nil, run]
        cases step s xs with
        | none => rfl
        | some q =>
          simp only [Option.bind_some]
          obtain ⟨q1, q2⟩ := q
          cases q2 <;> rfl
      rw [e] at hr
      exact Ev_true (by omega) (Ev_true (by omega) (Ev_const hr))
    · rw [if_neg h] at hr
      simp only [List.map_nil, run] at hr
      obtain rfl := Option.some.inj hr
      exact Ev_true (by omega) (Ev_false (by omega) Ev_some)
  | p + 1, hp, most, n, xs, s, q, hn, hxs, hr => by
    refine Ev_succ ?_
    simp only [sqF]
    refine Ev_false (by omega) (Ev.bind (root_ev (n := n) (by omega)) ?_)
    simp only [mn_cast]
    unfold allL at hr
    have hs := (isq_spec n).1
    have hle : min most (isq n) * min most (isq n) ≤ n := Nat.le_trans (Nat.mul_le_mul (Nat.min_le_right _ _) (Nat.min_le_right _ _)) hs
    exact sqL_run step p n hp hn xs hxs (fun most m xs s q h1 h2 h3 => sqF_run step p (by omega) most m xs s q h1 h2 h3) _ s q hle hr

/-! ### the other program: as many of them as asked -/
theorem rdL_get {l : List (List Int)} {i : Nat} (h : i < l.length) : rd_L2 l (i : Int) = l[i] := by
  simp [rd_L2, List.getD_eq_getElem?_getD, List.getElem?_eq_getElem h]



theorem least_cast (a b : Nat) : spec_l1Least.f (a : Int) (b : Int) = some ((min a b : Nat) : Int) := by
  unfold spec_l1Least.f
  split <;> (congr 1; omega)
end Go.Proofs.Ytpmbffchkcemoaa.Q
namespace Go.Proofs.Ytpmbffchkcemoaa.Q
open Go.RowKit Go.Proofs.Ytpmbffchkcemoaa.P Go.Proofs.YtpmbffchkcemoaaW.PrintWords Go.Proofs.YtpmbffchkcemoaaW.PrintLast Go.Proofs.YtpmbffchkcemoaaW.PrintMore Go.Proofs.Ytpmbffchkcemoaa.G

/-! ### the first list -/
def firstOf : List (List Int) → List Int × Bool
  | [] => ([], false)
  | l :: _ => (l, true)
theorem firstSq_ev {p n : Nat} (hp : p ≤ 4) (hn : n ≤ 1000000) : Ev (fun k => impl_firstSquares.f k (p : Int) (n : Int)) (firstOf (allL p n n)) := by
  unfold impl_firstSquares.f firstF
  refine sqF_run firstStep p hp n n [] [] _ hn (by simpa using hp) ?_
  have e : ((allL p n n).map (([] : List Int) ++ ·)) = allL p n n := by simp
  rw [e]
  cases allL p n n with
  | nil => rfl
  | cons l L => rfl
theorem firstOf_len {p most n : Nat} : (firstOf (allL p most n)).1.length ≤ p := by
  cases h : allL p most n with
  | nil => simp [firstOf]
  | cons l L =>
    have : l ∈ allL p most n := by rw [h]; exact List.mem_cons_self
    simp [firstOf, allL_len this]

/-! ### all lists, and that they are few -/
theorem downL_one {n : Nat} : ∀ a, a * a ≤ n → (downL (fun a => (allL 0 a (n - a * a)).map ((a : Int) :: ·)) (fun a => decide (n ≤ (0 + 1) * a * a)) a).length ≤ 1
  | 0, h => by
    unfold downL
    split
    · simp only [List.length_map, allL]
      split <;> simp
    · simp
  | a + 1, h => by
    unfold downL
    split
    · rename_i hc
      have hc : n ≤ (0 + 1) * (a + 1) * (a + 1) := by simpa using hc
      rw [List.length_append]
      have h1 : (downL (fun a => (allL 0 a (n - a * a)).map ((a : Int) :: ·)) (fun a => decide (n ≤ (0 + 1) * a * a)) a).length = 0 := by
        have hlt : ¬ n ≤ (0 + 1) * a * a := by
          have e : (a + 1) * (a + 1) = a * a + a + a + 1 := by rw [Nat.add_mul, Nat.mul_add]; omega
          rw [Nat.zero_add, Nat.one_mul] at hc ⊢
          omega
        cases a with
        | zero => unfold downL; rw [if_neg (by simpa using hlt)]; rfl
        | succ a => unfold downL; rw [if_neg (by simpa using hlt)]; rfl
      rw [h1]
      simp only [List.length_map, allL]
      split <;> simp
    · simp
theorem downL_len {α : Type} {f : Nat → List α} {c : Nat → Bool} {B : Nat} : ∀ a, (∀ b, b ≤ a → (f b).length ≤ B) → (downL f c a).length ≤ (a + 1) * B
  | 0, h => by
    unfold downL
    split
    · have := h 0 (Nat.le_refl _); omega
    · simp
  | a + 1, h => by
    unfold downL
    split
    · rw [List.length_append, Nat.succ_mul]
      have h1 := h (a + 1) (Nat.le_refl _)
      have h2 := downL_len (c := c) (f := f) (B := B) a (fun b hb => h b (by omega))
      omega
    · simp
theorem isq_mono {m n : Nat} (h : m ≤ n) : isq m ≤ isq n := isq_le (Nat.lt_of_le_of_lt h (isq_spec n).2)
theorem allL_few : ∀ p most n R, isq n ≤ R → (allL (p + 1) most n).length ≤ (R + 1) ^ p
  | 0, most, n, R, _ => by
    unfold allL
    rw [Nat.pow_zero]
    exact downL_one _ (Nat.le_trans (Nat.mul_le_mul (Nat.min_le_right _ _) (Nat.min_le_right _ _)) (isq_spec n).1)
  | p + 1, most, n, R, hR => by
    unfold allL
    have h := downL_len (c := fun a => decide (n ≤ (p + 1 + 1) * a * a)) (f := fun a => (allL (p + 1) a (n - a * a)).map ((a : Int) :: ·)) (B := (R + 1) ^ p) (min most (isq n)) (fun b _ => by
      rw [List.length_map]
      exact allL_few p b (n - b * b) R (Nat.le_trans (isq_mono (Nat.sub_le _ _)) hR))
    refine Nat.le_trans h ?_
    rw [Nat.pow_succ, Nat.mul_comm]
    exact Nat.mul_le_mul_left _ (by have := Nat.min_le_right most (isq n); omega)
theorem allL_two {n : Nat} (hn : n ≤ 1000000) (most : Nat) : (allL 2 most n).length ≤ 1001 := by
  have h := allL_few 1 most n 1000 (isq_le (by omega))
  simpa using h
theorem allL_four {n : Nat} (hn : n ≤ 2000) (most : Nat) : (allL 4 most n).length ≤ 91125 := by
  have h := allL_few 3 most n 44 (isq_le (by omega))
  simpa using h
theorem run_all (L : List (List Int)) : ∀ s : List (List Int), s.length + L.length ≤ 1000000 → run allStep s L = some (s ++ L, false)
  := by
  induction L with
  | nil => intro s _; simp [run]
  | cons l L ih =>
    intro s h
    have h1 : allStep s l = some (s ++ [l], false) := if_pos (by simp at h; omega)
    simp only [run, h1, Option.bind_some]
    rw [if_neg (by simp), ih (s ++ [l]) (by simp at h ⊢; omega)]
    simp
theorem allSq_ev {p n : Nat} (hp : p ≤ 4) (hn : n ≤ 1000000) (hl : (allL p n n).length ≤ 1000000) : Ev (fun k => impl_allSquares.f k (p : Int) (n : Int)) (allL p n n) := by
  unfold impl_allSquares.f allF
  have h := sqF_run allStep p hp n n [] [] (allL p n n, false) hn (by simpa using hp) (by
    have e : ((allL p n n).map (([] : List Int) ++ ·)) = allL p n n := by simp
    rw [e, run_all _ _ (by simpa using hl)]
    simp)
  obtain ⟨K, h⟩ := h
  exact ⟨K, fun k hk => by have h1 := h k hk; dsimp only at h1 ⊢; rw [h1]; rfl⟩
end Go.Proofs.Ytpmbffchkcemoaa.Q
namespace Go.Proofs.Ytpmbffchkcemoaa.Q
/-- The sum of the squares. -/
def sqs : List Int → Int
  | [] => 0
  | x :: l => x * x + sqs l
theorem sq_nn (x : Int) : 0 ≤ x * x := by
  rcases Int.le_total 0 x with h | h
  · exact Int.mul_nonneg h h
  · exact Int.mul_nonneg_of_nonpos_of_nonpos h h
theorem sqs_nn : ∀ l : List Int, 0 ≤ sqs l
  | [] => by simp [sqs]
  | x :: l => by
    have h1 := sqs_nn l
    have h2 := sq_nn x
    simp only [sqs]
    omega
end Go.Proofs.Ytpmbffchkcemoaa.Q
namespace Go.Proofs.Ytpmbffchkcemoaa.RootMinus

def Prime (p : Nat) : Prop := 2 ≤ p ∧ ∀ d, d ∣ p → d = 1 ∨ d = p

theorem prime_of_small {p : Nat} (h2 : 2 ≤ p) (h : ∀ d, 2 ≤ d → d * d ≤ p → ¬ d ∣ p) : Prime p := by
  refine ⟨h2, fun d hd => ?_⟩
  obtain ⟨c, hc⟩ := hd
  have hd0 : 0 < d := by
    rcases Nat.eq_zero_or_pos d with e | e
    · subst e; omega
    · exact e
  have hc0 : 0 < c := by
    rcases Nat.eq_zero_or_pos c with e | e
    · subst e; omega
    · exact e
  by_cases e1 : d = 1
  · exact .inl e1
  by_cases e2 : c = 1
  · subst e2; right; omega
  exfalso
  rcases Nat.le_total d c with hl | hl
  · exact h d (by omega) (by rw [hc]; exact Nat.mul_le_mul_left d hl) ⟨c, hc⟩
  · exact h c (by omega) (by rw [hc]; exact Nat.mul_le_mul_right c hl) ⟨d, by rw [hc, Nat.mul_comm]⟩

theorem small_of_prime {p : Nat} (h : Prime p) : ∀ d, 2 ≤ d → d * d ≤ p → ¬ d ∣ p := by
  intro d h1 h2 h3
  rcases h.2 d h3 with e | e
  · omega
  · subst e
    have : d * 2 ≤ d * d := Nat.mul_le_mul_left d h1
    have := h.1
    omega

theorem gcd_one {p x : Nat} (h : Prime p) (h0 : 0 < x) (h1 : x < p) : Nat.gcd x p = 1 := by
  rcases h.2 _ (Nat.gcd_dvd_right x p) with e | e
  · exact e
  · have := Nat.le_of_dvd h0 (Nat.gcd_dvd_left x p)
    omega

theorem bezout (a b : Nat) : ∃ u v : Int, u * a + v * b = Nat.gcd a b := by
  induction a, b using Nat.gcd.induction with
  | H0 b => exact ⟨0, 1, by simp⟩
  | H1 a b ha ih =>
    obtain ⟨u, v, h⟩ := ih
    refine ⟨v - u * (b / a : Nat), u, ?_⟩
    rw [Nat.gcd_rec a b, ← h]
    have e : (b : Int) = (a : Int) * (b / a : Nat) + (b % a : Nat) := by
      have := Nat.div_add_mod b a
      exact_mod_cast this.symm
    generalize (b / a : Nat) = q at *
    generalize (b % a : Nat) = m at *
    rw [e, Int.sub_mul, Int.mul_add]
    have : u * (q : Int) * a = u * ((a : Int) * q) := by rw [Int.mul_assoc, Int.mul_comm (q : Int) a]
    omega

theorem inverse {p x : Nat} (h : Prime p) (h0 : 0 < x) (h1 : x < p) : ∃ y, 0 < y ∧ y < p ∧ x * y % p = 1 := by
  obtain ⟨u, v, e⟩ := bezout x p
  rw [gcd_one h h0 h1] at e
  have hp : (0 : Int) < p := by have := h.1; omega
  have h2 := h.1
  refine ⟨(u % p).toNat, ?_, ?_, ?_⟩
  · have g := Int.emod_nonneg u (show (p : Int) ≠ 0 by omega)
    rcases Int.lt_or_eq_of_le g with hl | hl
    · omega
    · exfalso
      have hd : (p : Int) ∣ u := Int.dvd_of_emod_eq_zero hl.symm
      obtain ⟨c, rfl⟩ := hd
      have hd : (p : Int) ∣ (1 : Nat) := ⟨c * x + v, by rw [← e, Int.mul_add, Int.mul_assoc, Int.mul_comm v]⟩
      have := Int.le_of_dvd (by omega) hd
      omega
  · have g := Int.emod_lt_of_pos u hp
    have g2 := Int.emod_nonneg u (show (p : Int) ≠ 0 by omega)
    omega
  · have g2 := Int.emod_nonneg u (show (p : Int) ≠ 0 by omega)
    have : ((x * (u % p).toNat : Nat) : Int) % p = 1 := by
      rw [Int.natCast_mul, Int.toNat_of_nonneg g2, Int.mul_emod, Int.emod_emod, ← Int.mul_emod]
      have : (x : Int) * u = 1 + p * (-v) := by
        have e' : u * x + v * p = 1 := by simpa using e
        rw [Int.mul_comm, Int.mul_neg, Int.mul_comm (p : Int)]
        omega
      rw [this, Int.add_mul_emod_self_left]
      exact Int.emod_eq_of_lt (by omega) (by omega)
    exact_mod_cast this

theorem cancel {p x a b : Nat} (h : Prime p) (h0 : 0 < x) (h1 : x < p) (e : x * a % p = x * b % p) : a % p = b % p := by
  obtain ⟨y, _, _, hy⟩ := inverse h h0 h1
  have : ∀ c, c % p = y * (x * c) % p := by
    intro c
    rw [← Nat.mul_assoc, Nat.mul_comm y x, Nat.mul_mod, hy, Nat.one_mul, Nat.mod_mod]
  rw [this a, this b, Nat.mul_mod, e, ← Nat.mul_mod]

/-- Fixed points of an exchange of a list with itself are as many as its elements, by 2. -/
theorem parity {α : Type} [DecidableEq α] (f : α → α) : ∀ (n : Nat) (l : List α), l.length = n → l.Nodup → (∀ x ∈ l, f x ∈ l) → (∀ x ∈ l, f (f x) = x) →
    l.length % 2 = (l.filter (fun x => f x = x)).length % 2 := by
  intro n
  induction n using Nat.strongRecOn with
  | _ n ih =>
  intro l hn hd hm hf
  match l, hn, hd, hm, hf with
  | [], _, _, _, _ => simp
  | a :: t, hn, hd, hm, hf =>
    have hat : a ∉ t := (List.nodup_cons.1 hd).1
    have htd := (List.nodup_cons.1 hd).2
    by_cases e : f a = a
    · have hm' : ∀ x ∈ t, f x ∈ t := by
        intro x hx
        rcases List.mem_cons.1 (hm x (List.mem_cons_of_mem _ hx)) with h | h
        · exfalso
          have := hf x (List.mem_cons_of_mem _ hx)
          rw [h, e] at this
          subst this
          exact hat hx
        · exact h
      have h := ih t.length (by simp at hn; omega) t rfl htd hm' (fun x hx => hf x (List.mem_cons_of_mem _ hx))
      rw [List.filter_cons, if_pos (by simpa using e)]
      simp only [List.length_cons]
      omega
    · have hb : f a ∈ t := by
        rcases List.mem_cons.1 (hm a (List.mem_cons_self)) with h | h
        · exact absurd h e
        · exact h
      have hfa : f (f a) = a := hf a (List.mem_cons_self)
      have hl : (t.erase (f a)).length = t.length - 1 := List.length_erase_of_mem hb
      have hpos : 0 < t.length := List.length_pos_of_mem hb
      have hd' : (t.erase (f a)).Nodup := htd.sublist List.erase_sublist
      have hmem : ∀ x, x ∈ t.erase (f a) ↔ x ≠ f a ∧ x ∈ t := fun x => htd.mem_erase_iff
      have hm' : ∀ x ∈ t.erase (f a), f x ∈ t.erase (f a) := by
        intro x hx
        obtain ⟨h1, h2⟩ := (hmem x).1 hx
        have h3 := hf x (List.mem_cons_of_mem _ h2)
        refine (hmem _).2 ⟨?_, ?_⟩
        · intro h
          have : f (f x) = a := by rw [h]; exact hfa
          rw [h3] at this
          subst this
          exact hat h2
        · rcases List.mem_cons.1 (hm x (List.mem_cons_of_mem _ h2)) with h | h
          · exfalso
            rw [h] at h3
            exact h1 h3.symm
          · exact h
      have h := ih (t.erase (f a)).length (by simp at hn; omega) (t.erase (f a)) rfl hd' hm' (fun x hx => hf x (List.mem_cons_of_mem _ ((hmem x).1 hx).2))
      have hfil : ((t.erase (f a)).filter (fun x => f x = x)) = t.filter (fun x => f x = x) := by
        rw [List.Nodup.erase_eq_filter htd, List.filter_filter]
        refine List.filter_congr fun x hx => ?_
        by_cases hx2 : f x = x
        · have : x ≠ f a := by
            intro h
            rw [h, hfa] at hx2
            exact e hx2.symm
          simp [hx2, this]
        · simp [hx2]
      rw [List.filter_cons, if_neg (by simpa using e), ← hfil, List.length_cons]
      omega

/-- The number in 1..(p-1)/2 of a remainder or of its opposite. -/
def near (p y : Nat) : Nat := if 2 * (y % p) < p then y % p else p - y % p

theorem root_exists {p : Nat} (h : Prime p) (h4 : p % 4 ≠ 3) : ∃ r, 1 ≤ r ∧ r < p ∧ (r * r + 1) % p = 0 := by
  have h2 := h.1
  by_cases e2 : p = 2
  · subst e2; exact ⟨1, by omega, by omega, by omega⟩
  have hodd : p % 2 = 1 := by
    rcases Nat.mod_two_eq_zero_or_one p with e | e
    · exfalso
      rcases h.2 2 (Nat.dvd_of_mod_eq_zero e) with h | h <;> omega
    · exact e
  -- the inverse
  have hinv : ∀ x, ∃ y, 0 < x → x < p → 0 < y ∧ y < p ∧ x * y % p = 1 := by
    intro x
    by_cases hx : 0 < x ∧ x < p
    · obtain ⟨y, hy⟩ := inverse h hx.1 hx.2
      exact ⟨y, fun _ _ => hy⟩
    · exact ⟨0, fun h1 h2 => absurd ⟨h1, h2⟩ hx⟩
  let inv : Nat → Nat := fun x => Classical.choose (hinv x)
  have hi : ∀ x, 0 < x → x < p → 0 < inv x ∧ inv x < p ∧ x * inv x % p = 1 := fun x => Classical.choose_spec (hinv x)
  let g : Nat → Nat := fun x => near p (inv x)
  let l : List Nat := (List.range ((p - 1) / 2)).map (· + 1)
  have hl : ∀ x, x ∈ l ↔ 0 < x ∧ 2 * x < p := by
    intro x
    simp only [l, List.mem_map, List.mem_range]
    constructor
    · rintro ⟨a, h1, rfl⟩; omega
    · intro ⟨h1, h2⟩; exact ⟨x - 1, by omega, by omega⟩
  have hnd : l.Nodup := by
    refine List.Pairwise.map _ (fun a b hab => ?_) List.nodup_range
    omega
  -- what the exchange does: x times g x is 1 or -1
  have hg : ∀ x, 0 < x → x < p → 0 < g x ∧ 2 * g x < p ∧ (x * g x % p = 1 ∨ x * g x % p = p - 1) := by
    intro x h0 h1
    obtain ⟨i0, i1, i2⟩ := hi x h0 h1
    simp only [g, near]
    rw [Nat.mod_eq_of_lt i1]
    split
    · exact ⟨i0, by assumption, .inl i2⟩
    · refine ⟨by omega, by omega, .inr ?_⟩
      have e : x * (p - inv x) + x * inv x = x * p := by rw [← Nat.mul_add]; congr 1; omega
      have e3 : (x * (p - inv x) + x * inv x) % p = 0 := by rw [e]; exact Nat.mul_mod_left x p
      rw [Nat.add_mod, i2] at e3
      have h5 : x * (p - inv x) % p < p := Nat.mod_lt _ (by omega)
      generalize x * (p - inv x) % p = z at *
      have : p ∣ z + 1 := Nat.dvd_of_mod_eq_zero e3
      have := Nat.le_of_dvd (by omega) this
      omega
  have huniq : ∀ x a b, 0 < x → x < p → 0 < a → 2 * a < p → 0 < b → 2 * b < p → (x * a % p = 1 ∨ x * a % p = p - 1) → (x * b % p = 1 ∨ x * b % p = p - 1) → a = b := by
    intro x a b h0 h1 a0 a1 b0 b1 ha hb
    have same : x * a % p = x * b % p → a = b := by
      intro e
      have := cancel h h0 h1 e
      rwa [Nat.mod_eq_of_lt (by omega), Nat.mod_eq_of_lt (by omega)] at this
    have opp : (x * a % p + x * b % p) = p → False := by
      intro e
      have e3 : x * (a + b) % p = x * 0 % p := by
        rw [Nat.mul_add, Nat.add_mod, e, Nat.mod_self, Nat.mul_zero, Nat.zero_mod]
      have := cancel h h0 h1 e3
      rw [Nat.mod_eq_of_lt (by omega), Nat.zero_mod] at this
      omega
    rcases ha with ha | ha <;> rcases hb with hb | hb
    · exact same (by rw [ha, hb])
    · exact (opp (by omega)).elim
    · exact (opp (by omega)).elim
    · exact same (by rw [ha, hb])
  have hmem : ∀ x ∈ l, g x ∈ l := by
    intro x hx
    obtain ⟨x0, x1⟩ := (hl x).1 hx
    obtain ⟨g0, g1, _⟩ := hg x x0 (by omega)
    exact (hl _).2 ⟨g0, g1⟩
  have hgg : ∀ x ∈ l, g (g x) = x := by
    intro x hx
    obtain ⟨x0, x1⟩ := (hl x).1 hx
    obtain ⟨g0, g1, g2⟩ := hg x x0 (by omega)
    obtain ⟨k0, k1, k2⟩ := hg (g x) g0 (by omega)
    exact huniq (g x) _ _ g0 (by omega) k0 k1 x0 x1 k2 (by rw [Nat.mul_comm]; exact g2)
  have hpar := parity g l.length l rfl hnd hmem hgg
  have hlen : l.length % 2 = 0 := by
    simp only [l, List.length_map, List.length_range]
    omega
  -- 1 is fixed, so another one is
  have h1l : 1 ∈ l := (hl 1).2 ⟨by omega, by omega⟩
  have hg1 : g 1 = 1 := by
    obtain ⟨g0, g1, g2⟩ := hg 1 (by omega) (by omega)
    exact huniq 1 _ _ (by omega) (by omega) g0 g1 (by omega) (by omega) g2 (.inl (by rw [Nat.mul_one]; exact Nat.mod_eq_of_lt (by omega)))
  have hF : 1 ∈ l.filter (fun x => g x = x) := List.mem_filter.2 ⟨h1l, by simpa using hg1⟩
  have hFn : (l.filter (fun x => g x = x)).Nodup := hnd.sublist List.filter_sublist
  obtain ⟨r, hr, hne⟩ : ∃ r, r ∈ l.filter (fun x => g x = x) ∧ r ≠ 1 := by
    match hq : l.filter (fun x => g x = x), hF, hFn with
    | [a], h, _ => rw [hq] at hpar; simp at hpar; omega
    | a :: b :: t, h, hn =>
      by_cases ha : a = 1
      · refine ⟨b, by simp, ?_⟩
        intro hb
        subst ha hb
        simp at hn
      · exact ⟨a, by simp, ha⟩
  obtain ⟨hrl, hrg⟩ := List.mem_filter.1 hr
  have hrg : g r = r := by simpa using hrg
  obtain ⟨r0, r1⟩ := (hl r).1 hrl
  obtain ⟨_, _, g2⟩ := hg r r0 (by omega)
  rw [hrg] at g2
  refine ⟨r, by omega, by omega, ?_⟩
  rcases g2 with e | e
  · exfalso
    -- (r - 1)(r + 1) is a multiple of p
    have e3 : (r - 1) * (r + 1) % p = (r - 1) * 0 % p := by
      have e5 : (r - 1) * (r + 1) = r * r - 1 := by
        obtain ⟨m, rfl⟩ : ∃ m, r = m + 1 := ⟨r - 1, by omega⟩
        simp only [Nat.add_sub_cancel]
        rw [Nat.add_mul, Nat.mul_add m, Nat.mul_add m]
        simp only [Nat.one_mul, Nat.mul_one]
        omega
      rw [e5, Nat.mul_zero, Nat.zero_mod]
      have e6 := Nat.div_add_mod (r * r) p
      rw [e] at e6
      rw [← e6, Nat.add_sub_cancel]
      exact Nat.mul_mod_right p _
    have := cancel h (by omega) (by omega) e3
    rw [Nat.mod_eq_of_lt (by omega), Nat.zero_mod] at this
    omega
  · rw [Nat.add_mod, e, Nat.mod_eq_of_lt (show 1 < p by omega)]
    rw [show p - 1 + 1 = p by omega, Nat.mod_self]

end Go.Proofs.Ytpmbffchkcemoaa.RootMinus
namespace Go.Proofs.Ytpmbffchkcemoaa.Q

--BODY
/-- No number is greater than the one before it, and none is less than 0. -/
def Fall : Int → List Int → Prop
  | _, [] => True
  | m, x :: l => 0 ≤ x ∧ x ≤ m ∧ Fall x l
theorem sqs_le : ∀ (l : List Int) (m : Int), 0 ≤ m → Fall m l → sqs l ≤ l.length * (m * m) ∧ 0 ≤ sqs l
  | [], m, _, _ => by simp [sqs]
  | x :: l, m, hm, ⟨h0, h1, h2⟩ => by
    have ih := sqs_le l x h0 h2
    have hx : x * x ≤ m * m := Int.mul_le_mul h1 h1 h0 hm
    have hl : (l.length : Int) * (x * x) ≤ l.length * (m * m) := Int.mul_le_mul_of_nonneg_left hx (by omega)
    have hp : 0 ≤ x * x := Int.mul_nonneg h0 h0
    simp only [sqs, List.length_cons, Int.natCast_add, Int.natCast_one, Int.add_mul, Int.one_mul]
    omega
theorem downL_intro {α : Type} {f : Nat → List α} {c : Nat → Bool} {x : α} {a : Nat} (hx : x ∈ f a) : ∀ top, a ≤ top → (∀ b, a ≤ b → b ≤ top → c b = true) → x ∈ downL f c top
  | 0, h, hc => by
    obtain rfl : a = 0 := by omega
    unfold downL
    rw [if_pos (hc 0 (by omega) (by omega))]
    exact hx
  | t + 1, h, hc => by
    unfold downL
    rw [if_pos (hc (t + 1) h (by omega))]
    by_cases e : a = t + 1
    · subst e
      exact List.mem_append_left _ hx
    · exact List.mem_append_right _ (downL_intro hx t (by omega) (fun b h1 h2 => hc b h1 (by omega)))
theorem allL_fall : ∀ {p most n} {l : List Int}, l ∈ allL p most n → sqs l = (n : Int) ∧ Fall most l
  | 0, most, n, l, h => by
    unfold allL at h
    split at h
    · simp at h
      subst h
      simp_all [sqs, Fall]
    · simp at h
  | p + 1, most, n, l, h => by
    unfold allL at h
    obtain ⟨b, hb, hx⟩ := downL_mem h
    obtain ⟨l', hl', rfl⟩ := List.mem_map.1 hx
    obtain ⟨h1, h2⟩ := allL_fall hl'
    have h3 : b * b ≤ n := Nat.le_trans (Nat.mul_le_mul (Nat.le_trans hb (Nat.min_le_right _ _)) (Nat.le_trans hb (Nat.min_le_right _ _))) (isq_spec n).1
    refine ⟨?_, by omega, by omega, h2⟩
    simp only [sqs]
    rw [h1]
    omega
theorem allL_has : ∀ (l : List Int) {most n : Nat}, sqs l = (n : Int) → Fall most l → l ∈ allL l.length most n
  | [], most, n, h, _ => by
    have : n = 0 := by simp [sqs] at h; omega
    subst this
    simp [allL]
  | x :: l, most, n, h, ⟨h0, h1, h2⟩ => by
    obtain ⟨a, rfl⟩ := Int.eq_ofNat_of_zero_le h0
    obtain ⟨k1, k2⟩ := sqs_le l a h0 h2
    simp only [sqs] at h
    have hn : a * a ≤ n := by omega
    have ha : a ≤ isq n := by
      obtain ⟨_, h4⟩ := isq_spec n
      rcases Nat.lt_or_ge (isq n) a with q | q
      · have := Nat.mul_le_mul (show isq n + 1 ≤ a from q) (show isq n + 1 ≤ a from q)
        omega
      · exact q
    have ih := allL_has l (most := a) (n := n - a * a) (by omega) h2
    rw [List.length_cons]
    unfold allL
    refine downL_intro (a := a) (List.mem_map.2 ⟨l, ih, rfl⟩) _ (by omega) (fun b hb _ => decide_eq_true ?_)
    have hb2 : (l.length + 1) * (a * a) ≤ (l.length + 1) * (b * b) := Nat.mul_le_mul_left _ (Nat.mul_le_mul hb hb)
    have k3 : (l.length + 1) * (a * a) = l.length * (a * a) + a * a := by rw [Nat.add_mul, Nat.one_mul]
    have k4 : ((l.length : Nat) : Int) * ((a : Int) * (a : Int)) = ((l.length * (a * a) : Nat) : Int) := by simp
    rw [Nat.mul_assoc]
    omega
/-- A list is before another one, the least first, as the law tells it. -/
def bef : List Int → List Int → Bool
  | x :: a, y :: b => if x = y then bef a b else decide (x < y)
  | a, b => decide (a.length < b.length)
theorem bef_irr : ∀ l, bef l l = false
  | [] => by simp [bef]
  | x :: l => by simp [bef, bef_irr l]
theorem downL_pair {α : Type} {R : α → α → Prop} {f : Nat → List α} {c : Nat → Bool} (h1 : ∀ a, (f a).Pairwise R) (h2 : ∀ a b x y, a < b → x ∈ f b → y ∈ f a → R x y) : ∀ top, (downL f c top).Pairwise R
  | 0 => by
    unfold downL
    split
    · exact h1 0
    · exact List.Pairwise.nil
  | t + 1 => by
    unfold downL
    split
    · refine List.pairwise_append.2 ⟨h1 _, downL_pair h1 h2 t, ?_⟩
      intro x hx y hy
      obtain ⟨b, hb, hy⟩ := downL_mem hy
      exact h2 b (t + 1) x y (by omega) hx hy
    · exact List.Pairwise.nil
theorem allL_pair : ∀ p most n, (allL p most n).Pairwise (fun x y => bef y x = true)
  | 0, most, n => by
    unfold allL
    split <;> simp
  | p + 1, most, n => by
    unfold allL
    refine downL_pair ?_ ?_ _
    · intro a
      refine List.pairwise_map.2 ((allL_pair p a (n - a * a)).imp ?_)
      intro x y h
      simpa [bef] using h
    · intro a b x y hab hx hy
      obtain ⟨x', _, rfl⟩ := List.mem_map.1 hx
      obtain ⟨y', _, rfl⟩ := List.mem_map.1 hy
      have : ¬ ((a : Int) = (b : Int)) := by omega
      simp only [bef, if_neg this]
      exact decide_eq_true (by omega)
theorem one_of {L : List (List Int)} {s : List Int} (hs : s ∈ L) (hu : ∀ l ∈ L, l = s) (hp : L.Pairwise (fun x y => bef y x = true)) : L = [s] := by
  match L, hs, hu, hp with
  | [], hs, _, _ => simp at hs
  | [x], _, hu, _ => rw [hu x (by simp)]
  | x :: y :: L, _, hu, hp =>
    have h1 := (List.pairwise_cons.1 hp).1 y (by simp)
    rw [hu x (by simp), hu y (by simp), bef_irr] at h1
    exact absurd h1 (by simp)
--END
end Go.Proofs.Ytpmbffchkcemoaa.Q
namespace Go.Proofs.Ytpmbffchkcemoaa.Q
open RootMinus

--BODY
theorem prime_mul {p x y : Nat} (hp : Prime p) (h : p ∣ x * y) : p ∣ x ∨ p ∣ y := by
  rcases hp.2 (Nat.gcd p x) (Nat.gcd_dvd_left p x) with e | e
  · exact Or.inr (Nat.Coprime.dvd_of_dvd_mul_left e h)
  · exact Or.inl (e ▸ Nat.gcd_dvd_right p x)
theorem sq_le_sq {x p : Int} (hp : 0 ≤ p) (h : x * x ≤ p * p) (hx : 0 ≤ x) : x ≤ p := by
  rcases Int.lt_or_le p x with k | k
  · have h1 := Int.mul_lt_mul_of_pos_right k (show 0 < x by omega)
    have h2 := Int.mul_le_mul_of_nonneg_left (show p ≤ x by omega) hp
    omega
  · exact k
theorem sq_pos (x : Int) : 0 ≤ x * x := by
  rcases Int.le_total 0 x with h | h
  · exact Int.mul_nonneg h h
  · exact Int.mul_nonneg_of_nonpos_of_nonpos h h
theorem nat_sq (x : Int) : (x.natAbs : Int) * x.natAbs = x * x := by
  rcases Int.natAbs_eq x with e | e
  · rw [← e]
  · have : (x.natAbs : Int) = -x := by omega
    rw [this]; grind
theorem sq_eq {a c : Int} (ha : 0 ≤ a) (hc : 0 ≤ c) (h : a * a = c * c) : a = c := by
  have h1 := sq_le_sq hc (Int.le_of_eq h) ha
  have h2 := sq_le_sq ha (Int.le_of_eq h.symm) hc
  omega
theorem dvd_cases {p : Nat} {x : Int} (h0 : 0 ≤ x) (h1 : x ≤ p) (h : p ∣ x.natAbs) : x = 0 ∨ x = p := by
  obtain ⟨k, hk⟩ := h
  match k, hk with
  | 0, hk => left; simp at hk; omega
  | 1, hk => right; simp at hk; omega
  | k + 2, hk =>
    have : p * (k + 2) = p * k + 2 * p := by rw [Nat.mul_add, Nat.mul_comm p 2]
    left
    have : 0 ≤ p * k := Nat.zero_le _
    omega
theorem two_uniq {p : Nat} (hp : Prime p) {a b c d : Int} (hb : 0 ≤ b) (hab : b ≤ a) (hd : 0 ≤ d) (hcd : d ≤ c) (h1 : a * a + b * b = p) (h2 : c * c + d * d = p) : a = c ∧ b = d := by
  have hp2 := hp.1
  have a0 : 0 < a := by
    rcases Int.lt_or_le 0 a with k | k
    · exact k
    · have e1 : a = 0 := by omega
      have e2 : b = 0 := by omega
      rw [e1, e2] at h1
      omega
  have c0 : 0 < c := by
    rcases Int.lt_or_le 0 c with k | k
    · exact k
    · have e1 : c = 0 := by omega
      have e2 : d = 0 := by omega
      rw [e1, e2] at h2
      omega
  have key : a = c → a = c ∧ b = d := by
    intro e
    subst e
    exact ⟨rfl, sq_eq hb hd (by omega)⟩
  have hm : (a * d - b * c) * (a * d + b * c) = (p : Int) * (d * d - b * b) := by
    have e1 : a * a = p - b * b := by omega
    have e2 : c * c = p - d * d := by omega
    have : (a * d - b * c) * (a * d + b * c) = (a * a) * (d * d) - (b * b) * (c * c) := by grind
    rw [this, e1, e2]
    grind
  have hs1 : (a * d - b * c) * (a * d - b * c) + (a * c + b * d) * (a * c + b * d) = (p : Int) * p := by
    have : (a * d - b * c) * (a * d - b * c) + (a * c + b * d) * (a * c + b * d) = (a * a + b * b) * (c * c + d * d) := by grind
    rw [this, h1, h2]
  have hs2 : (a * d + b * c) * (a * d + b * c) + (a * c - b * d) * (a * c - b * d) = (p : Int) * p := by
    have : (a * d + b * c) * (a * d + b * c) + (a * c - b * d) * (a * c - b * d) = (a * a + b * b) * (c * c + d * d) := by grind
    rw [this, h1, h2]
  have hac : 0 < a * c := Int.mul_pos a0 c0
  have hbd : 0 ≤ b * d := Int.mul_nonneg hb hd
  have had : 0 ≤ a * d := Int.mul_nonneg (by omega) hd
  have hbc : 0 ≤ b * c := Int.mul_nonneg hb (by omega)
  have hdv : p ∣ (a * d - b * c).natAbs * (a * d + b * c).natAbs := by
    rw [← Int.natAbs_mul, hm, Int.natAbs_mul]
    exact Nat.dvd_mul_right _ _
  rcases prime_mul hp hdv with h | h
  · have hx : (a * d - b * c).natAbs ≤ (p : Int) := sq_le_sq (by omega) (by rw [nat_sq]; have := sq_pos (a * c + b * d); omega) (by omega)
    have hz : ((a * d - b * c).natAbs : Int) = 0 ∨ ((a * d - b * c).natAbs : Int) = p := dvd_cases (by omega) hx (by simpa using h)
    rcases hz with hz | hz
    · have e : a * d = b * c := by omega
      have e3 : a * c + b * d = p := by
        refine sq_eq (by omega) (by omega) ?_
        have : a * d - b * c = 0 := by omega
        rw [this] at hs1
        omega
      apply key
      have e4 : a * (p : Int) = c * p := by
        have : a * (a * c + b * d) = c * (a * a) + b * (a * d) := by grind
        rw [← e3, this, e, e3, ← h1]
        grind
      exact Int.eq_of_mul_eq_mul_right (by omega) e4
    · exfalso
      have h3 : (a * d - b * c) * (a * d - b * c) = (p : Int) * p := by rw [← nat_sq, hz]
      have h4 : (a * c + b * d) * (a * c + b * d) = 0 := by omega
      have h5 := Int.mul_pos (show 0 < a * c + b * d by omega) (show 0 < a * c + b * d by omega)
      omega
  · have hx : (a * d + b * c) ≤ (p : Int) := sq_le_sq (by omega) (by have := sq_pos (a * c - b * d); omega) (by omega)
    rcases dvd_cases (by omega) hx h with hz | hz
    · have e1 : a * d = 0 := by omega
      have e2 : b * c = 0 := by omega
      have e3 : d = 0 := by
        rcases Int.mul_eq_zero.1 e1 with k | k
        · omega
        · exact k
      have e4 : b = 0 := by
        rcases Int.mul_eq_zero.1 e2 with k | k
        · exact k
        · omega
      subst e3 e4
      exact key (sq_eq (by omega) (by omega) (by omega))
    · have h3 : (a * c - b * d) * (a * c - b * d) = 0 := by
        rw [hz] at hs2
        omega
      have e : a * c = b * d := by
        rcases Int.mul_eq_zero.1 h3 with k | k <;> omega
      have g1 : b * d ≤ b * c := Int.mul_le_mul_of_nonneg_left hcd hb
      have g2 : b * c ≤ a * c := Int.mul_le_mul_of_nonneg_right hab (by omega)
      have e5 : a = b := Int.eq_of_mul_eq_mul_right (show c ≠ 0 by omega) (show a * c = b * c by omega)
      have e6 : c = d := Int.eq_of_mul_eq_mul_left (show b ≠ 0 by omega) (show b * c = b * d by omega)
      subst e5 e6
      exact key (sq_eq (by omega) (by omega) (by omega))
--END
end Go.Proofs.Ytpmbffchkcemoaa.Q
namespace Go.Proofs.Ytpmbffchkcemoaa.Q
open Go.RowKit Go.Proofs.Ytpmbffchkcemoaa.P Go.Proofs.YtpmbffchkcemoaaW.PrintWords Go.Proofs.YtpmbffchkcemoaaW.PrintLast

/-- The number is prime: no number from d on whose square is at most it divides it. -/
def noDivFrom (n d : Nat) : Prop := ∀ e, d ≤ e → e * e ≤ n → ¬ e ∣ n
def isPr (n : Nat) : Prop := 2 ≤ n ∧ noDivFrom n 2

theorem noDiv_end {n d : Nat} (h : ¬ d * d ≤ n) : noDivFrom n d := by
  intro e h1 h2
  have h3 : d * d ≤ e * e := Nat.mul_le_mul h1 h1
  omega
theorem noDiv_step {n d : Nat} (h : ¬ d ∣ n) (hn : noDivFrom n (d + 1)) : noDivFrom n d := by
  intro e h1 h2 h3
  by_cases he : e = d
  · subst he; exact h h3
  · exact hn e (by omega) h2 h3
theorem noDiv_iff {n d : Nat} (h : ¬ d ∣ n) : noDivFrom n d ↔ noDivFrom n (d + 1) :=
  ⟨fun hn e h1 h2 h3 => hn e (by omega) h2 h3, noDiv_step h⟩

open Classical in
noncomputable def ndB (n d : Nat) : Bool := @decide (2 ≤ n ∧ noDivFrom n d) (propDecidable _)
noncomputable def prB (n : Nat) : Bool := ndB n 2
theorem ndB_iff (n d : Nat) : ndB n d = true ↔ 2 ≤ n ∧ noDivFrom n d := by unfold ndB; exact @decide_eq_true_iff _ (Classical.propDecidable _)
theorem prB_iff (n : Nat) : prB n = true ↔ isPr n := ndB_iff n 2
theorem ndB_hit {n d : Nat} (h : d * d ≤ n) (hd : d ∣ n) : ndB n d = false := by
  rw [← Bool.not_eq_true, ndB_iff]
  intro h2
  exact h2.2 d (Nat.le_refl _) h hd
theorem ndB_miss {n d : Nat} (h : ¬ d ∣ n) : ndB n d = ndB n (d + 1) := by
  rw [Bool.eq_iff_iff, ndB_iff, ndB_iff, noDiv_iff h]
theorem ndB_end {n d : Nat} (h : ¬ d * d ≤ n) : ndB n d = decide ((n : Int) > 1) := by
  rw [Bool.eq_iff_iff, ndB_iff, decide_eq_true_iff]
  exact ⟨fun h => by omega, fun h2 => ⟨by omega, noDiv_end h⟩⟩

theorem sqPrime_l0 (n : Nat) (hn : n ≤ 1000000) (m : Nat) : ∀ d : Nat, 2 ≤ d → d ≤ 1001 → 1001 - d ≤ m → Ev (fun k => spec_sqPrime.l0 k (n : Int) (d : Int)) (ndB n d) := by
  induction m with
  | zero =>
    intro d hd hd2 hm
    obtain rfl : d = 1001 := by omega
    refine Ev_succ ?_
    simp only [spec_sqPrime.l0]
    rw [w64_mul (c := 1001) (d := 1001) (by omega) (by omega) (by omega)]
    refine Ev_false (by omega) ?_
    rw [ndB_end (by omega)]
    exact Ev_some
  | succ m ih =>
    intro d hd hd2 hm
    refine Ev_succ ?_
    simp only [spec_sqPrime.l0]
    rw [w64_mul (c := 1001) (d := 1001) hd2 hd2 (by omega), tmod_cast, w64 (by omega) (by omega)]
    by_cases h : d * d ≤ n
    · have hd3 : d ≤ 1000 := by
        rcases Nat.lt_or_ge 1000 d with h1 | h1
        · have : 1001 * 1001 ≤ d * d := Nat.mul_le_mul h1 h1
          omega
        · exact h1
      refine Ev_true (by omega) (Ev_false (by omega) ?_)
      by_cases hdv : d ∣ n
      · have hz : n % d = 0 := Nat.mod_eq_zero_of_dvd hdv
        refine Ev_true (by omega) ?_
        rw [ndB_hit h hdv]
        exact Ev_some
      · have hz : n % d ≠ 0 := fun h => hdv (Nat.dvd_of_mod_eq_zero h)
        refine Ev_false (by omega) ?_
        rw [ndB_miss hdv]
        exact ih (d + 1) (by omega) (by omega) (by omega)
    · refine Ev_false (by omega) ?_
      rw [ndB_end h]
      exact Ev_some

theorem prime_same : ∀ k x y, impl_isPrime.l0 k x y = spec_sqPrime.l0 k x y := by
  intro k
  induction k with
  | zero => intro x y; rfl
  | succ k ih =>
    intro x y
    have e : decide (x ≥ 2) = decide (x > 1) := by congr 1
    simp only [spec_sqPrime.l0, impl_isPrime.l0, ih, e]

theorem sqPrime_ev (n : Nat) (hn : n ≤ 1000000) : Ev (fun k => spec_sqPrime.f k (n : Int)) (prB n) :=
  sqPrime_l0 n hn 1001 2 (by omega) (by omega) (by omega)
theorem isPrime_ev (n : Nat) (hn : n ≤ 1000000) : Ev (fun k => impl_isPrime.f k (n : Int)) (prB n) := by
  have h : (fun k => impl_isPrime.f k (n : Int)) = fun k => spec_sqPrime.f k (n : Int) := by
    funext k
    exact prime_same k _ _
  rw [h]
  exact sqPrime_ev n hn
end Go.Proofs.Ytpmbffchkcemoaa.Q
namespace Go.Proofs.Ytpmbffchkcemoaa.Pure
open Go.RowKit Go.Proofs.Ytpmbffchkcemoaa.P Go.Proofs.YtpmbffchkcemoaaW.PrintWords Go.Proofs.YtpmbffchkcemoaaW.PrintLast Go.Proofs.Ytpmbffchkcemoaa.Q

theorem least_exists {P : Nat → Prop} {n : Nat} (h : P n) : ∃ m, P m ∧ (∀ k, k < m → ¬ P k) ∧ m ≤ n := by
  induction n using Nat.strongRecOn with
  | _ n ih =>
    by_cases hk : ∃ k, k < n ∧ P k
    · obtain ⟨k, hk, hP⟩ := hk
      obtain ⟨m, h1, h2, h3⟩ := ih k hk hP
      exact ⟨m, h1, h2, by omega⟩
    · exact ⟨n, h, fun k hk' hP => hk ⟨k, hk', hP⟩, Nat.le_refl _⟩

/-- r is the least root of -1 from 1 on. -/
def LeastRoot (p r : Nat) : Prop := 1 ≤ r ∧ r < p ∧ (r * r + 1) % p = 0 ∧ ∀ s, 1 ≤ s → s < r → (s * s + 1) % p ≠ 0
theorem root_of {p : Nat} (hp : isPr p) (h4 : p % 4 ≠ 3) : ∃ r, LeastRoot p r := by
  have hP : RootMinus.Prime p := RootMinus.prime_of_small hp.1 hp.2
  obtain ⟨r, h1, h2, h3⟩ := RootMinus.root_exists hP h4
  obtain ⟨m, ⟨a1, a3⟩, b, c⟩ := least_exists (P := fun r => 1 ≤ r ∧ (r * r + 1) % p = 0) (n := r) ⟨h1, h3⟩
  exact ⟨m, a1, by omega, a3, fun s s1 s2 s3 => b s s2 ⟨s1, s3⟩⟩

theorem sq_one {p s : Nat} (hp : p ≤ 1000000) (hs : s < p) : wrap64 (wrap64 ((s : Int) * (s : Int)) + 1) = ((s * s + 1 : Nat) : Int) := by
  have h : s * s ≤ 1000000 * 1000000 := Nat.mul_le_mul (by omega) (by omega)
  rw [w64_mul (c := 1000000) (d := 1000000) (by omega) (by omega) (by omega)]
  exact w64 (by omega) (by omega)

theorem sqMinus_ev {p r : Nat} (hp : p ≤ 1000000) (hr : LeastRoot p r) (d : Nat) : ∀ s, 1 ≤ s → s + d = r → Ev (fun k => spec_sqMinus.l0 k (p : Int) (s : Int)) (r : Int) := by
  obtain ⟨r1, r2, r3, r4⟩ := hr
  induction d with
  | zero =>
    intro s h1 h2
    obtain rfl : s = r := by omega
    refine Ev_succ ?_
    simp only [spec_sqMinus.l0]
    rw [sq_one hp r2, tmod_cast, r3]
    exact Ev_true (by omega) (Ev_false (by omega) (Ev_true (by omega) Ev_some))
  | succ d ih =>
    intro s h1 h2
    refine Ev_succ ?_
    simp only [spec_sqMinus.l0]
    rw [sq_one hp (by omega), tmod_cast, w64 (by omega) (by omega)]
    have h3 := r4 s h1 (by omega)
    exact Ev_true (by omega) (Ev_false (by omega) (Ev_false (by omega) (ih (s + 1) (by omega) (by omega))))
theorem root_ev {p r : Nat} (hp : p ≤ 1000000) (hr : LeastRoot p r) (d : Nat) : ∀ s, 1 ≤ s → s + d = r → Ev (fun k => impl_RootOfMinusOne.l0 k (p : Int) (s : Int)) ((r : Int), true) := by
  obtain ⟨r1, r2, r3, r4⟩ := hr
  induction d with
  | zero =>
    intro s h1 h2
    obtain rfl : s = r := by omega
    refine Ev_succ ?_
    simp only [impl_RootOfMinusOne.l0]
    rw [sq_one hp r2, tmod_cast, r3]
    exact Ev_false (by omega) (Ev_true (by omega) Ev_some)
  | succ d ih =>
    intro s h1 h2
    refine Ev_succ ?_
    simp only [impl_RootOfMinusOne.l0]
    rw [sq_one hp (by omega), tmod_cast, w64 (by omega) (by omega)]
    have h3 := r4 s h1 (by omega)
    exact Ev_false (by omega) (Ev_false (by omega) (ih (s + 1) (by omega) (by omega)))

open Classical in
noncomputable def rootAns (a : Int) : Int × Bool :=
  if h : (0 ≤ a ∧ a ≤ 1000000) ∧ isPr a.toNat ∧ a.toNat % 4 ≠ 3 then ((Classical.choose (root_of h.2.1 h.2.2) : Nat), true) else (0, false)

theorem spec_root_ev (a : Int) : Ev (fun k => spec_RootOfMinusOne.f k a) (rootAns a) := by
  unfold spec_RootOfMinusOne.f spec_sqGiven.f rootAns
  rw [l1In_eq]
  simp only [Option.bind_some]
  by_cases h : 2 ≤ a ∧ a ≤ 1000000
  · obtain ⟨n, rfl⟩ := Int.eq_ofNat_of_zero_le (show 0 ≤ a by omega)
    refine Ev.bind (a := prB n) (f := fun k t => if t = true then (if Int.tmod (n : Int) 4 = 3 then some (0, false) else (spec_sqMinus.f k n).bind fun t158 => some (t158, true)) else some (0, false)) ?_ ?_
    · refine Ev_true (by simpa using h) ?_
      exact Ev.bind (f := fun _ t => some t) (sqPrime_ev n (by omega)) Ev_some
    · rw [show Int.tmod (n : Int) 4 = ((n % 4 : Nat) : Int) from tmod_cast n 4]
      by_cases hp : isPr n
      · by_cases h4 : n % 4 = 3
        · rw [dif_neg (fun h => h.2.2 h4)]
          exact Ev_true ((prB_iff n).2 hp) (Ev_true (by omega) Ev_some)
        · have hh : (0 ≤ (n : Int) ∧ (n : Int) ≤ 1000000) ∧ isPr (n : Int).toNat ∧ (n : Int).toNat % 4 ≠ 3 := ⟨by omega, hp, h4⟩
          rw [dif_pos hh]
          have hr := Classical.choose_spec (root_of hh.2.1 hh.2.2)
          generalize Classical.choose (root_of hh.2.1 hh.2.2) = r at hr
          refine Ev_true ((prB_iff n).2 hp) (Ev_false (by omega) ?_)
          refine Ev.bind (f := fun _ t => some (t, true)) (a := (r : Int)) ?_ Ev_some
          exact sqMinus_ev (p := n) (by omega) hr (r - 1) 1 (by omega) (by have := hr.1; omega)
      · rw [dif_neg (fun h => hp h.2.1)]
        exact Ev_false (fun h => hp ((prB_iff n).1 h)) Ev_some
  · rw [dif_neg ?_]
    · refine Ev.bind (a := false) (f := fun k t => if t = true then (if Int.tmod a 4 = 3 then some (0, false) else (spec_sqMinus.f k a).bind fun t158 => some (t158, true)) else some (0, false)) ?_ ?_
      · exact Ev_false (by simpa using h) Ev_some
      · exact Ev_false (by simp) Ev_some
    · intro h2
      have := h2.2.1.1
      omega

theorem impl_root_ev (a : Int) : Ev (fun k => impl_RootOfMinusOne.f k a) (rootAns a) := by
  unfold impl_RootOfMinusOne.f rootAns
  rw [isTwo_eq]
  simp only [Option.bind_some]
  have hno : Ev (fun k => impl_RootOfMinusOne.j0 k a true) (0, false) := by
    refine Ev_succ ?_
    simp only [impl_RootOfMinusOne.j0]
    exact Ev_true trivial Ev_some
  by_cases h : 0 ≤ a ∧ a ≤ 1000000
  · obtain ⟨n, rfl⟩ := Int.eq_ofNat_of_zero_le h.1
    refine Ev_true (by simpa using h) ?_
    refine Ev.bind (a := prB n) (f := fun k t => if t = true then impl_RootOfMinusOne.j0 k (n : Int) (Int.tmod (n : Int) 4 == 3) else impl_RootOfMinusOne.j0 k (n : Int) true) (isPrime_ev n (by omega)) ?_
    rw [show Int.tmod (n : Int) 4 = ((n % 4 : Nat) : Int) from tmod_cast n 4]
    by_cases hp : isPr n
    · refine Ev_true ((prB_iff n).2 hp) ?_
      by_cases h4 : n % 4 = 3
      · rw [dif_neg (fun h => h.2.2 h4), h4]
        exact hno
      · have hh : (0 ≤ (n : Int) ∧ (n : Int) ≤ 1000000) ∧ isPr (n : Int).toNat ∧ (n : Int).toNat % 4 ≠ 3 := ⟨by omega, hp, h4⟩
        rw [dif_pos hh]
        have hr := Classical.choose_spec (root_of hh.2.1 hh.2.2)
        generalize Classical.choose (root_of hh.2.1 hh.2.2) = r at hr
        have e : (((n % 4 : Nat) : Int) == 3) = false := by
          rw [beq_eq_false_iff_ne]
          omega
        rw [e]
        refine Ev_succ ?_
        simp only [impl_RootOfMinusOne.j0]
        refine Ev_false (by simp) ?_
        exact root_ev (p := n) (by omega) hr (r - 1) 1 (by omega) (by have := hr.1; omega)
    · rw [dif_neg (fun h => hp h.2.1)]
      exact Ev_false (fun h => hp ((prB_iff n).1 h)) hno
  · rw [dif_neg (fun h2 => h h2.1)]
    exact Ev_false (by simpa using h) hno

end Go.Proofs.Ytpmbffchkcemoaa.Pure
namespace Go.Proofs.Ytpmbffchkcemoaa.Pure
open Go.RowKit Go.Proofs.Ytpmbffchkcemoaa.P Go.Proofs.YtpmbffchkcemoaaW.PrintWords Go.Proofs.YtpmbffchkcemoaaW.PrintLast Go.Proofs.Ytpmbffchkcemoaa.Q

theorem spec_prime_ev (a : Int) : Ev (fun k => spec_IsPrimeNumber.f k a) (if 0 ≤ a ∧ a ≤ 1000000 then (prB a.toNat, true) else (false, false)) := by
  unfold spec_IsPrimeNumber.f
  rw [sqNumber_eq]
  simp only [Option.bind_some]
  by_cases h : 0 ≤ a ∧ a ≤ 1000000
  · rw [if_pos h]
    refine Ev_true (by simpa using h) ?_
    obtain ⟨n, rfl⟩ := Int.eq_ofNat_of_zero_le h.1
    exact Ev.bind (f := fun _ t => some (t, true)) (sqPrime_ev n (by omega)) Ev_some
  · rw [if_neg h]
    exact Ev_false (by simpa using h) Ev_some
theorem impl_prime_ev (a : Int) : Ev (fun k => impl_IsPrimeNumber.f k a) (if 0 ≤ a ∧ a ≤ 1000000 then (prB a.toNat, true) else (false, false)) := by
  unfold impl_IsPrimeNumber.f
  rw [isTwo_eq]
  simp only [Option.bind_some]
  by_cases h : 0 ≤ a ∧ a ≤ 1000000
  · rw [if_pos h]
    refine Ev_true (by simpa using h) ?_
    obtain ⟨n, rfl⟩ := Int.eq_ofNat_of_zero_le h.1
    exact Ev.bind (f := fun _ t => some (t, true)) (isPrime_ev n (by omega)) Ev_some
  · rw [if_neg h]
    exact Ev_false (by simpa using h) Ev_some

end Go.Proofs.Ytpmbffchkcemoaa.Pure
namespace Go.Proofs.Ytpmbffchkcemoaa.Q
def near (a m : Int) : Int := if 2 * (a % m) > m then a % m - m else a % m
theorem near_bound {a m : Int} (hm : 0 < m) : -m ≤ 2 * near a m ∧ 2 * near a m ≤ m := by
  have h1 := Int.emod_nonneg a (show m ≠ 0 by omega)
  have h2 := Int.emod_lt_of_pos a hm
  unfold near
  split <;> omega
theorem near_eq (a m : Int) : ∃ q, near a m = a - m * q := by
  have h := Int.emod_add_mul_ediv a m
  unfold near
  split
  · exact ⟨a / m + 1, by rw [Int.mul_add]; omega⟩
  · exact ⟨a / m, by omega⟩
def p1 (a b m : Int) : Int := a * near a m + b * near b m
def p2 (a b m : Int) : Int := a * near b m - b * near a m
def t1 (a b m : Int) : Int := ((p1 a b m).natAbs : Int) / m
def t2 (a b m : Int) : Int := ((p2 a b m).natAbs : Int) / m
/-- What stands at every round. -/
structure Inv (p a b m : Int) : Prop where
  a0 : 0 ≤ a
  b0 : 0 ≤ b
  m0 : 0 < m
  mp : m < p
  eq : a * a + b * b = m * p
/-- No number between 1 and it divides it. -/
def NoDiv (p : Int) : Prop := ∀ d e : Int, 1 < d → d < p → p ≠ d * e
theorem sq_lt {a b : Int} (ha : 0 ≤ a) (hb : 0 ≤ b) (h : a * a < b * b) : a < b := by
  rcases Int.lt_or_le a b with h1 | h1
  · exact h1
  · have h2 := Int.mul_le_mul h1 h1 hb ha
    omega
theorem sq_nonneg (a : Int) : 0 ≤ a * a := by
  rcases Int.le_total 0 a with h | h
  · exact Int.mul_nonneg h h
  · exact Int.mul_nonneg_of_nonpos_of_nonpos h h
theorem sq_zero {a b : Int} (h : a * a + b * b = 0) : a = 0 ∧ b = 0 := by
  have h1 := sq_nonneg a
  have h2 := sq_nonneg b
  exact ⟨by rcases Int.mul_eq_zero.1 (show a * a = 0 by omega) with h | h <;> exact h, by rcases Int.mul_eq_zero.1 (show b * b = 0 by omega) with h | h <;> exact h⟩
theorem abs_div {m s x : Int} (hm : 0 < m) (h : x = m * s) : ((x.natAbs : Int) / m) = s.natAbs := by
  rw [h, Int.natAbs_mul, Int.natCast_mul, Int.natAbs_of_nonneg (by omega : 0 ≤ m)]
  exact Int.mul_ediv_cancel_left _ (by omega)
theorem abs_sq (s : Int) : (s.natAbs : Int) * s.natAbs = s * s := Int.natAbs_mul_self
theorem sq_half {u m : Int} (h : -m ≤ 2 * u ∧ 2 * u ≤ m) : 4 * (u * u) ≤ m * m := by
  have h1 : (m - 2 * u) * (m + 2 * u) = m * m - 4 * (u * u) := by grind
  have h2 := Int.mul_nonneg (show 0 ≤ m - 2 * u by omega) (show 0 ≤ m + 2 * u by omega)
  omega
theorem id1 {a b m p : Int} (x y : Int) (h : a * a + b * b = m * p) : (p - a * x - b * y) * (p - a * x - b * y) + (b * x - a * y) * (b * x - a * y) = (p - 2 * (a * x + b * y) + m * (x * x + y * y)) * p := by
  have e : (p - a * x - b * y) * (p - a * x - b * y) + (b * x - a * y) * (b * x - a * y) = p * p - 2 * (a * x + b * y) * p + (a * a + b * b) * (x * x + y * y) := by grind
  rw [e, h]
  grind
theorem id2 {a b m p x y : Int} (h : a * a + b * b = m * p) (hx : a = m * x) (hy : b = m * y) : m * p = m * (m * (x * x + y * y)) := by
  rw [← h, hx, hy]
  grind
theorem step {p a b m : Int} (h : Inv p a b m) (hp : NoDiv p) (hm : 1 < m) :
    ∃ m', t1 a b m * t1 a b m + t2 a b m * t2 a b m = m' * p ∧ Inv p (t1 a b m) (t2 a b m) m' ∧ 2 * m' ≤ m := by
  obtain ⟨qa, ha⟩ := near_eq a m
  obtain ⟨qb, hb⟩ := near_eq b m
  have hu := near_bound (a := a) h.m0
  have hv := near_bound (a := b) h.m0
  have e0 := h.eq
  generalize hU : near a m = u at *
  generalize hV : near b m = v at *
  have e1 : p1 a b m = m * (p - a * qa - b * qb) := by
    unfold p1
    rw [hU, hV, ha, hb]
    grind
  have e2 : p2 a b m = m * (b * qa - a * qb) := by
    unfold p2
    rw [hU, hV, ha, hb]
    grind
  have e3 : u * u + v * v = m * (p - 2 * (a * qa + b * qb) + m * (qa * qa + qb * qb)) := by
    rw [ha, hb]
    grind
  have f1 : t1 a b m = ((p - a * qa - b * qb).natAbs : Int) := abs_div h.m0 e1
  have f2 : t2 a b m = ((b * qa - a * qb).natAbs : Int) := abs_div h.m0 e2
  have g1 : t1 a b m * t1 a b m = (p - a * qa - b * qb) * (p - a * qa - b * qb) := by rw [f1]; exact abs_sq _
  have g2 : t2 a b m * t2 a b m = (b * qa - a * qb) * (b * qa - a * qb) := by rw [f2]; exact abs_sq _
  generalize hw : p - 2 * (a * qa + b * qb) + m * (qa * qa + qb * qb) = w at e3
  have e4 : (p - a * qa - b * qb) * (p - a * qa - b * qb) + (b * qa - a * qb) * (b * qa - a * qb) = w * p := by
    rw [← hw]
    exact id1 qa qb e0
  have q1 := sq_half hu
  have q2 := sq_half hv
  have w2 : 2 * w ≤ m := by
    have k : m * (2 * w) ≤ m * m := by
      have : m * (2 * w) = 2 * (u * u + v * v) := by rw [e3]; grind
      omega
    exact Int.le_of_mul_le_mul_left k h.m0
  have w0 : 0 < w := by
    rcases Int.lt_trichotomy w 0 with k | k | k
    · have k1 := sq_nonneg u
      have k2 := sq_nonneg v
      have k3 := Int.mul_neg_of_pos_of_neg h.m0 k
      omega
    · rw [k, Int.mul_zero] at e3
      obtain ⟨u0, v0⟩ := sq_zero e3
      have k1 : a = m * qa := by omega
      have k2 : b = m * qb := by omega
      have k3 : m * p = m * (m * (qa * qa + qb * qb)) := id2 e0 k1 k2
      exact absurd (Int.eq_of_mul_eq_mul_left (by omega) k3) (hp m _ hm h.mp)
    · exact k
  refine ⟨w, by rw [g1, g2, e4], ⟨by rw [f1]; omega, by rw [f2]; omega, w0, by have := h.mp; omega, by rw [g1, g2, e4]⟩, w2⟩
end Go.Proofs.Ytpmbffchkcemoaa.Q
namespace Go.Proofs.Ytpmbffchkcemoaa.Q
open Go.RowKit Go.Proofs.Ytpmbffchkcemoaa.P Go.Proofs.YtpmbffchkcemoaaW.PrintWords Go.Proofs.YtpmbffchkcemoaaW.PrintLast
/-- The rows of the descent. -/
def trun (p : Int) : Nat → Int → Int → Int → List (List Int)
  | 0, a, b, m => [[a, b, m]]
  | f + 1, a, b, m => [a, b, m] :: if m ≤ 1 then [] else trun p f (t1 a b m) (t2 a b m) ((t1 a b m * t1 a b m + t2 a b m * t2 a b m) / p)
theorem trun_len (p : Int) : ∀ f a b m, (trun p f a b m).length ≤ f + 1 ∧ ∀ x ∈ trun p f a b m, x.length = 3
  | 0, a, b, m => by simp [trun]
  | f + 1, a, b, m => by
    have ih := trun_len p f (t1 a b m) (t2 a b m) ((t1 a b m * t1 a b m + t2 a b m * t2 a b m) / p)
    simp only [trun]
    split
    · simp
    · refine ⟨by simp only [List.length_cons]; omega, ?_⟩
      intro x hx
      rcases List.mem_cons.1 hx with rfl | hx
      · rfl
      · exact ih.2 x hx
theorem near_fits {a m : Int} (ha : 0 ≤ a) (hm : 0 < m) (hm2 : m ≤ 1000000000) :
    (if (wrap64 (2 * (Int.tmod (wrap64 ((Int.tmod a m) + m)) m))) > m then (some (wrap64 ((Int.tmod (wrap64 ((Int.tmod a m) + m)) m) - m))) else (some (Int.tmod (wrap64 ((Int.tmod a m) + m)) m))) = some (near a m) := by
  have h1 := Int.emod_nonneg a (show m ≠ 0 by omega)
  have h2 := Int.emod_lt_of_pos a hm
  rw [Int.tmod_eq_emod_of_nonneg ha, w64 (x := a % m + m) (by omega) (by omega), Int.tmod_eq_emod_of_nonneg (by omega), Int.add_emod_right, Int.emod_emod_of_dvd _ (Int.dvd_refl m), w64 (x := 2 * (a % m)) (by omega) (by omega), w64 (x := a % m - m) (by omega) (by omega)]
  unfold near
  split <;> rfl
theorem sqNear_eq {a m : Int} (ha : 0 ≤ a) (hm : 0 < m) (hm2 : m ≤ 1000000000) : spec_sqNear.f a m = some (near a m) := by
  unfold spec_sqNear.f
  rw [if_neg (by omega)]
  exact near_fits ha hm hm2
theorem nearest_eq {a m : Int} (ha : 0 ≤ a) (hm : 0 < m) (hm2 : m ≤ 1000000000) : impl_nearest.f a m = some (near a m) := by
  unfold impl_nearest.f
  rw [if_neg (by omega)]
  exact near_fits ha hm hm2
theorem l1Abs_eq {x : Int} (h1 : -4611686018427387904 ≤ x) (h2 : x ≤ 4611686018427387904) : spec_l1Abs.f x = some (x.natAbs : Int) := by
  unfold spec_l1Abs.f spec_l1Most.f
  rw [w64 (by omega) (by omega)]
  split
  · simp only [Option.bind_some, Option.some.injEq]
    omega
  · simp only [Option.bind_some, Option.some.injEq]
    omega
theorem size_eq {x : Int} (h1 : -4611686018427387904 ≤ x) (h2 : x ≤ 4611686018427387904) : impl_size.f x = some (x.natAbs : Int) := by
  unfold impl_size.f mx
  rw [w64 (by omega) (by omega)]
  split
  · simp only [Option.some.injEq]
    omega
  · simp only [Option.some.injEq]
    omega
theorem mul_abs {x y : Int} {A B : Int} (hx : -A ≤ x ∧ x ≤ A) (hy : -B ≤ y ∧ y ≤ B) : -(A * B) ≤ x * y ∧ x * y ≤ A * B := by
  have h1 : (x * y).natAbs ≤ (A * B).natAbs := by
    rw [Int.natAbs_mul, Int.natAbs_mul]
    exact Nat.mul_le_mul (by omega) (by omega)
  have h2 : 0 ≤ A * B := Int.mul_nonneg (by omega) (by omega)
  omega
theorem inv_lt {p a b m : Int} (h : Inv p a b m) : a < p ∧ b < p := by
  have hp : 0 ≤ p := by have := h.m0; have := h.mp; omega
  have h1 : m * p < p * p := Int.mul_lt_mul_of_pos_right h.mp (by have := h.m0; have := h.mp; omega)
  have h2 := sq_nonneg a
  have h3 := sq_nonneg b
  have h4 := h.eq
  exact ⟨sq_lt h.a0 hp (by omega), sq_lt h.b0 hp (by omega)⟩
theorem desc_ev {p : Int} (hp : NoDiv p) (hp6 : p ≤ 1000000) : ∀ (f : Nat) (a b m : Int) (xs : List (List Int)), Inv p a b m → m ≤ f → xs.length + f ≤ 4000000 →
    Ev (fun k => spec_TwoDescent.l0 k p a b m (xs ++ [[a, b, m]])) (xs ++ trun p f a b m, true) ∧ Ev (fun k => impl_TwoDescent.l0 k p a b xs) (xs ++ trun p f a b m, true)
  | 0, a, b, m, xs, h, hm, _ => by have := h.m0; omega
  | f + 1, a, b, m, xs, h, hm, hl => by
    obtain ⟨ha, hb⟩ := inv_lt h
    have ha0 := h.a0
    have hb0 := h.b0
    have hm0 := h.m0
    have hmp := h.mp
    have heq := h.eq
    have q1 := mul_abs (x := a) (y := a) (A := 1000000) (B := 1000000) (by omega) (by omega)
    have q2 := mul_abs (x := b) (y := b) (A := 1000000) (B := 1000000) (by omega) (by omega)
    have em : wrap64 (Int.tdiv (wrap64 ((wrap64 (a * a)) + (wrap64 (b * b)))) p) = m := by
      rw [w64 (x := a * a) (by omega) (by omega), w64 (x := b * b) (by omega) (by omega), w64 (x := a * a + b * b) (by omega) (by omega), heq, Int.mul_tdiv_cancel _ (by omega)]
      exact w64 (by omega) (by omega)
    by_cases h1 : m ≤ 1
    · have e1 : m = 1 := by omega
      have et : trun p (f + 1) a b m = [[a, b, m]] := by simp only [trun]; rw [if_pos h1]
      rw [et]
      refine ⟨Ev_succ ?_, Ev_succ ?_⟩
      · simp only [spec_TwoDescent.l0]
        exact Ev_false (by omega) Ev_some
      · simp only [impl_TwoDescent.l0]
        rw [em]
        refine Ev_false (by omega) (Ev_true (by omega) ?_)
        simp only [Option.bind_some]
        exact Ev_true e1 Ev_some
    · obtain ⟨m', k1, k2, k3⟩ := step h hp (by omega)
      have n1 := near_bound (a := a) hm0
      have n2 := near_bound (a := b) hm0
      have em' : (t1 a b m * t1 a b m + t2 a b m * t2 a b m) / p = m' := by rw [k1]; exact Int.mul_ediv_cancel _ (by omega)
      have et : trun p (f + 1) a b m = [a, b, m] :: trun p f (t1 a b m) (t2 a b m) m' := by simp only [trun]; rw [if_neg h1, em']
      have ih := desc_ev hp hp6 f (t1 a b m) (t2 a b m) m' (xs ++ [[a, b, m]]) k2 (by omega) (by rw [List.length_append]; simp only [List.length_singleton]; omega)
      have ee : xs ++ [[a, b, m]] ++ trun p f (t1 a b m) (t2 a b m) m' = xs ++ trun p (f + 1) a b m := by rw [et, List.append_assoc]; rfl
      rw [ee] at ih
      have r1 := mul_abs (x := a) (y := near a m) (A := 1000000) (B := 1000000) (by omega) (by omega)
      have r2 := mul_abs (x := b) (y := near b m) (A := 1000000) (B := 1000000) (by omega) (by omega)
      have r3 := mul_abs (x := a) (y := near b m) (A := 1000000) (B := 1000000) (by omega) (by omega)
      have r4 := mul_abs (x := b) (y := near a m) (A := 1000000) (B := 1000000) (by omega) (by omega)
      have x1 : wrap64 ((wrap64 (a * near a m)) + (wrap64 (b * near b m))) = p1 a b m := by
        rw [w64 (x := a * near a m) (by omega) (by omega), w64 (x := b * near b m) (by omega) (by omega), w64 (by omega) (by omega)]
        rfl
      have x2 : wrap64 ((wrap64 (a * near b m)) - (wrap64 (b * near a m))) = p2 a b m := by
        rw [w64 (x := a * near b m) (by omega) (by omega), w64 (x := b * near a m) (by omega) (by omega), w64 (by omega) (by omega)]
        rfl
      have hp1 : -2000000000000 ≤ p1 a b m ∧ p1 a b m ≤ 2000000000000 := by unfold p1; omega
      have hp2 : -2000000000000 ≤ p2 a b m ∧ p2 a b m ≤ 2000000000000 := by unfold p2; omega
      obtain ⟨b1, b2⟩ := inv_lt k2
      have c1 := k2.a0
      have c2 := k2.b0
      have y1 : wrap64 (Int.tdiv ((p1 a b m).natAbs : Int) m) = t1 a b m := by
        rw [Int.tdiv_eq_ediv_of_nonneg (by omega)]
        exact w64 (x := t1 a b m) (by omega) (by omega)
      have y2 : wrap64 (Int.tdiv ((p2 a b m).natAbs : Int) m) = t2 a b m := by
        rw [Int.tdiv_eq_ediv_of_nonneg (by omega)]
        exact w64 (x := t2 a b m) (by omega) (by omega)
      have z1 : ((Int.tdiv (p1 a b m) m).natAbs : Int) = t1 a b m := by
        rw [Int.natAbs_tdiv]
        show (((p1 a b m).natAbs / m.natAbs : Nat) : Int) = _
        rw [Int.natCast_ediv, Int.natAbs_of_nonneg (by omega : 0 ≤ m)]
        rfl
      have z2 : ((Int.tdiv (p2 a b m) m).natAbs : Int) = t2 a b m := by
        rw [Int.natAbs_tdiv]
        show (((p2 a b m).natAbs / m.natAbs : Nat) : Int) = _
        rw [Int.natCast_ediv, Int.natAbs_of_nonneg (by omega : 0 ≤ m)]
        rfl
      have w1 : wrap64 (Int.tdiv (p1 a b m) m) = Int.tdiv (p1 a b m) m := w64 (by omega) (by omega)
      have w2 : wrap64 (Int.tdiv (p2 a b m) m) = Int.tdiv (p2 a b m) m := w64 (by omega) (by omega)
      have q3 := mul_abs (x := t1 a b m) (y := t1 a b m) (A := 1000000) (B := 1000000) (by omega) (by omega)
      have q4 := mul_abs (x := t2 a b m) (y := t2 a b m) (A := 1000000) (B := 1000000) (by omega) (by omega)
      have em2 : wrap64 (Int.tdiv (wrap64 ((wrap64 (t1 a b m * t1 a b m)) + (wrap64 (t2 a b m * t2 a b m)))) p) = m' := by
        have := k2.mp
        have := k2.m0
        rw [w64 (x := t1 a b m * t1 a b m) (by omega) (by omega), w64 (x := t2 a b m * t2 a b m) (by omega) (by omega), w64 (x := t1 a b m * t1 a b m + t2 a b m * t2 a b m) (by omega) (by omega), k1, Int.mul_tdiv_cancel _ (by omega)]
        exact w64 (by omega) (by omega)
      refine ⟨Ev_succ ?_, Ev_succ ?_⟩
      · simp only [spec_TwoDescent.l0]
        rw [sqNear_eq ha0 hm0 (by omega), sqNear_eq hb0 hm0 (by omega)]
        simp only [Option.bind_some]
        rw [x1, x2, l1Abs_eq (by omega) (by omega), l1Abs_eq (by omega) (by omega)]
        simp only [Option.bind_some]
        rw [y1, y2, em2]
        exact Ev_true (by omega) (Ev_false (by omega) (Ev_false (by omega) (Ev_true (by rw [List.length_append]; simp only [List.length_singleton]; omega) ih.1)))
      · simp only [impl_TwoDescent.l0]
        rw [em, nearest_eq ha0 hm0 (by omega), nearest_eq hb0 hm0 (by omega)]
        simp only [Option.bind_some]
        rw [x1, x2, w1, w2, size_eq (by omega) (by omega), size_eq (by omega) (by omega)]
        simp only [Option.bind_some]
        rw [z1, z2]
        exact Ev_false (by omega) (Ev_true (by omega) (Ev_false (by omega) (Ev_false (by omega) ih.2)))
theorem noDiv_of {n : Nat} (hp : isPr n) : NoDiv (n : Int) := by
  have hP : RootMinus.Prime n := RootMinus.prime_of_small hp.1 hp.2
  intro d e h1 h2 h
  obtain ⟨x, rfl⟩ := Int.eq_ofNat_of_zero_le (show 0 ≤ d by omega)
  have h3 : x ∣ n := by
    rw [← Int.natCast_dvd_natCast]
    exact ⟨e, h⟩
  have := hP.2 x h3
  omega
/-- Where the descent begins. -/
theorem begin_inv {p r : Nat} (hp : p ≤ 1000000) (hr : Pure.LeastRoot p r) : ∃ m : Int, wrap64 (Int.tdiv (wrap64 ((wrap64 ((r : Int) * (r : Int))) + 1)) (p : Int)) = m ∧ Inv (p : Int) (r : Int) 1 m := by
  obtain ⟨r1, r2, r3, r4⟩ := hr
  have h2 : (p : Int) * (((r * r + 1) / p : Nat) : Int) = ((r * r + 1 : Nat) : Int) := by
    rw [← Int.natCast_mul, Nat.mul_div_cancel' (Nat.dvd_of_mod_eq_zero r3)]
  refine ⟨(((r * r + 1) / p : Nat) : Int), ?_, ?_⟩
  · rw [Pure.sq_one hp r2, tdiv_cast]
    have h : r * r ≤ 1000000 * 1000000 := Nat.mul_le_mul (by omega) (by omega)
    have h3 := Nat.div_le_self (r * r + 1) p
    generalize (r * r + 1) / p = q at h3
    exact w64 (by omega) (by omega)
  · have hlt : r * r + 1 < p * p := by
      have h : r * r ≤ (p - 1) * (p - 1) := Nat.mul_le_mul (by omega) (by omega)
      have h4 : (p - 1) * (p - 1) + 2 * (p - 1) + 1 = p * p := by
        obtain ⟨q, rfl⟩ : ∃ q, p = q + 1 := ⟨p - 1, by omega⟩
        simp only [Nat.add_sub_cancel]
        grind
      omega
    refine ⟨by omega, by omega, ?_, ?_, ?_⟩
    · have : 0 < (r * r + 1) / p := Nat.div_pos (Nat.le_of_dvd (by omega) (Nat.dvd_of_mod_eq_zero r3)) (by omega)
      omega
    · have : (r * r + 1) / p < p := Nat.div_lt_of_lt_mul hlt
      omega
    · rw [Int.mul_comm _ (p : Int), h2]
      simp
/-- Both programs' descents. -/
theorem two_ev (a : Int) : ∃ r : List (List Int) × Bool, Ev (fun k => spec_TwoDescent.f k a) r ∧ Ev (fun k => impl_TwoDescent.f k a) r ∧ r.2 = (Pure.rootAns a).2 ∧
    (r.2 = false → r.1 = []) ∧ (r.2 = true → ∃ m : Int, 2 ≤ a ∧ a ≤ 1000000 ∧ isPr a.toNat ∧ Inv a (Pure.rootAns a).1 1 m ∧ r.1 = trun a a.toNat (Pure.rootAns a).1 1 m) := by
  have hi := Pure.impl_root_ev a
  unfold spec_TwoDescent.f impl_TwoDescent.f spec_sqGiven.f
  rw [l1In_eq]
  simp only [Option.bind_some]
  by_cases hh : (0 ≤ a ∧ a ≤ 1000000) ∧ isPr a.toNat ∧ a.toNat % 4 ≠ 3
  · have he : Pure.rootAns a = (((Classical.choose (Pure.root_of hh.2.1 hh.2.2) : Nat) : Int), true) := by unfold Pure.rootAns; rw [dif_pos hh]
    have hr := Classical.choose_spec (Pure.root_of hh.2.1 hh.2.2)
    generalize Classical.choose (Pure.root_of hh.2.1 hh.2.2) = r at hr he
    obtain ⟨n, rfl⟩ := Int.eq_ofNat_of_zero_le hh.1.1
    have hn : n ≤ 1000000 := by omega
    have h2 : 2 ≤ n := hh.2.1.1
    have hpr : isPr n := hh.2.1
    have h4 : n % 4 ≠ 3 := hh.2.2
    obtain ⟨m, hm, hinv⟩ := begin_inv hn hr
    rw [he] at hi ⊢
    have hd := desc_ev (noDiv_of hpr) (by omega) n (r : Int) 1 m [] hinv (by have := hinv.mp; omega) (by simp; omega)
    refine ⟨(trun (n : Int) n (r : Int) 1 m, true), ?_, ?_, rfl, by simp, fun _ => ⟨m, by omega, by omega, hpr, hinv, rfl⟩⟩
    · refine Ev.bind (a := true) (f := fun k t => if t = true then spec_TwoDescent.j0 k (n : Int) (Int.tmod (n : Int) 4 == 3) else spec_TwoDescent.j0 k (n : Int) true) ?_ ?_
      · refine Ev_true (by simp; omega) ?_
        refine Ev.bind (f := fun _ t => some t) (sqPrime_ev n hn) ?_
        rw [(prB_iff n).2 hpr]
        exact Ev_some
      · refine Ev_true rfl (Ev_succ ?_)
        simp only [spec_TwoDescent.j0]
        have e : (Int.tmod (n : Int) 4 == 3) = false := by
          rw [show Int.tmod (n : Int) 4 = ((n % 4 : Nat) : Int) from tmod_cast n 4, beq_eq_false_iff_ne]
          omega
        refine Ev_false (by rw [e]; simp) ?_
        refine Ev.bind (a := (r : Int)) (Pure.sqMinus_ev (p := n) hn hr (r - 1) 1 (by omega) (by have := hr.1; omega)) ?_
        rw [hm]
        refine Ev_false (by omega) ?_
        simpa using hd.1
    · refine Ev.bind hi ?_
      refine Ev_true rfl ?_
      simpa using hd.2
  · have he : Pure.rootAns a = (0, false) := by unfold Pure.rootAns; rw [dif_neg hh]
    rw [he] at hi ⊢
    refine ⟨([], false), ?_, ?_, rfl, by simp, by simp⟩
    · have hno : Ev (fun k => spec_TwoDescent.j0 k a true) ([], false) := by
        refine Ev_succ ?_
        simp only [spec_TwoDescent.j0]
        exact Ev_true trivial Ev_some
      by_cases h : 2 ≤ a ∧ a ≤ 1000000
      · obtain ⟨n, rfl⟩ := Int.eq_ofNat_of_zero_le (show 0 ≤ a by omega)
        refine Ev.bind (a := prB n) (f := fun k t => if t = true then spec_TwoDescent.j0 k (n : Int) (Int.tmod (n : Int) 4 == 3) else spec_TwoDescent.j0 k (n : Int) true) ?_ ?_
        · refine Ev_true (by simpa using h) ?_
          exact Ev.bind (f := fun _ t => some t) (sqPrime_ev n (by omega)) Ev_some
        · by_cases hp : isPr n
          · refine Ev_true ((prB_iff n).2 hp) ?_
            have h4 : n % 4 = 3 := Decidable.byContradiction fun h4 => hh ⟨⟨by omega, h.2⟩, hp, h4⟩
            have e : (Int.tmod (n : Int) 4 == 3) = true := by
              rw [show Int.tmod (n : Int) 4 = ((n % 4 : Nat) : Int) from tmod_cast n 4, beq_iff_eq]
              omega
            rw [e]
            exact hno
          · exact Ev_false (fun h => hp ((prB_iff n).1 h)) hno
      · refine Ev.bind (a := false) (f := fun k t => if t = true then spec_TwoDescent.j0 k a (Int.tmod a 4 == 3) else spec_TwoDescent.j0 k a true) ?_ ?_
        · exact Ev_false (by simpa using h) Ev_some
        · exact Ev_false (by simp) hno
    · refine Ev.bind hi ?_
      exact Ev_false (by simp) Ev_some
end Go.Proofs.Ytpmbffchkcemoaa.Q
namespace Go.Proofs.Ytpmbffchkcemoaa.Q

--BODY
theorem trun_pos (p : Int) (f : Nat) (a b m : Int) : 0 < (trun p f a b m).length := by
  cases f <;> simp [trun]
theorem trun_at {p : Int} (hp : NoDiv p) : ∀ (f : Nat) (a b m : Int), Inv p a b m → m ≤ f → 1 ≤ f → ∀ i, i < (trun p f a b m).length →
    ∃ x y z, (trun p f a b m)[i]? = some [x, y, z] ∧ Inv p x y z ∧ (z = 1 ↔ i + 1 = (trun p f a b m).length) ∧ (i = 0 → x = a ∧ y = b ∧ z = m) ∧
      (0 < i → ∃ u v w, (trun p f a b m)[i - 1]? = some [u, v, w] ∧ Inv p u v w ∧ 2 * z ≤ w)
  | 0, a, b, m, h, hm, h1, i, hi => by omega
  | f + 1, a, b, m, h, hm, h1, i, hi => by
    have m0 := h.m0
    simp only [trun] at hi ⊢
    by_cases hle : m ≤ 1
    · rw [if_pos hle] at hi ⊢
      have : i = 0 := by simp at hi; omega
      subst this
      exact ⟨a, b, m, rfl, h, by simp; omega, fun _ => ⟨rfl, rfl, rfl⟩, fun h => absurd h (by omega)⟩
    · rw [if_neg hle] at hi ⊢
      obtain ⟨m', e1, e2, e3⟩ := step h hp (by omega)
      have hdiv : (t1 a b m * t1 a b m + t2 a b m * t2 a b m) / p = m' := by
        rw [e1]
        exact Int.mul_ediv_cancel _ (by have := h.mp; omega)
      rw [hdiv] at hi ⊢
      have ih := trun_at hp f (t1 a b m) (t2 a b m) m' e2 (by omega) (by have := e2.m0; omega)
      have hL0 := trun_pos p f (t1 a b m) (t2 a b m) m'
      generalize trun p f (t1 a b m) (t2 a b m) m' = L at ih hi hL0 ⊢
      cases i with
      | zero =>
        refine ⟨a, b, m, rfl, h, ?_, fun _ => ⟨rfl, rfl, rfl⟩, fun h => absurd h (by omega)⟩
        constructor
        · intro h; omega
        · intro h2
          simp only [List.length_cons] at h2
          omega
      | succ i =>
        obtain ⟨x, y, z, g1, g2, g3, g4, g5⟩ := ih i (by simpa using hi)
        refine ⟨x, y, z, by simpa using g1, g2, by rw [g3]; simp, fun h => absurd h (by omega), fun _ => ?_⟩
        cases i with
        | zero =>
          obtain ⟨rfl, rfl, rfl⟩ := g4 rfl
          exact ⟨a, b, m, rfl, h, e3⟩
        | succ i =>
          obtain ⟨u, v, w, k1, k2, k3⟩ := g5 (by omega)
          exact ⟨u, v, w, by simpa using k1, k2, k3⟩
--END
end Go.Proofs.Ytpmbffchkcemoaa.Q

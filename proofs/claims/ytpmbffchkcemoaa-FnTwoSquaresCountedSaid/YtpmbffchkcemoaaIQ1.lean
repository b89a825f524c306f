/- Several parts in one text: What the small tests of numbers come to. The greatest number whose square is at most n: both programs' searches find it. All lists of so many numbers, none greater than one before it, with a sum of squares: what both programs come to. The lists of squares: the first and all. How many lists of any sign and in any order there are. The sum over all divisors of a number, told by the divisors up to its root. The list of divisors that the program makes, and sums over it. -/
import Derived.Test.YtpmbffchkcemoaaIx1
import Derived.Test.YtpmbffchkcemoaaIx2
import Derived.Test.YtpmbffchkcemoaaIQEv
import Derived.Test.YtpmbffchkcemoaaIx3
import Derived.Test.YtpmbffchkcemoaaIx4
import Derived.Test.YtpmbffchkcemoaaIx5
namespace Go.Proofs.Ytpmbffchkcemoaa.Q
open Go.RowKit Go.Proofs.Ytpmbffchkcemoaa.P Go.Proofs.YtpmbffchkcemoaaW.PrintWords Go.Proofs.YtpmbffchkcemoaaW.PrintLast

theorem within_eq (a lo hi : Int) : impl_within.f a lo hi = some (decide (lo ≤ a ∧ a ≤ hi)) := by
 unfold impl_within.f
 by_cases h : lo ≤ a
 ·
  rw [if_pos h]
  simp [h]
 ·
  rw [if_neg h]
  simp [h]
theorem l1In_eq (a lo hi : Int) : spec_l1In.f a lo hi = some (decide (lo ≤ a ∧ a ≤ hi)) := by
 unfold spec_l1In.f
 by_cases h : lo ≤ a
 ·
  rw [if_pos h]
  simp [h]
 ·
  rw [if_neg h]
  simp [h]
theorem isTwo_eq (a : Int) : impl_isTwo.f a = some (decide (0 ≤ a ∧ a ≤ 1000000)) := by
 unfold impl_isTwo.f
 rw [within_eq]
 rfl
theorem sqNumber_eq (a : Int) : spec_sqNumber.f a = some (decide (0 ≤ a ∧ a ≤ 1000000)) := by
 unfold spec_sqNumber.f
 rw [l1In_eq]
 rfl

theorem tmod_cast (n d : Nat) : Int.tmod (n : Int) (d : Int) = ((n % d : Nat) : Int) := by
 rw [Int.tmod_eq_emod_of_nonneg (by omega), Int.natCast_emod]
theorem tdiv_cast (n d : Nat) : Int.tdiv (n : Int) (d : Int) = ((n / d : Nat) : Int) := by
 rw [Int.tdiv_eq_ediv_of_nonneg (by omega), Int.natCast_ediv]
theorem w64_mul {a b c d : Nat} (h1 : a ≤ c) (h2 : b ≤ d) (h3 : c * d ≤ 9223372036854775807) : wrap64 ((a : Int) * (b : Int)) = ((a * b : Nat) : Int) := by
 have h : a * b ≤ c * d := Nat.mul_le_mul h1 h2
 have e : (a : Int) * (b : Int) = ((a * b : Nat) : Int) := (Int.natCast_mul a b).symm
 rw [e]
 exact w64 (by omega) (by omega)
end Go.Proofs.Ytpmbffchkcemoaa.Q
namespace Go.Proofs.Ytpmbffchkcemoaa.Q
open Go.RowKit Go.Proofs.Ytpmbffchkcemoaa.P Go.Proofs.YtpmbffchkcemoaaW.PrintWords Go.Proofs.YtpmbffchkcemoaaW.PrintLast

def isq : Nat → Nat
 | 0 => 0
 | n + 1 => if (isq n + 1) * (isq n + 1) ≤ n + 1 then isq n + 1 else isq n
theorem isq_spec : ∀ n, isq n * isq n ≤ n ∧ n < (isq n + 1) * (isq n + 1)
 | 0 => by simp [isq]
 | n + 1 => by
  obtain ⟨h1, h2⟩ := isq_spec n
  unfold isq
  split
  ·
   rename_i h
   refine ⟨h, ?_⟩
   have : (isq n + 1 + 1) * (isq n + 1 + 1) = (isq n + 1) * (isq n + 1) + (isq n + 1) + (isq n + 1) + 1 := by
    rw [Nat.add_mul (isq n + 1) 1, Nat.mul_add (isq n + 1)]
    omega
   omega
  ·
   omega
theorem isq_uniq {n r : Nat} (h1 : r * r ≤ n) (h2 : n < (r + 1) * (r + 1)) : isq n = r := by
 obtain ⟨h3, h4⟩ := isq_spec n
 rcases Nat.lt_trichotomy (isq n) r with h | h | h
 ·
  have : (isq n + 1) * (isq n + 1) ≤ r * r := Nat.mul_le_mul h h
  omega
 ·
  exact h
 ·
  have : (r + 1) * (r + 1) ≤ isq n * isq n := Nat.mul_le_mul h h
  omega
theorem isq_le {n m : Nat} (h : n < (m + 1) * (m + 1)) : isq n ≤ m := by
 obtain ⟨h3, _⟩ := isq_spec n
 rcases Nat.lt_or_ge m (isq n) with h1 | h1
 ·
  have : (m + 1) * (m + 1) ≤ isq n * isq n := Nat.mul_le_mul h1 h1
  omega
 ·
  exact h1

theorem half_cast (s : Nat) : Int.tdiv (s : Int) 2 = ((s / 2 : Nat) : Int) := by
 rw [Int.tdiv_eq_ediv_of_nonneg (by omega)]
 omega
theorem wmul {a b c : Nat} (h : a ≤ c) (h' : b ≤ c) (hc : c * c ≤ 9223372036854775807) : wrap64 ((a : Int) * (b : Int)) = ((a * b : Nat) : Int) := by
 have h3 : a * b ≤ c * c := Nat.mul_le_mul h h'
 rw [← Int.natCast_mul]
 exact w64 (by omega) (by omega)

theorem root_l0 (n : Nat) (m : Nat) : ∀ lo hi : Nat, hi - lo ≤ m → lo ≤ hi → hi ≤ 2000000000 → lo * lo ≤ n → n < (hi + 1) * (hi + 1) → Ev (fun k => impl_root.l0 k (n : Int) (lo : Int) (hi : Int)) ((isq n : Nat) : Int) := by
 induction m with
 | zero =>
  intro lo hi h1 h2 h3 h4 h5
  obtain rfl : lo = hi := by omega
  refine Ev_succ ?_
  simp only [impl_root.l0]
  rw [isq_uniq h4 h5]
  exact Ev_false (by omega) Ev_some
 | succ m ih =>
  intro lo hi h1 h2 h3 h4 h5
  refine Ev_succ ?_
  simp only [impl_root.l0]
  by_cases hlt : lo < hi
  ·
   obtain ⟨s, hs⟩ : ∃ s : Nat, s = lo + hi + 1 := ⟨_, rfl⟩
   have e1 : wrap64 (wrap64 ((lo : Int) + (hi : Int)) + 1) = (s : Int) := by
    rw [w64 (x := (lo : Int) + (hi : Int)) (by omega) (by omega), w64 (by omega) (by omega)]
    omega
   rw [e1, half_cast]
   obtain ⟨q, hq⟩ : ∃ q : Nat, q = s / 2 := ⟨_, rfl⟩
   rw [← hq]
   have hql : lo < q ∧ q ≤ hi := by omega
   rw [w64_nat q (by omega), wmul (c := 2000000000) (by omega) (by omega) (by omega), w64 (x := (q : Int) - 1) (by omega) (by omega)]
   refine Ev_true (by omega) ?_
   by_cases h : q * q ≤ n
   ·
    exact Ev_true (by omega) (ih q hi (by omega) (by omega) h3 h h5)
   ·
    have e : (q : Int) - 1 = ((q - 1 : Nat) : Int) := by omega
    rw [e]
    refine Ev_false (by omega) (ih lo (q - 1) (by omega) (by omega) (by omega) h4 ?_)
    rw [show q - 1 + 1 = q by omega]
    omega
  ·
   obtain rfl : lo = hi := by omega
   rw [isq_uniq h4 h5]
   exact Ev_false (by omega) Ev_some
theorem root_ev {n : Nat} (hn : n ≤ 4000000000000000000) : Ev (fun k => impl_root.f k (n : Int)) ((isq n : Nat) : Int) :=
 root_l0 n 2000000000 0 2000000000 (by omega) (by omega) (by omega) (by omega) (by omega)

theorem foRoot_l0 (n : Nat) (m : Nat) : ∀ lo hi : Nat, hi - lo ≤ m → lo < hi → hi ≤ 1000000001 → lo * lo ≤ n → n < hi * hi → Ev (fun k => spec_foRoot.l0 k (n : Int) (lo : Int) (hi : Int)) ((isq n : Nat) : Int) := by
 induction m with
 | zero =>
  intro lo hi h1 h2
  omega
 | succ m ih =>
  intro lo hi h1 h2 h3 h4 h5
  refine Ev_succ ?_
  simp only [spec_foRoot.l0]
  rw [w64 (x := (hi : Int) - (lo : Int)) (by omega) (by omega)]
  by_cases hlt : 1 < hi - lo
  ·
   obtain ⟨s, hs⟩ : ∃ s : Nat, s = lo + hi := ⟨_, rfl⟩
   have e1 : wrap64 ((lo : Int) + (hi : Int)) = (s : Int) := by
    rw [w64 (by omega) (by omega)]
    omega
   rw [e1, half_cast]
   obtain ⟨q, hq⟩ : ∃ q : Nat, q = s / 2 := ⟨_, rfl⟩
   rw [← hq]
   have hql : lo < q ∧ q < hi := by omega
   rw [w64_nat q (by omega), wmul (c := 1000000001) (by omega) (by omega) (by omega)]
   refine Ev_true (by omega) ?_
   by_cases h : q * q ≤ n
   ·
    exact Ev_true (by omega) (ih q hi (by omega) (by omega) h3 h h5)
   ·
    exact Ev_false (by omega) (ih lo q (by omega) (by omega) (by omega) h4 (by omega))
  ·
   have e : hi = lo + 1 := by omega
   subst e
   rw [isq_uniq h4 h5]
   exact Ev_false (by omega) Ev_some
theorem foRoot_ev {n : Nat} (hn : n ≤ 1000000000000000000) : Ev (fun k => spec_foRoot.f k (n : Int)) ((isq n : Nat) : Int) :=
 foRoot_l0 n 1000000001 0 1000000001 (by omega) (by omega) (by omega) (by omega) (by omega)
end Go.Proofs.Ytpmbffchkcemoaa.Q
namespace Go.Proofs.Ytpmbffchkcemoaa.Q
open Go.RowKit Go.Proofs.Ytpmbffchkcemoaa.P Go.Proofs.YtpmbffchkcemoaaW.PrintWords Go.Proofs.YtpmbffchkcemoaaW.PrintLast Go.Proofs.YtpmbffchkcemoaaW.PrintMore Go.Proofs.Ytpmbffchkcemoaa.G

def downL {α : Type} (f : Nat → List α) (c : Nat → Bool) : Nat → List α
 | 0 => if c 0 then f 0 else []
 | a + 1 => if c (a + 1) then f (a + 1) ++ downL f c a else []
def allL : Nat → Nat → Nat → List (List Int)
 | 0, _, n => if n = 0 then [[]] else []
 | p + 1, most, n => downL (fun a => (allL p a (n - a * a)).map ((a : Int) :: ·)) (fun a => decide (n ≤ (p + 1) * a * a)) (min most (isq n))

theorem downL_mem {α : Type} {f : Nat → List α} {c : Nat → Bool} {x : α} : ∀ {a}, x ∈ downL f c a → ∃ b, b ≤ a ∧ x ∈ f b
 | 0, h => by
  unfold downL at h
  split at h
  ·
   exact ⟨0, Nat.le_refl _, h⟩
  ·
   simp at h
 | a + 1, h => by
  unfold downL at h
  split at h
  ·
   rcases List.mem_append.1 h with h | h
   ·
    exact ⟨a + 1, Nat.le_refl _, h⟩
   ·
    obtain ⟨b, hb, hx⟩ := downL_mem h
    exact ⟨b, by omega, hx⟩
  ·
   simp at h
theorem allL_len : ∀ {p most n} {l : List Int}, l ∈ allL p most n → l.length = p
 | 0, most, n, l, h => by
  unfold allL at h
  split at h
  ·
   simp at h; subst h; rfl
  ·
   simp at h
 | p + 1, most, n, l, h => by
  unfold allL at h
  obtain ⟨b, _, hx⟩ := downL_mem h
  obtain ⟨l', hl', rfl⟩ := List.mem_map.1 hx
  simp [allL_len hl']

/-! ### the visits -/
def run {σ : Type} (step : σ → List Int → Option (σ × Bool)) : σ → List (List Int) → Option (σ × Bool)
 | s, [] => some (s, false)
 | s, l :: ls => (step s l).bind fun q => if q.2 = true then some (q.1, true) else run step q.1 ls
theorem run_append {σ : Type} (step : σ → List Int → Option (σ × Bool)) (m : List (List Int)) : ∀ l s, run step s (l ++ m) = (run step s l).bind fun q => if q.2 = true then some (q.1, true) else run step q.1 m
 | [], s => by simp [run]
 | x :: l, s => by
  show (step s x).bind _ = ((step s x).bind _).bind _
  rw [Option.bind_assoc]
  congr 1
  funext q
  split
  ·
   simp
  ·
   exact run_append step m l q.1

theorem mn_cast (a b : Nat) : mn (a : Int) (b : Int) = ((min a b : Nat) : Int) := by
 unfold mn
 split <;> omega
theorem pw_parts {p a : Nat} (hp : p ≤ 4) (ha : a ≤ 1000) : wrap64 (wrap64 ((p : Int) * (a : Int)) * (a : Int)) = ((p * a * a : Nat) : Int) := by
 have h1 : p * a ≤ 4 * 1000 := Nat.mul_le_mul hp ha
 rw [← Int.natCast_mul, w64_nat (p * a) (by omega), wmul (c := 4000) (by omega) (by omega) (by omega)]

theorem sqL_run {σ : Type} (step : σ → List Int → Option (σ × Bool)) (p n : Nat) (hp : p + 1 ≤ 4) (hn : n ≤ 1000000) (xs : List Int) (hxs : xs.length + (p + 1) ≤ 4)
 (ih : ∀ (most m : Nat) (xs : List Int) (s : σ) (q : σ × Bool), m ≤ 1000000 → xs.length + p ≤ 4 → run step s ((allL p most m).map (xs ++ ·)) = some q → Ev (fun k => sqF impl_root.f step k xs (p : Int) (most : Int) (m : Int) s) q) (a : Nat) :
 ∀ (s : σ) (q : σ × Bool), a * a ≤ n → run step s ((downL (fun a => (allL p a (n - a * a)).map ((a : Int) :: ·)) (fun a => decide (n ≤ (p + 1) * a * a)) a).map (xs ++ ·)) = some q →
  Ev (fun k => sqL impl_root.f step k xs ((p + 1 : Nat) : Int) (n : Int) (a : Int) s) q := by
 have hstep : ∀ (a : Nat) (s : σ) (q : σ × Bool) (rest : List (List Int)), a * a ≤ n → (n ≤ (p + 1) * a * a) →
  run step s (((allL p a (n - a * a)).map ((a : Int) :: ·) ++ rest).map (xs ++ ·)) = some q →
  (∀ s', run step s' (rest.map (xs ++ ·)) = some q → Ev (fun k => sqL impl_root.f step k xs ((p + 1 : Nat) : Int) (n : Int) ((a : Int) - 1) s') q) →
  Ev (fun k => sqL impl_root.f step k xs ((p + 1 : Nat) : Int) (n : Int) (a : Int) s) q := by
  intro a s q rest ha hc hr hnext
  have ha2 : a ≤ 1000 := by
   rcases Nat.lt_or_ge 1000 a with h | h
   ·
    have : 1001 * 1001 ≤ a * a := Nat.mul_le_mul h h
    omega
   ·
    exact h
  refine Ev_succ ?_
  simp only [sqL]
  rw [pw_parts hp ha2, w64 (x := ((p + 1 : Nat) : Int) - 1) (by omega) (by omega), wmul (c := 1000) ha2 ha2 (by omega), w64 (x := (n : Int) - ((a * a : Nat) : Int)) (by omega) (by omega), w64 (x := (a : Int) - 1) (by omega) (by omega)]
  have e1 : ((p + 1 : Nat) : Int) - 1 = ((p : Nat) : Int) := by omega
  have e2 : (n : Int) - ((a * a : Nat) : Int) = ((n - a * a : Nat) : Int) := by omega
  rw [e1, e2]
  rw [List.map_append, run_append, List.map_map] at hr
  have e3 : ((xs ++ ·) ∘ ((a : Int) :: ·)) = ((xs ++ [(a : Int)]) ++ ·) := by
   funext l
   simp
  rw [e3] at hr
  obtain ⟨q1, hq1, hq2⟩ := Option.bind_eq_some_iff.mp hr
  have h1 := ih a (n - a * a) (xs ++ [(a : Int)]) s q1 (by omega) (by simp; omega) hq1
  refine Ev_true (by omega) (Ev_true (by omega) (Ev_true (by omega) ?_))
  refine Ev.bind h1 ?_
  by_cases hb : q1.2 = true
  ·
   rw [if_pos hb] at hq2
   obtain rfl := Option.some.inj hq2
   exact Ev_true hb Ev_some
  ·
   rw [if_neg hb] at hq2
   exact Ev_false hb (hnext _ hq2)
 induction a with
 | zero =>
  intro s q ha hr
  unfold downL at hr
  by_cases hc : n ≤ (p + 1) * 0 * 0
  ·
   rw [if_pos (by simpa using hc)] at hr
   refine hstep 0 s q [] ha hc (by simpa using hr) (fun s' hr' => ?_)
   simp only [List.map_nil, run] at hr'
   obtain rfl := Option.some.inj hr'
   refine Ev_succ ?_
   simp only [sqL]
   exact Ev_false (by omega) Ev_some
  ·
   rw [if_neg (by simpa using hc)] at hr
   simp only [List.map_nil, run] at hr
   obtain rfl := Option.some.inj hr
   refine Ev_succ ?_
   simp only [sqL]
   rw [pw_parts hp (by omega)]
   exact Ev_true (by omega) (Ev_false (by omega) Ev_some)
 | succ a iha =>
  intro s q ha hr
  unfold downL at hr
  have hle : a * a ≤ n := Nat.le_trans (Nat.mul_le_mul (Nat.le_succ a) (Nat.le_succ a)) ha
  have ha2 : a + 1 ≤ 1000 := by
   rcases Nat.lt_or_ge 1000 (a + 1) with h | h
   ·
    have : 1001 * 1001 ≤ (a + 1) * (a + 1) := Nat.mul_le_mul h h
    omega
   ·
    exact h
  by_cases hc : n ≤ (p + 1) * (a + 1) * (a + 1)
  ·
   rw [if_pos (by simpa using hc)] at hr
   refine hstep (a + 1) s q _ ha hc hr (fun s' hr' => ?_)
   have e : ((a + 1 : Nat) : Int) - 1 = (a : Int) := by omega
   rw [e]
   exact iha s' q hle hr'
  ·
   rw [if_neg (by simpa using hc)] at hr
   simp only [List.map_nil, run] at hr
   obtain rfl := Option.some.inj hr
   refine Ev_succ ?_
   simp only [sqL]
   rw [pw_parts hp ha2]
   exact Ev_true (by omega) (Ev_false (by omega) Ev_some)

theorem sqF_run {σ : Type} (step : σ → List Int → Option (σ × Bool)) : ∀ (p : Nat), p ≤ 4 → ∀ (most n : Nat) (xs : List Int) (s : σ) (q : σ × Bool), n ≤ 1000000 → xs.length + p ≤ 4 →
 run step s ((allL p most n).map (xs ++ ·)) = some q → Ev (fun k => sqF impl_root.f step k xs (p : Int) (most : Int) (n : Int) s) q
 | 0, _, most, n, xs, s, q, hn, hxs, hr => by
  refine Ev_succ ?_
  simp only [sqF]
  unfold allL at hr
  by_cases h : n = 0
  ·
   rw [if_pos h] at hr
   have e : run step s ([[]].map (xs ++ ·)) = step s xs := by
    simp only [List.map_cons, List.map_nil, List.append_nil, run]
    cases step s xs with
    | none => rfl
    | some q =>
     simp only [Option.bind_some]
     obtain ⟨q1, q2⟩ := q
     cases q2 <;> rfl
   rw [e] at hr
   exact Ev_true (by omega) (Ev_true (by omega) (Ev_const hr))
  ·
   rw [if_neg h] at hr
   simp only [List.map_nil, run] at hr
   obtain rfl := Option.some.inj hr
   exact Ev_true (by omega) (Ev_false (by omega) Ev_some)
 | p + 1, hp, most, n, xs, s, q, hn, hxs, hr => by
  refine Ev_succ ?_
  simp only [sqF]
  refine Ev_false (by omega) (Ev.bind (root_ev (n := n) (by omega)) ?_)
  simp only [mn_cast]
  unfold allL at hr
  have hs := (isq_spec n).1
  have hle : min most (isq n) * min most (isq n) ≤ n := Nat.le_trans (Nat.mul_le_mul (Nat.min_le_right _ _) (Nat.min_le_right _ _)) hs
  exact sqL_run step p n hp hn xs hxs (fun most m xs s q h1 h2 h3 => sqF_run step p (by omega) most m xs s q h1 h2 h3) _ s q hle hr

/-! ### the other program: as many of them as asked -/
theorem rdL_get {l : List (List Int)} {i : Nat} (h : i < l.length) : rd_L2 l (i : Int) = l[i] := by
 simp [rd_L2, List.getD_eq_getElem?_getD, List.getElem?_eq_getElem h]

/-- The inner loop: a in front of each. -/
theorem sqAll_l1 {n p many a : Int} {t : List (List Int)} (ht : ∀ l ∈ t, l.length ≤ 4) (htl : t.length ≤ 1000000) (r : List (List Int))
 (d : Nat) : ∀ (i : Nat) (out : List (List Int)), i + d = t.length → out.length + d ≤ 2000000 →
  Ev (fun k => spec_sqAll.l0 k n p many (out ++ (t.drop i).map (a :: ·)) (wrap64 (a - 1))) r →
  Ev (fun k => spec_sqAll.l1 k n p many out a t (t.length : Int) (i : Int)) r := by
 induction d with
 | zero =>
  intro i out h1 h2 h
  refine Ev_succ ?_
  simp only [spec_sqAll.l1]
  rw [List.drop_of_length_le (by omega), List.map_nil, List.append_nil] at h
  exact Ev_false (by omega) h
 | succ d ih =>
  intro i out h1 h2 h
  have hi : i < t.length := by omega
  have hl := ht t[i] (List.getElem_mem hi)
  refine Ev_succ ?_
  simp only [spec_sqAll.l1]
  rw [rdL_get hi, w64 (x := (i : Int) + 1) (by omega) (by omega)]
  refine Ev_true (by omega) (Ev_true (by omega) (Ev_true (by omega) ?_))
  simp only [Option.bind_some, List.length_cons, List.length_nil]
  refine Ev_true (by omega) (Ev_true (by omega) ?_)
  refine ih (i + 1) _ (by omega) (by simp; omega) ?_
  rw [List.drop_eq_getElem_cons hi, List.map_cons] at h
  simpa using h

theorem sqAll_l0 (p n many : Nat) (hp : p + 1 ≤ 4) (hn : n ≤ 1000000) (hm : many ≤ 1000000)
 (ih : ∀ (most m mm : Nat), m ≤ 1000000 → 1 ≤ mm → mm ≤ 1000000 → Ev (fun k => spec_sqAll.f k (m : Int) (p : Int) (most : Int) (mm : Int)) ((allL p most m).take mm)) (a : Nat) :
 ∀ (out : List (List Int)), a * a ≤ n → out.length ≤ many →
  Ev (fun k => spec_sqAll.l0 k (n : Int) ((p + 1 : Nat) : Int) (many : Int) out (a : Int)) (out ++ (downL (fun a => (allL p a (n - a * a)).map ((a : Int) :: ·)) (fun a => decide (n ≤ (p + 1) * a * a)) a).take (many - out.length)) := by
 have hend : ∀ (out : List (List Int)) (a : Int), Ev (fun k => spec_sqAll.j1 k (n : Int) ((p + 1 : Nat) : Int) (many : Int) out a false) out := by
  intro out a
  refine Ev_succ ?_
  simp only [spec_sqAll.j1]
  exact Ev_false (by simp) Ev_some
 have hstep : ∀ (a : Nat) (out rest : List (List Int)), a * a ≤ n → n ≤ (p + 1) * a * a → out.length ≤ many →
  (∀ out', out'.length ≤ many → Ev (fun k => spec_sqAll.l0 k (n : Int) ((p + 1 : Nat) : Int) (many : Int) out' ((a : Int) - 1)) (out' ++ rest.take (many - out'.length))) →
  Ev (fun k => spec_sqAll.l0 k (n : Int) ((p + 1 : Nat) : Int) (many : Int) out (a : Int)) (out ++ ((allL p a (n - a * a)).map ((a : Int) :: ·) ++ rest).take (many - out.length)) := by
  intro a out rest ha hc ho hnext
  have ha2 : a ≤ 1000 := by
   rcases Nat.lt_or_ge 1000 a with h | h
   ·
    have : 1001 * 1001 ≤ a * a := Nat.mul_le_mul h h
    omega
   ·
    exact h
  refine Ev_succ ?_
  simp only [spec_sqAll.l0]
  rw [pw_parts hp ha2]
  refine Ev_true (by omega) (Ev_true (by omega) ?_)
  by_cases hlt : out.length < many
  ·
   have e0 : decide ((out.length : Int) < (many : Int)) = true := decide_eq_true (by omega)
   rw [e0]
   refine Ev_succ ?_
   simp only [spec_sqAll.j1]
   rw [w64 (x := ((p + 1 : Nat) : Int) - 1) (by omega) (by omega), wmul (c := 1000) ha2 ha2 (by omega), w64 (x := (n : Int) - ((a * a : Nat) : Int)) (by omega) (by omega), w64 (x := (many : Int) - (out.length : Int)) (by omega) (by omega)]
   have e1 : ((p + 1 : Nat) : Int) - 1 = ((p : Nat) : Int) := by omega
   have e2 : (n : Int) - ((a * a : Nat) : Int) = ((n - a * a : Nat) : Int) := by omega
   have e3 : (many : Int) - (out.length : Int) = ((many - out.length : Nat) : Int) := by omega
   rw [e1, e2, e3]
   refine Ev_true trivial (Ev.bind (ih a (n - a * a) (many - out.length) (by omega) (by omega) (by omega)) ?_)
   generalize hL : allL p a (n - a * a) = L
   have hlen : (L.take (many - out.length)).length ≤ many - out.length := by rw [List.length_take]; omega
   refine sqAll_l1 (fun l hl => ?_) (by omega) _ (L.take (many - out.length)).length 0 out (by omega) (by omega) ?_
   ·
    rw [← hL] at hl
    have := allL_len (List.mem_of_mem_take hl)
    omega
   ·
    rw [w64 (x := (a : Int) - 1) (by omega) (by omega), List.drop_zero]
    have h := hnext (out ++ (L.take (many - out.length)).map ((a : Int) :: ·)) (by rw [List.length_append, List.length_map]; omega)
    have e4 : out ++ (L.map ((a : Int) :: ·) ++ rest).take (many - out.length) = out ++ (L.take (many - out.length)).map ((a : Int) :: ·) ++ rest.take (many - (out ++ (L.take (many - out.length)).map ((a : Int) :: ·)).length) := by
     rw [List.take_append, List.map_take, List.append_assoc, List.length_append, List.length_take, List.length_map]
     congr 2
     by_cases h5 : L.length ≤ many - out.length
     ·
      rw [Nat.min_eq_right h5]
      congr 1
      omega
     ·
      have e5 : many - out.length - L.length = 0 := by omega
      have e6 : many - (out.length + min (many - out.length) L.length) = 0 := by omega
      rw [e5, e6]
    rw [e4]
    exact h
  ·
   have e0 : decide ((out.length : Int) < (many : Int)) = false := decide_eq_false (by omega)
   have e1 : many - out.length = 0 := by omega
   rw [e0, e1, List.take_zero, List.append_nil]
   exact hend out _
 induction a with
 | zero =>
  intro out ha ho
  unfold downL
  by_cases hc : n ≤ (p + 1) * 0 * 0
  ·
   rw [if_pos (by simpa using hc)]
   have h := hstep 0 out [] ha hc ho (fun out' _ => by
    rw [List.take_nil, List.append_nil]
    refine Ev_succ ?_
    simp only [spec_sqAll.l0]
    exact Ev_false (by omega) (hend _ _))
   simpa using h
  ·
   rw [if_neg (by simpa using hc), List.take_nil, List.append_nil]
   refine Ev_succ ?_
   simp only [spec_sqAll.l0]
   rw [pw_parts hp (by omega)]
   exact Ev_true (by omega) (Ev_false (by omega) (hend _ _))
 | succ a iha =>
  intro out ha ho
  unfold downL
  have hle : a * a ≤ n := Nat.le_trans (Nat.mul_le_mul (Nat.le_succ a) (Nat.le_succ a)) ha
  have ha2 : a + 1 ≤ 1000 := by
   rcases Nat.lt_or_ge 1000 (a + 1) with h | h
   ·
    have : 1001 * 1001 ≤ (a + 1) * (a + 1) := Nat.mul_le_mul h h
    omega
   ·
    exact h
  by_cases hc : n ≤ (p + 1) * (a + 1) * (a + 1)
  ·
   rw [if_pos (by simpa using hc)]
   refine hstep (a + 1) out _ ha hc ho (fun out' ho' => ?_)
   have e : ((a + 1 : Nat) : Int) - 1 = (a : Int) := by omega
   rw [e]
   exact iha out' hle ho'
  ·
   rw [if_neg (by simpa using hc), List.take_nil, List.append_nil]
   refine Ev_succ ?_
   simp only [spec_sqAll.l0]
   rw [pw_parts hp ha2]
   exact Ev_true (by omega) (Ev_false (by omega) (hend _ _))

theorem least_cast (a b : Nat) : spec_l1Least.f (a : Int) (b : Int) = some ((min a b : Nat) : Int) := by
 unfold spec_l1Least.f
 split <;> (congr 1; omega)
theorem sqAll_ev : ∀ (p : Nat), p ≤ 4 → ∀ (most n many : Nat), n ≤ 1000000 → 1 ≤ many → many ≤ 1000000 → Ev (fun k => spec_sqAll.f k (n : Int) (p : Int) (most : Int) (many : Int)) ((allL p most n).take many)
 | 0, _, most, n, many, hn, h1, hm => by
  refine Ev_succ ?_
  simp only [spec_sqAll.f]
  unfold allL
  obtain ⟨m, rfl⟩ : ∃ m, many = m + 1 := ⟨many - 1, by omega⟩
  by_cases h : n = 0
  ·
   rw [if_pos h]
   exact Ev_true (by omega) (Ev_true (by omega) (by simpa using Ev_some))
  ·
   rw [if_neg h]
   exact Ev_true (by omega) (Ev_false (by omega) (by simpa using Ev_some))
 | p + 1, hp, most, n, many, hn, h1, hm => by
  refine Ev_succ ?_
  simp only [spec_sqAll.f]
  refine Ev_false (by omega) (Ev.bind (foRoot_ev (n := n) (by omega)) ?_)
  simp only [least_cast, Option.bind_some]
  unfold allL
  have hs := (isq_spec n).1
  have hle : min most (isq n) * min most (isq n) ≤ n := Nat.le_trans (Nat.mul_le_mul (Nat.min_le_right _ _) (Nat.min_le_right _ _)) hs
  have h := sqAll_l0 p n many hp hn hm (fun most m mm h2 h3 h4 => sqAll_ev p (by omega) most m mm h2 h3 h4) _ [] hle (by simp)
  simpa using h
end Go.Proofs.Ytpmbffchkcemoaa.Q
namespace Go.Proofs.Ytpmbffchkcemoaa.Q
open Go.RowKit Go.Proofs.Ytpmbffchkcemoaa.P Go.Proofs.YtpmbffchkcemoaaW.PrintWords Go.Proofs.YtpmbffchkcemoaaW.PrintLast Go.Proofs.YtpmbffchkcemoaaW.PrintMore Go.Proofs.Ytpmbffchkcemoaa.G

/-! ### the first list -/
def firstOf : List (List Int) → List Int × Bool
 | [] => ([], false)
 | l :: _ => (l, true)
theorem firstSq_ev {p n : Nat} (hp : p ≤ 4) (hn : n ≤ 1000000) : Ev (fun k => impl_firstSquares.f k (p : Int) (n : Int)) (firstOf (allL p n n)) := by
 unfold impl_firstSquares.f firstF
 refine sqF_run firstStep p hp n n [] [] _ hn (by simpa using hp) ?_
 have e : ((allL p n n).map (([] : List Int) ++ ·)) = allL p n n := by simp
 rw [e]
 cases allL p n n with
 | nil => rfl
 | cons l L => rfl
theorem sqFirst_ev {p n : Nat} (hp : p ≤ 4) (hn : n ≤ 1000000) : Ev (fun k => spec_sqFirst.f k (n : Int) (p : Int)) (firstOf (allL p n n)) := by
 unfold spec_sqFirst.f
 refine Ev.bind (sqAll_ev p hp n n 1 hn (by omega) (by omega)) ?_
 cases allL p n n with
 | nil => exact Ev_true rfl Ev_some
 | cons l L =>
  refine Ev_false (by simp) (Ev_true (by simp) ?_)
  exact Ev_some
theorem firstOf_len {p most n : Nat} : (firstOf (allL p most n)).1.length ≤ p := by
 cases h : allL p most n with
 | nil => simp [firstOf]
 | cons l L =>
  have : l ∈ allL p most n := by rw [h]; exact List.mem_cons_self
  simp [firstOf, allL_len this]

/-! ### all lists, and that they are few -/
theorem downL_one {n : Nat} : ∀ a, a * a ≤ n → (downL (fun a => (allL 0 a (n - a * a)).map ((a : Int) :: ·)) (fun a => decide (n ≤ (0 + 1) * a * a)) a).length ≤ 1
 | 0, h => by
  unfold downL
  split
  ·
   simp only [List.length_map, allL]
   split <;> simp
  ·
   simp
 | a + 1, h => by
  unfold downL
  split
  ·
   rename_i hc
   have hc : n ≤ (0 + 1) * (a + 1) * (a + 1) := by simpa using hc
   rw [List.length_append]
   have h1 : (downL (fun a => (allL 0 a (n - a * a)).map ((a : Int) :: ·)) (fun a => decide (n ≤ (0 + 1) * a * a)) a).length = 0 := by
    have hlt : ¬ n ≤ (0 + 1) * a * a := by
     have e : (a + 1) * (a + 1) = a * a + a + a + 1 := by rw [Nat.add_mul, Nat.mul_add]; omega
     rw [Nat.zero_add, Nat.one_mul] at hc ⊢
     omega
    cases a with
    | zero => unfold downL; rw [if_neg (by simpa using hlt)]; rfl
    | succ a => unfold downL; rw [if_neg (by simpa using hlt)]; rfl
   rw [h1]
   simp only [List.length_map, allL]
   split <;> simp
  ·
   simp
theorem downL_len {α : Type} {f : Nat → List α} {c : Nat → Bool} {B : Nat} : ∀ a, (∀ b, b ≤ a → (f b).length ≤ B) → (downL f c a).length ≤ (a + 1) * B
 | 0, h => by
  unfold downL
  split
  ·
   have := h 0 (Nat.le_refl _); omega
  ·
   simp
 | a + 1, h => by
  unfold downL
  split
  ·
   rw [List.length_append, Nat.succ_mul]
   have h1 := h (a + 1) (Nat.le_refl _)
   have h2 := downL_len (c := c) (f := f) (B := B) a (fun b hb => h b (by omega))
   omega
  ·
   simp
theorem isq_mono {m n : Nat} (h : m ≤ n) : isq m ≤ isq n := isq_le (Nat.lt_of_le_of_lt h (isq_spec n).2)
theorem allL_few : ∀ p most n R, isq n ≤ R → (allL (p + 1) most n).length ≤ (R + 1) ^ p
 | 0, most, n, R, _ => by
  unfold allL
  rw [Nat.pow_zero]
  exact downL_one _ (Nat.le_trans (Nat.mul_le_mul (Nat.min_le_right _ _) (Nat.min_le_right _ _)) (isq_spec n).1)
 | p + 1, most, n, R, hR => by
  unfold allL
  have h := downL_len (c := fun a => decide (n ≤ (p + 1 + 1) * a * a)) (f := fun a => (allL (p + 1) a (n - a * a)).map ((a : Int) :: ·)) (B := (R + 1) ^ p) (min most (isq n)) (fun b _ => by
   rw [List.length_map]
   exact allL_few p b (n - b * b) R (Nat.le_trans (isq_mono (Nat.sub_le _ _)) hR))
  refine Nat.le_trans h ?_
  rw [Nat.pow_succ, Nat.mul_comm]
  exact Nat.mul_le_mul_left _ (by have := Nat.min_le_right most (isq n); omega)
theorem allL_two {n : Nat} (hn : n ≤ 1000000) (most : Nat) : (allL 2 most n).length ≤ 1001 := by
 have h := allL_few 1 most n 1000 (isq_le (by omega))
 simpa using h
theorem run_all (L : List (List Int)) : ∀ s : List (List Int), s.length + L.length ≤ 1000000 → run allStep s L = some (s ++ L, false)
 := by
 induction L with
 | nil => intro s _; simp [run]
 | cons l L ih =>
  intro s h
  have h1 : allStep s l = some (s ++ [l], false) := if_pos (by simp at h; omega)
  simp only [run, h1, Option.bind_some]
  rw [if_neg (by simp), ih (s ++ [l]) (by simp at h ⊢; omega)]
  simp
theorem allSq_ev {p n : Nat} (hp : p ≤ 4) (hn : n ≤ 1000000) (hl : (allL p n n).length ≤ 1000000) : Ev (fun k => impl_allSquares.f k (p : Int) (n : Int)) (allL p n n) := by
 unfold impl_allSquares.f allF
 have h := sqF_run allStep p hp n n [] [] (allL p n n, false) hn (by simpa using hp) (by
  have e : ((allL p n n).map (([] : List Int) ++ ·)) = allL p n n := by simp
  rw [e, run_all _ _ (by simpa using hl)]
  simp)
 obtain ⟨K, h⟩ := h
 exact ⟨K, fun k hk => by have h1 := h k hk; dsimp only at h1 ⊢; rw [h1]; rfl⟩
theorem sqAllAll_ev {p n : Nat} (hp : p ≤ 4) (hn : n ≤ 1000000) (hl : (allL p n n).length ≤ 1000000) : Ev (fun k => spec_sqAll.f k (n : Int) (p : Int) (n : Int) 1000000) (allL p n n) := by
 have h := sqAll_ev p hp n n 1000000 hn (by omega) (by omega)
 rwa [List.take_of_length_le hl] at h
end Go.Proofs.Ytpmbffchkcemoaa.Q
namespace Go.Proofs.Ytpmbffchkcemoaa.Q
open Go.RowKit Go.Proofs.Ytpmbffchkcemoaa.P Go.Proofs.YtpmbffchkcemoaaW.PrintWords Go.Proofs.YtpmbffchkcemoaaW.PrintLast Go.Proofs.YtpmbffchkcemoaaW.PrintMore Go.Proofs.Ytpmbffchkcemoaa.G
theorem allL_pos : ∀ {p most n} {l : List Int}, l ∈ allL p most n → ∀ x ∈ l, 0 ≤ x
 | 0, most, n, l, h => by
  unfold allL at h
  split at h
  ·
   simp at h; subst h; simp
  ·
   simp at h
 | p + 1, most, n, l, h => by
  unfold allL at h
  obtain ⟨b, _, hx⟩ := downL_mem h
  obtain ⟨l', hl', rfl⟩ := List.mem_map.1 hx
  intro x hx
  rcases List.mem_cons.1 hx with rfl | hx
  ·
   omega
  ·
   exact allL_pos hl' x hx

/-! ### in how many ways a list is signed and put in order -/
/-- The numbers from index i on: before them x, met same times; so far ways. -/
def sgn : Option Int → Nat → Nat → Nat → List Int → Nat
 | _, _, w, _, [] => w
 | pr, i, w, s, x :: l =>
  let s' := if pr = some x then s + 1 else 1
  let w' := w * (i + 1) / s'
  sgn (some x) (i + 1) (if x = 0 then w' else w' * 2) s' l
def signs (l : List Int) : Nat := sgn none 0 1 0 l
def before (l : List Int) (i : Nat) : Option Int := if i = 0 then none else l[i - 1]?

theorem sgn_step {l : List Int} {i : Nat} (hi : i < l.length) (w s : Nat) : sgn (before l i) i w s (l.drop i) =
 sgn (before l (i + 1)) (i + 1) (if l[i] = 0 then w * (i + 1) / (if before l i = some l[i] then s + 1 else 1) else w * (i + 1) / (if before l i = some l[i] then s + 1 else 1) * 2) (if before l i = some l[i] then s + 1 else 1) (l.drop (i + 1)) := by
 rw [List.drop_eq_getElem_cons hi]
 have e : before l (i + 1) = some l[i] := by
  unfold before
  rw [if_neg (by omega), Nat.add_sub_cancel, List.getElem?_eq_getElem hi]
 rw [e]
 rfl
theorem rdI {l : List Int} {i : Nat} (h : i < l.length) : rd l (i : Int) = l[i] := by
 simp [rd, List.getD_eq_getElem?_getD, List.getElem?_eq_getElem h]
theorem pow8 {i w : Nat} (hw : w ≤ 8 ^ i) (hi : i < 4) : w ≤ 512 := by
 have : 8 ^ i ≤ 8 ^ 3 := Nat.pow_le_pow_right (by omega) (by omega)
 omega
theorem next8 {i w s' : Nat} (hw : w ≤ 8 ^ i) (hi : i < 4) (c : Prop) [Decidable c] : (if c then w * (i + 1) / s' else w * (i + 1) / s' * 2) ≤ 8 ^ (i + 1) := by
 have h1 : w * (i + 1) / s' ≤ w * (i + 1) := Nat.div_le_self _ _
 have h2 : w * (i + 1) ≤ w * 4 := Nat.mul_le_mul_left w (by omega)
 rw [Nat.pow_succ]
 split <;> omega
theorem ways_cast {w i s' : Nat} (hw : w ≤ 512) (hi : i < 4) : wrap64 (Int.tdiv (wrap64 ((w : Int) * wrap64 ((i : Int) + 1))) (s' : Int)) = ((w * (i + 1) / s' : Nat) : Int) := by
 have h2 : w * (i + 1) ≤ 512 * 4 := Nat.mul_le_mul hw (by omega)
 have h1 : w * (i + 1) / s' ≤ w * (i + 1) := Nat.div_le_self _ _
 rw [w64 (x := (i : Int) + 1) (by omega) (by omega)]
 have e : (w : Int) * ((i : Int) + 1) = ((w * (i + 1) : Nat) : Int) := by simp
 rw [e, w64_nat (w * (i + 1)) (by omega), Int.tdiv_eq_ediv_of_nonneg (by omega), ← Int.natCast_ediv]
 exact w64_nat _ (by omega)

theorem spec_signs {l : List Int} (hl : l.length ≤ 4) (hp : ∀ x ∈ l, 0 ≤ x) (d : Nat) : ∀ (i w s : Nat), i + d = l.length → w ≤ 8 ^ i → s ≤ i →
 Ev (fun k => spec_sqSigns.l0 k l (w : Int) (s : Int) l (l.length : Int) (i : Int)) ((sgn (before l i) i w s (l.drop i) : Nat) : Int) := by
 induction d with
 | zero =>
  intro i w s h1 h2 h3
  refine Ev_succ ?_
  simp only [spec_sqSigns.l0]
  rw [List.drop_of_length_le (by omega)]
  exact Ev_false (by omega) Ev_some
 | succ d ih =>
  intro i w s h1 h2 h3
  have hi : i < l.length := by omega
  have hx := hp l[i] (List.getElem_mem hi)
  have hw := pow8 h2 (by omega)
  rw [sgn_step hi]
  have key : ∀ b : Bool, (b = true ↔ before l i = some l[i]) → Ev (fun k => spec_sqSigns.j1 k l (w : Int) (s : Int) (i : Int) l[i] l (l.length : Int) (i : Int) b)
   ((sgn (before l (i + 1)) (i + 1) (if l[i] = 0 then w * (i + 1) / (if before l i = some l[i] then s + 1 else 1) else w * (i + 1) / (if before l i = some l[i] then s + 1 else 1) * 2) (if before l i = some l[i] then s + 1 else 1) (l.drop (i + 1)) : Nat) : Int) := by
   intro b hb
   refine Ev_succ ?_
   simp only [spec_sqSigns.j1]
   rw [w64 (x := (s : Int) + 1) (by omega) (by omega)]
   have hq := ways_cast (w := w) (i := i) (s' := s + 1) hw (by omega)
   have hq1 := ways_cast (w := w) (i := i) (s' := 1) hw (by omega)
   simp only [Int.natCast_add, Int.natCast_one] at hq hq1
   rw [hq, hq1, w64 (x := (i : Int) + 1) (by omega) (by omega)]
   have hle : w * (i + 1) ≤ 512 * 4 := Nat.mul_le_mul hw (by omega)
   have hle1 : w * (i + 1) / (s + 1) ≤ w * (i + 1) := Nat.div_le_self _ _
   have hle2 : w * (i + 1) / 1 ≤ w * (i + 1) := Nat.div_le_self _ _
   cases b with
   | true =>
    have hbe := hb.1 rfl
    rw [if_pos hbe]
    have n8 := next8 (s' := s + 1) h2 (show i < 4 by omega) (l[i] = 0)
    refine Ev_true rfl (Ev_false (by omega) ?_)
    by_cases h0 : l[i] = 0
    ·
     rw [if_pos h0] at n8 ⊢
     exact Ev_false (by omega) (ih (i + 1) _ (s + 1) (by omega) n8 (by omega))
    ·
     rw [if_neg h0] at n8 ⊢
     refine Ev_true (by omega) ?_
     rw [w64 (x := ((w * (i + 1) / (s + 1) : Nat) : Int) * 2) (by omega) (by omega)]
     have h := ih (i + 1) (w * (i + 1) / (s + 1) * 2) (s + 1) (by omega) n8 (by omega)
     simpa using h
   | false =>
    have hbe : ¬ before l i = some l[i] := fun h => by have := hb.2 h; cases this
    rw [if_neg hbe]
    have n8 := next8 (s' := 1) h2 (show i < 4 by omega) (l[i] = 0)
    refine Ev_false (by simp) ?_
    by_cases h0 : l[i] = 0
    ·
     rw [if_pos h0] at n8 ⊢
     exact Ev_false (by omega) (ih (i + 1) _ 1 (by omega) n8 (by omega))
    ·
     rw [if_neg h0] at n8 ⊢
     refine Ev_true (by omega) ?_
     rw [w64 (x := ((w * (i + 1) / 1 : Nat) : Int) * 2) (by omega) (by omega)]
     have h := ih (i + 1) (w * (i + 1) / 1 * 2) 1 (by omega) n8 (by omega)
     simpa using h
  refine Ev_succ ?_
  simp only [spec_sqSigns.l0]
  rw [rdI hi]
  refine Ev_true (by omega) (Ev_true (by omega) (Ev_true (by omega) ?_))
  by_cases hz : i = 0
  ·
   subst hz
   refine Ev_false (by simp) (key false ?_)
   simp [before]
  ·
   rw [w64 (x := (i : Int) - 1) (by omega) (by omega)]
   have e : (i : Int) - 1 = ((i - 1 : Nat) : Int) := by omega
   have hi1 : i - 1 < l.length := by omega
   rw [e, rdI hi1]
   refine Ev_true (by omega) (Ev_true (by omega) (Ev_true (by omega) (key _ ?_)))
   unfold before
   rw [if_neg hz, List.getElem?_eq_getElem hi1]
   simp
theorem sqSigns_ev {l : List Int} (hl : l.length ≤ 4) (hp : ∀ x ∈ l, 0 ≤ x) : Ev (fun k => spec_sqSigns.f k l) ((signs l : Nat) : Int) := by
 have h := spec_signs hl hp l.length 0 1 0 (by omega) (by simp) (by omega)
 unfold spec_sqSigns.f
 simpa [before, signs] using h

theorem impl_signs {l : List Int} (hl : l.length ≤ 4) (hp : ∀ x ∈ l, 0 ≤ x) (d : Nat) : ∀ (i w s : Nat), i + d = l.length → w ≤ 8 ^ i → s ≤ i →
 Ev (fun k => impl_signed.l0 k l (w : Int) (s : Int) l (l.length : Int) (i : Int)) ((sgn (before l i) i w s (l.drop i) : Nat) : Int) := by
 induction d with
 | zero =>
  intro i w s h1 h2 h3
  refine Ev_succ ?_
  simp only [impl_signed.l0]
  rw [List.drop_of_length_le (by omega)]
  exact Ev_false (by omega) Ev_some
 | succ d ih =>
  intro i w s h1 h2 h3
  have hi : i < l.length := by omega
  have hx := hp l[i] (List.getElem_mem hi)
  have hw := pow8 h2 (by omega)
  rw [sgn_step hi]
  have key : ∀ b : Bool, (b = true ↔ before l i = some l[i]) → Ev (fun k => impl_signed.j1 k l (w : Int) (s : Int) (i : Int) l[i] l (l.length : Int) (i : Int) b)
   ((sgn (before l (i + 1)) (i + 1) (if l[i] = 0 then w * (i + 1) / (if before l i = some l[i] then s + 1 else 1) else w * (i + 1) / (if before l i = some l[i] then s + 1 else 1) * 2) (if before l i = some l[i] then s + 1 else 1) (l.drop (i + 1)) : Nat) : Int) := by
   intro b hb
   refine Ev_succ ?_
   simp only [impl_signed.j1]
   rw [w64 (x := (s : Int) + 1) (by omega) (by omega)]
   have hq := ways_cast (w := w) (i := i) (s' := s + 1) hw (by omega)
   have hq1 := ways_cast (w := w) (i := i) (s' := 1) hw (by omega)
   simp only [Int.natCast_add, Int.natCast_one] at hq hq1
   rw [hq, hq1, w64 (x := (i : Int) + 1) (by omega) (by omega)]
   have hle : w * (i + 1) ≤ 512 * 4 := Nat.mul_le_mul hw (by omega)
   have hle1 : w * (i + 1) / (s + 1) ≤ w * (i + 1) := Nat.div_le_self _ _
   have hle2 : w * (i + 1) / 1 ≤ w * (i + 1) := Nat.div_le_self _ _
   cases b with
   | true =>
    have hbe := hb.1 rfl
    rw [if_pos hbe]
    have n8 := next8 (s' := s + 1) h2 (show i < 4 by omega) (l[i] = 0)
    refine Ev_true rfl (Ev_false (by omega) ?_)
    by_cases h0 : l[i] = 0
    ·
     rw [if_pos h0] at n8 ⊢
     exact Ev_true h0 (ih (i + 1) _ (s + 1) (by omega) n8 (by omega))
    ·
     rw [if_neg h0] at n8 ⊢
     refine Ev_false h0 ?_
     rw [w64 (x := ((w * (i + 1) / (s + 1) : Nat) : Int) * 2) (by omega) (by omega)]
     have h := ih (i + 1) (w * (i + 1) / (s + 1) * 2) (s + 1) (by omega) n8 (by omega)
     simpa using h
   | false =>
    have hbe : ¬ before l i = some l[i] := fun h => by have := hb.2 h; cases this
    rw [if_neg hbe]
    have n8 := next8 (s' := 1) h2 (show i < 4 by omega) (l[i] = 0)
    refine Ev_false (by simp) ?_
    by_cases h0 : l[i] = 0
    ·
     rw [if_pos h0] at n8 ⊢
     exact Ev_true h0 (ih (i + 1) _ 1 (by omega) n8 (by omega))
    ·
     rw [if_neg h0] at n8 ⊢
     refine Ev_false h0 ?_
     rw [w64 (x := ((w * (i + 1) / 1 : Nat) : Int) * 2) (by omega) (by omega)]
     have h := ih (i + 1) (w * (i + 1) / 1 * 2) 1 (by omega) n8 (by omega)
     simpa using h
  refine Ev_succ ?_
  simp only [impl_signed.l0]
  rw [rdI hi]
  refine Ev_true (by omega) (Ev_true (by omega) (Ev_true (by omega) ?_))
  by_cases hz : i = 0
  ·
   subst hz
   refine Ev_false (by simp) (key false ?_)
   simp [before]
  ·
   rw [w64 (x := (i : Int) - 1) (by omega) (by omega)]
   have e : (i : Int) - 1 = ((i - 1 : Nat) : Int) := by omega
   have hi1 : i - 1 < l.length := by omega
   rw [e, rdI hi1]
   refine Ev_true (by omega) (Ev_true (by omega) (Ev_true (by omega) (key _ ?_)))
   unfold before
   rw [if_neg hz, List.getElem?_eq_getElem hi1]
   simp
theorem signed_ev {l : List Int} (hl : l.length ≤ 4) (hp : ∀ x ∈ l, 0 ≤ x) : Ev (fun k => impl_signed.f k l) ((signs l : Nat) : Int) := by
 have h := impl_signs hl hp l.length 0 1 0 (by omega) (by simp) (by omega)
 unfold impl_signed.f
 simpa [before, signs] using h

theorem signs_le {l : List Int} (hl : l.length ≤ 4) : signs l ≤ 4096 := by
 have key : ∀ (l : List Int) (pr : Option Int) (i w s : Nat), i + l.length ≤ 4 → w ≤ 8 ^ i → sgn pr i w s l ≤ 8 ^ (i + l.length) := by
  intro l
  induction l with
  | nil => intro pr i w s _ h; simpa [sgn] using h
  | cons x l ih =>
   intro pr i w s h1 h2
   have h := ih (some x) (i + 1) _ (if pr = some x then s + 1 else 1) (by simp at h1; omega) (next8 (s' := if pr = some x then s + 1 else 1) h2 (by simp at h1; omega) (x = 0))
   have e : i + (x :: l).length = i + 1 + l.length := by simp; omega
   rw [e]
   exact h
 have h := key l none 0 1 0 (by omega) (by simp)
 have : 8 ^ (0 + l.length) ≤ 8 ^ 4 := Nat.pow_le_pow_right (by omega) (by omega)
 unfold signs
 omega
def sumSigns : List (List Int) → Nat
 | [] => 0
 | l :: L => signs l + sumSigns L
theorem rdLL {l : List (List Int)} {i : Nat} (h : i < l.length) : rd_L2 l (i : Int) = l[i] := rdL_get h

theorem count_l0 {L : List (List Int)} (hL : L.length ≤ 1000000) (h4 : ∀ l ∈ L, l.length ≤ 4 ∧ ∀ x ∈ l, 0 ≤ x) (d : Nat) : ∀ (i acc : Nat), i + d = L.length → acc ≤ 4096 * i →
 Ev (fun k => impl_countSquares.l0 k (acc : Int) L (L.length : Int) (i : Int)) ((acc + sumSigns (L.drop i) : Nat) : Int) := by
 induction d with
 | zero =>
  intro i acc h1 h2
  refine Ev_succ ?_
  simp only [impl_countSquares.l0]
  rw [List.drop_of_length_le (by omega)]
  exact Ev_false (by omega) Ev_some
 | succ d ih =>
  intro i acc h1 h2
  have hi : i < L.length := by omega
  obtain ⟨hl, hp⟩ := h4 L[i] (List.getElem_mem hi)
  have hs := signs_le hl
  refine Ev_succ ?_
  simp only [impl_countSquares.l0]
  rw [rdLL hi, List.drop_eq_getElem_cons hi, w64 (x := (i : Int) + 1) (by omega) (by omega)]
  refine Ev_true (by omega) (Ev_true (by omega) (Ev_true (by omega) (Ev.bind (signed_ev hl hp) ?_)))
  rw [w64 (x := (acc : Int) + ((signs L[i] : Nat) : Int)) (by omega) (by omega)]
  have h := ih (i + 1) (acc + signs L[i]) (by omega) (by omega)
  have e : acc + sumSigns (L[i] :: L.drop (i + 1)) = acc + signs L[i] + sumSigns (L.drop (i + 1)) := by
   show acc + (signs L[i] + sumSigns (L.drop (i + 1))) = _
   omega
  rw [e]
  simpa using h
theorem countSq_ev {p n : Nat} (hp : p ≤ 4) (hn : n ≤ 1000000) (hl : (allL p n n).length ≤ 1000000) : Ev (fun k => impl_countSquares.f k (p : Int) (n : Int)) ((sumSigns (allL p n n) : Nat) : Int) := by
 unfold impl_countSquares.f
 refine Ev.bind (allSq_ev hp hn hl) ?_
 have h := count_l0 hl (fun l hl => ⟨by have := allL_len hl; omega, allL_pos hl⟩) (allL p n n).length 0 0 (by omega) (by omega)
 simpa using h
end Go.Proofs.Ytpmbffchkcemoaa.Q
namespace Go.Proofs.Ytpmbffchkcemoaa.DivPair

def sumTo (g : Nat → Int) : Nat → Int
 | 0 => 0
 | k + 1 => sumTo g k + g (k + 1)

theorem sumTo_gap (g : Nat → Int) (q : Nat) : ∀ p, q ≤ p → (∀ d, q < d → d < p → g d = 0) →
 sumTo g p = sumTo g q + (if q < p then g p else 0) := by
 intro p
 induction p with
 | zero =>
  intro h _
  obtain rfl : q = 0 := by omega
  simp
 | succ p ih =>
  intro h hz
  by_cases e : q = p + 1
  ·
   subst e
   simp
  ·
   have hq : q ≤ p := by omega
   have h1 := ih hq (fun d h1 h2 => hz d h1 (by omega))
   have h0 : (if q < p then g p else 0) = 0 := by
    by_cases hp : q < p
    ·
     rw [if_pos hp]
     exact hz p hp (by omega)
    ·
     rw [if_neg hp]
   rw [if_pos (by omega)]
   show sumTo g p + g (p + 1) = _
   rw [h1, h0]
   omega

theorem sumTo_congr {g h : Nat → Int} : ∀ k, (∀ d, 1 ≤ d → d ≤ k → g d = h d) → sumTo g k = sumTo h k
 | 0, _ => rfl
 | k + 1, e => by
  show sumTo g k + g (k + 1) = sumTo h k + h (k + 1)
  rw [sumTo_congr k (fun d h1 h2 => e d h1 (by omega)), e (k + 1) (by omega) (by omega)]

theorem sumTo_add (g h : Nat → Int) : ∀ k, sumTo (fun d => g d + h d) k = sumTo g k + sumTo h k
 | 0 => rfl
 | k + 1 => by
  show sumTo (fun d => g d + h d) k + (g (k + 1) + h (k + 1)) = sumTo g k + g (k + 1) + (sumTo h k + h (k + 1))
  rw [sumTo_add g h k]
  omega

theorem step_div (f : Nat → Int) (n k : Nat) (hn : 1 ≤ n) :
 sumTo (fun d => if d ∣ n then f d else 0) (n / (k + 1)) =
  sumTo (fun d => if d ∣ n then f d else 0) (n / (k + 2)) + (if (k + 1) ∣ n then f (n / (k + 1)) else 0) := by
 have hle : n / (k + 2) ≤ n / (k + 1) := Nat.div_le_div_left (by omega) (by omega)
 have key : ∀ d, n / (k + 2) < d → d ≤ n / (k + 1) → d ∣ n → n = d * (k + 1) := by
  intro d h1 h2 ⟨c, hc⟩
  have h3 : n < d * (k + 2) := (Nat.div_lt_iff_lt_mul (by omega)).1 h1
  have h4 : d * (k + 1) ≤ n := (Nat.le_div_iff_mul_le (by omega)).1 h2
  have h5 : c < k + 2 := by
   rw [hc] at h3
   exact Nat.lt_of_mul_lt_mul_left h3
  have h6 : k + 1 ≤ c := by
   rw [hc] at h4
   have hd : 0 < d := Nat.lt_of_le_of_lt (Nat.zero_le _) h1
   exact Nat.le_of_mul_le_mul_left h4 hd
  obtain rfl : c = k + 1 := by omega
  exact hc
 rw [sumTo_gap _ (n / (k + 2)) (n / (k + 1)) hle]
 ·
  congr 1
  by_cases hd : (k + 1) ∣ n
  ·
   obtain ⟨c, hc⟩ := hd
   have hq : n / (k + 1) = c := by rw [hc]; exact Nat.mul_div_cancel_left c (by omega)
   have hlt : n / (k + 2) < n / (k + 1) := by
    rw [hq]
    refine (Nat.div_lt_iff_lt_mul (by omega)).2 ?_
    rw [hc, Nat.mul_comm]
    have : 0 < c := by
     rcases Nat.eq_zero_or_pos c with h | h
     ·
      subst h; omega
     ·
      exact h
    exact Nat.mul_lt_mul_of_pos_left (by omega) this
   have hd1 : (k + 1) ∣ n := ⟨c, hc⟩
   have hd2 : n / (k + 1) ∣ n := by
    rw [hq]
    exact ⟨k + 1, by rw [hc, Nat.mul_comm]⟩
   rw [if_pos hlt, if_pos hd1]
   exact if_pos hd2
  ·
   rw [if_neg hd]
   by_cases hlt : n / (k + 2) < n / (k + 1)
   ·
    rw [if_pos hlt]
    refine if_neg fun h => ?_
    exact hd ⟨n / (k + 1), by rw [Nat.mul_comm]; exact key _ hlt (Nat.le_refl _) h⟩
   ·
    rw [if_neg hlt]
 ·
  intro d h1 h2
  rw [if_neg]
  intro h
  have h3 := key d h1 (by omega) h
  have : n / (k + 1) = d := by rw [h3]; exact Nat.mul_div_cancel d (by omega)
  omega

theorem upper (f : Nat → Int) (n : Nat) (hn : 1 ≤ n) : ∀ k,
 sumTo (fun e => if e ∣ n then f (n / e) else 0) k + sumTo (fun d => if d ∣ n then f d else 0) (n / (k + 1)) =
  sumTo (fun d => if d ∣ n then f d else 0) n
 | 0 => by simp [sumTo]
 | k + 1 => by
  have h := upper f n hn k
  rw [step_div f n k hn] at h
  have e2 : k + 1 + 1 = k + 2 := rfl
  rw [e2]
  show sumTo (fun e => if e ∣ n then f (n / e) else 0) k + (if (k + 1) ∣ n then f (n / (k + 1)) else 0) + _ = _
  omega

/-- What the walk over the divisors up to the root comes to. -/
theorem pairs (f : Nat → Int) (n r : Nat) (hn : 1 ≤ n) (h1 : r * r ≤ n) (h2 : n < (r + 1) * (r + 1)) :
 sumTo (fun d => if d ∣ n then f d + (if d * d < n then f (n / d) else 0) else 0) r =
  sumTo (fun d => if d ∣ n then f d else 0) n := by
 have hs : sumTo (fun d => if d ∣ n then f d + (if d * d < n then f (n / d) else 0) else 0) r =
  sumTo (fun d => if d ∣ n then f d else 0) r + sumTo (fun d => if d ∣ n then (if d * d < n then f (n / d) else 0) else 0) r := by
  rw [← sumTo_add]
  refine sumTo_congr r fun d _ _ => ?_
  by_cases hd : d ∣ n
  ·
   simp only [if_pos hd]
  ·
   simp only [if_neg hd]; rfl
 rw [hs]
 have hr : 1 ≤ r := by
  rcases Nat.eq_zero_or_pos r with h | h
  ·
   subst h; omega
  ·
   exact h
 by_cases he : r * r = n
 ·
  obtain ⟨m, rfl⟩ : ∃ m, r = m + 1 := ⟨r - 1, by omega⟩
  have hu := upper f n hn m
  have hq : n / (m + 1) = m + 1 := by rw [← he]; exact Nat.mul_div_cancel _ (by omega)
  rw [hq] at hu
  rw [← hu]
  have hl : sumTo (fun d => if d ∣ n then (if d * d < n then f (n / d) else 0) else 0) (m + 1) =
   sumTo (fun e => if e ∣ n then f (n / e) else 0) m := by
   show sumTo _ m + (if (m + 1) ∣ n then (if (m + 1) * (m + 1) < n then f (n / (m + 1)) else 0) else 0) = _
   rw [if_neg (show ¬ (m + 1) * (m + 1) < n by omega)]
   have h0 : (if (m + 1) ∣ n then (0 : Int) else 0) = 0 := by split <;> rfl
   rw [h0, Int.add_zero]
   refine sumTo_congr m fun d _ hd => ?_
   have hlt : d * d < n := by
    rw [← he]
    exact Nat.mul_lt_mul'' (by omega) (by omega)
   simp only [if_pos hlt]
  rw [hl]
  omega
 ·
  have hlt : r * r < n := by omega
  have hu := upper f n hn r
  have hq : n / (r + 1) ≤ r := by
   have : n / (r + 1) < r + 1 := (Nat.div_lt_iff_lt_mul (by omega)).2 h2
   omega
  have hnone : ∀ d, n / (r + 1) < d → d ≤ r → ¬ d ∣ n := by
   intro d h3 h4 ⟨c, hc⟩
   have h5 : n < d * (r + 1) := (Nat.div_lt_iff_lt_mul (by omega)).1 h3
   have h6 : c < r + 1 := by
    rw [hc] at h5
    exact Nat.lt_of_mul_lt_mul_left h5
   have h7 : d * c ≤ r * r := Nat.mul_le_mul h4 (by omega)
   omega
  have hg := sumTo_gap (fun d => if d ∣ n then f d else 0) (n / (r + 1)) r hq (fun d h3 h4 => if_neg (hnone d h3 (by omega)))
  have hz : (if n / (r + 1) < r then (fun d => if d ∣ n then f d else 0) r else 0) = 0 := by
   by_cases h : n / (r + 1) < r
   ·
    rw [if_pos h]
    exact if_neg (hnone r h (Nat.le_refl _))
   ·
    rw [if_neg h]
  rw [hz, Int.add_zero] at hg
  rw [← hu, hg]
  have hl : sumTo (fun d => if d ∣ n then (if d * d < n then f (n / d) else 0) else 0) r =
   sumTo (fun e => if e ∣ n then f (n / e) else 0) r := by
   refine sumTo_congr r fun d _ hd => ?_
   have : d * d < n := Nat.lt_of_le_of_lt (Nat.mul_le_mul hd hd) hlt
   simp only [if_pos this]
  rw [hl]
  omega

end Go.Proofs.Ytpmbffchkcemoaa.DivPair
namespace Go.Proofs.Ytpmbffchkcemoaa.Q
open Go.RowKit Go.Proofs.Ytpmbffchkcemoaa.P Go.Proofs.YtpmbffchkcemoaaW.PrintWords Go.Proofs.YtpmbffchkcemoaaW.PrintLast
open Go.Proofs.Ytpmbffchkcemoaa.DivPair

/-- The sum of a function over a list. -/
def sumL (f : Nat → Int) : List Int → Int
 | [] => 0
 | x :: l => f x.toNat + sumL f l
theorem sumL_append (f : Nat → Int) (m : List Int) : ∀ l, sumL f (l ++ m) = sumL f l + sumL f m
 | [] => by simp [sumL]
 | x :: l => by
  show f x.toNat + sumL f (l ++ m) = f x.toNat + sumL f l + sumL f m
  rw [sumL_append f m l]
  omega
theorem sumTo_scale (c : Int) (g : Nat → Int) : ∀ k, sumTo (fun d => c * g d) k = c * sumTo g k
 | 0 => by simp [sumTo]
 | k + 1 => by
  show sumTo (fun d => c * g d) k + c * g (k + 1) = c * (sumTo g k + g (k + 1))
  rw [sumTo_scale c g k, Int.mul_add]

def pairTerm (f : Nat → Int) (n d : Nat) : Int := if d ∣ n then f d + (if d * d < n then f (n / d) else 0) else 0
/-- What is appended for d. -/
def here (n d : Nat) : List Int := if d ∣ n then (if d * d < n then [(d : Int), ((n / d : Nat) : Int)] else [(d : Int)]) else []
def divL (n : Nat) : Nat → Nat → List Int
 | 0, _ => []
 | m + 1, d => if d * d ≤ n then here n d ++ divL n m (d + 1) else []

theorem here_len (n d : Nat) : (here n d).length ≤ 2 := by
 unfold here
 split
 ·
  split <;> simp
 ·
  simp
theorem divL_len (n : Nat) : ∀ m d, (divL n m d).length ≤ 2 * m
 | 0, _ => by simp [divL]
 | m + 1, d => by
  have h := divL_len n m (d + 1)
  have h2 := here_len n d
  unfold divL
  split
  ·
   rw [List.length_append]; omega
  ·
   simp
theorem here_mem {n d : Nat} (hn : 1 ≤ n) (hd : 1 ≤ d) : ∀ x ∈ here n d, 1 ≤ x ∧ x ≤ n := by
 intro x hx
 unfold here at hx
 by_cases h : d ∣ n
 ·
  have hle := Nat.le_of_dvd hn h
  have hq : n / d ≤ n := Nat.div_le_self n d
  have hq1 : 1 ≤ n / d := Nat.div_pos hle hd
  rw [if_pos h] at hx
  split at hx
  ·
   rcases List.mem_cons.1 hx with rfl | hx
   ·
    omega
   ·
    rcases List.mem_cons.1 hx with rfl | hx
    ·
     omega
    ·
     simp at hx
  ·
   rcases List.mem_cons.1 hx with rfl | hx
   ·
    omega
   ·
    simp at hx
 ·
  rw [if_neg h] at hx
  simp at hx
theorem divL_mem {n : Nat} (hn : 1 ≤ n) : ∀ m d, 1 ≤ d → ∀ x ∈ divL n m d, 1 ≤ x ∧ x ≤ n
 | 0, _, _ => by intro x hx; simp [divL] at hx
 | m + 1, d, hd => by
  intro x hx
  unfold divL at hx
  split at hx
  ·
   rcases List.mem_append.1 hx with hx | hx
   ·
    exact here_mem hn hd x hx
   ·
    exact divL_mem hn m (d + 1) (by omega) x hx
  ·
   simp at hx
theorem here_sum (f : Nat → Int) (n d : Nat) : sumL f (here n d) = pairTerm f n d := by
 unfold here pairTerm
 by_cases h : d ∣ n
 ·
  rw [if_pos h, if_pos h]
  by_cases h2 : d * d < n
  ·
   rw [if_pos h2, if_pos h2]
   simp only [sumL, Int.toNat_natCast, Int.add_zero]
  ·
   rw [if_neg h2, if_neg h2]
   simp [sumL]
 ·
  rw [if_neg h, if_neg h]
  rfl
theorem divL_sum (f : Nat → Int) {n r : Nat} (h1 : r * r ≤ n) (h2 : n < (r + 1) * (r + 1)) : ∀ m d, 1 ≤ d → d ≤ r + 1 → r + 1 - d ≤ m →
 sumTo (pairTerm f n) (d - 1) + sumL f (divL n m d) = sumTo (pairTerm f n) r
 | 0, d, a, b, c => by
  obtain rfl : d = r + 1 := by omega
  simp [divL, sumL]
 | m + 1, d, a, b, c => by
  unfold divL
  by_cases h : d * d ≤ n
  ·
   rw [if_pos h, sumL_append, here_sum]
   have hd : d ≤ r := by
    rcases Nat.lt_or_ge r d with hl | hl
    ·
     have : (r + 1) * (r + 1) ≤ d * d := Nat.mul_le_mul hl hl
     omega
    ·
     exact hl
   have ih := divL_sum f h1 h2 m (d + 1) (by omega) (by omega) (by omega)
   have e : sumTo (pairTerm f n) (d + 1 - 1) = sumTo (pairTerm f n) (d - 1) + pairTerm f n d := by
    obtain ⟨q, rfl⟩ : ∃ q, d = q + 1 := ⟨d - 1, by omega⟩
    rfl
   rw [e] at ih
   omega
  ·
   rw [if_neg h]
   have hd : d = r + 1 := by
    rcases Nat.lt_or_ge r d with hl | hl
    ·
     omega
    ·
     exact absurd (Nat.le_trans (Nat.mul_le_mul hl hl) h1) h
   subst hd
   simp [sumL]
/-- The sum over the made list is the one over all divisors. -/
theorem divL_all (f : Nat → Int) {n : Nat} (hn : 1 ≤ n) (hn2 : n ≤ 1000000) : sumL f (divL n 1001 1) = sumTo (fun d => if d ∣ n then f d else 0) n := by
 obtain ⟨r, h1, h2⟩ : ∃ r, r * r ≤ n ∧ n < (r + 1) * (r + 1) := by
  have : ∀ n : Nat, ∃ r, r * r ≤ n ∧ n < (r + 1) * (r + 1) := by
   intro n
   induction n with
   | zero => exact ⟨0, by omega, by omega⟩
   | succ n ih =>
    obtain ⟨r, h1, h2⟩ := ih
    by_cases h : n + 1 < (r + 1) * (r + 1)
    ·
     exact ⟨r, by omega, h⟩
    ·
     refine ⟨r + 1, by omega, ?_⟩
     have : (r + 1 + 1) * (r + 1 + 1) = (r + 1) * (r + 1) + (r + 1) + (r + 1) + 1 := by
      rw [Nat.add_mul (r + 1) 1 (r + 1 + 1), Nat.mul_add (r + 1)]
      omega
     omega
  exact this n
 have hr : r ≤ 1000 := by
  rcases Nat.lt_or_ge 1000 r with h | h
  ·
   have : 1001 * 1001 ≤ r * r := Nat.mul_le_mul h h
   omega
  ·
   exact h
 have h := divL_sum f h1 h2 1001 1 (by omega) (by omega) (by omega)
 have h3 := pairs f n r hn h1 h2
 have h0 : sumTo (pairTerm f n) (1 - 1) = 0 := rfl
 rw [h0] at h
 have h4 : sumTo (pairTerm f n) r = sumTo (fun d => if d ∣ n then f d + (if d * d < n then f (n / d) else 0) else 0) r := rfl
 omega

/-- The walk over the numbers up to the root. -/
theorem divisors_l0 (n : Nat) (hn2 : n ≤ 1000000) (m : Nat) : ∀ (d : Nat) (l : List Int), 1 ≤ d → d ≤ 1001 → 1001 - d ≤ m → l.length + 2 * m ≤ 5000 →
 Ev (fun k => impl_divisors.l0 k (n : Int) l (d : Int)) (l ++ divL n m d) := by
 induction m with
 | zero =>
  intro d l hd hd2 hm hl
  obtain rfl : d = 1001 := by omega
  refine Ev_succ ?_
  simp only [impl_divisors.l0]
  rw [w64_mul (c := 1001) (d := 1001) (by omega) (by omega) (by omega)]
  refine Ev_false (by omega) ?_
  simp only [divL, List.append_nil]
  exact Ev_some
 | succ m ih =>
  intro d l hd hd2 hm hl
  refine Ev_succ ?_
  simp only [impl_divisors.l0]
  rw [w64_mul (c := 1001) (d := 1001) hd2 hd2 (by omega), tmod_cast, tdiv_cast, w64_nat (n / d) (by have := Nat.div_le_self n d; omega), w64 (x := (d : Int) + 1) (by omega) (by omega)]
  unfold divL
  by_cases h : d * d ≤ n
  ·
   have hd3 : d ≤ 1000 := by
    rcases Nat.lt_or_ge 1000 d with h1 | h1
    ·
     have : 1001 * 1001 ≤ d * d := Nat.mul_le_mul h1 h1
     omega
    ·
     exact h1
   rw [if_pos h]
   refine Ev_true (by omega) (Ev_false (by omega) ?_)
   unfold here
   by_cases hdv : d ∣ n
   ·
    have hz : n % d = 0 := Nat.mod_eq_zero_of_dvd hdv
    rw [if_pos hdv]
    refine Ev_true (by omega) (Ev_true (by omega) ?_)
    simp only [Option.bind_some]
    have hlen : (l ++ [(d : Int)]).length = l.length + 1 := by simp
    by_cases hs : d * d < n
    ·
     rw [if_pos hs]
     refine Ev_true (by omega) (Ev_true (by omega) ?_)
     have h2 := ih (d + 1) (l ++ [(d : Int)] ++ [((n / d : Nat) : Int)]) (by omega) (by omega) (by omega) (by rw [List.length_append, hlen]; simp; omega)
     simpa using h2
    ·
     rw [if_neg hs]
     refine Ev_false (by omega) ?_
     have h2 := ih (d + 1) (l ++ [(d : Int)]) (by omega) (by omega) (by omega) (by omega)
     simpa using h2
   ·
    have hz : n % d ≠ 0 := fun h => hdv (Nat.dvd_of_mod_eq_zero h)
    rw [if_neg hdv]
    refine Ev_false (by omega) ?_
    exact ih (d + 1) l (by omega) (by omega) (by omega) (by omega)
  ·
   rw [if_neg h, List.append_nil]
   exact Ev_false (by omega) Ev_some
theorem divisors_ev {n : Nat} (hn2 : n ≤ 1000000) : Ev (fun k => impl_divisors.f k (n : Int)) (divL n 1001 1) :=
 divisors_l0 n hn2 1001 1 [] (by omega) (by omega) (by omega) (by simp)

theorem rd_nat {l : List Int} {i : Nat} (h : i < l.length) : rd l (i : Int) = l[i] := by
 simp [rd, List.getD_eq_getElem?_getD, List.getElem?_eq_getElem h]
theorem drop_at {l : List Int} {i : Nat} (h : i < l.length) : l.drop i = l[i] :: l.drop (i + 1) := List.drop_eq_getElem_cons h
end Go.Proofs.Ytpmbffchkcemoaa.Q

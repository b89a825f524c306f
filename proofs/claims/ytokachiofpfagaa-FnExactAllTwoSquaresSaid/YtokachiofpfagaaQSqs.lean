/- All lists of so many numbers, none greater than one before it, with a sum of squares: what both programs come to. -/
import Derived.Test.YtokachiofpfagaaPx1
import Derived.Test.YtokachiofpfagaaPx4
import Derived.Test.YtokachiofpfagaaQIsq
namespace Go.Proofs.Ytokachiofpfagaa.Q
open Go.RowKit Go.Proofs.Ytokachiofpfagaa.P Go.Proofs.YtokachiofpfagaaW.PrintWords Go.Proofs.YtokachiofpfagaaW.PrintLast Go.Proofs.YtokachiofpfagaaW.PrintMore Go.Proofs.Ytokachiofpfagaa.G

def downL {α : Type} (f : Nat → List α) (c : Nat → Bool) : Nat → List α
  | 0 => if c 0 then f 0 else []
  | a + 1 => if c (a + 1) then f (a + 1) ++ downL f c a else []
def allL : Nat → Nat → Nat → List (List Int)
  | 0, _, n => if n = 0 then [[]] else []
  | p + 1, most, n => downL (fun a => (allL p a (n - a * a)).map ((a : Int) :: ·)) (fun a => decide (n ≤ (p + 1) * a * a)) (min most (isq n))

theorem downL_mem {α : Type} {f : Nat → List α} {c : Nat → Bool} {x : α} : ∀ {a}, x ∈ downL f c a → ∃ b, b ≤ a ∧ x ∈ f b
  | 0, h => by
    unfold downL at h
    split at h
    · exact ⟨0, Nat.le_refl _, h⟩
    · simp at h
  | a + 1, h => by
    unfold downL at h
    split at h
    · rcases List.mem_append.1 h with h | h
      · exact ⟨a + 1, Nat.le_refl _, h⟩
      · obtain ⟨b, hb, hx⟩ := downL_mem h
        exact ⟨b, by omega, hx⟩
    · simp at h
theorem allL_len : ∀ {p most n} {l : List Int}, l ∈ allL p most n → l.length = p
  | 0, most, n, l, h => by
    unfold allL at h
    split at h
    · simp at h; subst h; rfl
    · simp at h
  | p + 1, most, n, l, h => by
    unfold allL at h
    obtain ⟨b, _, hx⟩ := downL_mem h
    obtain ⟨l', hl', rfl⟩ := List.mem_map.1 hx
    simp [allL_len hl']

/-! ### the visits -/
def run {σ : Type} (step : σ → List Int → Option (σ × Bool)) : σ → List (List Int) → Option (σ × Bool)
  | s, [] => some (s, false)
  | s, l :: ls => (step s l).bind fun q => if q.2 = true then some (q.1, true) else run step q.1 ls
theorem run_append {σ : Type} (step : σ → List Int → Option (σ × Bool)) (m : List (List Int)) : ∀ l s, run step s (l ++ m) = (run step s l).bind fun q => if q.2 = true then some (q.1, true) else run step q.1 m
  | [], s => by simp [run]
  | x :: l, s => by
    show (step s x).bind _ = ((step s x).bind _).bind _
    rw [Option.bind_assoc]
    congr 1
    funext q
    split
    · simp
    · exact run_append step m l q.1

theorem mn_cast (a b : Nat) : mn (a : Int) (b : Int) = ((min a b : Nat) : Int) := by
  unfold mn
  split <;> omega
theorem pw_parts {p a : Nat} (hp : p ≤ 4) (ha : a ≤ 1000) : wrap64 (wrap64 ((p : Int) * (a : Int)) * (a : Int)) = ((p * a * a : Nat) : Int) := by
  have h1 : p * a ≤ 4 * 1000 := Nat.mul_le_mul hp ha
  rw [← Int.natCast_mul, w64_nat (p * a) (by omega), wmul (c := 4000) (by omega) (by omega) (by omega)]

theorem sqL_run {σ : Type} (step : σ → List Int → Option (σ × Bool)) (p n : Nat) (hp : p + 1 ≤ 4) (hn : n ≤ 1000000) (xs : List Int) (hxs : xs.length + (p + 1) ≤ 4)
    (ih : ∀ (most m : Nat) (xs : List Int) (s : σ) (q : σ × Bool), m ≤ 1000000 → xs.length + p ≤ 4 → run step s ((allL p most m).map (xs ++ ·)) = some q → Ev (fun k => sqF impl_root.f step k xs (p : Int) (most : Int) (m : Int) s) q) (a : Nat) :
    ∀ (s : σ) (q : σ × Bool), a * a ≤ n → run step s ((downL (fun a => (allL p a (n - a * a)).map ((a : Int) :: ·)) (fun a => decide (n ≤ (p + 1) * a * a)) a).map (xs ++ ·)) = some q →
      Ev (fun k => sqL impl_root.f step k xs ((p + 1 : Nat) : Int) (n : Int) (a : Int) s) q := by
  have hstep : ∀ (a : Nat) (s : σ) (q : σ × Bool) (rest : List (List Int)), a * a ≤ n → (n ≤ (p + 1) * a * a) →
      run step s (((allL p a (n - a * a)).map ((a : Int) :: ·) ++ rest).map (xs ++ ·)) = some q →
      (∀ s', run step s' (rest.map (xs ++ ·)) = some q → Ev (fun k => sqL impl_root.f step k xs ((p + 1 : Nat) : Int) (n : Int) ((a : Int) - 1) s') q) →
      Ev (fun k => sqL impl_root.f step k xs ((p + 1 : Nat) : Int) (n : Int) (a : Int) s) q := by
    intro a s q rest ha hc hr hnext
    have ha2 : a ≤ 1000 := by
      rcases Nat.lt_or_ge 1000 a with h | h
      · have : 1001 * 1001 ≤ a * a := Nat.mul_le_mul h h
        omega
      · exact h
    refine Ev_succ ?_
    simp only [sqL]
    rw [pw_parts hp ha2, w64 (x := ((p + 1 : Nat) : Int) - 1) (by omega) (by omega), wmul (c := 1000) ha2 ha2 (by omega), w64 (x := (n : Int) - ((a * a : Nat) : Int)) (by omega) (by omega), w64 (x := (a : Int) - 1) (by omega) (by omega)]
    have e1 : ((p + 1 : Nat) : Int) - 1 = ((p : Nat) : Int) := by omega
    have e2 : (n : Int) - ((a * a : Nat) : Int) = ((n - a * a : Nat) : Int) := by omega
    rw [e1, e2]
    rw [List.map_append, run_append, List.map_map] at hr
    have e3 : ((xs ++ ·) ∘ ((a : Int) :: ·)) = ((xs ++ [(a : Int)]) ++ ·) := by
      funext l
      simp
    rw [e3] at hr
    obtain ⟨q1, hq1, hq2⟩ := Option.bind_eq_some_iff.mp hr
    have h1 := ih a (n - a * a) (xs ++ [(a : Int)]) s q1 (by omega) (by simp; omega) hq1
    refine Ev_true (by omega) (Ev_true (by omega) (Ev_true (by omega) ?_))
    refine Ev.bind h1 ?_
    by_cases hb : q1.2 = true
    · rw [if_pos hb] at hq2
      obtain rfl := Option.some.inj hq2
      exact Ev_true hb Ev_some
    · rw [if_neg hb] at hq2
      exact Ev_false hb (hnext _ hq2)
  induction a with
  | zero =>
    intro s q ha hr
    unfold downL at hr
    by_cases hc : n ≤ (p + 1) * 0 * 0
    · rw [if_pos (by simpa using hc)] at hr
      refine hstep 0 s q [] ha hc (by simpa using hr) (fun s' hr' => ?_)
      simp only [List.map_nil, run] at hr'
      obtain rfl := Option.some.inj hr'
      refine Ev_succ ?_
      simp only [sqL]
      exact Ev_false (by omega) Ev_some
    · rw [if_neg (by simpa using hc)] at hr
      simp only [List.map_nil, run] at hr
      obtain rfl := Option.some.inj hr
      refine Ev_succ ?_
      simp only [sqL]
      rw [pw_parts hp (by omega)]
      exact Ev_true (by omega) (Ev_false (by omega) Ev_some)
  | succ a iha =>
    intro s q ha hr
    unfold downL at hr
    have hle : a * a ≤ n := Nat.le_trans (Nat.mul_le_mul (Nat.le_succ a) (Nat.le_succ a)) ha
    have ha2 : a + 1 ≤ 1000 := by
      rcases Nat.lt_or_ge 1000 (a + 1) with h | h
      · have : 1001 * 1001 ≤ (a + 1) * (a + 1) := Nat.mul_le_mul h h
        omega
      · exact h
    by_cases hc : n ≤ (p + 1) * (a + 1) * (a + 1)
    · rw [if_pos (by simpa using hc)] at hr
      refine hstep (a + 1) s q _ ha hc hr (fun s' hr' => ?_)
      have e : ((a + 1 : Nat) : Int) - 1 = (a : Int) := by omega
      rw [e]
      exact iha s' q hle hr'
    · rw [if_neg (by simpa using hc)] at hr
      simp only [List.map_nil, run] at hr
      obtain rfl := Option.some.inj hr
      refine Ev_succ ?_
      simp only [sqL]
      rw [pw_parts hp ha2]
      exact Ev_true (by omega) (Ev_false (by omega) Ev_some)

theorem sqF_run {σ : Type} (step : σ → List Int → Option (σ × Bool)) : ∀ (p : Nat), p ≤ 4 → ∀ (most n : Nat) (xs : List Int) (s : σ) (q : σ × Bool), n ≤ 1000000 → xs.length + p ≤ 4 →
    run step s ((allL p most n).map (xs ++ ·)) = some q → Ev (fun k => sqF impl_root.f step k xs (p : Int) (most : Int) (n : Int) s) q
  | 0, _, most, n, xs, s, q, hn, hxs, hr => by
    refine Ev_succ ?_
    simp only [sqF]
    unfold allL at hr
    by_cases h : n = 0
    · rw [if_pos h] at hr
      have e : run step s ([[]].map (xs ++ ·)) = step s xs := by
        simp only [List.map_cons, List.map_nil, List.append_nil, run]
        cases step s xs with
        | none => rfl
        | some q =>
          simp only [Option.bind_some]
          obtain ⟨q1, q2⟩ := q
          cases q2 <;> rfl
      rw [e] at hr
      exact Ev_true (by omega) (Ev_true (by omega) (Ev_const hr))
    · rw [if_neg h] at hr
      simp only [List.map_nil, run] at hr
      obtain rfl := Option.some.inj hr
      exact Ev_true (by omega) (Ev_false (by omega) Ev_some)
  | p + 1, hp, most, n, xs, s, q, hn, hxs, hr => by
    refine Ev_succ ?_
    simp only [sqF]
    refine Ev_false (by omega) (Ev.bind (root_ev (n := n) (by omega)) ?_)
    simp only [mn_cast]
    unfold allL at hr
    have hs := (isq_spec n).1
    have hle : min most (isq n) * min most (isq n) ≤ n := Nat.le_trans (Nat.mul_le_mul (Nat.min_le_right _ _) (Nat.min_le_right _ _)) hs
    exact sqL_run step p n hp hn xs hxs (fun most m xs s q h1 h2 h3 => sqF_run step p (by omega) most m xs s q h1 h2 h3) _ s q hle hr

/-! ### the other program: as many of them as asked -/
theorem rdL_get {l : List (List Int)} {i : Nat} (h : i < l.length) : rd_L1 l (i : Int) = l[i] := by
  simp [rd_L1, List.getD_eq_getElem?_getD, List.getElem?_eq_getElem h]

/-- The inner loop: a in front of each. -/
theorem sqAll_l1 {n p many a : Int} {t : List (List Int)} (ht : ∀ l ∈ t, l.length ≤ 4) (htl : t.length ≤ 1000000) (r : List (List Int))
    (d : Nat) : ∀ (i : Nat) (out : List (List Int)), i + d = t.length → out.length + d ≤ 2000000 →
      Ev (fun k => spec_sqAll.l0 k n p many (out ++ (t.drop i).map (a :: ·)) (wrap64 (a - 1))) r →
      Ev (fun k => spec_sqAll.l1 k n p many out a t (t.length : Int) (i : Int)) r := by
  induction d with
  | zero =>
    intro i out h1 h2 h
    refine Ev_succ ?_
    simp only [spec_sqAll.l1]
    rw [List.drop_of_length_le (by omega), List.map_nil, List.append_nil] at h
    exact Ev_false (by omega) h
  | succ d ih =>
    intro i out h1 h2 h
    have hi : i < t.length := by omega
    have hl := ht t[i] (List.getElem_mem hi)
    refine Ev_succ ?_
    simp only [spec_sqAll.l1]
    rw [rdL_get hi, w64 (x := (i : Int) + 1) (by omega) (by omega)]
    refine Ev_true (by omega) (Ev_true (by omega) (Ev_true (by omega) ?_))
    simp only [Option.bind_some, List.length_cons, List.length_nil]
    refine Ev_true (by omega) (Ev_true (by omega) ?_)
    refine ih (i + 1) _ (by omega) (by simp; omega) ?_
    rw [List.drop_eq_getElem_cons hi, List.map_cons] at h
    simpa using h

theorem sqAll_l0 (p n many : Nat) (hp : p + 1 ≤ 4) (hn : n ≤ 1000000) (hm : many ≤ 1000000)
    (ih : ∀ (most m mm : Nat), m ≤ 1000000 → 1 ≤ mm → mm ≤ 1000000 → Ev (fun k => spec_sqAll.f k (m : Int) (p : Int) (most : Int) (mm : Int)) ((allL p most m).take mm)) (a : Nat) :
    ∀ (out : List (List Int)), a * a ≤ n → out.length ≤ many →
      Ev (fun k => spec_sqAll.l0 k (n : Int) ((p + 1 : Nat) : Int) (many : Int) out (a : Int)) (out ++ (downL (fun a => (allL p a (n - a * a)).map ((a : Int) :: ·)) (fun a => decide (n ≤ (p + 1) * a * a)) a).take (many - out.length)) := by
  have hend : ∀ (out : List (List Int)) (a : Int), Ev (fun k => spec_sqAll.j1 k (n : Int) ((p + 1 : Nat) : Int) (many : Int) out a false) out := by
    intro out a
    refine Ev_succ ?_
    simp only [spec_sqAll.j1]
    exact Ev_false (by simp) Ev_some
  have hstep : ∀ (a : Nat) (out rest : List (List Int)), a * a ≤ n → n ≤ (p + 1) * a * a → out.length ≤ many →
      (∀ out', out'.length ≤ many → Ev (fun k => spec_sqAll.l0 k (n : Int) ((p + 1 : Nat) : Int) (many : Int) out' ((a : Int) - 1)) (out' ++ rest.take (many - out'.length))) →
      Ev (fun k => spec_sqAll.l0 k (n : Int) ((p + 1 : Nat) : Int) (many : Int) out (a : Int)) (out ++ ((allL p a (n - a * a)).map ((a : Int) :: ·) ++ rest).take (many - out.length)) := by
    intro a out rest ha hc ho hnext
    have ha2 : a ≤ 1000 := by
      rcases Nat.lt_or_ge 1000 a with h | h
      · have : 1001 * 1001 ≤ a * a := Nat.mul_le_mul h h
        omega
      · exact h
    refine Ev_succ ?_
    simp only [spec_sqAll.l0]
    rw [pw_parts hp ha2]
    refine Ev_true (by omega) (Ev_true (by omega) ?_)
    by_cases hlt : out.length < many
    · have e0 : decide ((out.length : Int) < (many : Int)) = true := decide_eq_true (by omega)
      rw [e0]
      refine Ev_succ ?_
      simp only [spec_sqAll.j1]
      rw [w64 (x := ((p + 1 : Nat) : Int) - 1) (by omega) (by omega), wmul (c := 1000) ha2 ha2 (by omega), w64 (x := (n : Int) - ((a * a : Nat) : Int)) (by omega) (by omega), w64 (x := (many : Int) - (out.length : Int)) (by omega) (by omega)]
      have e1 : ((p + 1 : Nat) : Int) - 1 = ((p : Nat) : Int) := by omega
      have e2 : (n : Int) - ((a * a : Nat) : Int) = ((n - a * a : Nat) : Int) := by omega
      have e3 : (many : Int) - (out.length : Int) = ((many - out.length : Nat) : Int) := by omega
      rw [e1, e2, e3]
      refine Ev_true trivial (Ev.bind (ih a (n - a * a) (many - out.length) (by omega) (by omega) (by omega)) ?_)
      generalize hL : allL p a (n - a * a) = L
      have hlen : (L.take (many - out.length)).length ≤ many - out.length := by rw [List.length_take]; omega
      refine sqAll_l1 (fun l hl => ?_) (by omega) _ (L.take (many - out.length)).length 0 out (by omega) (by omega) ?_
      · rw [← hL] at hl
        have := allL_len (List.mem_of_mem_take hl)
        omega
      · rw [w64 (x := (a : Int) - 1) (by omega) (by omega), List.drop_zero]
        have h := hnext (out ++ (L.take (many - out.length)).map ((a : Int) :: ·)) (by rw [List.length_append, List.length_map]; omega)
        have e4 : out ++ (L.map ((a : Int) :: ·) ++ rest).take (many - out.length) = out ++ (L.take (many - out.length)).map ((a : Int) :: ·) ++ rest.take (many - (out ++ (L.take (many - out.length)).map ((a : Int) :: ·)).length) := by
          rw [List.take_append, List.map_take, List.append_assoc, List.length_append, List.length_take, List.length_map]
          congr 2
          by_cases h5 : L.length ≤ many - out.length
          · rw [Nat.min_eq_right h5]
            congr 1
            omega
          · have e5 : many - out.length - L.length = 0 := by omega
            have e6 : many - (out.length + min (many - out.length) L.length) = 0 := by omega
            rw [e5, e6]
        rw [e4]
        exact h
    · have e0 : decide ((out.length : Int) < (many : Int)) = false := decide_eq_false (by omega)
      have e1 : many - out.length = 0 := by omega
      rw [e0, e1, List.take_zero, List.append_nil]
      exact hend out _
  induction a with
  | zero =>
    intro out ha ho
    unfold downL
    by_cases hc : n ≤ (p + 1) * 0 * 0
    · rw [if_pos (by simpa using hc)]
      have h := hstep 0 out [] ha hc ho (fun out' _ => by
        rw [List.take_nil, List.append_nil]
        refine Ev_succ ?_
        simp only [spec_sqAll.l0]
        exact Ev_false (by omega) (hend _ _))
      simpa using h
    · rw [if_neg (by simpa using hc), List.take_nil, List.append_nil]
      refine Ev_succ ?_
      simp only [spec_sqAll.l0]
      rw [pw_parts hp (by omega)]
      exact Ev_true (by omega) (Ev_false (by omega) (hend _ _))
  | succ a iha =>
    intro out ha ho
    unfold downL
    have hle : a * a ≤ n := Nat.le_trans (Nat.mul_le_mul (Nat.le_succ a) (Nat.le_succ a)) ha
    have ha2 : a + 1 ≤ 1000 := by
      rcases Nat.lt_or_ge 1000 (a + 1) with h | h
      · have : 1001 * 1001 ≤ (a + 1) * (a + 1) := Nat.mul_le_mul h h
        omega
      · exact h
    by_cases hc : n ≤ (p + 1) * (a + 1) * (a + 1)
    · rw [if_pos (by simpa using hc)]
      refine hstep (a + 1) out _ ha hc ho (fun out' ho' => ?_)
      have e : ((a + 1 : Nat) : Int) - 1 = (a : Int) := by omega
      rw [e]
      exact iha out' hle ho'
    · rw [if_neg (by simpa using hc), List.take_nil, List.append_nil]
      refine Ev_succ ?_
      simp only [spec_sqAll.l0]
      rw [pw_parts hp ha2]
      exact Ev_true (by omega) (Ev_false (by omega) (hend _ _))

theorem least_cast (a b : Nat) : spec_l1Least.f (a : Int) (b : Int) = some ((min a b : Nat) : Int) := by
  unfold spec_l1Least.f
  split <;> (congr 1; omega)
theorem sqAll_ev : ∀ (p : Nat), p ≤ 4 → ∀ (most n many : Nat), n ≤ 1000000 → 1 ≤ many → many ≤ 1000000 → Ev (fun k => spec_sqAll.f k (n : Int) (p : Int) (most : Int) (many : Int)) ((allL p most n).take many)
  | 0, _, most, n, many, hn, h1, hm => by
    refine Ev_succ ?_
    simp only [spec_sqAll.f]
    unfold allL
    obtain ⟨m, rfl⟩ : ∃ m, many = m + 1 := ⟨many - 1, by omega⟩
    by_cases h : n = 0
    · rw [if_pos h]
      exact Ev_true (by omega) (Ev_true (by omega) (by simpa using Ev_some))
    · rw [if_neg h]
      exact Ev_true (by omega) (Ev_false (by omega) (by simpa using Ev_some))
  | p + 1, hp, most, n, many, hn, h1, hm => by
    refine Ev_succ ?_
    simp only [spec_sqAll.f]
    refine Ev_false (by omega) (Ev.bind (foRoot_ev (n := n) (by omega)) ?_)
    simp only [least_cast, Option.bind_some]
    unfold allL
    have hs := (isq_spec n).1
    have hle : min most (isq n) * min most (isq n) ≤ n := Nat.le_trans (Nat.mul_le_mul (Nat.min_le_right _ _) (Nat.min_le_right _ _)) hs
    have h := sqAll_l0 p n many hp hn hm (fun most m mm h2 h3 h4 => sqAll_ev p (by omega) most m mm h2 h3 h4) _ [] hle (by simp)
    simpa using h
end Go.Proofs.Ytokachiofpfagaa.Q

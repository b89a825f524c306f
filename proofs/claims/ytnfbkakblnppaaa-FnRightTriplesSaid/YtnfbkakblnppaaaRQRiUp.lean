/- All right triples up to a bound, of both programs: they come to the same list. -/
import Derived.Test.YtnfbkakblnppaaaRx3
import Derived.Test.YtnfbkakblnppaaaRx6
import Derived.Test.YtnfbkakblnppaaaRx8
import Derived.Test.YtnfbkakblnppaaaRx9
import Derived.Test.YtnfbkakblnppaaaRx11
import Derived.Test.YtnfbkakblnppaaaRQRi
namespace Go.Proofs.Ytnfbkakblnppaaa.Q
open Go.RowKit Go.Proofs.Ytnfbkakblnppaaa.P Go.Proofs.YtnfbkakblnppaaaW.PrintWords Go.Proofs.YtnfbkakblnppaaaW.PrintLast Go.Proofs.Ytnfbkakblnppaaa.G
theorem within_eq (a lo hi : Int) : impl_within.f a lo hi = some (decide (lo ≤ a ∧ a ≤ hi)) := by
  unfold impl_within.f
  by_cases h : lo ≤ a
  · rw [if_pos h]; simp [h]
  · rw [if_neg h]; simp [h]
theorem isPair_ev {m n : Nat} (hm : m ≤ 1000000000) (hn : n ≤ 1000000000) : Ev (fun k => impl_pair_isPair.f k (m : Int) (n : Int)) (decide (PairN m n)) := by
  unfold impl_pair_isPair.f
  by_cases h1 : n < m
  · refine Ev_true (by omega) ?_
    by_cases h2 : 1 ≤ n
    · refine Ev_true (by omega) ?_
      rw [w64 (x := (m : Int) - n) (by omega) (by omega), show (m : Int) - (n : Int) = ((m - n : Nat) : Int) by omega, mod2]
      by_cases h3 : (m + n) % 2 = 1
      · refine Ev_true (by omega) (Ev.bind (divisor_ev (by omega) (by omega)) ?_)
        by_cases h4 : Nat.gcd m n = 1
        · rw [decide_eq_true (⟨h1, h2, h3, h4⟩ : PairN m n), h4]
          exact Ev_some
        · rw [decide_eq_false (fun h : PairN m n => h4 h.cop), beq_eq_false_iff_ne.2 (by omega)]
          exact Ev_some
      · rw [decide_eq_false (fun h : PairN m n => h3 h.odd)]
        exact Ev_false (by omega) Ev_some
    · rw [decide_eq_false (fun h : PairN m n => h2 h.pos)]
      exact Ev_false (by omega) Ev_some
  · rw [decide_eq_false (fun h : PairN m n => h1 h.lt)]
    exact Ev_false (by omega) Ev_some
/-! ### The pairs up to a bound -/
def Upp (b m n : Nat) : Prop := PairN m n ∧ m * m + n * n ≤ b
instance (b m n : Nat) : Decidable (Upp b m n) := inferInstanceAs (Decidable (_ ∧ _))
def rowP (b m : Nat) : Nat → Nat → List (Nat × Nat)
  | 0, _ => []
  | d + 1, n => if Upp b m n then (m, n) :: rowP b m d (n + 1) else rowP b m d (n + 1)
def enP (b : Nat) : Nat → Nat → List (Nat × Nat)
  | 0, _ => []
  | d + 1, m => if m * m < b then rowP b m (m - 1) 1 ++ enP b d (m + 1) else []
def tp (p : Nat × Nat) : List Int := trip p.1 p.2
theorem rowP_len (b m : Nat) : ∀ d n, (rowP b m d n).length ≤ d
  | 0, n => Nat.le_refl 0
  | d + 1, n => by
    have := rowP_len b m d (n + 1)
    unfold rowP
    split
    · rw [List.length_cons]; omega
    · omega
theorem rowP_mem {b m : Nat} {p : Nat × Nat} : ∀ d n, p ∈ rowP b m d n → p.1 = m ∧ n ≤ p.2 ∧ Upp b p.1 p.2
  | 0, n, h => by cases h
  | d + 1, n, h => by
    unfold rowP at h
    split at h
    · rename_i hu
      rcases List.mem_cons.1 h with rfl | h
      · exact ⟨rfl, Nat.le_refl _, hu⟩
      · have := rowP_mem d (n + 1) h
        exact ⟨this.1, by omega, this.2.2⟩
    · have := rowP_mem d (n + 1) h
      exact ⟨this.1, by omega, this.2.2⟩
theorem rowP_nodup (b m : Nat) : ∀ d n, (rowP b m d n).Nodup
  | 0, n => List.nodup_nil
  | d + 1, n => by
    unfold rowP
    split
    · refine List.nodup_cons.2 ⟨fun h => ?_, rowP_nodup b m d (n + 1)⟩
      have : n + 1 ≤ n := (rowP_mem d (n + 1) h).2.1
      omega
    · exact rowP_nodup b m d (n + 1)
theorem enP_mem {b : Nat} {p : Nat × Nat} : ∀ d m, p ∈ enP b d m → m ≤ p.1 ∧ Upp b p.1 p.2
  | 0, m, h => by cases h
  | d + 1, m, h => by
    unfold enP at h
    split at h
    · rcases List.mem_append.1 h with h | h
      · have := rowP_mem _ _ h
        exact ⟨by omega, this.2.2⟩
      · have := enP_mem d (m + 1) h
        exact ⟨by omega, this.2⟩
    · cases h
theorem enP_nodup (b : Nat) : ∀ d m, (enP b d m).Nodup
  | 0, m => List.nodup_nil
  | d + 1, m => by
    unfold enP
    split
    · refine List.nodup_append.2 ⟨rowP_nodup b m _ _, enP_nodup b d (m + 1), fun x hx y hy e => ?_⟩
      have h1 := (rowP_mem _ _ hx).1
      have h2 := (enP_mem d (m + 1) hy).1
      rw [← e] at h2
      omega
    · exact List.nodup_nil
theorem enP_len (b : Nat) : ∀ d m, m + d ≤ 80 → (enP b d m).length ≤ 80 * d
  | 0, m, h => Nat.le_refl 0
  | d + 1, m, h => by
    unfold enP
    split
    · rw [List.length_append]
      have h1 := rowP_len b m (m - 1) 1
      have h2 := enP_len b d (m + 1) (by omega)
      omega
    · exact Nat.zero_le _
theorem trip_key {p q : Nat × Nat} (hp : PairN p.1 p.2) (hq : PairN q.1 q.2) (h2 : rd (tp p) 2 = rd (tp q) 2) (h0 : rd (tp p) 0 = rd (tp q) 0) : p = q := by
  have e2 : ((p.1 * p.1 + p.2 * p.2 : Nat) : Int) = ((q.1 * q.1 + q.2 * q.2 : Nat) : Int) := h2
  have e0 : ((p.1 * p.1 - p.2 * p.2 : Nat) : Int) = ((q.1 * q.1 - q.2 * q.2 : Nat) : Int) := h0
  have b1 : p.2 * p.2 ≤ p.1 * p.1 := Nat.mul_le_mul (Nat.le_of_lt hp.lt) (Nat.le_of_lt hp.lt)
  have b2 : q.2 * q.2 ≤ q.1 * q.1 := Nat.mul_le_mul (Nat.le_of_lt hq.lt) (Nat.le_of_lt hq.lt)
  have f1 : p.1 * p.1 = q.1 * q.1 := by omega
  have f2 : p.2 * p.2 = q.2 * q.2 := by omega
  refine Prod.ext ?_ ?_
  · rw [← isq_sq p.1, f1, isq_sq]
  · rw [← isq_sq p.2, f2, isq_sq]
theorem bef_total {p q : Nat × Nat} (hp : PairN p.1 p.2) (hq : PairN q.1 q.2) : tp p = tp q ∨ bef (tp p) (tp q) = true ∨ bef (tp q) (tp p) = true := by
  unfold bef
  by_cases h : rd (tp p) 2 = rd (tp q) 2 ∧ rd (tp p) 0 = rd (tp q) 0
  · exact .inl (by rw [trip_key hp hq h.1 h.2])
  · simp only [decide_eq_true_eq]
    refine .inr ?_
    omega
/-- The list. -/
def upL (b : Nat) : List (List Int) := sortL ((enP b 78 2).map tp)
theorem upL_mem {b : Nat} {x : List Int} (h : x ∈ upL b) : ∃ p, p ∈ enP b 78 2 ∧ tp p = x := List.mem_map.1 ((sortL_perm _).subset h)
theorem upL_nodup (b : Nat) : (upL b).Nodup := by
  refine (sortL_perm _).nodup_iff.2 ?_
  refine List.pairwise_map.2 ((List.Pairwise.and_mem.1 (enP_nodup b 78 2)).imp fun {p q} h e => ?_)
  have hp := (enP_mem 78 2 h.1).2.1
  have hq := (enP_mem 78 2 h.2.1).2.1
  exact h.2.2 (trip_key hp hq (by rw [e]) (by rw [e]))
theorem upL_len (b : Nat) : (upL b).length ≤ 6240 := by
  have h1 := (sortL_perm ((enP b 78 2).map tp)).length_eq
  have h2 := enP_len b 78 2 (by omega)
  unfold upL
  rw [h1, List.length_map]
  omega
theorem upL_sort (b : Nat) : sortF ((enP b 78 2).map tp) = some (upL b) := by
  unfold sortF
  rw [if_pos]
  · rfl
  · refine ⟨fun x hx => ?_, fun x hx y hy => ?_, ?_⟩
    · obtain ⟨p, _, rfl⟩ := List.mem_map.1 hx
      rfl
    · obtain ⟨p, hp, rfl⟩ := List.mem_map.1 hx
      obtain ⟨q, hq, rfl⟩ := List.mem_map.1 hy
      exact bef_total (enP_mem _ _ hp).2.1 (enP_mem _ _ hq).2.1
    · have h2 := enP_len b 78 2 (by omega)
      rw [List.length_map]
      omega
theorem upL_next {b i : Nat} (h : i + 1 < (upL b).length) : rd (upL b)[i] 2 < rd (upL b)[i + 1] 2 ∨ (rd (upL b)[i] 2 = rd (upL b)[i + 1] 2 ∧ rd (upL b)[i] 0 < rd (upL b)[i + 1] 0) := by
  have h1 := List.pairwise_iff_getElem.1 (sortL_ord ((enP b 78 2).map tp)) i (i + 1) (by unfold upL at h; omega) h (by omega)
  have h2 := List.pairwise_iff_getElem.1 (upL_nodup b) i (i + 1) (by omega) h (by omega)
  obtain ⟨p, hp, e1⟩ := upL_mem (List.getElem_mem (show i < (upL b).length by omega))
  obtain ⟨q, hq, e2⟩ := upL_mem (List.getElem_mem h)
  have h3 := bef_total (enP_mem _ _ hp).2.1 (enP_mem _ _ hq).2.1
  rw [e1, e2] at h3
  have h1 : bef (upL b)[i + 1] (upL b)[i] = false := h1
  rcases h3 with h3 | h3 | h3
  · exact absurd h3 h2
  · unfold bef at h3
    simpa using h3
  · rw [h3] at h1; cases h1
/-! ### The program's -/
theorem wsq {m : Nat} (h : m ≤ 100) : wrap64 ((m : Int) * m) = ((m * m : Nat) : Int) ∧ m * m ≤ 10000 := ⟨(w_sq (by omega)).1, Nat.mul_le_mul h h⟩
theorem wnext (n : Nat) (h : n ≤ 1000000) : wrap64 ((n : Int) + 1) = ((n + 1 : Nat) : Int) := by rw [w64 (by omega) (by omega)]; rfl
theorem impl_row {b : Nat} {m : Nat} (hm : m ≤ 80) {r : List (List Int) × Bool} : ∀ (d n : Nat) (acc : List (List Int)), n + d = m → acc.length + d ≤ 100000 → Ev (fun k => impl_RightUpTo.l0 k (b : Int) (acc ++ (rowP b m d n).map tp) ((m + 1 : Nat) : Int)) r → Ev (fun k => impl_RightUpTo.l1 k (b : Int) acc (m : Int) (n : Int)) r
  | 0, n, acc, hd, hl, h => by
    refine Ev_succ ?_
    simp only [impl_RightUpTo.l1]
    rw [wnext m (by omega)]
    refine Ev_false (by omega) ?_
    simpa [rowP] using h
  | d + 1, n, acc, hd, hl, h => by
    have hsm := wsq (m := m) (by omega)
    have hsn := wsq (m := n) (by omega)
    refine Ev_succ ?_
    simp only [impl_RightUpTo.l1]
    rw [hsm.1, hsn.1, w64 (x := ((m * m : Nat) : Int) + ((n * n : Nat) : Int)) (by omega) (by omega), wnext n (by omega), right_eq (m := m) (n := n) (by omega)]
    refine Ev_true (by omega) (Ev.bind (isPair_ev (by omega) (by omega)) ?_)
    by_cases hp : PairN m n
    · refine Ev_true (decide_eq_true hp) ?_
      by_cases hb : m * m + n * n ≤ b
      · have e : rightP m n = (trip m n, true) := if_pos (by omega)
        refine Ev_true (by omega) ?_
        rw [e]
        simp only [Option.bind_some]
        refine Ev_true (by omega) (impl_row hm d (n + 1) _ (by omega) (by simp; omega) ?_)
        unfold rowP at h
        rw [if_pos (show Upp b m n from ⟨hp, hb⟩), List.map_cons] at h
        rw [List.append_assoc]
        exact h
      · unfold rowP at h
        rw [if_neg (fun q : Upp b m n => hb q.2)] at h
        exact Ev_false (by omega) (impl_row hm d (n + 1) _ (by omega) (by omega) h)
    · unfold rowP at h
      rw [if_neg (fun q : Upp b m n => hp q.1)] at h
      exact Ev_false (by simpa using hp) (impl_row hm d (n + 1) _ (by omega) (by omega) h)
theorem impl_rows {b : Nat} (hb : b ≤ 5000) {ys : List (List Int)} : ∀ (d m : Nat) (acc : List (List Int)), m + d = 80 → 1 ≤ m → acc.length + 80 * d ≤ 90000 → sortF (acc ++ (enP b d m).map tp) = some ys → Ev (fun k => impl_RightUpTo.l0 k (b : Int) acc (m : Int)) (ys, true)
  | 0, m, acc, hd, h1, hl, h => by
    have hsm := wsq (m := m) (by omega)
    refine Ev_succ ?_
    simp only [impl_RightUpTo.l0]
    rw [hsm.1]
    obtain rfl : m = 80 := by omega
    refine Ev_false (by omega) ?_
    have h : sortF acc = some ys := by simpa [enP] using h
    rw [h]
    exact Ev_some
  | d + 1, m, acc, hd, h1, hl, h => by
    have hsm := wsq (m := m) (by omega)
    refine Ev_succ ?_
    simp only [impl_RightUpTo.l0]
    rw [hsm.1]
    by_cases hc : m * m < b
    · refine Ev_true (by omega) (impl_row (by omega) (m - 1) 1 acc (by omega) (by omega) ?_)
      have h2 := rowP_len b m (m - 1) 1
      refine impl_rows hb d (m + 1) _ (by omega) (by omega) (by simp; omega) ?_
      unfold enP at h
      rw [if_pos hc, List.map_append] at h
      rw [List.append_assoc]
      exact h
    · refine Ev_false (by omega) ?_
      unfold enP at h
      rw [if_neg hc] at h
      have h : sortF acc = some ys := by simpa using h
      rw [h]
      exact Ev_some
/-! ### The reference's -/
theorem riBefore_eq {t u : List Int} (ht : t.length = 3) (hu : u.length = 3) : spec_riBefore.f t u = some (bef t u) := by
  unfold spec_riBefore.f bef
  rw [ht, hu, if_pos (by omega), if_pos (by omega)]
  by_cases h1 : rd t 2 < rd u 2
  · rw [if_pos h1, decide_eq_true (.inl h1)]
  · rw [if_neg h1]
    by_cases h2 : rd t 2 = rd u 2
    · rw [if_pos h2, if_pos (by omega), if_pos (by omega)]
      congr 1
      rw [decide_eq_decide]
      omega
    · rw [if_neg h2, decide_eq_false (by omega)]
theorem spec_ins {b : Nat} {m n : Nat} (hn : n ≤ 80) {t : List Int} {out : List (List Int)} (ht : t.length = 3) (ho : ∀ x ∈ out, x.length = 3) (hl : out.length ≤ 100000) {r : List (List Int)} : ∀ j : Nat, j ≤ out.length → Ev (fun k => spec_riUpTo.l1 k (b : Int) (out.take (kpos t out j) ++ [t] ++ out.drop (kpos t out j)) (m : Int) ((n + 1 : Nat) : Int)) r → Ev (fun k => spec_riUpTo.l2 k (b : Int) out (m : Int) (n : Int) t (j : Int)) r := by
  intro j
  induction j with
  | zero =>
    intro hj h
    refine Ev_succ ?_
    simp only [spec_riUpTo.l2, Option.bind_some, List.nil_append, List.length_nil, Int.toNat_natCast]
    rw [wnext n (by omega)]
    refine Ev_false (by omega) (Ev_true (by omega) (Ev_true (by omega) (Ev_true (by simp) (Ev_true (by simp) (Ev_true (by simp; omega) ?_)))))
    exact h
  | succ j ih =>
    intro hj h
    have hj' : j < out.length := by omega
    have e1 : rd_L2 out (j : Int) = out[j] := by simp [rd_L2, List.getD_eq_getElem?_getD, List.getElem?_eq_getElem hj']
    have e2 : out.getD j [] = out[j] := by simp [List.getD_eq_getElem?_getD, List.getElem?_eq_getElem hj']
    have e3 := riBefore_eq ht (ho _ (List.getElem_mem hj'))
    refine Ev_succ ?_
    simp only [spec_riUpTo.l2]
    rw [show wrap64 (((j + 1 : Nat) : Int) - 1) = (j : Int) by rw [w64 (by omega) (by omega)]; omega, e1, e3, wnext n (by omega)]
    simp only [Option.bind_some, List.nil_append, List.length_nil, Int.toNat_natCast]
    refine Ev_true (by omega) (Ev_true (by omega) (Ev_true (by omega) ?_))
    unfold kpos at h
    rw [e2] at h
    by_cases hc : bef t out[j] = true
    · rw [if_pos hc] at h
      exact Ev_true hc (ih (by omega) h)
    · rw [if_neg hc] at h
      refine Ev_false hc (Ev_true (by omega) (Ev_true (by omega) (Ev_true (by simp; omega) (Ev_true (by simp; omega) (Ev_true (by simp; omega) ?_)))))
      exact h
theorem insT_three {t : List Int} {out : List (List Int)} (ht : t.length = 3) (ho : ∀ x ∈ out, x.length = 3) : ∀ x ∈ insT t out, x.length = 3 := by
  intro x hx
  rcases List.mem_cons.1 ((insT_perm t out).subset hx) with rfl | hx
  · exact ht
  · exact ho x hx
theorem insT_length (t : List Int) (out : List (List Int)) : (insT t out).length = out.length + 1 := (insT_perm t out).length_eq
def insAll (out xs : List (List Int)) : List (List Int) := xs.foldl (fun o t => insT t o) out
theorem insAll_facts : ∀ (xs out : List (List Int)), (∀ x ∈ out, x.length = 3) → (∀ x ∈ xs, x.length = 3) → (∀ x ∈ insAll out xs, x.length = 3) ∧ (insAll out xs).length = out.length + xs.length
  | [], out, ho, _ => ⟨ho, rfl⟩
  | x :: xs, out, ho, hx => by
    obtain ⟨h1, h2⟩ := insAll_facts xs (insT x out) (insT_three (hx x (List.mem_cons_self ..)) ho) (fun y hy => hx y (List.mem_cons_of_mem _ hy))
    refine ⟨h1, ?_⟩
    have h2 : (insAll out (x :: xs)).length = (insT x out).length + xs.length := h2
    rw [h2, insT_length, List.length_cons]
    omega
theorem tp_three (xs : List (Nat × Nat)) : ∀ x ∈ xs.map tp, x.length = 3 := by
  intro x hx
  obtain ⟨p, _, rfl⟩ := List.mem_map.1 hx
  rfl
theorem spec_row {b : Nat} {m : Nat} (hm : m ≤ 80) {r : List (List Int)} : ∀ (d n : Nat) (out : List (List Int)), n + d = m → (∀ x ∈ out, x.length = 3) → out.length + d ≤ 100000 → Ev (fun k => spec_riUpTo.l0 k (b : Int) (insAll out ((rowP b m d n).map tp)) ((m + 1 : Nat) : Int)) r → Ev (fun k => spec_riUpTo.l1 k (b : Int) out (m : Int) (n : Int)) r
  | 0, n, out, hd, ho, hl, h => by
    refine Ev_succ ?_
    simp only [spec_riUpTo.l1]
    rw [wnext m (by omega)]
    exact Ev_false (by omega) h
  | d + 1, n, out, hd, ho, hl, h => by
    have hsm := wsq (m := m) (by omega)
    have hsn := wsq (m := n) (by omega)
    have hnext : (¬ Upp b m n) → Ev (fun k => spec_riUpTo.j2 k (b : Int) out (m : Int) (n : Int) true) r := by
      intro hu
      refine Ev_succ ?_
      simp only [spec_riUpTo.j2]
      rw [wnext n (by omega)]
      unfold rowP at h
      rw [if_neg hu] at h
      exact Ev_true trivial (spec_row hm d (n + 1) _ (by omega) ho (by omega) h)
    refine Ev_succ ?_
    simp only [spec_riUpTo.l1]
    rw [hsm.1, hsn.1, w64 (x := ((m * m : Nat) : Int) + ((n * n : Nat) : Int)) (by omega) (by omega)]
    refine Ev_true (by omega) (Ev.bind (riPair_ev (by omega) (by omega)) ?_)
    by_cases hp : PairN m n
    · refine Ev_true (decide_eq_true (⟨hp, by omega⟩ : OkP m n)) ?_
      by_cases hb : m * m + n * n ≤ b
      · rw [decide_eq_false (by omega)]
        refine Ev_succ ?_
        simp only [spec_riUpTo.j2]
        rw [riOf_eq (by omega) (by omega)]
        simp only [Option.bind_some]
        refine Ev_false (by simp) (spec_ins (by omega) rfl ho (by omega) out.length (Nat.le_refl _) ?_)
        unfold rowP at h
        rw [if_pos (show Upp b m n from ⟨hp, hb⟩), List.map_cons] at h
        exact spec_row hm d (n + 1) (insT (trip m n) out) (by omega) (insT_three rfl ho) (by rw [insT_length]; omega) h
      · rw [decide_eq_true (by omega)]
        exact hnext (fun q => hb q.2)
    · exact Ev_false (by simpa using fun q : OkP m n => hp q.1) (hnext (fun q => hp q.1))
theorem spec_rows {b : Nat} (hb : b ≤ 5000) : ∀ (d m : Nat) (out : List (List Int)), m + d = 80 → 1 ≤ m → (∀ x ∈ out, x.length = 3) → out.length + 80 * d ≤ 90000 → Ev (fun k => spec_riUpTo.l0 k (b : Int) out (m : Int)) (insAll out ((enP b d m).map tp))
  | 0, m, out, hd, h1, ho, hl => by
    have hsm := wsq (m := m) (by omega)
    refine Ev_succ ?_
    simp only [spec_riUpTo.l0]
    rw [hsm.1]
    obtain rfl : m = 80 := by omega
    exact Ev_false (by omega) Ev_some
  | d + 1, m, out, hd, h1, ho, hl => by
    have hsm := wsq (m := m) (by omega)
    refine Ev_succ ?_
    simp only [spec_riUpTo.l0]
    rw [hsm.1]
    unfold enP
    by_cases hc : m * m < b
    · rw [if_pos hc, List.map_append]
      refine Ev_true (by omega) (spec_row (by omega) (m - 1) 1 out (by omega) ho (by omega) ?_)
      have h2 := rowP_len b m (m - 1) 1
      have h3 := insAll_facts ((rowP b m (m - 1) 1).map tp) out ho (tp_three _)
      rw [List.length_map] at h3
      have h4 := spec_rows hb d (m + 1) (insAll out ((rowP b m (m - 1) 1).map tp)) (by omega) (by omega) h3.1 (by omega)
      unfold insAll at h4 ⊢
      rw [List.foldl_append]
      exact h4
    · rw [if_neg hc]
      exact Ev_false (by omega) Ev_some
/-! ### Both -/
def upA (b : Int) : List (List Int) × Bool := if 0 ≤ b ∧ b ≤ 5000 then (upL b.toNat, true) else ([], false)
theorem upTo_impl (b : Int) : Ev (fun k => impl_RightUpTo.f k b) (upA b) := by
  unfold impl_RightUpTo.f upA
  rw [within_eq]
  simp only [Option.bind_some]
  by_cases h : 0 ≤ b ∧ b ≤ 5000
  · obtain ⟨n, rfl⟩ := Int.eq_ofNat_of_zero_le h.1
    rw [if_pos h]
    exact Ev_true (decide_eq_true h) (impl_rows (by omega) 78 2 [] rfl (by omega) (by simp) (upL_sort n))
  · rw [if_neg h]
    exact Ev_false (by simpa using h) Ev_some
theorem upTo_spec (b : Int) : Ev (fun k => spec_RightUpTo.f k b) (upA b) := by
  unfold spec_RightUpTo.f upA
  rw [in_eq]
  simp only [Option.bind_some]
  by_cases h : 0 ≤ b ∧ b ≤ 5000
  · obtain ⟨n, rfl⟩ := Int.eq_ofNat_of_zero_le h.1
    rw [if_pos h]
    refine Ev_true (decide_eq_true h) (Ev.bind (f := fun _ (t : List (List Int)) => some (t, true)) ?_ Ev_some)
    exact spec_rows (by omega) 78 2 [] rfl (by omega) (by simp) (by simp)
  · rw [if_neg h]
    exact Ev_false (by simpa using h) Ev_some
theorem count_impl (b : Int) : Ev (fun k => impl_CountRight.f k b) (((upA b).1.length : Int), (upA b).2) := by
  unfold impl_CountRight.f
  exact Ev.bind (f := fun _ (q : List (List Int) × Bool) => some ((q.1.length : Int), q.2)) (upTo_impl b) Ev_some
/-! ### The triples of pairs that are drawn -/
def Ms : List Int := [-1, 0, 1, 31622, 31623, 31624, 4611686018427387904] ++ (List.range 60).map (fun i : Nat => (i : Int) + 2)
def Ns : List Int := [-1, 0, 4611686018427387904] ++ (List.range 61).map (fun i : Nat => (i : Int) + 1)
def ofPair (m n : Int) : List Int × Bool := if 0 ≤ m ∧ 0 ≤ n ∧ OkP m.toNat n.toNat then (trip m.toNat n.toNat, true) else ([], false)
theorem ofPair_all : ∀ m ∈ Ms, ∀ n ∈ Ns, impl_RightOfPair.f 100 m n = some (ofPair m n) ∧ spec_RightOfPair.f 100 m n = some (ofPair m n) := by decide +kernel
theorem ofPair_impl {m n : Int} (hm : m ∈ Ms) (hn : n ∈ Ns) : Ev (fun k => impl_RightOfPair.f k m n) (ofPair m n) := Ev.of (fun j => impl_RightOfPair.mono _ _ j) (ofPair_all m hm n hn).1
theorem ofPair_spec {m n : Int} (hm : m ∈ Ms) (hn : n ∈ Ns) : Ev (fun k => spec_RightOfPair.f k m n) (ofPair m n) := Ev.of (fun j => spec_RightOfPair.mono _ _ j) (ofPair_all m hm n hn).2
theorem mem_Ms {a : Int} (h0 : 2 ≤ a) (h1 : a ≤ 61) : a ∈ Ms := List.mem_append.2 (.inr (List.mem_map.2 ⟨(a - 2).toNat, List.mem_range.2 (by omega), by omega⟩))
theorem mem_Ns {a : Int} (h0 : 1 ≤ a) (h1 : a ≤ 61) : a ∈ Ns := List.mem_append.2 (.inr (List.mem_map.2 ⟨(a - 1).toNat, List.mem_range.2 (by omega), by omega⟩))
theorem ofPair_good {m n : Nat} (h : OkP m n) : Ev (fun k => impl_RightOfPair.f k (m : Int) (n : Int)) (trip m n, true) := by
  have hs := h.small
  have hl := h.1.lt
  unfold impl_RightOfPair.f
  refine Ev.bind (isPair_ev (by omega) (by omega)) (Ev_true (decide_eq_true h.1) ?_)
  rw [right_eq (by omega), show rightP m n = (trip m n, true) from if_pos h.2]
  exact Ev_some
end Go.Proofs.Ytnfbkakblnppaaa.Q

/- Quads, of both programs: what a quad is, its swaps, its divisor. -/
import Derived.Test.YtnaginnhccldhaaBx1
import Derived.Test.YtnaginnhccldhaaBx2
import Derived.Test.YtnaginnhccldhaaBx3
import Derived.Test.YtnaginnhccldhaaBQEv
import Derived.Test.YtnaginnhccldhaaBQQuadZ
namespace Go.Proofs.Ytnaginnhccldhaa.Q
open Go.RowKit Go.Proofs.Ytnaginnhccldhaa.P Go.Proofs.YtnaginnhccldhaaW.PrintWords Go.Proofs.YtnaginnhccldhaaW.PrintLast
theorem within_eq (a lo hi : Int) : impl_within.f a lo hi = some (decide (lo ≤ a ∧ a ≤ hi)) := by
  unfold impl_within.f
  by_cases h : lo ≤ a
  · rw [if_pos h]; simp [h]
  · rw [if_neg h]; simp [h]
theorem in_eq (a lo hi : Int) : spec_l1In.f a lo hi = some (decide (lo ≤ a ∧ a ≤ hi)) := by
  unfold spec_l1In.f
  by_cases h : lo ≤ a
  · rw [if_pos h]; simp [h]
  · rw [if_neg h]; simp [h]
def allB (lo hi : Int) (l : List Int) : Bool := l.all (fun x => decide (lo ≤ x ∧ x ≤ hi))
theorem allWithin_eq (l : List Int) (lo hi : Int) : impl_allWithin.f l lo hi = some (allB lo hi l) := by
  unfold impl_allWithin.f allB
  congr 1
  congr 1
  funext x
  simp [Go.Proofs.Ytnaginnhccldhaa.G.inB]
theorem rdn {l : List Int} {i : Nat} (h : i < l.length) : rd l (i : Int) = l[i] := by
  simp [rd, List.getD_eq_getElem?_getD, List.getElem?_eq_getElem h]
theorem l1All_l0 {l : List Int} (lo up : Int) (hn : l.length ≤ 1000000000000) : ∀ (d i : Nat), i + d = l.length → Ev (fun k => spec_l1All.l0 k lo up l (l.length : Int) (i : Int)) (allB lo up (l.drop i)) := by
  intro d
  induction d with
  | zero =>
    intro i hi
    refine Ev_succ ?_
    simp only [spec_l1All.l0]
    rw [List.drop_of_length_le (by omega)]
    exact Ev_false (by omega) Ev_some
  | succ d ih =>
    intro i hi
    have h1 : i < l.length := by omega
    refine Ev_succ ?_
    simp only [spec_l1All.l0]
    rw [rdn h1, in_eq, List.drop_eq_getElem_cons h1, w64 (x := (i : Int) + 1) (by omega) (by omega)]
    simp only [Option.bind_some]
    refine Ev_true (by omega) (Ev_true (by omega) (Ev_true (by omega) ?_))
    have ih := ih (i + 1) (by omega)
    unfold allB at ih ⊢
    rw [List.all_cons]
    by_cases hc : lo ≤ l[i] ∧ l[i] ≤ up
    · rw [decide_eq_true hc, Bool.true_and]
      exact Ev_true rfl ih
    · rw [decide_eq_false hc, Bool.false_and]
      exact Ev_false (by simp) Ev_some
theorem l1All_ev {l : List Int} (lo hi : Int) (hn : l.length ≤ 1000000000000) : Ev (fun k => spec_l1All.f k l lo hi) (allB lo hi l) := by
  unfold spec_l1All.f
  exact l1All_l0 lo hi hn l.length 0 (by omega)
/-! ### Loops over a list, as folds -/
theorem sum_l0 {L : List Int} (hn : L.length ≤ 1000000000000) : ∀ (d i : Nat) (x : Int), i + d = L.length → Ev (fun k => impl_sumOf.l0 k x L (L.length : Int) (i : Int)) ((L.drop i).foldl (fun s y => wrap64 (s + y)) x)
  | 0, i, x, hi => by
    refine Ev_succ ?_
    simp only [impl_sumOf.l0]
    rw [List.drop_of_length_le (by omega)]
    exact Ev_false (by omega) Ev_some
  | d + 1, i, x, hi => by
    have h1 : i < L.length := by omega
    refine Ev_succ ?_
    simp only [impl_sumOf.l0]
    rw [rdn h1, List.drop_eq_getElem_cons h1, w64 (x := (i : Int) + 1) (by omega) (by omega)]
    exact Ev_true (by omega) (Ev_true (by omega) (Ev_true (by omega) (sum_l0 hn d (i + 1) _ (by omega))))
theorem self_l0 {L : List Int} (hn : L.length ≤ 1000000000000) : ∀ (d i : Nat) (x : Int), i + d = L.length → Ev (fun k => impl_dot.l0 k L x L (L.length : Int) (i : Int)) ((L.drop i).foldl (fun s y => wrap64 (s + wrap64 (y * y))) x)
  | 0, i, x, hi => by
    refine Ev_succ ?_
    simp only [impl_dot.l0]
    rw [List.drop_of_length_le (by omega)]
    exact Ev_false (by omega) Ev_some
  | d + 1, i, x, hi => by
    have h1 : i < L.length := by omega
    refine Ev_succ ?_
    simp only [impl_dot.l0]
    rw [rdn h1, List.drop_eq_getElem_cons h1, w64 (x := (i : Int) + 1) (by omega) (by omega)]
    exact Ev_true (by omega) (Ev_true (by omega) (Ev_true (by omega) (Ev_true (by omega) (self_l0 hn d (i + 1) _ (by omega)))))
theorem good_l0 {L : List Int} (hn : L.length ≤ 1000000000000) {s q : Int} {r : Bool} : ∀ (d i : Nat) (x y : Int), i + d = L.length → (L.drop i).foldl (fun s y => wrap64 (s + y)) x = s → (L.drop i).foldl (fun s y => wrap64 (s + wrap64 (y * y))) y = q →
    (if s > 0 then (wrap64 (2 * q) == wrap64 (s * s)) else false) = r → Ev (fun k => spec_apGood.l0 k x y L (L.length : Int) (i : Int)) r
  | 0, i, x, y, hi, h1, h2, h3 => by
    refine Ev_succ ?_
    simp only [spec_apGood.l0]
    rw [List.drop_of_length_le (by omega)] at h1 h2
    simp only [List.foldl_nil] at h1 h2
    subst h1
    subst h2
    refine Ev_false (by omega) ?_
    by_cases h : x > 0
    · rw [if_pos h] at h3
      rw [← h3]
      exact Ev_true h Ev_some
    · rw [if_neg h] at h3
      rw [← h3]
      exact Ev_false h Ev_some
  | d + 1, i, x, y, hi, h1, h2, h3 => by
    have h0 : i < L.length := by omega
    refine Ev_succ ?_
    simp only [spec_apGood.l0]
    rw [List.drop_eq_getElem_cons h0, List.foldl_cons] at h1 h2
    rw [rdn h0, w64 (x := (i : Int) + 1) (by omega) (by omega)]
    exact Ev_true (by omega) (Ev_true (by omega) (Ev_true (by omega) (good_l0 hn d (i + 1) _ _ (by omega) h1 h2 h3)))
/-! ### What a quad is -/
def InC (x : Int) : Prop := -100000 ≤ x ∧ x ≤ 100000
def Quad4 (q : List Int) : Prop := ∃ a b c d, q = [a, b, c, d] ∧ (InC a ∧ InC b ∧ InC c ∧ InC d) ∧ QuadZ a b c d
open Classical in
noncomputable def isQ (q : List Int) : Bool := decide (Quad4 q)
open Classical in
theorem isQ_true {q : List Int} (h : Quad4 q) : isQ q = true := decide_eq_true h
open Classical in
theorem isQ_false {q : List Int} (h : ¬ Quad4 q) : isQ q = false := decide_eq_false h
theorem isQ_iff {q : List Int} : isQ q = true ↔ Quad4 q := by
  constructor
  · intro h
    rcases Classical.em (Quad4 q) with h1 | h1
    · exact h1
    · rw [isQ_false h1] at h; cases h
  · exact isQ_true
theorem sq_bound {x : Int} (h : InC x) : 0 ≤ x * x ∧ x * x ≤ 10000000000 := by
  refine ⟨sq_pos x, ?_⟩
  have h1 := Int.mul_nonneg (show 0 ≤ 100000 - x by have := h.2; omega) (show 0 ≤ 100000 + x by have := h.1; omega)
  have e : (100000 - x) * (100000 + x) = 10000000000 - x * x := by grind
  omega
theorem fold_sum {a b c d : Int} (ha : InC a) (hb : InC b) (hc : InC c) (hd : InC d) : ([a, b, c, d] : List Int).foldl (fun s y => wrap64 (s + y)) 0 = a + b + c + d := by
  obtain ⟨a1, a2⟩ := ha
  obtain ⟨b1, b2⟩ := hb
  obtain ⟨c1, c2⟩ := hc
  obtain ⟨d1, d2⟩ := hd
  simp only [List.foldl_cons, List.foldl_nil]
  rw [w64 (x := 0 + a) (by omega) (by omega), w64 (x := 0 + a + b) (by omega) (by omega), w64 (x := 0 + a + b + c) (by omega) (by omega), w64 (x := 0 + a + b + c + d) (by omega) (by omega), Int.zero_add]
theorem fold_sq {a b c d : Int} (ha : InC a) (hb : InC b) (hc : InC c) (hd : InC d) : ([a, b, c, d] : List Int).foldl (fun s y => wrap64 (s + wrap64 (y * y))) 0 = a * a + b * b + c * c + d * d := by
  obtain ⟨a1, a2⟩ := sq_bound ha
  obtain ⟨b1, b2⟩ := sq_bound hb
  obtain ⟨c1, c2⟩ := sq_bound hc
  obtain ⟨d1, d2⟩ := sq_bound hd
  simp only [List.foldl_cons, List.foldl_nil]
  clear ha hb hc hd
  generalize a * a = A at *
  generalize b * b = B at *
  generalize c * c = C at *
  generalize d * d = D at *
  rw [w64 (x := A) (by omega) (by omega), w64 (x := B) (by omega) (by omega), w64 (x := C) (by omega) (by omega), w64 (x := D) (by omega) (by omega), w64 (x := 0 + A) (by omega) (by omega), w64 (x := 0 + A + B) (by omega) (by omega), w64 (x := 0 + A + B + C) (by omega) (by omega), w64 (x := 0 + A + B + C + D) (by omega) (by omega), Int.zero_add]
theorem told {a b c d : Int} (ha : InC a) (hb : InC b) (hc : InC c) (hd : InC d) : (if a + b + c + d > 0 then (wrap64 (2 * (a * a + b * b + c * c + d * d)) == wrap64 ((a + b + c + d) * (a + b + c + d))) else false) = isQ [a, b, c, d] := by
  obtain ⟨a1, a2⟩ := sq_bound ha
  obtain ⟨b1, b2⟩ := sq_bound hb
  obtain ⟨c1, c2⟩ := sq_bound hc
  obtain ⟨d1, d2⟩ := sq_bound hd
  have hs : 0 ≤ (a + b + c + d) * (a + b + c + d) ∧ (a + b + c + d) * (a + b + c + d) ≤ 160000000000 := by
    refine ⟨sq_pos _, ?_⟩
    have h1 := Int.mul_nonneg (show 0 ≤ 400000 - (a + b + c + d) by have := ha.2; have := hb.2; have := hc.2; have := hd.2; omega) (show 0 ≤ 400000 + (a + b + c + d) by have := ha.1; have := hb.1; have := hc.1; have := hd.1; omega)
    have e : (400000 - (a + b + c + d)) * (400000 + (a + b + c + d)) = 160000000000 - (a + b + c + d) * (a + b + c + d) := by grind
    omega
  have e1 : wrap64 (2 * (a * a + b * b + c * c + d * d)) = 2 * (a * a + b * b + c * c + d * d) := w64 (by omega) (by omega)
  have e2 : wrap64 ((a + b + c + d) * (a + b + c + d)) = (a + b + c + d) * (a + b + c + d) := w64 (by omega) (by omega)
  rw [e1, e2]
  by_cases h0 : a + b + c + d > 0
  · rw [if_pos h0]
    by_cases h1 : 2 * (a * a + b * b + c * c + d * d) = (a + b + c + d) * (a + b + c + d)
    · rw [isQ_true ⟨a, b, c, d, rfl, ⟨ha, hb, hc, hd⟩, h1, h0⟩, h1, beq_self_eq_true]
    · rw [isQ_false, beq_eq_false_iff_ne.2 h1]
      rintro ⟨a', b', c', d', e, _, h2⟩
      simp only [List.cons.injEq, and_true] at e
      obtain ⟨rfl, rfl, rfl, rfl⟩ := e
      exact h1 h2.sq
  · rw [if_neg h0, isQ_false]
    rintro ⟨a', b', c', d', e, _, h2⟩
    simp only [List.cons.injEq, and_true] at e
    obtain ⟨rfl, rfl, rfl, rfl⟩ := e
    exact h0 h2.pos
theorem allB4 (a b c d : Int) : allB (-100000) 100000 [a, b, c, d] = true ↔ (InC a ∧ InC b ∧ InC c ∧ InC d) := by
  simp [allB, InC]
theorem quad_len {q : List Int} (h : Quad4 q) : q.length = 4 := by
  obtain ⟨_, _, _, _, rfl, _⟩ := h
  rfl
theorem sum_ev {a b c d : Int} (ha : InC a) (hb : InC b) (hc : InC c) (hd : InC d) : Ev (fun k => impl_sumOf.f k [a, b, c, d]) (a + b + c + d) := by
  unfold impl_sumOf.f
  have h := sum_l0 (L := [a, b, c, d]) (by simp) 4 0 0 rfl
  rw [List.drop_zero, fold_sum ha hb hc hd] at h
  exact h
theorem isQuad_ev (q : List Int) : Ev (fun k => impl_IsQuad.f k q) (isQ q) := by
  have hj : Ev (fun k => impl_IsQuad.j0 k q true) false := by
    refine Ev_succ ?_
    simp only [impl_IsQuad.j0]
    exact Ev_true trivial Ev_some
  unfold impl_IsQuad.f
  match q, hj with
  | [], hj => rw [isQ_false (fun h => by have := quad_len h; simp at this)]; exact Ev_false (by simp) hj
  | [_], hj => rw [isQ_false (fun h => by have := quad_len h; simp at this)]; exact Ev_false (by simp) hj
  | [_, _], hj => rw [isQ_false (fun h => by have := quad_len h; simp at this)]; exact Ev_false (by simp) hj
  | [_, _, _], hj => rw [isQ_false (fun h => by have := quad_len h; simp at this)]; exact Ev_false (by simp) hj
  | _ :: _ :: _ :: _ :: _ :: _, hj => rw [isQ_false (fun h => by have := quad_len h; simp at this)]; exact Ev_false (by simp; omega) hj
  | [a, b, c, d], hj =>
    rw [allWithin_eq]
    simp only [Option.bind_some]
    refine Ev_true rfl ?_
    by_cases h : InC a ∧ InC b ∧ InC c ∧ InC d
    · obtain ⟨ha, hb, hc, hd⟩ := h
      rw [(allB4 a b c d).2 ⟨ha, hb, hc, hd⟩]
      refine Ev_succ ?_
      simp only [impl_IsQuad.j0]
      have h2 := self_l0 (L := [a, b, c, d]) (by simp) 4 0 0 rfl
      rw [List.drop_zero, fold_sq ha hb hc hd] at h2
      have ht := told ha hb hc hd
      refine Ev_false (by simp) (Ev.bind (sum_ev ha hb hc hd) ?_)
      by_cases h0 : a + b + c + d > 0
      · rw [if_pos h0] at ht
        rw [← ht]
        exact Ev_true h0 (Ev.bind (f := fun _ t => some (wrap64 (2 * t) == wrap64 ((a + b + c + d) * (a + b + c + d)))) h2 Ev_some)
      · rw [if_neg h0] at ht
        rw [← ht]
        exact Ev_false h0 Ev_some
    · have e : allB (-100000) 100000 [a, b, c, d] = false := Bool.eq_false_iff.2 (fun h1 => h ((allB4 a b c d).1 h1))
      rw [e, isQ_false]
      · exact hj
      · rintro ⟨a', b', c', d', e', h1, _⟩
        simp only [List.cons.injEq, and_true] at e'
        obtain ⟨rfl, rfl, rfl, rfl⟩ := e'
        exact h h1
theorem apGood_ev (q : List Int) : Ev (fun k => spec_apGood.f k q) (isQ q) := by
  have hj : Ev (fun k => spec_apGood.j0 k q true) false := by
    refine Ev_succ ?_
    simp only [spec_apGood.j0]
    exact Ev_true trivial Ev_some
  unfold spec_apGood.f
  match q, hj with
  | [], hj => rw [isQ_false (fun h => by have := quad_len h; simp at this)]; exact Ev_false (by simp) hj
  | [_], hj => rw [isQ_false (fun h => by have := quad_len h; simp at this)]; exact Ev_false (by simp) hj
  | [_, _], hj => rw [isQ_false (fun h => by have := quad_len h; simp at this)]; exact Ev_false (by simp) hj
  | [_, _, _], hj => rw [isQ_false (fun h => by have := quad_len h; simp at this)]; exact Ev_false (by simp) hj
  | _ :: _ :: _ :: _ :: _ :: _, hj => rw [isQ_false (fun h => by have := quad_len h; simp at this)]; exact Ev_false (by simp; omega) hj
  | [a, b, c, d], hj =>
    refine Ev_true rfl (Ev.bind (l1All_ev (-100000) 100000 (by simp)) ?_)
    by_cases h : InC a ∧ InC b ∧ InC c ∧ InC d
    · obtain ⟨ha, hb, hc, hd⟩ := h
      rw [(allB4 a b c d).2 ⟨ha, hb, hc, hd⟩]
      refine Ev_succ ?_
      simp only [spec_apGood.j0]
      exact Ev_false (by simp) (good_l0 (L := [a, b, c, d]) (by simp) 4 0 0 0 rfl (by rw [List.drop_zero]; exact fold_sum ha hb hc hd) (by rw [List.drop_zero]; exact fold_sq ha hb hc hd) (told ha hb hc hd))
    · have e : allB (-100000) 100000 [a, b, c, d] = false := Bool.eq_false_iff.2 (fun h1 => h ((allB4 a b c d).1 h1))
      rw [e, isQ_false]
      · exact hj
      · rintro ⟨a', b', c', d', e', h1, _⟩
        simp only [List.cons.injEq, and_true] at e'
        obtain ⟨rfl, rfl, rfl, rfl⟩ := e'
        exact h h1
end Go.Proofs.Ytnaginnhccldhaa.Q

/- The way down of a quad, as both programs tell it. -/
import Derived.Test.YtnaginnhccldhaaBx1
import Derived.Test.YtnaginnhccldhaaBx3
import Derived.Test.YtnaginnhccldhaaBx4
import Derived.Test.YtnaginnhccldhaaBx5
import Derived.Test.YtnaginnhccldhaaBx6
import Derived.Test.YtnaginnhccldhaaBx7
import Derived.Test.YtnaginnhccldhaaBx15
import Derived.Test.YtnaginnhccldhaaBx16
import Derived.Test.YtnaginnhccldhaaBQQuadP
namespace Go.Proofs.Ytnaginnhccldhaa.Q
open Go.RowKit Go.Proofs.Ytnaginnhccldhaa.P Go.Proofs.YtnaginnhccldhaaW.PrintWords Go.Proofs.YtnaginnhccldhaaW.PrintLast
theorem root_iff {q : List Int} (h : Quad4 q) : rootB q = true ↔ ∀ j : Nat, j < 4 → rd q (j : Int) ≤ rd (swapL q j) (j : Int) := by
  obtain ⟨a, b, c, d, rfl, _, _⟩ := h
  unfold rootB
  rw [decide_eq_true_eq]
  constructor
  · rintro ⟨h0, h1, h2, h3⟩ j hj
    rcases (show j = 0 ∨ j = 1 ∨ j = 2 ∨ j = 3 by omega) with rfl | rfl | rfl | rfl
    · exact h0
    · exact h1
    · exact h2
    · exact h3
  · intro h
    exact ⟨h 0 (by omega), h 1 (by omega), h 2 (by omega), h 3 (by omega)⟩
theorem isRoot_l0 {q : List Int} (h : Quad4 q) : ∀ (d i : Nat), i + d = 4 → (∀ j : Nat, j < i → rd q (j : Int) ≤ rd (swapL q j) (j : Int)) → Ev (fun k => impl_isRoot.l0 k q q 4 (i : Int)) (rootB q)
  | 0, i, hi, hp => by
    refine Ev_succ ?_
    simp only [impl_isRoot.l0]
    rw [(root_iff h).2 (fun j hj => hp j (by omega))]
    exact Ev_false (by omega) Ev_some
  | d + 1, i, hi, hp => by
    have hl := quad_len h
    have hs := swap_len h i
    refine Ev_succ ?_
    simp only [impl_isRoot.l0]
    refine Ev_true (by omega) (Ev_true (by omega) (Ev_true (by omega) (Ev.bind (swapped_ev h (show i < 4 by omega)) (Ev_true (by omega) ?_))))
    by_cases hc : rd (swapL q i) (i : Int) < rd q (i : Int)
    · have : rootB q = false := (less_best h (by omega) hc).2.1
      rw [this]
      exact Ev_true hc Ev_some
    · refine Ev_false hc ?_
      rw [w64 (x := (i : Int) + 1) (by omega) (by omega)]
      refine isRoot_l0 h d (i + 1) (by omega) (fun j hj => ?_)
      by_cases e : j = i
      · subst e; omega
      · exact hp j (by omega)
theorem isRoot_ev {q : List Int} (h : Quad4 q) : Ev (fun k => impl_isRoot.f k q) (rootB q) := by
  unfold impl_isRoot.f
  rw [quad_len h]
  exact isRoot_l0 h 4 0 rfl (fun j hj => by omega)
theorem mx_eq (x y : Int) : mx x y = if x < y then y else x := rfl
theorem max_ev (a b c d : Int) : Ev (fun k => slices_Max_int_int.f k [a, b, c, d]) (mx (mx (mx a b) c) d) := by
  unfold slices_Max_int_int.f
  refine Ev_false (by simp) (Ev_true (by simp) ?_)
  have s1 : wrap64 (1 + 1) = 2 := w64 (by omega) (by omega)
  have s2 : wrap64 (2 + 1) = 3 := w64 (by omega) (by omega)
  have s3 : wrap64 (3 + 1) = 4 := w64 (by omega) (by omega)
  refine Ev_succ ?_
  simp only [slices_Max_int_int.l0]
  refine Ev_true (by simp) (Ev_true (by omega) ?_)
  rw [s1]
  refine Ev_succ ?_
  simp only [slices_Max_int_int.l0]
  refine Ev_true (by simp) (Ev_true (by omega) ?_)
  rw [s2]
  refine Ev_succ ?_
  simp only [slices_Max_int_int.l0]
  refine Ev_true (by simp) (Ev_true (by omega) ?_)
  rw [s3]
  refine Ev_succ ?_
  simp only [slices_Max_int_int.l0]
  exact Ev_false (by simp) Ev_some
theorem index_ev (a b c d m : Int) (hm : m = a ∨ m = b ∨ m = c ∨ m = d) : Ev (fun k => slices_Index_int_int.f k [a, b, c, d] m) (if m = a then 0 else if m = b then 1 else if m = c then 2 else 3) := by
  unfold slices_Index_int_int.f
  have s0 : wrap64 (0 + 1) = 1 := w64 (by omega) (by omega)
  have s1 : wrap64 (1 + 1) = 2 := w64 (by omega) (by omega)
  have s2 : wrap64 (2 + 1) = 3 := w64 (by omega) (by omega)
  refine Ev_succ ?_
  simp only [slices_Index_int_int.l0]
  refine Ev_true (by simp) (Ev_true (by omega) (Ev_true (by simp) ?_))
  rw [s0]
  by_cases h0 : m = a
  · rw [if_pos h0]
    exact Ev_true h0 Ev_some
  · rw [if_neg h0]
    refine Ev_false h0 (Ev_succ ?_)
    simp only [slices_Index_int_int.l0]
    refine Ev_true (by simp) (Ev_true (by omega) (Ev_true (by simp) ?_))
    rw [s1]
    by_cases h1 : m = b
    · rw [if_pos h1]
      exact Ev_true h1 Ev_some
    · rw [if_neg h1]
      refine Ev_false h1 (Ev_succ ?_)
      simp only [slices_Index_int_int.l0]
      refine Ev_true (by simp) (Ev_true (by omega) (Ev_true (by simp) ?_))
      rw [s2]
      by_cases h2 : m = c
      · rw [if_pos h2]
        exact Ev_true h2 Ev_some
      · rw [if_neg h2]
        refine Ev_false h2 (Ev_succ ?_)
        simp only [slices_Index_int_int.l0]
        exact Ev_true (by simp) (Ev_true (by omega) (Ev_true (by simp) (Ev_true (show m = d by omega) Ev_some)))
theorem greatest_ev {q : List Int} (h : Quad4 q) : Ev (fun k => impl_greatest.f k q) ((best q : Nat) : Int) := by
  obtain ⟨a, b, c, d, rfl, _, _⟩ := h
  unfold impl_greatest.f
  have hm : mx (mx (mx a b) c) d = a ∨ mx (mx (mx a b) c) d = b ∨ mx (mx (mx a b) c) d = c ∨ mx (mx (mx a b) c) d = d := by
    simp only [mx_eq]; repeat' split
    all_goals omega
  have hi := index_ev a b c d _ hm
  have e : (if mx (mx (mx a b) c) d = a then (0 : Int) else if mx (mx (mx a b) c) d = b then 1 else if mx (mx (mx a b) c) d = c then 2 else 3) = ((best [a, b, c, d] : Nat) : Int) := by
    show _ = (((if b ≤ a ∧ c ≤ a ∧ d ≤ a then 0 else if c ≤ b ∧ d ≤ b then 1 else if d ≤ c then 2 else 3 : Nat)) : Int)
    have g : ∀ m : Int, a ≤ m → b ≤ m → c ≤ m → d ≤ m → (m = a ∨ m = b ∨ m = c ∨ m = d) → (if m = a then (0 : Int) else if m = b then 1 else if m = c then 2 else 3) = (((if b ≤ a ∧ c ≤ a ∧ d ≤ a then 0 else if c ≤ b ∧ d ≤ b then 1 else if d ≤ c then 2 else 3 : Nat)) : Int) := by
      intro m h0 h1 h2 h3 hm
      repeat' split
      all_goals omega
    refine g _ ?_ ?_ ?_ ?_ hm <;>
    · simp only [mx_eq]; repeat' split
      all_goals omega
  rw [e] at hi
  exact Ev.bind (max_ev a b c d) (Ev.bind hi Ev_some)
/-! ### The program's way -/
def downR (P : List (List Int)) (Wd : List Int) (tl : List (List Int)) (w : List Int) : List (List Int) × List Int × Bool := if (P ++ tl).length > 200 then ([], [], false) else (P ++ tl, Wd ++ w, true)
theorem down_l0 : ∀ (d : Nat) (q : List Int) (P : List (List Int)) (Wd : List Int), Quad4 q → P.length + d = 200 → Wd.length ≤ P.length → Ev (fun k => impl_down.l0 k q P Wd) (downR P Wd (pathQ (d + 1) q).tail (wordQ (d + 1) q))
  | d, q, P, Wd, h, hP, hW => by
    refine Ev_succ ?_
    simp only [impl_down.l0]
    refine Ev.bind (isRoot_ev h) ?_
    by_cases hr : rootB q = true
    · have e1 : pathQ (d + 1) q = [q] := by rw [pathQ, if_pos hr]
      have e2 : wordQ (d + 1) q = [] := by rw [wordQ, if_pos hr]
      have e3 : downR P Wd (pathQ (d + 1) q).tail (wordQ (d + 1) q) = (P, Wd, true) := by
        unfold downR
        rw [e1, e2, List.tail_cons, List.append_nil, List.append_nil, if_neg (by omega)]
      rw [e3]
      exact Ev_true hr Ev_some
    · have hr' : rootB q = false := by simpa using hr
      have hd := down_quad h hr'
      have e1 : (pathQ (d + 1) q).tail = pathQ d (downQ q) := by rw [pathQ, if_neg hr]; rfl
      have e2 : wordQ (d + 1) q = ((best q : Nat) : Int) :: wordQ d (downQ q) := by rw [wordQ, if_neg hr]
      refine Ev_false hr (Ev.bind (greatest_ev h) (Ev.bind (swapped_ev h (best_lt q)) ?_))
      have hl := quad_len hd.1
      rw [show swapL q (best q) = downQ q from rfl]
      unfold slices_Clone_int_int.f
      rw [if_pos (by omega)]
      simp only [Option.bind_some]
      refine Ev_true (by omega) (Ev_true (by omega) ?_)
      obtain ⟨t, ht⟩ := path_head d (downQ q)
      cases d with
      | zero =>
        have e3 : downR P Wd (pathQ (0 + 1) q).tail (wordQ (0 + 1) q) = ([], [], false) := by
          unfold downR
          rw [e1, if_pos (by rw [List.length_append, ht, List.length_cons]; omega)]
        rw [e3]
        exact Ev_true (by rw [List.length_append, List.length_singleton]; omega) Ev_some
      | succ d =>
        refine Ev_false (by rw [List.length_append, List.length_singleton]; omega) ?_
        have ih := down_l0 d (downQ q) (P ++ [downQ q]) (Wd ++ [((best q : Nat) : Int)]) hd.1 (by rw [List.length_append, List.length_singleton]; omega) (by rw [List.length_append, List.length_singleton, List.length_append, List.length_singleton]; omega)
        have e3 : downR (P ++ [downQ q]) (Wd ++ [((best q : Nat) : Int)]) (pathQ (d + 1) (downQ q)).tail (wordQ (d + 1) (downQ q)) = downR P Wd (pathQ (d + 1 + 1) q).tail (wordQ (d + 1 + 1) q) := by
          unfold downR
          rw [e1, e2, ht, List.tail_cons, List.append_assoc, List.append_assoc, List.singleton_append, List.singleton_append]
        rw [e3] at ih
        exact ih
theorem down_ev {q : List Int} (h : Quad4 q) : Ev (fun k => impl_down.f k q) (if (pathQ 200 q).length > 200 then ([], [], false) else (pathQ 200 q, wordQ 200 q, true)) := by
  unfold impl_down.f slices_Clone_int_int.f
  have hl := quad_len h
  rw [if_pos (by omega)]
  simp only [Option.bind_some]
  have := down_l0 199 q [q] [] h rfl (by simp)
  unfold downR at this
  obtain ⟨t, ht⟩ := path_head 200 q
  rw [show (199 + 1 : Nat) = 200 from rfl, ht, List.tail_cons, List.singleton_append, List.nil_append, ← ht] at this
  exact this
end Go.Proofs.Ytnaginnhccldhaa.Q

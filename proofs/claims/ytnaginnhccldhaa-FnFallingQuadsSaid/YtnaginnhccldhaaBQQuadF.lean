/- Words of swaps, of both programs. -/
import Derived.Test.YtnaginnhccldhaaBx1
import Derived.Test.YtnaginnhccldhaaBx2
import Derived.Test.YtnaginnhccldhaaBx3
import Derived.Test.YtnaginnhccldhaaBQQuadS
namespace Go.Proofs.Ytnaginnhccldhaa.Q
open Go.RowKit Go.Proofs.Ytnaginnhccldhaa.P Go.Proofs.YtnaginnhccldhaaW.PrintWords Go.Proofs.YtnaginnhccldhaaW.PrintLast
theorem swap_len {q : List Int} (h : Quad4 q) (i : Nat) : (swapL q i).length = 4 := by
  obtain ⟨a, b, c, d, rfl, _, hz⟩ := h
  obtain ⟨a', b', c', d', e, _⟩ := swap_z hz i
  rw [e]
  rfl
instance (x : Int) : Decidable (InC x) := inferInstanceAs (Decidable (_ ∧ _))
/-- A swap's new number, and all the others. -/
theorem swap_in {q : List Int} (h : Quad4 q) {i : Nat} (hi : i < 4) : isQ (swapL q i) = decide (InC (rd (swapL q i) (i : Int))) ∧ scl (swapL q i) = scl q := by
  obtain ⟨a, b, c, d, rfl, ⟨ha, hb, hc, hd⟩, hz⟩ := h
  obtain ⟨a', b', c', d', e, hz', hg⟩ := swap_z hz i
  refine ⟨?_, by rw [e, scl4, scl4, hg]⟩
  have other : ∀ {x y z w : Int} {P : Prop} [Decidable P], swapL [a, b, c, d] i = [x, y, z, w] → (P ↔ InC x ∧ InC y ∧ InC z ∧ InC w) → isQ (swapL [a, b, c, d] i) = decide P := by
    intro x y z w P _ e1 hP
    by_cases hp : P
    · rw [decide_eq_true hp]
      refine isQ_true ?_
      rw [e] at e1 ⊢
      simp only [List.cons.injEq, and_true] at e1
      obtain ⟨rfl, rfl, rfl, rfl⟩ := e1
      exact ⟨_, _, _, _, rfl, hP.1 hp, hz'⟩
    · rw [decide_eq_false hp]
      refine isQ_false ?_
      rintro ⟨x', y', z', w', e2, h2, _⟩
      rw [e1] at e2
      simp only [List.cons.injEq, and_true] at e2
      obtain ⟨rfl, rfl, rfl, rfl⟩ := e2
      exact hp (hP.2 h2)
  rcases (show i = 0 ∨ i = 1 ∨ i = 2 ∨ i = 3 by omega) with rfl | rfl | rfl | rfl
  · exact other rfl ⟨fun h => ⟨h, hb, hc, hd⟩, fun h => h.1⟩
  · exact other rfl ⟨fun h => ⟨ha, h, hc, hd⟩, fun h => h.2.1⟩
  · exact other rfl ⟨fun h => ⟨ha, hb, h, hd⟩, fun h => h.2.2.1⟩
  · exact other rfl ⟨fun h => ⟨ha, hb, hc, h⟩, fun h => h.2.2.2⟩
def swapR (q : List Int) (i : Nat) : List Int × Bool := if InC (rd (swapL q i) (i : Int)) then (swapL q i, true) else ([], false)
theorem swap_ev {q : List Int} (h : Quad4 q) {i : Nat} (hi : i < 4) : Ev (fun k => impl_swap.f k q (i : Int)) (swapR q i) := by
  have hl := swap_len h i
  unfold impl_swap.f swapR
  refine Ev.bind (swapped_ev h hi) (Ev_true (by omega) (Ev_true (by omega) ?_))
  rw [within_eq]
  simp only [Option.bind_some]
  by_cases hc : InC (rd (swapL q i) (i : Int))
  · rw [if_pos hc]
    exact Ev_true (decide_eq_true hc) Ev_some
  · rw [if_neg hc]
    exact Ev_false (fun h_ => hc (of_decide_eq_true h_)) Ev_some
def follow (q : List Int) : List Int → List Int × Bool
  | [] => (q, true)
  | x :: w => if InC (rd (swapL q x.toNat) ((x.toNat : Nat) : Int)) then follow (swapL q x.toNat) w else ([], false)
theorem swap_quad {q : List Int} (h : Quad4 q) {i : Nat} (hi : i < 4) (hc : InC (rd (swapL q i) (i : Int))) : Quad4 (swapL q i) := by
  refine isQ_iff.1 ?_
  rw [(swap_in h hi).1]
  exact decide_eq_true hc
theorem follow_good : ∀ (w : List Int) (q : List Int), Quad4 q → (∀ x ∈ w, 0 ≤ x ∧ x ≤ 3) → (follow q w = ([], false) ∨ ∃ out, follow q w = (out, true) ∧ Quad4 out ∧ scl out = scl q)
  | [], q, h, _ => .inr ⟨q, rfl, h, rfl⟩
  | x :: w, q, h, hw => by
    have hx := hw x (List.mem_cons_self ..)
    unfold follow
    by_cases hc : InC (rd (swapL q x.toNat) ((x.toNat : Nat) : Int))
    · rw [if_pos hc]
      rcases follow_good w (swapL q x.toNat) (swap_quad h (by omega) hc) (fun y hy => hw y (List.mem_cons_of_mem _ hy)) with h1 | ⟨out, h1, h2, h3⟩
      · exact .inl h1
      · exact .inr ⟨out, h1, h2, by rw [h3, (swap_in h (by omega)).2]⟩
    · rw [if_neg hc]
      exact .inl rfl
theorem follow_impl {w : List Int} (hn : w.length ≤ 1000000000000) (hw : ∀ x ∈ w, 0 ≤ x ∧ x ≤ 3) : ∀ (d i : Nat) (q : List Int), Quad4 q → i + d = w.length → Ev (fun k => impl_FollowSwaps.l0 k q w (w.length : Int) (i : Int)) (follow q (w.drop i))
  | 0, i, q, h, hi => by
    refine Ev_succ ?_
    simp only [impl_FollowSwaps.l0]
    rw [List.drop_of_length_le (by omega)]
    exact Ev_false (by omega) Ev_some
  | d + 1, i, q, h, hi => by
    have h1 : i < w.length := by omega
    have hx := hw _ (List.getElem_mem h1)
    refine Ev_succ ?_
    simp only [impl_FollowSwaps.l0]
    rw [rdn h1, List.drop_eq_getElem_cons h1, w64 (x := (i : Int) + 1) (by omega) (by omega)]
    unfold follow
    have hs := swap_ev h (i := w[i].toNat) (by omega)
    rw [show ((w[i].toNat : Nat) : Int) = w[i] by omega] at hs ⊢
    refine Ev_true (by omega) (Ev_true (by omega) (Ev_true (by omega) (Ev.bind hs ?_)))
    unfold swapR
    rw [show ((w[i].toNat : Nat) : Int) = w[i] by omega]
    by_cases hc : InC (rd (swapL q w[i].toNat) w[i])
    · rw [if_pos hc, if_pos hc]
      have hc' : InC (rd (swapL q w[i].toNat) ((w[i].toNat : Nat) : Int)) := by rw [show ((w[i].toNat : Nat) : Int) = w[i] by omega]; exact hc
      exact Ev_true rfl (follow_impl hn hw d (i + 1) _ (swap_quad h (by omega) hc') (by omega))
    · rw [if_neg hc, if_neg hc]
      exact Ev_false (by simp) Ev_some
/-! ### As both programs answer -/
open Classical in
noncomputable def followR (q w : List Int) : List Int × Bool := if Quad4 q ∧ w.length ≤ 200 ∧ (∀ x ∈ w, 0 ≤ x ∧ x ≤ 3) then follow q w else ([], false)
theorem allB_iff {lo hi : Int} {w : List Int} : allB lo hi w = true ↔ ∀ x ∈ w, lo ≤ x ∧ x ≤ hi := by simp [allB]
theorem followSwaps_impl (q w : List Int) (hn : q.length ≤ 1000000) : Ev (fun k => impl_FollowSwaps.f k q w) (followR q w) := by
  have hj : Ev (fun k => impl_FollowSwaps.j0 k q w true) ([], false) := by
    refine Ev_succ ?_
    simp only [impl_FollowSwaps.j0]
    exact Ev_true trivial Ev_some
  have hq := isQuad_ev q
  unfold impl_FollowSwaps.f followR
  refine Ev.bind hq ?_
  by_cases h : Quad4 q
  · refine Ev_true (isQ_true h) ?_
    by_cases hl : w.length ≤ 200
    · refine Ev_false (by omega) ?_
      rw [allWithin_eq]
      simp only [Option.bind_some]
      by_cases hw : ∀ x ∈ w, 0 ≤ x ∧ x ≤ 3
      · rw [if_pos ⟨h, hl, hw⟩, allB_iff.2 hw]
        refine Ev_succ ?_
        simp only [impl_FollowSwaps.j0]
        unfold slices_Clone_int_int.f
        rw [if_pos (by omega)]
        simp only [Option.bind_some]
        exact Ev_false (by simp) (follow_impl (by omega) hw w.length 0 q h (by omega))
      · rw [if_neg (fun q_ => hw q_.2.2), Bool.eq_false_iff.2 (fun q_ => hw (allB_iff.1 q_))]
        exact hj
    · rw [if_neg (fun q_ => hl q_.2.1)]
      exact Ev_true (by omega) hj
  · rw [if_neg (fun q_ => h q_.1)]
    exact Ev_false (by rw [isQ_false h]; simp) hj
/-- A swap at an index that may be any. -/
theorem swapAt_ev {q : List Int} (h : Quad4 q) {i : Nat} (hi : i < 4) : Ev (fun k => impl_SwapAt.f k q (i : Int)) (swapR q i) := by
  have hq := isQuad_ev q
  rw [isQ_true h] at hq
  unfold impl_SwapAt.f impl_isIndex.f
  rw [within_eq]
  simp only [Option.bind_some]
  exact Ev.bind hq (Ev_true rfl (Ev_true (decide_eq_true (by omega)) (Ev.bind (f := fun _ (t : List Int × Bool) => some (t.1, t.2)) (swap_ev h hi) Ev_some)))
end Go.Proofs.Ytnaginnhccldhaa.Q

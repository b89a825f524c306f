/- The draws of quads. -/
import Derived.Test.YtnaginnhccldhaaBx4
import Derived.Test.YtnaginnhccldhaaBQQuadS
import Derived.Test.YtnaginnhccldhaaBQDraw
namespace Go.Proofs.Ytnaginnhccldhaa.Q
open Go.RowKit Go.Proofs.Ytnaginnhccldhaa.P Go.Proofs.YtnaginnhccldhaaW.PrintWords Go.Proofs.YtnaginnhccldhaaW.PrintLast
/-- It comes to something of which P holds. -/
def EvP {α : Type} (P : α → Prop) (g : Nat → Option α) : Prop := ∃ r, Ev g r ∧ P r
theorem EvP_succ {α : Type} {P : α → Prop} {g : Nat → Option α} (h : EvP P (fun k => g (k + 1))) : EvP P g := h.imp fun _ h => ⟨Ev_succ h.1, h.2⟩
theorem EvP_some {α : Type} {P : α → Prop} {a : α} (h : P a) : EvP P (fun _ => some a) := ⟨a, Ev_some, h⟩
theorem EvP_true {α : Type} {P : α → Prop} {c : Prop} [Decidable c] {f g : Nat → Option α} (hc : c) (h : EvP P f) : EvP P (fun k => if c then f k else g k) := h.imp fun _ h => ⟨Ev_true hc h.1, h.2⟩
theorem EvP_false {α : Type} {P : α → Prop} {c : Prop} [Decidable c] {f g : Nat → Option α} (hc : ¬ c) (h : EvP P g) : EvP P (fun k => if c then f k else g k) := h.imp fun _ h => ⟨Ev_false hc h.1, h.2⟩
theorem EvP_ite {α : Type} {P : α → Prop} {c : Prop} [Decidable c] {f g : Nat → Option α} (h1 : c → EvP P f) (h2 : ¬ c → EvP P g) : EvP P (fun k => if c then f k else g k) := by
  by_cases hc : c
  · exact EvP_true hc (h1 hc)
  · exact EvP_false hc (h2 hc)
theorem EvP_bind {α β : Type} {P : β → Prop} {g : Nat → Option α} {f : Nat → α → Option β} {a : α} (h : Ev g a) (k : EvP P (fun n => f n a)) : EvP P (fun n => (g n).bind (f n)) := k.imp fun _ k => ⟨Ev.bind h k.1, k.2⟩
def Short5 (r : List Int × Int × Int) : Prop := r.1.length ≤ 5 ∧ 0 ≤ r.2.1 ∧ r.2.1 ≤ 80000
theorem Short5.mk {L : List Int} {t s : Int} (h1 : L.length ≤ 5) (h2 : 0 ≤ t) (h3 : t ≤ 80000) : Short5 (L, t, s) := ⟨h1, h2, h3⟩
theorem quad_last {l : List Int} (hl : Bytes l) (q : List Int) (x t s : Int) (hq : Quad4 q) (hx : ¬ x > 0) (h0 : 0 ≤ t) (h1 : t ≤ 70000) : EvP Short5 (fun k => spec_l1Cur_quad.l0 k q x l t s) := by
  have hlen := quad_len hq
  refine EvP_succ ?_
  simp only [spec_l1Cur_quad.l0]
  refine EvP_false hx ?_
  obtain ⟨v, t1, s1, e1, v0, v1, ht, ht'⟩ := pick_eq hl t s 20 h0 (by omega) (by omega)
  rw [e1]
  simp only [Option.bind_some]
  refine EvP_ite (fun _ => ?_) (fun _ => EvP_ite (fun _ => ?_) (fun _ => EvP_ite (fun _ => ?_) (fun _ => EvP_some (Short5.mk (by omega) (by omega) (by omega)))))
  · obtain ⟨u, t2, s2, e2, u0, u1, ht2, ht2'⟩ := pick_eq hl t1 s1 4 (by omega) (by omega) (by omega)
    have := u1 (by omega)
    rw [e2]
    simp only [Option.bind_some]
    obtain ⟨y, t3, s3, e3, _, ht3, ht3'⟩ := among_eq hl t2 s2 ([1, (-1), 2, 100000] : List Int) (by omega) (by omega) (by simp) (by simp)
    rw [e3]
    simp only [Option.bind_some]
    exact EvP_true u0 (EvP_true (by omega) (EvP_some (Short5.mk (by rw [List.length_set]; omega) (by omega) (by omega))))
  · exact EvP_true (by omega) (EvP_some (Short5.mk (by rw [List.length_append, hlen]; simp) (by omega) (by omega)))
  · obtain ⟨u, t2, s2, e2, u0, u1, ht2, ht2'⟩ := pick_eq hl t1 s1 4 (by omega) (by omega) (by omega)
    have hu := u1 (by omega)
    rw [e2]
    simp only [Option.bind_some]
    refine EvP_true u0 (EvP_true (by simp; omega) (EvP_some (Short5.mk ?_ (by omega) (by omega))))
    rcases (show u = 0 ∨ u = 1 ∨ u = 2 ∨ u = 3 by omega) with rfl | rfl | rfl | rfl <;> decide
theorem quad_l0 {l : List Int} (hl : Bytes l) : ∀ (d : Nat) (q : List Int) (x t s : Int), Quad4 q → x.toNat ≤ d → 0 ≤ t → t + 2 * d ≤ 70000 → EvP Short5 (fun k => spec_l1Cur_quad.l0 k q x l t s)
  | 0, q, x, t, s, hq, hx, h0, h1 => quad_last hl q x t s hq (by omega) h0 (by omega)
  | d + 1, q, x, t, s, hq, hx, h0, h1 => by
    by_cases h : x > 0
    · refine EvP_succ ?_
      simp only [spec_l1Cur_quad.l0]
      obtain ⟨v, t1, s1, e1, v0, v1, ht, ht'⟩ := pick_eq hl t s 4 h0 (by omega) (by omega)
      have hv := v1 (by omega)
      rw [e1]
      simp only [Option.bind_some]
      obtain ⟨i, rfl⟩ := Int.eq_ofNat_of_zero_le v0
      rw [apSwap_eq hq (i := i) (by omega)]
      simp only [Option.bind_some]
      have hw : wrap64 (x - 1) = x - 1 ∨ (wrap64 (x - 1)).toNat ≤ d := by unfold wrap64; omega
      have hd : (wrap64 (x - 1)).toNat ≤ d := by
        rcases hw with e | e
        · rw [e]; omega
        · exact e
      refine EvP_true h (EvP_bind (apGood_ev _) ?_)
      by_cases hc : isQ (swapL q i) = true
      · exact EvP_true hc (quad_l0 hl d _ _ _ _ (isQ_iff.1 hc) hd (by omega) (by omega))
      · exact EvP_false hc (quad_l0 hl d _ _ _ _ hq hd (by omega) (by omega))
    · exact quad_last hl q x t s hq h h0 (by omega)
def startQ : List (List Int) := [[(-1), 2, 2, 3], [(-2), 3, 6, 7], [(-3), 4, 12, 13], [(-3), 5, 8, 8], [(-6), 11, 14, 15], [0, 0, 1, 1], [0, 1, 1, 4], [(-2), 4, 4, 6]]
theorem start_quad : ∀ q ∈ startQ, Quad4 q := by
  intro q hq
  simp only [startQ, List.mem_cons, List.not_mem_nil, or_false] at hq
  rcases hq with rfl | rfl | rfl | rfl | rfl | rfl | rfl | rfl <;> exact ⟨_, _, _, _, rfl, ⟨⟨by decide, by decide⟩, ⟨by decide, by decide⟩, ⟨by decide, by decide⟩, ⟨by decide, by decide⟩⟩, ⟨by decide, by decide⟩⟩
theorem quad_ev {l : List Int} (hl : Bytes l) : EvP Short5 (fun k => spec_l1Cur_quad.f k l 0 0) := by
  unfold spec_l1Cur_quad.f
  obtain ⟨v, t1, s1, e1, v0, v1, ht, ht'⟩ := pick_eq hl 0 0 8 (by omega) (by omega) (by omega)
  have hv := v1 (by omega)
  simp only [Option.bind_some]
  rw [e1]
  simp only [Option.bind_some]
  have hlt : v.toNat < startQ.length := by show v.toNat < 8; omega
  have hm : rd_L2 startQ v ∈ startQ := by
    have : rd_L2 startQ v = startQ[v.toNat] := by simp [rd_L2, List.getD_eq_getElem?_getD, List.getElem?_eq_getElem hlt]
    rw [this]
    exact List.getElem_mem hlt
  have hq := start_quad _ hm
  have hlen := quad_len hq
  refine EvP_true v0 (EvP_true (by simp; omega) ?_)
  show EvP Short5 (fun k => (spec_l1Own.f (rd_L2 startQ v)).bind _)
  have e : spec_l1Own.f (rd_L2 startQ v) = some (rd_L2 startQ v) := by
    unfold spec_l1Own.f
    simp only [Option.bind_some, List.nil_append, List.length_nil]
    rw [if_pos (by omega)]
  rw [e]
  simp only [Option.bind_some]
  obtain ⟨y, t2, s2, e2, hy, ht2, ht2'⟩ := among_eq hl t1 s1 ([0, 1, 2, 3, 5, 7] : List Int) (by omega) (by omega) (by simp) (by simp)
  rw [e2]
  simp only [Option.bind_some]
  have hy7 : y ≤ 7 := by
    simp only [List.mem_cons, List.not_mem_nil, or_false] at hy
    omega
  exact quad_l0 hl 7 _ y t2 s2 hq (by omega) (by omega) (by omega)
def Short2 (r : List Int × List Int) : Prop := r.1.length ≤ 5
end Go.Proofs.Ytnaginnhccldhaa.Q

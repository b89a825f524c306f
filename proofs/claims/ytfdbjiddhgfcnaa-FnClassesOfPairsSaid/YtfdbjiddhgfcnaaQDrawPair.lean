/- The draws of pairs come to numbers. -/
import Derived.Test.YtfdbjiddhgfcnaaPx5
import Derived.Test.YtfdbjiddhgfcnaaQDraw
import Derived.Test.YtfdbjiddhgfcnaaQIn
namespace Go.Proofs.Ytfdbjiddhgfcnaa.Q
open Go.RowKit Go.Proofs.Ytfdbjiddhgfcnaa.P Go.Proofs.YtfdbjiddhgfcnaaW.PrintWords Go.Proofs.YtfdbjiddhgfcnaaW.PrintLast

theorem jump_l0 {l : List Int} (hl : Bytes l) (t s : Int) (h0 : 0 ≤ t) (h1 : t ≤ 1000000) (d : Nat) : ∀ (a b c e n : Int), n.toNat ≤ d → EvS (fun k => spec_l1Cur_jump.l0 k a b c e n l t s) := by
  have last : ∀ (a b c e n : Int), ¬ n > 0 → EvS (fun k => spec_l1Cur_jump.l0 k a b c e n l t s) := by
    intro a b c e n hn
    refine EvS_succ ?_
    simp only [spec_l1Cur_jump.l0]
    refine EvS_false hn ?_
    obtain ⟨v, t1, s1, e1, v0, v1, ht, ht'⟩ := pick_eq hl t s 14 h0 (by omega) (by omega)
    rw [e1]
    simp only [Option.bind_some]
    have am := fun m (hm : 1 ≤ m.length) (hm2 : m.length ≤ 1000000000) => among_eq hl t1 s1 m (by omega) (by omega) hm hm2
    refine EvS_ite (fun _ => ?_) (fun _ => EvS_ite (fun _ => ?_) (fun _ => EvS_ite (fun _ => ?_) (fun _ => EvS_ite (fun _ => ?_) (fun _ => EvS_some))))
    · obtain ⟨u, t2, s2, e2, _⟩ := am [(-1), 0, 1000000, 1000001, 4611686018427387904] (by simp) (by simp)
      rw [e2]
      exact EvS_some
    · obtain ⟨u, t2, s2, e2, _⟩ := am [(-1), 0, a, wrap64 (a + 1)] (by simp) (by simp)
      rw [e2]
      exact EvS_some
    · obtain ⟨u, t2, s2, e2, _⟩ := am [(-1), 0, 1, 1000, 1001] (by simp) (by simp)
      rw [e2]
      exact EvS_some
    · obtain ⟨u, t2, s2, e2, _⟩ := am [(-1001), (-1000), 1000, 1001] (by simp) (by simp)
      rw [e2]
      exact EvS_some
  induction d with
  | zero => exact fun a b c e n hn => last a b c e n (by omega)
  | succ d ih =>
    intro a b c e n hn
    by_cases h : n > 0
    · refine EvS_succ ?_
      simp only [spec_l1Cur_jump.l0]
      refine EvS_true h ?_
      rw [in_eq]
      simp only [Option.bind_some]
      have hw : (wrap64 (n - 1)).toNat ≤ d := by unfold wrap64; omega
      exact EvS_ite (fun _ => ih _ _ _ _ _ hw) (fun _ => ih _ _ _ _ _ hw)
    · exact last a b c e n h
/-- It comes to something of which P holds. -/
def EvP {α : Type} (P : α → Prop) (g : Nat → Option α) : Prop := ∃ r, Ev g r ∧ P r
theorem EvP_succ {α : Type} {P : α → Prop} {g : Nat → Option α} (h : EvP P (fun k => g (k + 1))) : EvP P g := h.imp fun _ h => ⟨Ev_succ h.1, h.2⟩
theorem EvP_some {α : Type} {P : α → Prop} {a : α} (h : P a) : EvP P (fun _ => some a) := ⟨a, Ev_some, h⟩
theorem EvP_true {α : Type} {P : α → Prop} {c : Prop} [Decidable c] {f g : Nat → Option α} (hc : c) (h : EvP P f) : EvP P (fun k => if c then f k else g k) := h.imp fun _ h => ⟨Ev_true hc h.1, h.2⟩
theorem EvP_false {α : Type} {P : α → Prop} {c : Prop} [Decidable c] {f g : Nat → Option α} (hc : ¬ c) (h : EvP P g) : EvP P (fun k => if c then f k else g k) := h.imp fun _ h => ⟨Ev_false hc h.1, h.2⟩
theorem EvP_ite {α : Type} {P : α → Prop} {c : Prop} [Decidable c] {f g : Nat → Option α} (h1 : c → EvP P f) (h2 : ¬ c → EvP P g) : EvP P (fun k => if c then f k else g k) := by
  by_cases hc : c
  · exact EvP_true hc (h1 hc)
  · exact EvP_false hc (h2 hc)
theorem jump_at {l : List Int} (hl : Bytes l) (t s : Int) (h0 : 0 ≤ t) (h1 : t ≤ 1000000) (d : Nat) : ∀ (a b c e n : Int), n.toNat ≤ d → EvP (fun r : Int × Int × Int × Int × Int × Int => 0 ≤ r.2.2.2.2.1 ∧ r.2.2.2.2.1 ≤ 1000100) (fun k => spec_l1Cur_jump.l0 k a b c e n l t s) := by
  have last : ∀ (a b c e n : Int), ¬ n > 0 → EvP (fun r : Int × Int × Int × Int × Int × Int => 0 ≤ r.2.2.2.2.1 ∧ r.2.2.2.2.1 ≤ 1000100) (fun k => spec_l1Cur_jump.l0 k a b c e n l t s) := by
    intro a b c e n hn
    refine EvP_succ ?_
    simp only [spec_l1Cur_jump.l0]
    refine EvP_false hn ?_
    obtain ⟨v, t1, s1, e1, v0, v1, ht, ht'⟩ := pick_eq hl t s 14 h0 (by omega) (by omega)
    rw [e1]
    simp only [Option.bind_some]
    have am := fun m (hm : 1 ≤ m.length) (hm2 : m.length ≤ 1000000000) => among_eq hl t1 s1 m (by omega) (by omega) hm hm2
    refine EvP_ite (fun _ => ?_) (fun _ => EvP_ite (fun _ => ?_) (fun _ => EvP_ite (fun _ => ?_) (fun _ => EvP_ite (fun _ => ?_) (fun _ => EvP_some ⟨by show 0 ≤ t1; omega, by show t1 ≤ 1000100; omega⟩))))
    · obtain ⟨u, t2, s2, e2, _, a1_, a2_⟩ := am [(-1), 0, 1000000, 1000001, 4611686018427387904] (by simp) (by simp)
      rw [e2]
      exact EvP_some ⟨by show 0 ≤ t2; omega, by show t2 ≤ 1000100; omega⟩
    · obtain ⟨u, t2, s2, e2, _, a1_, a2_⟩ := am [(-1), 0, a, wrap64 (a + 1)] (by simp) (by simp)
      rw [e2]
      exact EvP_some ⟨by show 0 ≤ t2; omega, by show t2 ≤ 1000100; omega⟩
    · obtain ⟨u, t2, s2, e2, _, a1_, a2_⟩ := am [(-1), 0, 1, 1000, 1001] (by simp) (by simp)
      rw [e2]
      exact EvP_some ⟨by show 0 ≤ t2; omega, by show t2 ≤ 1000100; omega⟩
    · obtain ⟨u, t2, s2, e2, _, a1_, a2_⟩ := am [(-1001), (-1000), 1000, 1001] (by simp) (by simp)
      rw [e2]
      exact EvP_some ⟨by show 0 ≤ t2; omega, by show t2 ≤ 1000100; omega⟩
  induction d with
  | zero => exact fun a b c e n hn => last a b c e n (by omega)
  | succ d ih =>
    intro a b c e n hn
    by_cases h : n > 0
    · refine EvP_succ ?_
      simp only [spec_l1Cur_jump.l0]
      refine EvP_true h ?_
      rw [in_eq]
      simp only [Option.bind_some]
      have hw : (wrap64 (n - 1)).toNat ≤ d := by unfold wrap64; omega
      exact EvP_ite (fun _ => ih _ _ _ _ _ hw) (fun _ => ih _ _ _ _ _ hw)
    · exact last a b c e n h
theorem drawJump_at {l : List Int} (hl : Bytes l) : ∃ a b d e t s, Ev (fun k => spec_l1Cur_jump.f k l 0 0) (a, b, d, e, t, s) ∧ 0 ≤ t ∧ t ≤ 1000100 := by
  unfold spec_l1Cur_jump.f
  obtain ⟨v, t1, s1, e1, v0, v1, ht, ht'⟩ := pick_eq hl 0 0 12 (by omega) (by omega) (by omega)
  rw [e1]
  simp only [Option.bind_some]
  have hv := v1 (by omega)
  rw [w64 (x := 1 + v) (by omega) (by omega), w64 (x := 1 + v + 1) (by omega) (by omega)]
  obtain ⟨u, t2, s2, e2, u0, u1, ht2, ht2'⟩ := pick_eq hl t1 s1 (1 + v + 1) (by omega) (by omega) (by omega)
  rw [e2]
  simp only [Option.bind_some]
  obtain ⟨x, t3, s3, e3, x0, x1, ht3, ht3'⟩ := pick_eq hl t2 s2 7 (by omega) (by omega) (by omega)
  rw [e3]
  simp only [Option.bind_some]
  obtain ⟨y, t4, s4, e4, y0, y1, ht4, ht4'⟩ := pick_eq hl t3 s3 6 (by omega) (by omega) (by omega)
  rw [e4]
  simp only [Option.bind_some]
  obtain ⟨⟨a, b, d, e, t, s⟩, h1, h2, h3⟩ := jump_at hl t4 s4 (by omega) (by omega) y.toNat _ _ _ _ _ (Nat.le_refl _)
  exact ⟨a, b, d, e, t, s, h1, h2, h3⟩
end Go.Proofs.Ytfdbjiddhgfcnaa.Q

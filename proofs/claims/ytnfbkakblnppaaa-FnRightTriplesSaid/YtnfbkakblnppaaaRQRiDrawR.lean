/- The draws of right triples. -/
import Derived.Test.YtnfbkakblnppaaaRx4
import Derived.Test.YtnfbkakblnppaaaRx5
import Derived.Test.YtnfbkakblnppaaaRx6
import Derived.Test.YtnfbkakblnppaaaRQRi
import Derived.Test.YtnfbkakblnppaaaRQDraw
namespace Go.Proofs.Ytnfbkakblnppaaa.Q
open Go.RowKit Go.Proofs.Ytnfbkakblnppaaa.P Go.Proofs.YtnfbkakblnppaaaW.PrintWords Go.Proofs.YtnfbkakblnppaaaW.PrintLast
theorem kid_le {m n : Nat} (h : PairN m n) {k : Nat} : (kid k m n).1 ≤ 3 * m := by
  have hl := h.lt
  match k with
  | 0 => show 2 * m - n ≤ 3 * m; omega
  | 1 => show 2 * m + n ≤ 3 * m; omega
  | 2 => show m + 2 * n ≤ 3 * m; omega
  | 3 => show m + n ≤ 3 * m; omega
  | 4 => show 2 * m ≤ 3 * m; omega
  | k + 5 => show 2 * m ≤ 3 * m; omega
theorem riBerg_eq {m n : Nat} (h : PairN m n) (hm : m ≤ 1000000) {k : Nat} (hk : k ≤ 2) : spec_riBerg.f (m : Int) (n : Int) (k : Int) = some (((kid (k + 0) m n).1 : Int), ((kid (k + 0) m n).2 : Int)) := by
  have hl := h.lt
  unfold spec_riBerg.f
  rcases (show k = 0 ∨ k = 1 ∨ k = 2 by omega) with rfl | rfl | rfl
  · rw [if_pos (by omega)]
    show some (wrap64 (wrap64 (2 * (m : Int)) - n), (m : Int)) = some (((2 * m - n : Nat) : Int), ((m : Nat) : Int))
    congr 1
    refine Prod.ext ?_ rfl
    show wrap64 (wrap64 (2 * (m : Int)) - n) = ((2 * m - n : Nat) : Int)
    unfold wrap64; omega
  · rw [if_neg (by omega), if_pos (by omega)]
    show some (wrap64 (wrap64 (2 * (m : Int)) + n), (m : Int)) = some (((2 * m + n : Nat) : Int), ((m : Nat) : Int))
    congr 1
    refine Prod.ext ?_ rfl
    show wrap64 (wrap64 (2 * (m : Int)) + n) = ((2 * m + n : Nat) : Int)
    unfold wrap64; omega
  · rw [if_neg (by omega), if_neg (by omega)]
    show some (wrap64 ((m : Int) + wrap64 (2 * (n : Int))), (n : Int)) = some (((m + 2 * n : Nat) : Int), ((n : Nat) : Int))
    congr 1
    refine Prod.ext ?_ rfl
    show wrap64 ((m : Int) + wrap64 (2 * (n : Int))) = ((m + 2 * n : Nat) : Int)
    unfold wrap64; omega
/-- It comes to something of which P holds. -/
def EvP {α : Type} (P : α → Prop) (g : Nat → Option α) : Prop := ∃ r, Ev g r ∧ P r
theorem EvP_succ {α : Type} {P : α → Prop} {g : Nat → Option α} (h : EvP P (fun k => g (k + 1))) : EvP P g := h.imp fun _ h => ⟨Ev_succ h.1, h.2⟩
theorem EvP_some {α : Type} {P : α → Prop} {a : α} (h : P a) : EvP P (fun _ => some a) := ⟨a, Ev_some, h⟩
theorem EvP_true {α : Type} {P : α → Prop} {c : Prop} [Decidable c] {f g : Nat → Option α} (hc : c) (h : EvP P f) : EvP P (fun k => if c then f k else g k) := h.imp fun _ h => ⟨Ev_true hc h.1, h.2⟩
theorem EvP_false {α : Type} {P : α → Prop} {c : Prop} [Decidable c] {f g : Nat → Option α} (hc : ¬ c) (h : EvP P g) : EvP P (fun k => if c then f k else g k) := h.imp fun _ h => ⟨Ev_false hc h.1, h.2⟩
theorem EvP_ite {α : Type} {P : α → Prop} {c : Prop} [Decidable c] {f g : Nat → Option α} (h1 : c → EvP P f) (h2 : ¬ c → EvP P g) : EvP P (fun k => if c then f k else g k) := by
  by_cases hc : c
  · exact EvP_true hc (h1 hc)
  · exact EvP_false hc (h2 hc)
theorem EvP_bind {α β : Type} {P : β → Prop} {g : Nat → Option α} {f : Nat → α → Option β} {a : α} (h : Ev g a) (k : EvP P (fun n => f n a)) : EvP P (fun n => (g n).bind (f n)) := k.imp fun _ k => ⟨Ev.bind h k.1, k.2⟩
def Short (r : List Int × Int × Int) : Prop := r.1.length ≤ 100 ∧ 0 ≤ r.2.1 ∧ r.2.1 ≤ 10000000
theorem Short.mk {L : List Int} {t s : Int} (h1 : L.length ≤ 100) (h2 : 0 ≤ t) (h3 : t ≤ 10000000) : Short (L, t, s) := ⟨h1, h2, h3⟩
theorem one_eq {l : List Int} (hl : Bytes l) (t s n : Int) (h0 : 0 ≤ t) (h1 : t ≤ 100000000000000) (hn : n ≤ 1000000000000) : ∃ v t' s', spec_l1Cur_one.f l t s n = some (v, t', s') ∧ t ≤ t' ∧ t' ≤ t + 2 := by
  unfold spec_l1Cur_one.f
  obtain ⟨v, t1, s1, e1, v0, v1, ht, ht'⟩ := pick_eq hl t s n h0 h1 hn
  rw [e1]
  exact ⟨_, _, _, rfl, ht, ht'⟩
theorem triple_j1 {l : List Int} (hl : Bytes l) (m n : Nat) (hm : m ≤ 1000000) (hn : n ≤ 1000000) (t s : Int) (h0 : 0 ≤ t) (h1 : t ≤ 1000000) : EvP Short (fun k => spec_l1Cur_triple.j1 k (m : Int) (n : Int) l t s) := by
  refine EvP_succ ?_
  simp only [spec_l1Cur_triple.j1]
  refine EvP_bind (riPair_ev (by omega) (by omega)) ?_
  by_cases hp : OkP m n
  · refine EvP_true (decide_eq_true hp) ?_
    have hs := hp.small
    rw [riOf_eq (Nat.le_of_lt hp.1.lt) (by omega)]
    simp only [Option.bind_some]
    have hlen : (trip m n).length = 3 := rfl
    obtain ⟨v, t1, s1, e1, v0, v1, ht, ht'⟩ := pick_eq hl t s 16 h0 (by omega) (by omega)
    rw [e1]
    simp only [Option.bind_some]
    refine EvP_ite (fun _ => ?_) (fun _ => EvP_ite (fun _ => ?_) (fun _ => EvP_ite (fun _ => ?_) (fun _ => EvP_ite (fun _ => ?_) (fun _ => EvP_some (Short.mk (by omega) (by omega) (by omega))))))
    · obtain ⟨u, t2, s2, e2, u0, u1, ht2, ht2'⟩ := pick_eq hl t1 s1 3 (by omega) (by omega) (by omega)
      have := u1 (by omega)
      rw [e2]
      simp only [Option.bind_some]
      obtain ⟨x, t3, s3, e3, _, ht3, ht3'⟩ := among_eq hl t2 s2 ([(-1), 1, 1000000000] : List Int) (by omega) (by omega) (by simp) (by simp)
      rw [e3]
      simp only [Option.bind_some]
      exact EvP_true u0 (EvP_true (by omega) (EvP_some (Short.mk (by rw [List.length_set]; omega) (by omega) (by omega))))
    · exact EvP_true (by omega) (EvP_true (by omega) (EvP_true (by omega) (EvP_some (Short.mk (by simp) (by omega) (by omega)))))
    · exact EvP_true (by omega) (EvP_true (by omega) (EvP_true (by omega) (EvP_some (Short.mk (by simp) (by omega) (by omega)))))
    · exact EvP_true (by omega) (EvP_some (Short.mk (by rw [List.length_append]; simp; omega) (by omega) (by omega)))
  · refine EvP_false (by simpa using hp) ?_
    obtain ⟨v, t1, s1, e1, v0, v1, ht, ht'⟩ := pick_eq hl t s 30 h0 (by omega) (by omega)
    rw [e1]
    simp only [Option.bind_some]
    obtain ⟨u, t2, s2, e2, u0, u1, ht2, ht2'⟩ := pick_eq hl t1 s1 30 (by omega) (by omega) (by omega)
    rw [e2]
    simp only [Option.bind_some]
    obtain ⟨x, t3, s3, e3, x0, x1, ht3, ht3'⟩ := pick_eq hl t2 s2 50 (by omega) (by omega) (by omega)
    rw [e3]
    simp only [Option.bind_some]
    exact EvP_some (Short.mk (by simp) (by omega) (by omega))
theorem triple_l0 {l : List Int} (hl : Bytes l) : ∀ (d m n : Nat) (x t s : Int), OkP m n → x.toNat ≤ d → 0 ≤ t → t + 2 * d ≤ 100000 → EvP Short (fun k => spec_l1Cur_triple.l0 k (m : Int) (n : Int) x l t s) := by
  have last : ∀ (m n : Nat) (x t s : Int), OkP m n → ¬ x > 0 → 0 ≤ t → t ≤ 100000 → EvP Short (fun k => spec_l1Cur_triple.l0 k (m : Int) (n : Int) x l t s) := by
    intro m n x t s hp hx h0 h1
    have hs := hp.small
    have hlt := hp.1.lt
    refine EvP_succ ?_
    simp only [spec_l1Cur_triple.l0]
    refine EvP_false hx ?_
    obtain ⟨v, t1, s1, e1, ht, ht'⟩ := one_eq hl t s 6 h0 (by omega) (by omega)
    rw [e1]
    simp only [Option.bind_some]
    refine EvP_ite (fun _ => ?_) (fun _ => triple_j1 hl m n (by omega) (by omega) t1 s1 (by omega) (by omega))
    obtain ⟨u, t2, s2, e2, u0, u1, ht2, ht2'⟩ := pick_eq hl t1 s1 120 (by omega) (by omega) (by omega)
    have hu := u1 (by omega)
    rw [e2]
    simp only [Option.bind_some]
    rw [w64 (x := 2 + u) (by omega) (by omega), w64 (x := 2 + u - 1) (by omega) (by omega)]
    obtain ⟨y, t3, s3, e3, y0, y1, ht3, ht3'⟩ := pick_eq hl t2 s2 (2 + u - 1) (by omega) (by omega) (by omega)
    have hy := y1 (by omega)
    rw [e3]
    simp only [Option.bind_some]
    rw [w64 (x := 1 + y) (by omega) (by omega)]
    have hj := triple_j1 hl (2 + u).toNat (1 + y).toNat (by omega) (by omega) t3 s3 (by omega) (by omega)
    rw [show (((2 + u).toNat : Nat) : Int) = 2 + u by omega, show (((1 + y).toNat : Nat) : Int) = 1 + y by omega] at hj
    exact hj
  intro d
  induction d with
  | zero => exact fun m n x t s hp hx h0 h1 => last m n x t s hp (by omega) h0 (by omega)
  | succ d ih =>
    intro m n x t s hp hx h0 h1
    by_cases h : x > 0
    · have hs := hp.small
      refine EvP_succ ?_
      simp only [spec_l1Cur_triple.l0]
      obtain ⟨v, t1, s1, e1, v0, v1, ht, ht'⟩ := pick_eq hl t s 3 h0 (by omega) (by omega)
      have hv := v1 (by omega)
      rw [e1]
      simp only [Option.bind_some]
      obtain ⟨k, rfl⟩ := Int.eq_ofNat_of_zero_le v0
      rw [riBerg_eq hp.1 (by omega) (by omega)]
      simp only [Option.bind_some]
      have hk := kid_le hp.1 (k := k + 0)
      have hkp := hp.1.kid (k + 0)
      have hkl := hkp.lt
      refine EvP_true h (EvP_bind (riPair_ev (by omega) (by omega)) ?_)
      by_cases h2 : OkP (kid (k + 0) m n).1 (kid (k + 0) m n).2
      · exact EvP_true (decide_eq_true h2) (ih _ _ _ _ _ h2 (by unfold wrap64; omega) (by omega) (by omega))
      · exact EvP_false (by simpa using h2) (ih _ _ _ _ _ hp (by unfold wrap64; omega) (by omega) (by omega))
    · exact last m n x t s hp h h0 (by omega)
theorem triple_ev {l : List Int} (hl : Bytes l) : EvP Short (fun k => spec_l1Cur_triple.f k l 0 0) := by
  unfold spec_l1Cur_triple.f
  obtain ⟨v, t1, s1, e1, v0, v1, ht, ht'⟩ := pick_eq hl 0 0 9 (by omega) (by omega) (by omega)
  have := v1 (by omega)
  rw [e1]
  simp only [Option.bind_some]
  exact triple_l0 hl 9 2 1 v t1 s1 (by decide) (by omega) (by omega) (by omega)
theorem draw_triple {l : List Int} (hl : Bytes l) : ∃ w, Ev (fun k => spec_DrawPairOfRight.f k l) w ∧ w.length ≤ 100 := by
  have h := triple_ev hl
  obtain ⟨r, h1, h2⟩ := h
  unfold spec_DrawPairOfRight.f spec_DrawIsRight.f
  exact ⟨r.1, Ev.bind (f := fun _ (b : List Int) => some b) (Ev.bind (f := fun _ (b : List Int × Int × Int) => some b.1) h1 Ev_some) Ev_some, h2.1⟩
end Go.Proofs.Ytnfbkakblnppaaa.Q

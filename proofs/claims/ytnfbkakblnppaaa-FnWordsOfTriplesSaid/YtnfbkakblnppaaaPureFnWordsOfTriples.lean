/- Triples and words of both trees tell each other, and words have ranks. -/
import Derived.Test.YtnfbkakblnppaaaUx1
import Derived.Test.YtnfbkakblnppaaaUx5
import Derived.Test.YtnfbkakblnppaaaUx8
import Derived.Test.YtnfbkakblnppaaaUx9
import Derived.Test.YtnfbkakblnppaaaUx10
import Derived.Test.YtnfbkakblnppaaaUx11
import Derived.Test.YtnfbkakblnppaaaUx13
import Derived.Test.YtnfbkakblnppaaaUQRank
import Derived.Test.YtnfbkakblnppaaaUQDraw
import Derived.Test.YtnfbkakblnppaaaUQBig
import Derived.Test.YtnfbkakblnppaaaUQV
namespace Go.Proofs.Ytnfbkakblnppaaa.Pure
open Go.RowKit Go.Proofs.Ytnfbkakblnppaaa.P Go.Proofs.YtnfbkakblnppaaaW.PrintWords Go.Proofs.YtnfbkakblnppaaaW.PrintLast Go.Proofs.Ytnfbkakblnppaaa.Q

/-- It comes to something of which P holds. -/
def EvP {α : Type} (P : α → Prop) (g : Nat → Option α) : Prop := ∃ r, Ev g r ∧ P r
theorem EvP_succ {α : Type} {P : α → Prop} {g : Nat → Option α} (h : EvP P (fun k => g (k + 1))) : EvP P g := h.imp fun _ h => ⟨Ev_succ h.1, h.2⟩
theorem EvP_some {α : Type} {P : α → Prop} {a : α} (h : P a) : EvP P (fun _ => some a) := ⟨a, Ev_some, h⟩
theorem EvP_true {α : Type} {P : α → Prop} {c : Prop} [Decidable c] {f g : Nat → Option α} (hc : c) (h : EvP P f) : EvP P (fun k => if c then f k else g k) := h.imp fun _ h => ⟨Ev_true hc h.1, h.2⟩
theorem EvP_false {α : Type} {P : α → Prop} {c : Prop} [Decidable c] {f g : Nat → Option α} (hc : ¬ c) (h : EvP P g) : EvP P (fun k => if c then f k else g k) := h.imp fun _ h => ⟨Ev_false hc h.1, h.2⟩
theorem EvP_ite {α : Type} {P : α → Prop} {c : Prop} [Decidable c] {f g : Nat → Option α} (h1 : c → EvP P f) (h2 : ¬ c → EvP P g) : EvP P (fun k => if c then f k else g k) := by
  by_cases hc : c
  · exact EvP_true hc (h1 hc)
  · exact EvP_false hc (h2 hc)
theorem EvP_bind {α β : Type} {P : β → Prop} {g : Nat → Option α} {f : Nat → α → Option β} {a : α} (h : Ev g a) (k : EvP P (fun n => f n a)) : EvP P (fun n => (g n).bind (f n)) := k.imp fun _ k => ⟨Ev.bind h k.1, k.2⟩
def Short (r : List Int × Int × Int) : Prop := r.1.length ≤ 100
theorem word3_l0 {l : List Int} (hl : Bytes l) : ∀ (d : Nat) (acc : List Int) (n t s : Int), n.toNat ≤ d → acc.length + d ≤ 60 → 0 ≤ t → t + 2 * d ≤ 100000 → EvP Short (fun k => spec_l1Cur_word3.l0 k acc n l t s) := by
  have last : ∀ (d : Nat) (acc : List Int) (n t s : Int), ¬ n > 0 → acc.length + d ≤ 60 → 0 ≤ t → t ≤ 100000 → EvP Short (fun k => spec_l1Cur_word3.l0 k acc n l t s) := by
    intro d acc n t s hn ha h0 h1
    refine EvP_succ ?_
    simp only [spec_l1Cur_word3.l0]
    refine EvP_false hn ?_
    obtain ⟨v, t1, s1, e1, v0, v1, ht, ht'⟩ := pick_eq hl t s 14 h0 (by omega) (by omega)
    rw [e1]
    simp only [Option.bind_some]
    refine EvP_ite (fun _ => ?_) (fun _ => EvP_ite (fun _ => ?_) (fun _ => EvP_ite (fun _ => ?_) (fun _ => EvP_some (by show acc.length ≤ 100; omega))))
    · obtain ⟨u, t2, s2, e2, _⟩ := among_eq hl t1 s1 ([(-1), 3] : List Int) (by omega) (by omega) (by simp) (by simp)
      rw [e2]
      simp only [Option.bind_some]
      exact EvP_true (by omega) (EvP_some (by show (acc ++ [u]).length ≤ 100; simp; omega))
    · obtain ⟨u, t2, s2, e2, u0, u1, _⟩ := pick_eq hl t1 s1 2 (by omega) (by omega) (by omega)
      have := u1 (by omega)
      rw [e2]
      simp only [Option.bind_some]
      rw [w64 (x := 40 + u) (by omega) (by omega)]
      exact EvP_true (by omega) (EvP_true (by omega) (EvP_some (by show (List.replicate (40 + u).toNat (0 : Int)).length ≤ 100; rw [List.length_replicate]; omega)))
    · obtain ⟨u, t2, s2, e2, u0, u1, _⟩ := pick_eq hl t1 s1 2 (by omega) (by omega) (by omega)
      have := u1 (by omega)
      rw [e2]
      simp only [Option.bind_some]
      rw [w64 (x := 18 + u) (by omega) (by omega)]
      exact EvP_true (by omega) (EvP_true (by omega) (EvP_some (by show (List.replicate (18 + u).toNat (0 : Int)).length ≤ 100; rw [List.length_replicate]; omega)))
  intro d
  induction d with
  | zero => exact fun acc n t s hn ha h0 h1 => last 0 acc n t s (by omega) ha h0 (by omega)
  | succ d ih =>
    intro acc n t s hn ha h0 h1
    by_cases h : n > 0
    · refine EvP_succ ?_
      simp only [spec_l1Cur_word3.l0]
      obtain ⟨v, t1, s1, e1, v0, v1, ht, ht'⟩ := pick_eq hl t s 3 h0 (by omega) (by omega)
      rw [e1]
      simp only [Option.bind_some]
      exact EvP_true h (EvP_true (by omega) (ih _ _ _ _ (by unfold wrap64; omega) (by simp; omega) (by omega) (by omega)))
    · exact last (d + 1) acc n t s h ha h0 (by omega)
theorem word3_ev {l : List Int} (hl : Bytes l) (m : Int) (hm0 : 0 ≤ m) (hm : m ≤ 20) : EvP Short (fun k => spec_l1Cur_word3.f k l 0 0 m) := by
  unfold spec_l1Cur_word3.f
  rw [w64 (x := m + 1) (by omega) (by omega)]
  obtain ⟨v, t1, s1, e1, v0, v1, ht, ht'⟩ := pick_eq hl 0 0 (m + 1) (by omega) (by omega) (by omega)
  have := v1 (by omega)
  rw [e1]
  simp only [Option.bind_some]
  exact word3_l0 hl 30 [] v t1 s1 (by omega) (by simp) (by omega) (by omega)
theorem draw_word {l : List Int} (hl : Bytes l) : ∃ w, Ev (fun k => spec_DrawRightByBerg.f k l) w ∧ w.length ≤ 100 := by
  obtain ⟨r, h1, h2⟩ := word3_ev hl 9 (by omega) (by omega)
  unfold spec_DrawRightByBerg.f
  exact ⟨_, Ev.bind (f := fun _ (b : List Int × Int × Int) => some b.1) h1 Ev_some, h2⟩
theorem draw_rank {l : List Int} (hl : Bytes l) : ∃ w, Ev (fun k => spec_DrawRankOfWord.f k l) w ∧ w.length ≤ 100 := by
  obtain ⟨r, h1, h2⟩ := word3_ev hl 12 (by omega) (by omega)
  unfold spec_DrawRankOfWord.f
  exact ⟨_, Ev.bind (f := fun _ (b : List Int × Int × Int) => some b.1) h1 Ev_some, h2⟩
theorem one_eq {l : List Int} (hl : Bytes l) (t s n : Int) (h0 : 0 ≤ t) (h1 : t ≤ 100000000000000) (hn : n ≤ 1000000000000) : ∃ v t' s', spec_l1Cur_one.f l t s n = some (v, t', s') ∧ t ≤ t' ∧ t' ≤ t + 2 := by
  unfold spec_l1Cur_one.f
  obtain ⟨v, t1, s1, e1, v0, v1, ht, ht'⟩ := pick_eq hl t s n h0 h1 hn
  rw [e1]
  exact ⟨_, _, _, rfl, ht, ht'⟩
theorem triple_j1 {l : List Int} (hl : Bytes l) (m n : Nat) (hm : m ≤ 1000000) (hn : n ≤ 1000000) (t s : Int) (h0 : 0 ≤ t) (h1 : t ≤ 1000000) : EvP Short (fun k => spec_l1Cur_triple.j1 k (m : Int) (n : Int) l t s) := by
  refine EvP_succ ?_
  simp only [spec_l1Cur_triple.j1]
  refine EvP_bind (riPair_ev (by omega) (by omega)) ?_
  by_cases hp : OkP m n
  · refine EvP_true (decide_eq_true hp) ?_
    have hs := hp.small
    rw [riOf_eq (Nat.le_of_lt hp.1.lt) (by omega)]
    simp only [Option.bind_some]
    have hlen : (trip m n).length = 3 := rfl
    obtain ⟨v, t1, s1, e1, v0, v1, ht, ht'⟩ := pick_eq hl t s 16 h0 (by omega) (by omega)
    rw [e1]
    simp only [Option.bind_some]
    refine EvP_ite (fun _ => ?_) (fun _ => EvP_ite (fun _ => ?_) (fun _ => EvP_ite (fun _ => ?_) (fun _ => EvP_ite (fun _ => ?_) (fun _ => EvP_some (by show (trip m n).length ≤ 100; omega)))))
    · obtain ⟨u, t2, s2, e2, u0, u1, ht2, ht2'⟩ := pick_eq hl t1 s1 3 (by omega) (by omega) (by omega)
      have := u1 (by omega)
      rw [e2]
      simp only [Option.bind_some]
      obtain ⟨x, t3, s3, e3, _⟩ := among_eq hl t2 s2 ([(-1), 1, 1000000000] : List Int) (by omega) (by omega) (by simp) (by simp)
      rw [e3]
      simp only [Option.bind_some]
      exact EvP_true u0 (EvP_true (by omega) (EvP_some (by show (List.set _ _ _).length ≤ 100; rw [List.length_set]; omega)))
    · exact EvP_true (by omega) (EvP_true (by omega) (EvP_true (by omega) (EvP_some (by show ([_, _, _] : List Int).length ≤ 100; simp))))
    · exact EvP_true (by omega) (EvP_true (by omega) (EvP_true (by omega) (EvP_some (by show ([_, _, _] : List Int).length ≤ 100; simp))))
    · exact EvP_true (by omega) (EvP_some (by show (trip m n ++ [1]).length ≤ 100; rw [List.length_append]; simp; omega))
  · refine EvP_false (by simpa using hp) ?_
    obtain ⟨v, t1, s1, e1, v0, v1, ht, ht'⟩ := pick_eq hl t s 30 h0 (by omega) (by omega)
    rw [e1]
    simp only [Option.bind_some]
    obtain ⟨u, t2, s2, e2, u0, u1, ht2, ht2'⟩ := pick_eq hl t1 s1 30 (by omega) (by omega) (by omega)
    rw [e2]
    simp only [Option.bind_some]
    obtain ⟨x, t3, s3, e3, x0, x1, ht3, ht3'⟩ := pick_eq hl t2 s2 50 (by omega) (by omega) (by omega)
    rw [e3]
    exact EvP_some (by show ([_, _, _] : List Int).length ≤ 100; simp)
theorem triple_l0 {l : List Int} (hl : Bytes l) : ∀ (d m n : Nat) (x t s : Int), OkP m n → x.toNat ≤ d → 0 ≤ t → t + 2 * d ≤ 100000 → EvP Short (fun k => spec_l1Cur_triple.l0 k (m : Int) (n : Int) x l t s) := by
  have last : ∀ (m n : Nat) (x t s : Int), OkP m n → ¬ x > 0 → 0 ≤ t → t ≤ 100000 → EvP Short (fun k => spec_l1Cur_triple.l0 k (m : Int) (n : Int) x l t s) := by
    intro m n x t s hp hx h0 h1
    have hs := hp.small
    have hlt := hp.1.lt
    refine EvP_succ ?_
    simp only [spec_l1Cur_triple.l0]
    refine EvP_false hx ?_
    obtain ⟨v, t1, s1, e1, ht, ht'⟩ := one_eq hl t s 6 h0 (by omega) (by omega)
    rw [e1]
    simp only [Option.bind_some]
    refine EvP_ite (fun _ => ?_) (fun _ => triple_j1 hl m n (by omega) (by omega) t1 s1 (by omega) (by omega))
    obtain ⟨u, t2, s2, e2, u0, u1, ht2, ht2'⟩ := pick_eq hl t1 s1 120 (by omega) (by omega) (by omega)
    have hu := u1 (by omega)
    rw [e2]
    simp only [Option.bind_some]
    rw [w64 (x := 2 + u) (by omega) (by omega), w64 (x := 2 + u - 1) (by omega) (by omega)]
    obtain ⟨y, t3, s3, e3, y0, y1, ht3, ht3'⟩ := pick_eq hl t2 s2 (2 + u - 1) (by omega) (by omega) (by omega)
    have hy := y1 (by omega)
    rw [e3]
    simp only [Option.bind_some]
    rw [w64 (x := 1 + y) (by omega) (by omega)]
    have hj := triple_j1 hl (2 + u).toNat (1 + y).toNat (by omega) (by omega) t3 s3 (by omega) (by omega)
    rw [show (((2 + u).toNat : Nat) : Int) = 2 + u by omega, show (((1 + y).toNat : Nat) : Int) = 1 + y by omega] at hj
    exact hj
  intro d
  induction d with
  | zero => exact fun m n x t s hp hx h0 h1 => last m n x t s hp (by omega) h0 (by omega)
  | succ d ih =>
    intro m n x t s hp hx h0 h1
    by_cases h : x > 0
    · have hs := hp.small
      refine EvP_succ ?_
      simp only [spec_l1Cur_triple.l0]
      obtain ⟨v, t1, s1, e1, v0, v1, ht, ht'⟩ := pick_eq hl t s 3 h0 (by omega) (by omega)
      have hv := v1 (by omega)
      rw [e1]
      simp only [Option.bind_some]
      obtain ⟨k, rfl⟩ := Int.eq_ofNat_of_zero_le v0
      rw [riBerg_eq hp.1 (by omega) (by omega)]
      simp only [Option.bind_some]
      have hk := kid_le hp.1 (k := k + 0)
      have hkp := hp.1.kid (k + 0)
      have hkl := hkp.lt
      refine EvP_true h (EvP_bind (riPair_ev (by omega) (by omega)) ?_)
      by_cases h2 : OkP (kid (k + 0) m n).1 (kid (k + 0) m n).2
      · exact EvP_true (decide_eq_true h2) (ih _ _ _ _ _ h2 (by unfold wrap64; omega) (by omega) (by omega))
      · exact EvP_false (by simpa using h2) (ih _ _ _ _ _ hp (by unfold wrap64; omega) (by omega) (by omega))
    · exact last m n x t s hp h h0 (by omega)
theorem draw_triple {l : List Int} (hl : Bytes l) : ∃ w, Ev (fun k => spec_DrawPriceWord.f k l) w ∧ w.length ≤ 100 := by
  have h : EvP Short (fun k => spec_l1Cur_triple.f k l 0 0) := by
    unfold spec_l1Cur_triple.f
    obtain ⟨v, t1, s1, e1, v0, v1, ht, ht'⟩ := pick_eq hl 0 0 9 (by omega) (by omega) (by omega)
    have := v1 (by omega)
    rw [e1]
    simp only [Option.bind_some]
    exact triple_l0 hl 9 2 1 v t1 s1 (by decide) (by omega) (by omega) (by omega)
  obtain ⟨r, h1, h2⟩ := h
  unfold spec_DrawPriceWord.f spec_DrawIsRight.f
  exact ⟨r.1, Ev.bind (f := fun _ (b : List Int) => some b) (Ev.bind (f := fun _ (b : List Int × Int × Int) => some b.1) h1 Ev_some) Ev_some, h2⟩
theorem draw_number {l : List Int} (hl : Bytes l) : ∃ r, spec_DrawWordOfRank.f l = some r ∧ -1 ≤ r ∧ r ≤ 4611686018427387904 := by
  unfold spec_DrawWordOfRank.f
  obtain ⟨v, t1, s1, e1, ht, ht'⟩ := one_eq hl 0 0 6 (by omega) (by omega) (by omega)
  rw [e1]
  simp only [Option.bind_some]
  split
  · obtain ⟨u, t2, s2, e2, hu, _⟩ := among_eq hl t1 s1 ([(-1), 0, 1, 581130732, 581130733, 4611686018427387904] : List Int) (by omega) (by omega) (by simp) (by simp)
    rw [e2]
    refine ⟨u, rfl, ?_⟩
    simp only [List.mem_cons, List.not_mem_nil, or_false] at hu
    omega
  · obtain ⟨u, t2, s2, e2, u0, u1, _⟩ := pick_eq hl t1 s1 100000 (by omega) (by omega) (by omega)
    have := u1 (by omega)
    rw [e2]
    exact ⟨u, rfl, by show -1 ≤ u; omega, by show u ≤ 4611686018427387904; omega⟩
/-- The word of a number, of both programs. -/
theorem word_rank {r : Int} (h0 : -1 ≤ r) (h1 : r ≤ 4611686018427387904) : ∃ q : List Int × Bool, Ev (fun j => impl_WordOfRank.f j r) q ∧ Ev (fun j => spec_WordOfRank.f j r) q ∧ (q = ([], false) ∨ ∃ n v, n ≤ 18 ∧ v < 3 ^ n ∧ r = ((sh n + v : Nat) : Int) ∧ q = (toI (dig n v), true)) := by
  by_cases hr : r < 0
  · exact ⟨_, wordOfRank_neg hr, spec_word_no (.inl hr), .inl rfl⟩
  · obtain ⟨x, rfl⟩ := Int.eq_ofNat_of_zero_le (show 0 ≤ r by omega)
    by_cases hx : x < 581130733
    · obtain ⟨n, g1, g2, g3⟩ := ans_of hx
      have hs := sh_step n
      exact ⟨_, impl_word_yes g1 g2 g3, spec_word_yes g1 g2 g3, .inr ⟨n, x - sh n, g1, by omega, by omega, rfl⟩⟩
    · exact ⟨_, impl_word_far (by omega) (by omega), spec_word_no (.inr (by omega)), .inl rfl⟩
theorem rank_toI {w : List Nat} (hd : Digs w) (hn : w.length ≤ 18) : rankR (toI w) = (((sh w.length + val w : Nat) : Int), true) := by
  obtain ⟨p1, p2⟩ := path_toI hd (by omega)
  unfold isPathB at p1
  simp only [Bool.and_eq_true] at p1
  unfold rankR
  rw [if_pos ⟨by rw [toI_len]; exact hn, p1.2⟩, toI_len, p2]
theorem law_j6 {r : Int} {q : List Int × Bool} (h : q = ([], false) ∨ ∃ n v, n ≤ 18 ∧ v < 3 ^ n ∧ r = ((sh n + v : Nat) : Int) ∧ q = (toI (dig n v), true)) :
    Ev (fun j => if q.2 = true then (impl_RankOfWord.f j q.1).bind fun b => (if b.2 = true then (some (b.1 == r)) else (some false)) else (some true)) true := by
  rcases h with rfl | ⟨n, v, hn, hv, rfl, rfl⟩
  · exact Ev_false (by simp) Ev_some
  · have hl := dig_len n v
    have g := impl_rank (toI (dig n v))
    rw [rank_toI (dig_digs n v) (by omega), hl, val_dig n v hv] at g
    refine Ev_true rfl (Ev.bind g (Ev_true rfl ?_))
    rw [beq_self_eq_true]
    exact Ev_some
theorem law_j4 {l : List Int} (hl : Bytes l) : Ev (fun j => laws_FnWordsOfTriples.j4 j l) true := by
  refine Ev_succ ?_
  simp only [laws_FnWordsOfTriples.j4]
  obtain ⟨w, hw, hwl⟩ := draw_rank hl
  obtain ⟨r, hr, r0, r1⟩ := draw_number hl
  obtain ⟨q, q1, q2, q3⟩ := word_rank r0 r1
  refine Ev.bind hw (Ev.bind (impl_rank w) (Ev.bind (spec_rank (by omega)) ?_))
  rw [hr]
  simp only [Option.bind_some]
  have hql : q.1.length ≤ 100 := by
    rcases q3 with rfl | ⟨n, v, hn, _, _, rfl⟩
    · simp
    · show (toI (dig n v)).length ≤ 100
      rw [toI_len, dig_len]; omega
  refine Ev.bind q1 (Ev.bind q2 (Ev_false (by simp) (Ev_true (by first | rfl | trivial) (Ev_false (by simp) (Ev.bind (vSame_same (by omega)) ?_)))))
  refine Ev_succ ?_
  simp only [laws_FnWordsOfTriples.j5]
  refine Ev_false (by simp) ?_
  by_cases hk : w.length ≤ 18 ∧ allB 0 2 w = true
  · have hR : rankR w = (((sh w.length + val (w.map Int.toNat) : Nat) : Int), true) := by unfold rankR; rw [if_pos hk]
    rw [hR]
    obtain ⟨d1, d2⟩ := digs_of hk.2
    have hv := val_lt _ d1
    rw [List.length_map] at hv
    have hs := sh_step w.length
    have g := impl_word_yes (r := sh w.length + val (w.map Int.toNat)) (n := w.length) hk.1 (by omega) (by omega)
    have hdv := dig_val _ d1
    rw [List.length_map] at hdv
    rw [Nat.add_sub_cancel_left, hdv, d2] at g
    have hvw : Ev (fun j => laws_vSame.f j w w) true := vSame_same (by omega)
    refine Ev_true rfl (Ev.bind g (Ev_true rfl (Ev.bind hvw ?_)))
    refine Ev_succ ?_
    simp only [laws_FnWordsOfTriples.j6]
    exact Ev_false (by simp) (law_j6 q3)
  · have hR : rankR w = (0, false) := by unfold rankR; rw [if_neg hk]
    rw [hR]
    exact Ev_false (by simp) (law_j6 q3)
theorem law_j2 {l : List Int} (hl : Bytes l) : Ev (fun j => laws_FnWordsOfTriples.j2 j l) true := by
  have h4 := law_j4 hl
  refine Ev_succ ?_
  simp only [laws_FnWordsOfTriples.j2]
  obtain ⟨x, hx, hxl⟩ := draw_triple hl
  refine Ev.bind hx ?_
  have hright := isRight_ev x
  by_cases hg : GoodT x
  · rw [isR_true hg] at hright
    obtain ⟨m, n, hok, rfl⟩ := hg
    obtain ⟨w0, d0, e0⟩ := has_word 0 (.inl rfl) m m n (Nat.le_refl _) hok.1
    obtain ⟨w3, d3, e3⟩ := has_word 3 (.inr rfl) m m n (Nat.le_refl _) hok.1
    have s0 : sumP 0 w0 ≤ 1000000000 := by unfold sumP; rw [e0]; exact hok.2
    have s3 : sumP 3 w3 ≤ 1000000000 := by unfold sumP; rw [e3]; exact hok.2
    obtain ⟨_, _, l0⟩ := sum_small s0
    obtain ⟨_, _, l3⟩ := sum_small s3
    have a1 := wordP_trip d3 s3
    have a2 := foWordP_trip d3 s3
    have a3 := wordB_trip d0 s0
    have a4 := foWordB_trip d0 s0
    have b1 : rightW 3 w3 = (trip m n, true) := by unfold rightW; rw [if_pos s3, e3]
    have b2 : rightW 0 w0 = (trip m n, true) := by unfold rightW; rw [if_pos s0, e0]
    rw [e3] at a1 a2
    rw [e0] at a3 a4
    have hv3 : Ev (fun j => laws_vSame.f j (toI w3) (toI w3)) true := vSame_same (by rw [toI_len]; omega)
    have hv0 : Ev (fun j => laws_vSame.f j (toI w0) (toI w0)) true := vSame_same (by rw [toI_len]; omega)
    have hvt : Ev (fun j => laws_vSame.f j (trip m n) (trip m n)) true := vSame_same (by simp [trip])
    refine Ev.bind a1 (Ev.bind a2 (Ev.bind a3 (Ev.bind a4 (Ev_false (by simp) (Ev.bind hv3 (Ev_true rfl (Ev_false (by simp) (Ev.bind hv0 (Ev_true rfl (Ev.bind hright (Ev_false (by simp) ?_)))))))))))
    refine Ev_succ ?_
    simp only [laws_FnWordsOfTriples.j3]
    refine Ev_false (by simp) (Ev_true (by first | rfl | trivial) (Ev.bind (impl_rightP _) (Ev.bind (impl_rightB _) ?_)))
    rw [toI_len, toI_len]
    by_cases g3 : w3.length ≤ 40
    · obtain ⟨p1, p2⟩ := path_toI d3 g3
      have c1 : rightR 3 (toI w3) = (trip m n, true) := by unfold rightR; rw [if_pos p1, p2]; exact b1
      rw [c1]
      refine Ev_true (by omega) (Ev_true rfl (Ev.bind hvt (Ev_true rfl ?_)))
      by_cases g0 : w0.length ≤ 40
      · obtain ⟨p1, p2⟩ := path_toI d0 g0
        have c2 : rightR 0 (toI w0) = (trip m n, true) := by unfold rightR; rw [if_pos p1, p2]; exact b2
        rw [c2]
        exact Ev_true (by omega) (Ev_true rfl (Ev.bind hvt (Ev_true rfl h4)))
      · exact Ev_false (by omega) h4
    · refine Ev_false (by omega) ?_
      by_cases g0 : w0.length ≤ 40
      · obtain ⟨p1, p2⟩ := path_toI d0 g0
        have c2 : rightR 0 (toI w0) = (trip m n, true) := by unfold rightR; rw [if_pos p1, p2]; exact b2
        rw [c2]
        exact Ev_true (by omega) (Ev_true rfl (Ev.bind hvt (Ev_true rfl h4)))
      · exact Ev_false (by omega) h4
  · rw [isR_false hg] at hright
    have hv : Ev (fun j => laws_vSame.f j [] []) true := vSame_same (by simp)
    refine Ev.bind (wordP_no hg) (Ev.bind (foWordP_no hg) (Ev.bind (wordB_no hg) (Ev.bind (foWordB_no hg) (Ev_false (by simp) (Ev.bind hv (Ev_true rfl (Ev_false (by simp) (Ev.bind hv (Ev_true rfl (Ev.bind hright (Ev_false (by simp) ?_)))))))))))
    refine Ev_succ ?_
    simp only [laws_FnWordsOfTriples.j3]
    exact Ev_false (by simp) (Ev_false (by simp) h4)
theorem rightR_told {o : Nat} {w : List Int} (h : (rightR o w).2 = true) : ∃ v, Digs v ∧ toI v = w ∧ sumP o v ≤ 1000000000 ∧ rightR o w = (trip (reach o v).1 (reach o v).2, true) := by
  unfold rightR at h ⊢
  split at h
  · rename_i hp
    rw [if_pos hp]
    have h2 := hp
    unfold isPathB at h2
    simp only [Bool.and_eq_true] at h2
    obtain ⟨d1, d2⟩ := digs_of h2.2
    unfold rightW at h ⊢
    split at h
    · rename_i hs
      rw [if_pos hs]
      exact ⟨_, d1, d2, hs, rfl⟩
    · cases h
  · cases h
theorem rightR_short (o : Nat) (w : List Int) : (rightR o w).1.length ≤ 3 := by
  unfold rightR rightW
  split
  · split
    · exact Nat.le_refl 3
    · simp
  · simp
theorem FnWordsOfTriples : laws_FnWordsOfTriples.Pure := by
  intro l m hl1 hl2 hl3 hm1 hm2 hm3
  have hl := Bytes.of hl2 hl3
  have hm := Bytes.of hm2 hm3
  refine Ev_out (g := fun k => laws_FnWordsOfTriples.f k l m) ?_
  unfold laws_FnWordsOfTriples.f
  obtain ⟨b, hb⟩ := big_eq l m
  rw [hb]
  simp only [Option.bind_some]
  by_cases h : b = true
  · exact Ev_true h Ev_some
  refine Ev_false h ?_
  obtain ⟨w, hw, hwl⟩ := draw_word hl
  have q0 := rightR_short 0 w
  have q3 := rightR_short 3 w
  have h2 := law_j2 hm
  have hvw : Ev (fun j => laws_vSame.f j w w) true := vSame_same (by omega)
  refine Ev.bind hw (Ev.bind (impl_rightB w) (Ev.bind (spec_rightB (by omega)) (Ev.bind (impl_rightP w) (Ev.bind (spec_rightP (by omega)) (Ev_false (by simp) (Ev.bind (vSame_same (by omega)) (Ev_true rfl (Ev_false (by simp) (Ev.bind (vSame_same (by omega)) ?_)))))))))
  have hj1 : Ev (fun j => laws_FnWordsOfTriples.j1 j m w (rightR 3 w).1 (rightR 3 w).2) true := by
    refine Ev_succ ?_
    simp only [laws_FnWordsOfTriples.j1]
    by_cases hr : (rightR 3 w).2 = true
    · obtain ⟨v, d1, d2, d3, d4⟩ := rightR_told hr
      have g := wordP_trip d1 d3
      rw [d2] at g
      rw [d4]
      exact Ev_true rfl (Ev.bind g (Ev_true rfl (Ev.bind hvw (Ev_true rfl h2))))
    · exact Ev_false hr h2
  refine Ev_succ ?_
  simp only [laws_FnWordsOfTriples.j0]
  refine Ev_false (by simp) ?_
  by_cases hr : (rightR 0 w).2 = true
  · obtain ⟨v, d1, d2, d3, d4⟩ := rightR_told hr
    have g := wordB_trip d1 d3
    rw [d2] at g
    rw [d4]
    exact Ev_true rfl (Ev.bind g (Ev_true rfl (Ev.bind hvw (Ev_true rfl hj1))))
  · exact Ev_false hr hj1
end Go.Proofs.Ytnfbkakblnppaaa.Pure

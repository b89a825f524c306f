/- Several parts in one text: Choices drawn from bytes: each comes to a number within its bounds. The laws' test of their codes' sizes. The laws' own comparisons of lists. The draws of matrices come to an end, and what they give is small. -/
import Derived.Test.YtldkkfpodldbgaaMx4
import Derived.Test.YtldkkfpodldbgaaQEv
import Derived.Laws.BitsAllLaws
import Derived.Test.YtldkkfpodldbgaaMx3
import Derived.Test.YtldkkfpodldbgaaMx8
import Derived.Test.YtldkkfpodldbgaaMx5
import Derived.Test.YtldkkfpodldbgaaQMA
namespace Go.Proofs.Ytldkkfpodldbgaa.Q
open Go.RowKit Go.Proofs.Ytldkkfpodldbgaa.P Go.Proofs.YtldkkfpodldbgaaW.PrintWords Go.Proofs.YtldkkfpodldbgaaW.PrintLast

/-- Bytes. -/
def Bytes (l : List Int) : Prop := l.length ≤ 1000000000000000 ∧ ∀ x ∈ l, 0 ≤ x ∧ x ≤ 255
theorem Bytes.of {l : List Int} (h1 : l.length * 1 ≤ 140737488351232) (h2 : ∀ x ∈ l, (Lit.int .u8 x).wf = true) : Bytes l := by
  refine ⟨by omega, fun x hx => ?_⟩
  have h := h2 x hx
  simp [Lit.wf, IntKind.min, IntKind.max, IntKind.signed, IntKind.bits] at h
  omega
theorem seed_bound (x : Int) : 0 ≤ wrap64 (Go.bits .and .u64 (IntKind.u64.wrap x / 1099511627776) 255) ∧ wrap64 (Go.bits .and .u64 (IntKind.u64.wrap x / 1099511627776) 255) ≤ 255 := by
  have e := IntKind.wrap_u64 x
  have h1 : 0 ≤ IntKind.u64.wrap x / 1099511627776 ∧ IntKind.u64.wrap x / 1099511627776 < 18446744073709551616 := by
    rw [e]
    omega
  rw [u64_and _ _ h1.1 h1.2 (by omega) (by omega)]
  have h2 : (IntKind.u64.wrap x / 1099511627776).toNat &&& (255 : Int).toNat ≤ 255 := Nat.and_le_right
  rw [w64 (by omega) (by omega)]
  omega
theorem next_eq {l : List Int} (hl : Bytes l) (t s : Int) (h0 : 0 ≤ t) (h1 : t ≤ 1000000000000000) : ∃ v s', spec_l1Cur_next.f l t s = some (v, t + 1, s') ∧ 0 ≤ v ∧ v ≤ 255 := by
  have hn := hl.1
  unfold spec_l1Cur_next.f
  rw [w64 (x := t + 1) (by omega) (by omega)]
  by_cases h : t < (l.length : Int)
  · have hm : 0 ≤ rd l t ∧ rd l t ≤ 255 := by
      have h2 : t.toNat < l.length := by omega
      have h3 : rd l t = l[t.toNat] := by simp [rd, List.getD_eq_getElem?_getD, List.getElem?_eq_getElem h2]
      rw [h3]
      exact hl.2 _ (List.getElem_mem h2)
    rw [if_pos h, if_pos h0, if_pos (by omega), w64 (x := rd l t) (by omega) (by omega)]
    exact ⟨_, _, rfl, hm.1, hm.2⟩
  · rw [if_neg h, if_neg (by omega)]
    have h2 := seed_bound (IntKind.u64.wrap (IntKind.u64.wrap (s * 6364136223846793005)) + 1442695040888963407)
    exact ⟨_, _, rfl, h2.1, h2.2⟩
theorem pick_eq {l : List Int} (hl : Bytes l) (t s n : Int) (h0 : 0 ≤ t) (h1 : t ≤ 100000000000000) (hn : n ≤ 1000000000000) :
    ∃ v t' s', spec_l1Cur_pick.f l t s n = some (v, t', s') ∧ 0 ≤ v ∧ (1 ≤ n → v < n) ∧ t ≤ t' ∧ t' ≤ t + 2 := by
  unfold spec_l1Cur_pick.f
  by_cases h : n ≤ 1
  · rw [if_pos h]
    exact ⟨_, _, _, rfl, by omega, by omega, by omega, by omega⟩
  · rw [if_neg h]
    obtain ⟨v, s1, e1, v0, v1⟩ := next_eq hl t s h0 (by omega)
    rw [e1]
    simp only [Option.bind_some]
    by_cases h2 : n > 200
    · rw [if_pos h2]
      obtain ⟨u, s2, e2, u0, u1⟩ := next_eq hl (t + 1) s1 (by omega) (by omega)
      rw [e2]
      simp only [Option.bind_some]
      rw [if_neg (by omega), w64 (x := v * 256) (by omega) (by omega), w64 (x := v * 256 + u) (by omega) (by omega), Int.tmod_eq_emod_of_nonneg (by omega)]
      have h3 := Int.emod_nonneg (v * 256 + u) (show n ≠ 0 by omega)
      have h4 := Int.emod_lt_of_pos (v * 256 + u) (show 0 < n by omega)
      exact ⟨_, _, _, rfl, h3, fun _ => h4, by omega, by omega⟩
    · rw [if_neg h2, if_neg (by omega), Int.tmod_eq_emod_of_nonneg v0]
      have h3 := Int.emod_nonneg v (show n ≠ 0 by omega)
      have h4 := Int.emod_lt_of_pos v (show 0 < n by omega)
      exact ⟨_, _, _, rfl, h3, fun _ => h4, by omega, by omega⟩
theorem among_eq {l : List Int} (hl : Bytes l) (t s : Int) (m : List Int) (h0 : 0 ≤ t) (h1 : t ≤ 100000000000000) (hm : 1 ≤ m.length) (hm2 : m.length ≤ 1000000000) :
    ∃ v t' s', spec_l1Cur_among.f l t s m = some (v, t', s') ∧ v ∈ m ∧ t ≤ t' ∧ t' ≤ t + 2 := by
  unfold spec_l1Cur_among.f
  obtain ⟨v, t', s', e, v0, v1, ht, ht'⟩ := pick_eq hl t s (m.length : Int) h0 h1 (by omega)
  rw [e]
  simp only [Option.bind_some]
  have h2 := v1 (by omega)
  rw [if_pos v0, if_pos h2]
  have h3 : v.toNat < m.length := by omega
  have h4 : rd m v = m[v.toNat] := by simp [rd, List.getD_eq_getElem?_getD, List.getElem?_eq_getElem h3]
  exact ⟨_, _, _, rfl, by rw [h4]; exact List.getElem_mem h3, ht, ht'⟩
end Go.Proofs.Ytldkkfpodldbgaa.Q
namespace Go.Proofs.Ytldkkfpodldbgaa.Q
open Go.RowKit Go.Proofs.Ytldkkfpodldbgaa.P Go.Proofs.YtldkkfpodldbgaaW.PrintWords Go.Proofs.YtldkkfpodldbgaaW.PrintLast

theorem big_eq (l m : List Int) : ∃ b, laws_big.f l m = some b := by
  unfold laws_big.f
  split <;> exact ⟨_, rfl⟩
end Go.Proofs.Ytldkkfpodldbgaa.Q
namespace Go.Proofs.Ytldkkfpodldbgaa.Q
open Go.RowKit Go.Proofs.Ytldkkfpodldbgaa.P Go.Proofs.YtldkkfpodldbgaaW.PrintWords Go.Proofs.YtldkkfpodldbgaaW.PrintLast

theorem rdv {l : List Int} {i : Nat} (h : i < l.length) : rd l (i : Int) = l[i] := by
  simp [rd, List.getD_eq_getElem?_getD, List.getElem?_eq_getElem h]
theorem rdvRow {l : List (List Int)} {i : Nat} (h : i < l.length) : rd_L1 l (i : Int) = l[i] := by
  simp [rd_L1, List.getD_eq_getElem?_getD, List.getElem?_eq_getElem h]
theorem dSame_l0 {l m : List Int} (hl : l.length = m.length) (hn : l.length ≤ 4611686018427387904) (d : Nat) : ∀ i : Nat, i + d = l.length → Ev (fun k => laws_dSame.l0 k l m (l.length : Int) (i : Int)) (decide (l.drop i = m.drop i)) := by
  induction d with
  | zero =>
    intro i hi
    refine Ev_succ ?_
    simp only [laws_dSame.l0]
    rw [List.drop_of_length_le (by omega), List.drop_of_length_le (by omega)]
    exact Ev_false (by omega) Ev_some
  | succ d ih =>
    intro i hi
    have h1 : i < l.length := by omega
    have h2 : i < m.length := by omega
    refine Ev_succ ?_
    simp only [laws_dSame.l0]
    rw [rdv h1, rdv h2, List.drop_eq_getElem_cons h1, List.drop_eq_getElem_cons h2, w64 (by omega) (by omega)]
    refine Ev_true (by omega) (Ev_true (by omega) (Ev_true (by omega) (Ev_true (by omega) ?_)))
    by_cases he : l[i] = m[i]
    · have e : decide (l[i] :: l.drop (i + 1) = m[i] :: m.drop (i + 1)) = decide (l.drop (i + 1) = m.drop (i + 1)) :=
        decide_eq_decide.2 ⟨fun h => (List.cons.inj h).2, fun h => by rw [he, h]⟩
      rw [e]
      exact Ev_true he (ih (i + 1) (by omega))
    · have e : decide (l[i] :: l.drop (i + 1) = m[i] :: m.drop (i + 1)) = false := by
        rw [decide_eq_false_iff_not]
        intro h
        exact he (List.cons.inj h).1
      rw [e]
      exact Ev_false he Ev_some
theorem dSame_ev {l m : List Int} (hn : l.length ≤ 4611686018427387904) : Ev (fun k => laws_dSame.f k l m) (decide (l = m)) := by
  unfold laws_dSame.f
  by_cases h : l.length = m.length
  · exact Ev_true (by omega) (dSame_l0 h hn l.length 0 (by omega))
  · have e : decide (l = m) = false := by
      rw [decide_eq_false_iff_not]
      intro he
      exact h (by rw [he])
    rw [e]
    exact Ev_false (by omega) Ev_some
theorem dSame_same {l : List Int} (hn : l.length ≤ 4611686018427387904) : Ev (fun k => laws_dSame.f k l l) true := by
  have h := dSame_ev (m := l) hn
  simpa using h
theorem dLists_l0 {L : List (List Int)} (hn : L.length ≤ 4611686018427387904) (hx : ∀ x ∈ L, x.length ≤ 4611686018427387904) (d : Nat) : ∀ i : Nat, i + d = L.length → Ev (fun k => laws_dLists.l0 k L L (L.length : Int) (i : Int)) true := by
  induction d with
  | zero =>
    intro i hi
    refine Ev_succ ?_
    simp only [laws_dLists.l0]
    exact Ev_false (by omega) Ev_some
  | succ d ih =>
    intro i hi
    have h1 : i < L.length := by omega
    refine Ev_succ ?_
    simp only [laws_dLists.l0]
    rw [rdvRow h1, w64 (by omega) (by omega)]
    exact Ev_true (by omega) (Ev_true (by omega) (Ev_true (by omega) (Ev_true (by omega) (Ev.bind (dSame_same (hx _ (List.getElem_mem h1))) (Ev_true rfl (ih (i + 1) (by omega)))))))
theorem dLists_same {L : List (List Int)} (hn : L.length ≤ 4611686018427387904) (hx : ∀ x ∈ L, x.length ≤ 4611686018427387904) : Ev (fun k => laws_dLists.f k L L) true := by
  unfold laws_dLists.f
  exact Ev_true rfl (dLists_l0 hn hx L.length 0 (by omega))
end Go.Proofs.Ytldkkfpodldbgaa.Q
namespace Go.Proofs.Ytldkkfpodldbgaa.Q
open Go.RowKit Go.Proofs.Ytldkkfpodldbgaa.P Go.Proofs.YtldkkfpodldbgaaW.PrintWords Go.Proofs.YtldkkfpodldbgaaW.PrintLast Go.Proofs.Ytldkkfpodldbgaa.G
/-- It comes to something of which P holds. -/
def EvP {α : Type} (P : α → Prop) (g : Nat → Option α) : Prop := ∃ r, Ev g r ∧ P r
theorem EvP_succ {α : Type} {P : α → Prop} {g : Nat → Option α} (h : EvP P (fun k => g (k + 1))) : EvP P g := h.imp fun _ h => ⟨Ev_succ h.1, h.2⟩
theorem EvP_some {α : Type} {P : α → Prop} {a : α} (h : P a) : EvP P (fun _ => some a) := ⟨a, Ev_some, h⟩
theorem EvP_true {α : Type} {P : α → Prop} {c : Prop} [Decidable c] {f g : Nat → Option α} (hc : c) (h : EvP P f) : EvP P (fun k => if c then f k else g k) := h.imp fun _ h => ⟨Ev_true hc h.1, h.2⟩
theorem EvP_false {α : Type} {P : α → Prop} {c : Prop} [Decidable c] {f g : Nat → Option α} (hc : ¬ c) (h : EvP P g) : EvP P (fun k => if c then f k else g k) := h.imp fun _ h => ⟨Ev_false hc h.1, h.2⟩
theorem EvP_ite {α : Type} {P : α → Prop} {c : Prop} [Decidable c] {f g : Nat → Option α} (h1 : c → EvP P f) (h2 : ¬ c → EvP P g) : EvP P (fun k => if c then f k else g k) := by
  by_cases hc : c
  · exact EvP_true hc (h1 hc)
  · exact EvP_false hc (h2 hc)
theorem EvP_bind {α β : Type} {P : β → Prop} {g : Nat → Option α} {f : Nat → α → Option β} {a : α} (h : Ev g a) (k : EvP P (fun n => f n a)) : EvP P (fun n => (g n).bind (f n)) := k.imp fun _ k => ⟨Ev.bind h k.1, k.2⟩
theorem EvP_mono {α : Type} {P Q : α → Prop} {g : Nat → Option α} (h : EvP P g) (hPQ : ∀ r, P r → Q r) : EvP Q g := h.imp fun r h => ⟨h.1, hPQ r h.2⟩
theorem one_eq {l : List Int} (hl : Bytes l) (t s n : Int) (h0 : 0 ≤ t) (h1 : t ≤ 100000000000000) (hn : n ≤ 1000000000000) : ∃ v t' s', spec_l1Cur_one.f l t s n = some (v, t', s') ∧ t ≤ t' ∧ t' ≤ t + 2 := by
  obtain ⟨v, t', s', e, _, _, h2, h3⟩ := pick_eq hl t s n h0 h1 hn
  unfold spec_l1Cur_one.f
  rw [e]
  exact ⟨_, _, _, rfl, h2, h3⟩
/-- A square of rows. -/
def Shp (n : Nat) (M : List (List Int)) : Prop := M.length = n ∧ ∀ r ∈ M, r.length = n
theorem Shp.row {n : Nat} {M : List (List Int)} (h : Shp n M) {i : Nat} (hi : i < n) : (rd_L1 M (i : Int)).length = n := by
  have e : rd_L1 M (i : Int) = M[i]'(by rw [h.1]; exact hi) := by simp [rd_L1, List.getD_eq_getElem?_getD, List.getElem?_eq_getElem (show i < M.length by rw [h.1]; exact hi)]
  rw [e]
  exact h.2 _ (List.getElem_mem _)
theorem Shp.set {n : Nat} {M : List (List Int)} (h : Shp n M) (i : Nat) {r : List Int} (hr : r.length = n) : Shp n (M.set i r) := by
  refine ⟨by rw [List.length_set]; exact h.1, fun x hx => ?_⟩
  rcases List.mem_or_eq_of_mem_set hx with h1 | h1
  · exact h.2 x h1
  · rw [h1]; exact hr
theorem Shp.put {n : Nat} {M : List (List Int)} (h : Shp n M) {i : Nat} (hi : i < n) (j : Nat) (x : Int) : Shp n (M.set i ((rd_L1 M (i : Int)).set j x)) := h.set i (by rw [List.length_set]; exact h.row hi)
theorem shp_unit (n : Nat) : Shp n (unitL n) := by
  refine ⟨rowsOf_length _ _ _, fun r hr => ?_⟩
  obtain ⟨i, hi, rfl⟩ := List.mem_map.1 hr
  simp [rowOf]
/-- What a draw gives: small rows, and not far behind. -/
def SmallM (t : Int) (B : Int) (r : List (List Int) × Int × Int) : Prop := r.1.length ≤ 5 ∧ (∀ x ∈ r.1, x.length ≤ 4) ∧ t ≤ r.2.1 ∧ r.2.1 ≤ t + B
theorem SmallM.more {t t' B B' : Int} {r : List (List Int) × Int × Int} (h : SmallM t' B' r) (h1 : t ≤ t') (h2 : t' + B' ≤ t + B) : SmallM t B r := ⟨h.1, h.2.1, by have := h.2.2.1; omega, by have := h.2.2.2; omega⟩
theorem SmallM.of {n : Nat} {M : List (List Int)} (h : Shp n M) (hn : n ≤ 4) {t t' B s : Int} (h1 : t ≤ t') (h2 : t' ≤ t + B) : SmallM t B (M, t', s) := ⟨by show M.length ≤ 5; rw [h.1]; omega, fun x hx => by rw [h.2 x hx]; exact hn, h1, h2⟩
theorem cast0 (n : Nat) : ((n : Nat) : Int).toNat = n := Int.toNat_natCast n
section
variable {l : List Int} (hl : Bytes l) {n : Nat} (h1n : 1 ≤ n) (hn : n ≤ 4)
include hl h1n hn
theorem mat_j6 {M : List (List Int)} (h : Shp n M) {t s : Int} (h0 : 0 ≤ t) (h1 : t ≤ 1000000000) : EvP (SmallM t 100) (fun k => spec_l1Cur_matrix.j6 k (n : Int) l t s M) := by
  have hlen := h.1
  refine EvP_succ ?_
  simp only [spec_l1Cur_matrix.j6]
  obtain ⟨v, t1, s1, e1, v0, v1, ht, ht'⟩ := pick_eq hl t s 20 h0 (by omega) (by omega)
  rw [e1]
  simp only [Option.bind_some]
  refine EvP_ite (fun _ => ?_) (fun _ => EvP_ite (fun _ => ?_) (fun _ => EvP_ite (fun _ => ?_) (fun _ => EvP_some (SmallM.of h hn ht (by omega)))))
  · obtain ⟨a, t2, s2, e2, a0, a1, ht2, ht2'⟩ := pick_eq hl t1 s1 (n : Int) (by omega) (by omega) (by omega)
    rw [e2]
    simp only [Option.bind_some]
    have a2 := a1 (by omega)
    obtain ⟨p, rfl⟩ := Int.eq_ofNat_of_zero_le a0
    have hrow := h.row (show p < n by omega)
    refine EvP_true a0 (EvP_true (by omega) ?_)
    obtain ⟨b, t3, s3, e3, b0, b1, ht3, ht3'⟩ := pick_eq hl t2 s2 (n : Int) (by omega) (by omega) (by omega)
    rw [e3]
    simp only [Option.bind_some]
    have b2 := b1 (by omega)
    obtain ⟨c, t4, s4, e4, _, ht4, ht4'⟩ := among_eq hl t3 s3 ([1000000, 1000001, (-1000001), 1001, 30001, (-9223372036854775808)] : List Int) (by omega) (by omega) (by simp) (by simp)
    rw [e4]
    simp only [Option.bind_some]
    refine EvP_true b0 (EvP_true (by omega) (EvP_some (SmallM.of (h.put (i := p) (by omega) _ _) hn (by omega) (by omega))))
  · refine EvP_true (by omega) (EvP_true (by omega) (EvP_true (by omega) (EvP_some ⟨by show (M ++ _).length ≤ 5; rw [List.length_append, List.length_singleton]; omega, fun x hx => ?_, ht, by show t1 ≤ t + 100; omega⟩)))
    rcases List.mem_append.1 hx with h2 | h2
    · rw [h.2 x h2]; exact hn
    · rw [List.mem_singleton.1 h2, List.length_replicate]; omega
  · unfold cutRow.f
    rw [if_pos (by omega)]
    simp only [Option.bind_some]
    exact EvP_some ⟨by show (M.drop 1).length ≤ 5; rw [List.length_drop]; omega, fun x hx => by rw [h.2 x (List.mem_of_mem_drop hx)]; exact hn, ht, by show t1 ≤ t + 100; omega⟩
theorem mat_l0 {T : Int} (hT : T ≤ 900000000) : ∀ (d i : Nat) (M : List (List Int)) (t s : Int), i + d = n → Shp n M → 0 ≤ t → t + 10 * d ≤ T → EvP (SmallM t (100 + 10 * d)) (fun k => spec_l1Cur_matrix.l0 k (n : Int) (n : Int) (i : Int) l t s M)
  | 0, i, M, t, s, hi, h, h0, h1 => by
    refine EvP_succ ?_
    simp only [spec_l1Cur_matrix.l0]
    exact EvP_false (by omega) (EvP_mono (mat_j6 hl h1n hn h h0 (by omega)) fun r hr => hr.more (by omega) (by omega))
  | d + 1, i, M, t, s, hi, h, h0, h1 => by
    refine EvP_succ ?_
    simp only [spec_l1Cur_matrix.l0]
    refine EvP_true (by omega) ?_
    rw [h.1]
    have go : ∀ (e j : Nat) (M : List (List Int)) (t s : Int), j + e = n → Shp n M → 0 ≤ t → t + 10 * d + 2 * e ≤ T → EvP (SmallM t (100 + 10 * d + 2 * e)) (fun k => spec_l1Cur_matrix.l1 k (n : Int) (i : Int) (n : Int) (i : Int) (n : Int) (j : Int) l t s M) := by
      intro e
      induction e with
      | zero =>
        intro j M t s hj h h0 h1
        refine EvP_succ ?_
        simp only [spec_l1Cur_matrix.l1]
        rw [w64 (x := (i : Int) + 1) (by omega) (by omega)]
        exact EvP_false (by omega) (EvP_mono (mat_l0 hT d (i + 1) M t s (by omega) h h0 (by omega)) fun r hr => hr.more (by omega) (by omega))
      | succ e ih =>
        intro j M t s hj h h0 h1
        have hlen := h.1
        have hrow := h.row (show i < n by omega)
        refine EvP_succ ?_
        simp only [spec_l1Cur_matrix.l1]
        refine EvP_true (by omega) (EvP_true (by omega) (EvP_true (by omega) ?_))
        obtain ⟨v, t1, s1, e1, v0, v1, ht, ht'⟩ := pick_eq hl t s 9 h0 (by omega) (by omega)
        rw [e1]
        simp only [Option.bind_some]
        refine EvP_true (by omega) (EvP_true (by omega) ?_)
        rw [w64 (x := (j : Int) + 1) (by omega) (by omega), cast0, cast0]
        exact EvP_mono (ih (j + 1) _ t1 s1 (by omega) (h.put (show i < n by omega) j _) (by omega) (by omega)) fun r hr => hr.more (by omega) (by omega)
    exact EvP_mono (go n 0 M t s (by omega) h h0 (by omega)) fun r hr => hr.more (by omega) (by omega)
theorem mat_l3 {x9 : Int} {p q : Nat} (hp : p < n) (hq : q < n) {t s : Int} {B : Int} (hnext : ∀ M : List (List Int), Shp n M → EvP (SmallM t B) (fun k => spec_l1Cur_matrix.l2 k (n : Int) (wrap64 (x9 - 1)) l t s M)) :
    ∀ (d j : Nat) (M : List (List Int)), j + d = n → Shp n M → EvP (SmallM t B) (fun k => spec_l1Cur_matrix.l3 k (n : Int) x9 (p : Int) (q : Int) (n : Int) (j : Int) l t s M)
  | 0, j, M, hj, h => by
    have _ := hl
    refine EvP_succ ?_
    simp only [spec_l1Cur_matrix.l3]
    exact EvP_false (by omega) (hnext M h)
  | d + 1, j, M, hj, h => by
    have hlen := h.1
    have hrp := h.row hp
    have hrq := h.row hq
    refine EvP_succ ?_
    simp only [spec_l1Cur_matrix.l3]
    refine EvP_true (by omega) ?_
    rw [w64 (x := (j : Int) + 1) (by omega) (by omega)]
    refine EvP_ite (fun _ => mat_l3 hp hq hnext d (j + 1) M (by omega) h) (fun _ => ?_)
    refine EvP_true (by omega) (EvP_true (by omega) (EvP_true (by omega) (EvP_true (by omega) (EvP_true (by omega) (EvP_true (by omega) (EvP_true (by omega) ?_))))))
    rw [cast0, cast0]
    exact mat_l3 hp hq hnext d (j + 1) _ (by omega) (h.put hp j _)
theorem mat_l2 {T : Int} (hT : T ≤ 900000000) : ∀ (d : Nat) (x : Int) (M : List (List Int)) (t s : Int), x.toNat ≤ d → x ≤ 100 → Shp n M → 0 ≤ t → t + 4 * d ≤ T → EvP (SmallM t (100 + 4 * d)) (fun k => spec_l1Cur_matrix.l2 k (n : Int) x l t s M)
  | 0, x, M, t, s, hx, hx1, h, h0, h1 => by
    refine EvP_succ ?_
    simp only [spec_l1Cur_matrix.l2]
    refine EvP_false (by omega) (EvP_succ ?_)
    simp only [spec_l1Cur_matrix.j3]
    exact EvP_false (by simp) (EvP_mono (mat_j6 hl h1n hn h h0 (by omega)) fun r hr => hr.more (by omega) (by omega))
  | d + 1, x, M, t, s, hx, hx1, h, h0, h1 => by
    have stop : EvP (SmallM t (100 + 4 * ((d + 1 : Nat) : Int))) (fun k => spec_l1Cur_matrix.j3 k (n : Int) x false l t s M) := by
      refine EvP_succ ?_
      simp only [spec_l1Cur_matrix.j3]
      exact EvP_false (by simp) (EvP_mono (mat_j6 hl h1n hn h h0 (by omega)) fun r hr => hr.more (by omega) (by omega))
    refine EvP_succ ?_
    simp only [spec_l1Cur_matrix.l2]
    refine EvP_ite (fun hx0 => ?_) (fun _ => stop)
    by_cases h2 : (n : Int) > 1
    · rw [decide_eq_true h2]
      refine EvP_succ ?_
      simp only [spec_l1Cur_matrix.j3]
      refine EvP_true (by first | rfl | trivial) ?_
      obtain ⟨a, t2, s2, e2, a0, a1, ht2, ht2'⟩ := pick_eq hl t s (n : Int) h0 (by omega) (by omega)
      rw [e2]
      simp only [Option.bind_some]
      obtain ⟨b, t3, s3, e3, b0, b1, ht3, ht3'⟩ := pick_eq hl t2 s2 (n : Int) (by omega) (by omega) (by omega)
      rw [e3]
      simp only [Option.bind_some]
      have a2 := a1 (by omega)
      have b2 := b1 (by omega)
      obtain ⟨p, rfl⟩ := Int.eq_ofNat_of_zero_le a0
      obtain ⟨q, rfl⟩ := Int.eq_ofNat_of_zero_le b0
      rw [h.1]
      refine EvP_mono (mat_l3 hl h1n hn (show p < n by omega) (show q < n by omega) (B := 100 + 4 * (d : Int)) (fun M' h' => ?_) n 0 M (by omega) h) fun r hr => hr.more (by omega) (by omega)
      rw [w64 (by omega) (by omega)]
      exact mat_l2 hT d (x - 1) M' t3 s3 (by omega) (by omega) h' (by omega) (by omega)
    · rw [decide_eq_false h2]
      exact stop
theorem mat_l4 {T : Int} (hT : T ≤ 900000000) : ∀ (d i : Nat) (M : List (List Int)) (t s : Int), i + d = n → Shp n M → 0 ≤ t → t + 2 * d ≤ T → EvP (SmallM t (100 + 2 * d)) (fun k => spec_l1Cur_matrix.l4 k (n : Int) (n : Int) (i : Int) l t s M)
  | 0, i, M, t, s, hi, h, h0, h1 => by
    refine EvP_succ ?_
    simp only [spec_l1Cur_matrix.l4]
    exact EvP_false (by omega) (EvP_mono (mat_j6 hl h1n hn h h0 (by omega)) fun r hr => hr.more (by omega) (by omega))
  | d + 1, i, M, t, s, hi, h, h0, h1 => by
    have hlen := h.1
    have hrow := h.row (show i < n by omega)
    refine EvP_succ ?_
    simp only [spec_l1Cur_matrix.l4]
    refine EvP_true (by omega) (EvP_true (by omega) (EvP_true (by omega) ?_))
    obtain ⟨v, t1, s1, e1, _, ht, ht'⟩ := among_eq hl t s ([1, (-1), 2, (-2), 0] : List Int) h0 (by omega) (by simp) (by simp)
    rw [e1]
    simp only [Option.bind_some]
    refine EvP_true (by omega) ?_
    rw [w64 (x := (i : Int) + 1) (by omega) (by omega), cast0]
    exact EvP_mono (mat_l4 hT d (i + 1) _ t1 s1 (by omega) (h.put (show i < n by omega) i _) (by omega) (by omega)) fun r hr => hr.more (by omega) (by omega)
end
theorem size_n {x : Int} (h1 : 1 ≤ x) (h4 : x ≤ 4) : ∃ n : Nat, 1 ≤ n ∧ n ≤ 4 ∧ spec_l1Least.f x 4 = some x ∧ spec_l1Most.f 1 x = some (n : Int) := by
  obtain ⟨n, rfl⟩ := Int.eq_ofNat_of_zero_le (show 0 ≤ x by omega)
  refine ⟨n, by omega, by omega, ?_, ?_⟩
  · unfold spec_l1Least.f
    by_cases h : (n : Int) < 4
    · rw [if_pos h]
    · rw [if_neg h]; congr 1; omega
  · unfold spec_l1Most.f
    rw [if_neg (by omega)]
theorem matrix_evP {l : List Int} (hl : Bytes l) {x t s : Int} (h1 : 1 ≤ x) (h4 : x ≤ 4) (h0 : 0 ≤ t) (ht : t ≤ 1000000) : EvP (SmallM t 300) (fun k => spec_l1Cur_matrix.f k l t s x) := by
  obtain ⟨n, hn1, hn4, e1, e2⟩ := size_n h1 h4
  unfold spec_l1Cur_matrix.f
  rw [e1]
  simp only [Option.bind_some]
  rw [e2]
  simp only [Option.bind_some]
  refine EvP_bind (foUnit_ev (by omega)) ?_
  have hU := shp_unit n
  rw [hU.1]
  obtain ⟨v, t1, s1, e3, v0, v1, hta, htb⟩ := pick_eq hl t s 4 h0 (by omega) (by omega)
  rw [e3]
  simp only [Option.bind_some]
  refine EvP_ite (fun _ => ?_) (fun _ => EvP_ite (fun _ => ?_) (fun _ => EvP_ite (fun _ => ?_) (fun _ => ?_)))
  · exact EvP_mono (mat_l0 hl hn1 hn4 (T := 900000000) (by omega) n 0 _ t1 s1 (by omega) hU (by omega) (by omega)) fun r hr => hr.more (by omega) (by omega)
  · obtain ⟨a, t2, s2, e4, a0, a1, htc, htd⟩ := pick_eq hl t1 s1 6 (by omega) (by omega) (by omega)
    rw [e4]
    simp only [Option.bind_some]
    exact EvP_mono (mat_l2 hl hn1 hn4 (T := 900000000) (by omega) 6 a _ t2 s2 (by have := a1 (by omega); omega) (by have := a1 (by omega); omega) hU (by omega) (by omega)) fun r hr => hr.more (by omega) (by omega)
  · exact EvP_mono (mat_l4 hl hn1 hn4 (T := 900000000) (by omega) n 0 _ t1 s1 (by omega) hU (by omega) (by omega)) fun r hr => hr.more (by omega) (by omega)
  · exact EvP_mono (mat_j6 hl hn1 hn4 hU (by omega) (by omega)) fun r hr => hr.more (by omega) (by omega)
theorem size_at {l : List Int} (hl : Bytes l) {t s : Int} (h0 : 0 ≤ t) (h1 : t ≤ 1000000) : ∃ x t' s', spec_l1Cur_size.f l t s = some (x, t', s') ∧ 1 ≤ x ∧ x ≤ 4 ∧ t ≤ t' ∧ t' ≤ t + 2 := by
  obtain ⟨y, t2, s2, e2, hy, h1, h2⟩ := among_eq hl t s ([1, 2, 2, 3, 3, 4] : List Int) (by omega) (by omega) (by simp) (by simp)
  unfold spec_l1Cur_size.f
  rw [e2]
  simp only [List.mem_cons, List.not_mem_nil, or_false] at hy
  exact ⟨y, t2, s2, rfl, by omega, by omega, h1, by omega⟩
end Go.Proofs.Ytldkkfpodldbgaa.Q

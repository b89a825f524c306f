/- Several parts in one text: Choices drawn from bytes: each comes to a number within its bounds. The draws of chapter 9: a number up to a bound, and a prime number. The laws' test of their codes' sizes. The laws' own comparisons of lists. Reads of a row, and of its numbers, by what stands there. What the program's TwoSquares and AllTwoSquares come to. -/
import Derived.Test.YtpmbffchkcemoaaPx1
import Derived.Test.YtpmbffchkcemoaaQEv
import Derived.Laws.BitsAllLaws
import Derived.Test.YtpmbffchkcemoaaPx3
import Derived.Test.YtpmbffchkcemoaaPQ1
import Derived.Test.YtpmbffchkcemoaaPx4
namespace Go.Proofs.Ytpmbffchkcemoaa.Q
open Go.RowKit Go.Proofs.Ytpmbffchkcemoaa.P Go.Proofs.YtpmbffchkcemoaaW.PrintWords Go.Proofs.YtpmbffchkcemoaaW.PrintLast

/-- Bytes. -/
def Bytes (l : List Int) : Prop := l.length ≤ 1000000000000000 ∧ ∀ x ∈ l, 0 ≤ x ∧ x ≤ 255
theorem Bytes.of {l : List Int} (h1 : l.length * 1 ≤ 140737488351232) (h2 : ∀ x ∈ l, (Lit.int .u8 x).wf = true) : Bytes l := by
  refine ⟨by omega, fun x hx => ?_⟩
  have h := h2 x hx
  simp [Lit.wf, IntKind.min, IntKind.max, IntKind.signed, IntKind.bits] at h
  omega
theorem seed_bound (x : Int) : 0 ≤ wrap64 (Go.bits .and .u64 (IntKind.u64.wrap x / 1099511627776) 255) ∧ wrap64 (Go.bits .and .u64 (IntKind.u64.wrap x / 1099511627776) 255) ≤ 255 := by
  have e := IntKind.wrap_u64 x
  have h1 : 0 ≤ IntKind.u64.wrap x / 1099511627776 ∧ IntKind.u64.wrap x / 1099511627776 < 18446744073709551616 := by
    rw [e]
    omega
  rw [u64_and _ _ h1.1 h1.2 (by omega) (by omega)]
  have h2 : (IntKind.u64.wrap x / 1099511627776).toNat &&& (255 : Int).toNat ≤ 255 := Nat.and_le_right
  rw [w64 (by omega) (by omega)]
  omega
theorem next_eq {l : List Int} (hl : Bytes l) (t s : Int) (h0 : 0 ≤ t) (h1 : t ≤ 1000000000000000) : ∃ v s', spec_l1Cur_next.f l t s = some (v, t + 1, s') ∧ 0 ≤ v ∧ v ≤ 255 := by
  have hn := hl.1
  unfold spec_l1Cur_next.f
  rw [w64 (x := t + 1) (by omega) (by omega)]
  by_cases h : t < (l.length : Int)
  · have hm : 0 ≤ rd l t ∧ rd l t ≤ 255 := by
      have h2 : t.toNat < l.length := by omega
      have h3 : rd l t = l[t.toNat] := by simp [rd, List.getD_eq_getElem?_getD, List.getElem?_eq_getElem h2]
      rw [h3]
      exact hl.2 _ (List.getElem_mem h2)
    rw [if_pos h, if_pos h0, if_pos (by omega), w64 (x := rd l t) (by omega) (by omega)]
    exact ⟨_, _, rfl, hm.1, hm.2⟩
  · rw [if_neg h, if_neg (by omega)]
    have h2 := seed_bound (IntKind.u64.wrap (IntKind.u64.wrap (s * 6364136223846793005)) + 1442695040888963407)
    exact ⟨_, _, rfl, h2.1, h2.2⟩
theorem pick_eq {l : List Int} (hl : Bytes l) (t s n : Int) (h0 : 0 ≤ t) (h1 : t ≤ 100000000000000) (hn : n ≤ 1000000000000) :
    ∃ v t' s', spec_l1Cur_pick.f l t s n = some (v, t', s') ∧ 0 ≤ v ∧ (1 ≤ n → v < n) ∧ t ≤ t' ∧ t' ≤ t + 2 := by
  unfold spec_l1Cur_pick.f
  by_cases h : n ≤ 1
  · rw [if_pos h]
    exact ⟨_, _, _, rfl, by omega, by omega, by omega, by omega⟩
  · rw [if_neg h]
    obtain ⟨v, s1, e1, v0, v1⟩ := next_eq hl t s h0 (by omega)
    rw [e1]
    simp only [Option.bind_some]
    by_cases h2 : n > 200
    · rw [if_pos h2]
      obtain ⟨u, s2, e2, u0, u1⟩ := next_eq hl (t + 1) s1 (by omega) (by omega)
      rw [e2]
      simp only [Option.bind_some]
      rw [if_neg (by omega), w64 (x := v * 256) (by omega) (by omega), w64 (x := v * 256 + u) (by omega) (by omega), Int.tmod_eq_emod_of_nonneg (by omega)]
      have h3 := Int.emod_nonneg (v * 256 + u) (show n ≠ 0 by omega)
      have h4 := Int.emod_lt_of_pos (v * 256 + u) (show 0 < n by omega)
      exact ⟨_, _, _, rfl, h3, fun _ => h4, by omega, by omega⟩
    · rw [if_neg h2, if_neg (by omega), Int.tmod_eq_emod_of_nonneg v0]
      have h3 := Int.emod_nonneg v (show n ≠ 0 by omega)
      have h4 := Int.emod_lt_of_pos v (show 0 < n by omega)
      exact ⟨_, _, _, rfl, h3, fun _ => h4, by omega, by omega⟩
theorem among_eq {l : List Int} (hl : Bytes l) (t s : Int) (m : List Int) (h0 : 0 ≤ t) (h1 : t ≤ 100000000000000) (hm : 1 ≤ m.length) (hm2 : m.length ≤ 1000000000) :
    ∃ v t' s', spec_l1Cur_among.f l t s m = some (v, t', s') ∧ v ∈ m ∧ t ≤ t' ∧ t' ≤ t + 2 := by
  unfold spec_l1Cur_among.f
  obtain ⟨v, t', s', e, v0, v1, ht, ht'⟩ := pick_eq hl t s (m.length : Int) h0 h1 (by omega)
  rw [e]
  simp only [Option.bind_some]
  have h2 := v1 (by omega)
  rw [if_pos v0, if_pos h2]
  have h3 : v.toNat < m.length := by omega
  have h4 : rd m v = m[v.toNat] := by simp [rd, List.getD_eq_getElem?_getD, List.getElem?_eq_getElem h3]
  exact ⟨_, _, _, rfl, by rw [h4]; exact List.getElem_mem h3, ht, ht'⟩
end Go.Proofs.Ytpmbffchkcemoaa.Q
namespace Go.Proofs.Ytpmbffchkcemoaa.Q
open Go.RowKit Go.Proofs.Ytpmbffchkcemoaa.P Go.Proofs.YtpmbffchkcemoaaW.PrintWords Go.Proofs.YtpmbffchkcemoaaW.PrintLast
theorem pick_low {l : List Int} (hl : Bytes l) (t s n : Int) (h0 : 0 ≤ t) (h1 : t ≤ 100000000000000) (hn : n ≤ 1000000000000) :
    ∃ v t' s', spec_l1Cur_pick.f l t s n = some (v, t', s') ∧ 0 ≤ v ∧ (1 ≤ n → v < n) ∧ v ≤ 65535 ∧ t ≤ t' ∧ t' ≤ t + 2 := by
  unfold spec_l1Cur_pick.f
  by_cases h : n ≤ 1
  · rw [if_pos h]
    exact ⟨_, _, _, rfl, by omega, by omega, by omega, by omega, by omega⟩
  · rw [if_neg h]
    obtain ⟨v, s1, e1, v0, v1⟩ := next_eq hl t s h0 (by omega)
    rw [e1]
    simp only [Option.bind_some]
    by_cases h2 : n > 200
    · rw [if_pos h2]
      obtain ⟨u, s2, e2, u0, u1⟩ := next_eq hl (t + 1) s1 (by omega) (by omega)
      rw [e2]
      simp only [Option.bind_some]
      rw [if_neg (by omega), w64 (x := v * 256) (by omega) (by omega), w64 (x := v * 256 + u) (by omega) (by omega), Int.tmod_eq_emod_of_nonneg (by omega)]
      have h3 := Int.emod_nonneg (v * 256 + u) (show n ≠ 0 by omega)
      have h4 := Int.emod_lt_of_pos (v * 256 + u) (show 0 < n by omega)
      have h5 : (v * 256 + u) % n ≤ v * 256 + u := by
        have k1 := Int.mul_ediv_add_emod (v * 256 + u) n
        have k2 := Int.mul_nonneg (show 0 ≤ n by omega) (Int.ediv_nonneg (show 0 ≤ v * 256 + u by omega) (show 0 ≤ n by omega))
        omega
      exact ⟨_, _, _, rfl, h3, fun _ => h4, by omega, by omega, by omega⟩
    · rw [if_neg h2, if_neg (by omega), Int.tmod_eq_emod_of_nonneg v0]
      have h3 := Int.emod_nonneg v (show n ≠ 0 by omega)
      have h4 := Int.emod_lt_of_pos v (show 0 < n by omega)
      exact ⟨_, _, _, rfl, h3, fun _ => h4, by omega, by omega, by omega⟩
theorem one_any {l : List Int} (hl : Bytes l) (t s n : Int) (h0 : 0 ≤ t) (h1 : t ≤ 100000000000000) (hn : n ≤ 1000000000000) : ∃ v t' s', spec_l1Cur_one.f l t s n = some (v, t', s') ∧ t ≤ t' ∧ t' ≤ t + 2 := by
  unfold spec_l1Cur_one.f
  obtain ⟨v, t1, s1, e1, v0, v1, ht, ht'⟩ := pick_eq hl t s n h0 h1 hn
  rw [e1]
  exact ⟨_, _, _, rfl, ht, ht'⟩
theorem least_eq (a b : Int) : spec_l1Least.f a b = some (if a < b then a else b) := by
  unfold spec_l1Least.f
  split <;> rfl
/-- The numbers that are drawn. -/
def Drawn9 (n v : Int) : Prop := v ∈ ([-1, 0, 1, 2, 3, 7, n, n + 1] : List Int) ∨ (0 ≤ v ∧ v < n ∧ v ≤ 65535)
theorem number9_eq {l : List Int} (hl : Bytes l) {n : Int} (h1 : 600 ≤ n) (h2 : n ≤ 1000000000) :
    ∃ v t' s', spec_l1Cur_number9.f l 0 0 n = some (v, t', s') ∧ Drawn9 n v ∧ 0 ≤ t' ∧ t' ≤ 10 := by
  unfold spec_l1Cur_number9.f
  obtain ⟨v, t1, s1, e1, _, _, ht, ht'⟩ := pick_eq hl 0 0 8 (by omega) (by omega) (by omega)
  rw [e1]
  simp only [Option.bind_some]
  split
  · obtain ⟨u, t2, s2, e2, hu, _, _⟩ := among_eq hl t1 s1 ([(-1), 0, 1, 2, 3, 7, n, wrap64 (n + 1)] : List Int) (by omega) (by omega) (by simp) (by simp)
    rw [e2]
    rw [w64 (by omega) (by omega)] at hu
    exact ⟨u, t2, s2, rfl, Or.inl hu, by omega, by omega⟩
  · split
    · obtain ⟨u, t2, s2, e2, u0, u1, u2, _, _⟩ := pick_low hl t1 s1 n (by omega) (by omega) (by omega)
      rw [e2]
      exact ⟨u, t2, s2, rfl, Or.inr ⟨u0, u1 (by omega), u2⟩, by omega, by omega⟩
    · rw [least_eq]
      simp only [Option.bind_some]
      have hq : (if n < 600 then n else 600) = 600 := if_neg (by omega)
      rw [hq]
      obtain ⟨u, t2, s2, e2, u0, u1, u2, _, _⟩ := pick_low hl t1 s1 600 (by omega) (by omega) (by omega)
      rw [e2]
      have := u1 (by omega)
      exact ⟨u, t2, s2, rfl, Or.inr ⟨u0, by omega, u2⟩, by omega, by omega⟩
theorem pr_two : isPr 2 := by
  refine ⟨by omega, fun e h1 h2 _ => ?_⟩
  have := Nat.mul_le_mul h1 h1
  omega
theorem prime_l0 {l : List Int} (t s : Int) : ∀ d : Nat, d + 2 ≤ 1000000 → EvS (fun k => spec_l1Cur_prime.l0 k ((d + 2 : Nat) : Int) l t s)
  | 0, _ => by
    refine EvS_succ ?_
    simp only [spec_l1Cur_prime.l0]
    refine EvS_bind (EvS_of (sqPrime_ev 2 (by omega))) (fun a ha => ?_)
    obtain rfl := Ev_uniq ha (sqPrime_ev 2 (by omega))
    exact EvS_true ((prB_iff 2).2 pr_two) EvS_some
  | d + 1, h => by
    refine EvS_succ ?_
    simp only [spec_l1Cur_prime.l0]
    refine EvS_bind (EvS_of (sqPrime_ev (d + 1 + 2) h)) (fun a ha => ?_)
    refine EvS_ite (fun _ => EvS_some) (fun _ => ?_)
    rw [show wrap64 (((d + 1 + 2 : Nat) : Int) - 1) = ((d + 2 : Nat) : Int) from (w64 (by omega) (by omega)).trans (by omega)]
    exact prime_l0 t s d (by omega)
theorem drawPrime_ev {l : List Int} (hl : Bytes l) {n : Int} (h1 : 2000 ≤ n) (h2 : n ≤ 1000000) : EvS (fun k => spec_l1Cur_prime.f k l 0 0 n) := by
  unfold spec_l1Cur_prime.f
  obtain ⟨v, t1, s1, e1, ht, ht'⟩ := one_any hl 0 0 8 (by omega) (by omega) (by omega)
  rw [e1]
  simp only [Option.bind_some]
  refine EvS_ite (fun _ => ?_) (fun _ => ?_)
  · obtain ⟨u, t2, s2, e2, hu, _, _⟩ := among_eq hl t1 s1 ([(-1), 0, 1, 2, 3, 4, n, wrap64 (n + 1)] : List Int) (by omega) (by omega) (by simp) (by simp)
    rw [e2]
    exact EvS_some
  · rw [least_eq]
    simp only [Option.bind_some]
    have hm : 2000 ≤ (if n < 3000 then n else 3000) ∧ (if n < 3000 then n else 3000) ≤ 3000 := by split <;> omega
    generalize (if n < 3000 then n else 3000) = m at hm ⊢
    rw [w64 (x := m - 2) (by omega) (by omega)]
    obtain ⟨u, t2, s2, e2, u0, u1, _, _⟩ := pick_eq hl t1 s1 (m - 2) (by omega) (by omega) (by omega)
    rw [e2]
    simp only [Option.bind_some]
    have := u1 (by omega)
    rw [show wrap64 (2 + u) = ((u.toNat + 2 : Nat) : Int) from (w64 (by omega) (by omega)).trans (by omega)]
    exact prime_l0 _ _ _ (by omega)
end Go.Proofs.Ytpmbffchkcemoaa.Q
namespace Go.Proofs.Ytpmbffchkcemoaa.Q
open Go.RowKit Go.Proofs.Ytpmbffchkcemoaa.P Go.Proofs.YtpmbffchkcemoaaW.PrintWords Go.Proofs.YtpmbffchkcemoaaW.PrintLast

theorem big_eq (l m : List Int) : ∃ b, laws_big.f l m = some b := by
  unfold laws_big.f
  split <;> exact ⟨_, rfl⟩
end Go.Proofs.Ytpmbffchkcemoaa.Q
namespace Go.Proofs.Ytpmbffchkcemoaa.Q
open Go.RowKit Go.Proofs.Ytpmbffchkcemoaa.P Go.Proofs.YtpmbffchkcemoaaW.PrintWords Go.Proofs.YtpmbffchkcemoaaW.PrintLast

theorem rdv {l : List Int} {i : Nat} (h : i < l.length) : rd l (i : Int) = l[i] := by
  simp [rd, List.getD_eq_getElem?_getD, List.getElem?_eq_getElem h]
theorem rdvRow {l : List (List Int)} {i : Nat} (h : i < l.length) : rd_L2 l (i : Int) = l[i] := by
  simp [rd_L2, List.getD_eq_getElem?_getD, List.getElem?_eq_getElem h]
theorem vSame_l0 {l m : List Int} (hl : l.length = m.length) (hn : l.length ≤ 4611686018427387904) (d : Nat) : ∀ i : Nat, i + d = l.length → Ev (fun k => laws_vSame.l0 k l m (l.length : Int) (i : Int)) (decide (l.drop i = m.drop i)) := by
  induction d with
  | zero =>
    intro i hi
    refine Ev_succ ?_
    simp only [laws_vSame.l0]
    rw [List.drop_of_length_le (by omega), List.drop_of_length_le (by omega)]
    exact Ev_false (by omega) Ev_some
  | succ d ih =>
    intro i hi
    have h1 : i < l.length := by omega
    have h2 : i < m.length := by omega
    refine Ev_succ ?_
    simp only [laws_vSame.l0]
    rw [rdv h1, rdv h2, List.drop_eq_getElem_cons h1, List.drop_eq_getElem_cons h2, w64 (by omega) (by omega)]
    refine Ev_true (by omega) (Ev_true (by omega) (Ev_true (by omega) (Ev_true (by omega) ?_)))
    by_cases he : l[i] = m[i]
    · have e : decide (l[i] :: l.drop (i + 1) = m[i] :: m.drop (i + 1)) = decide (l.drop (i + 1) = m.drop (i + 1)) :=
        decide_eq_decide.2 ⟨fun h => (List.cons.inj h).2, fun h => by rw [he, h]⟩
      rw [e]
      exact Ev_true he (ih (i + 1) (by omega))
    · have e : decide (l[i] :: l.drop (i + 1) = m[i] :: m.drop (i + 1)) = false := by
        rw [decide_eq_false_iff_not]
        intro h
        exact he (List.cons.inj h).1
      rw [e]
      exact Ev_false he Ev_some
theorem vSame_ev {l m : List Int} (hn : l.length ≤ 4611686018427387904) : Ev (fun k => laws_vSame.f k l m) (decide (l = m)) := by
  unfold laws_vSame.f
  by_cases h : l.length = m.length
  · exact Ev_true (by omega) (vSame_l0 h hn l.length 0 (by omega))
  · have e : decide (l = m) = false := by
      rw [decide_eq_false_iff_not]
      intro he
      exact h (by rw [he])
    rw [e]
    exact Ev_false (by omega) Ev_some
theorem vSame_same {l : List Int} (hn : l.length ≤ 4611686018427387904) : Ev (fun k => laws_vSame.f k l l) true := by
  have h := vSame_ev (m := l) hn
  simpa using h
theorem vSameLists_l0 {L : List (List Int)} (hn : L.length ≤ 4611686018427387904) (hx : ∀ x ∈ L, x.length ≤ 4611686018427387904) (d : Nat) : ∀ i : Nat, i + d = L.length → Ev (fun k => laws_vSameLists.l0 k L L (L.length : Int) (i : Int)) true := by
  induction d with
  | zero =>
    intro i hi
    refine Ev_succ ?_
    simp only [laws_vSameLists.l0]
    exact Ev_false (by omega) Ev_some
  | succ d ih =>
    intro i hi
    have h1 : i < L.length := by omega
    refine Ev_succ ?_
    simp only [laws_vSameLists.l0]
    rw [rdvRow h1, w64 (by omega) (by omega)]
    exact Ev_true (by omega) (Ev_true (by omega) (Ev_true (by omega) (Ev_true (by omega) (Ev.bind (vSame_same (hx _ (List.getElem_mem h1))) (Ev_true rfl (ih (i + 1) (by omega)))))))
theorem vSameLists_same {L : List (List Int)} (hn : L.length ≤ 4611686018427387904) (hx : ∀ x ∈ L, x.length ≤ 4611686018427387904) : Ev (fun k => laws_vSameLists.f k L L) true := by
  unfold laws_vSameLists.f
  exact Ev_true rfl (vSameLists_l0 hn hx L.length 0 (by omega))
end Go.Proofs.Ytpmbffchkcemoaa.Q
namespace Go.Proofs.Ytpmbffchkcemoaa.Q
open Go.RowKit Go.Proofs.Ytpmbffchkcemoaa.P Go.Proofs.YtpmbffchkcemoaaW.PrintWords Go.Proofs.YtpmbffchkcemoaaW.PrintLast
theorem rdRow {L : List (List Int)} {i : Nat} {x : List Int} (h : L[i]? = some x) : rd_L2 L (i : Int) = x ∧ i < L.length := by
  obtain ⟨h1, h2⟩ := List.getElem?_eq_some_iff.1 h
  exact ⟨(rdvRow h1).trans h2, h1⟩
theorem rdRow0 {L : List (List Int)} {x : List Int} (h : L[0]? = some x) : rd_L2 L 0 = x ∧ 0 < L.length := rdRow (i := 0) h
theorem rd30 (x y z : Int) : rd [x, y, z] 0 = x := rfl
theorem rd31 (x y z : Int) : rd [x, y, z] 1 = y := rfl
theorem rd32 (x y z : Int) : rd [x, y, z] 2 = z := rfl
theorem len3 (x y z : Int) : (([x, y, z] : List Int).length : Int) = 3 := rfl
end Go.Proofs.Ytpmbffchkcemoaa.Q
namespace Go.Proofs.Ytpmbffchkcemoaa.Q
open Go.RowKit Go.Proofs.Ytpmbffchkcemoaa.P Go.Proofs.YtpmbffchkcemoaaW.PrintWords Go.Proofs.YtpmbffchkcemoaaW.PrintLast
def twoAns (a : Int) : List Int × Bool := if 0 ≤ a ∧ a ≤ 1000000 then firstOf (allL 2 a.toNat a.toNat) else ([], false)
def allTwoAns (a : Int) : List (List Int) × Bool := if 0 ≤ a ∧ a ≤ 1000000 then (allL 2 a.toNat a.toNat, true) else ([], false)
theorem impl_two_ev (a : Int) : Ev (fun k => impl_TwoSquares.f k a) (twoAns a) := by
  unfold impl_TwoSquares.f twoAns
  rw [isTwo_eq]
  simp only [Option.bind_some]
  by_cases h : 0 ≤ a ∧ a ≤ 1000000
  · rw [if_pos h]
    obtain ⟨n, rfl⟩ := Int.eq_ofNat_of_zero_le h.1
    refine Ev_true (by simpa using h) ?_
    exact Ev.bind (f := fun _ (t : List Int × Bool) => some (t.1, t.2)) (firstSq_ev (p := 2) (n := n) (by omega) (by omega)) Ev_some
  · rw [if_neg h]
    exact Ev_false (by simpa using h) Ev_some
theorem impl_allTwo_ev (a : Int) : Ev (fun k => impl_AllTwoSquares.f k a) (allTwoAns a) := by
  unfold impl_AllTwoSquares.f allTwoAns
  rw [isTwo_eq]
  simp only [Option.bind_some]
  by_cases h : 0 ≤ a ∧ a ≤ 1000000
  · rw [if_pos h]
    obtain ⟨n, rfl⟩ := Int.eq_ofNat_of_zero_le h.1
    have hfew := allL_two (n := n) (by omega) n
    refine Ev_true (by simpa using h) ?_
    exact Ev.bind (f := fun _ t => some (t, true)) (allSq_ev (p := 2) (n := n) (by omega) (by omega) (by omega)) Ev_some
  · rw [if_neg h]
    exact Ev_false (by simpa using h) Ev_some
end Go.Proofs.Ytpmbffchkcemoaa.Q

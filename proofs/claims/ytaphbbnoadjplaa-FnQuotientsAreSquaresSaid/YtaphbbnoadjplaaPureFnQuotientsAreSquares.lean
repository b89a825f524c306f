/- A whole quotient of a a + b b by a b + 1 is a square, and told pairs have it. -/
import Derived.Test.YtaphbbnoadjplaaPx2
import Derived.Test.YtaphbbnoadjplaaPx3
import Derived.Test.YtaphbbnoadjplaaPx4
import Derived.Test.YtaphbbnoadjplaaPx5
import Derived.Test.YtaphbbnoadjplaaQQuotRun
import Derived.Test.YtaphbbnoadjplaaQDraw
import Derived.Test.YtaphbbnoadjplaaQV
namespace Go.Proofs.Ytaphbbnoadjplaa.Pure
open Go.RowKit Go.Proofs.Ytaphbbnoadjplaa.P Go.Proofs.YtaphbbnoadjplaaW.PrintWords Go.Proofs.YtaphbbnoadjplaaW.PrintLast Go.Proofs.Ytaphbbnoadjplaa.Q

theorem big_eq (l m : List Int) : ∃ b, laws_big.f l m = some b := by
  unfold laws_big.f
  split <;> exact ⟨_, rfl⟩
theorem quotient_l0 {l : List Int} (hl : Bytes l) (t s : Int) (h0 : 0 ≤ t) (h1 : t ≤ 1000000) (d : Nat) : ∀ (a b c n : Int), n.toNat ≤ d → EvS (fun k => spec_l1Cur_quotient.l0 k a b c n l t s) := by
  induction d with
  | zero =>
    intro a b c n hn
    refine EvS_succ ?_
    simp only [spec_l1Cur_quotient.l0]
    refine EvS_false (by omega) ?_
    obtain ⟨v, t1, s1, e1, v0, v1, ht, ht'⟩ := pick_eq hl t s 10 h0 (by omega) (by omega)
    rw [e1]
    simp only [Option.bind_some]
    refine EvS_ite (fun _ => ?_) (fun _ => EvS_ite (fun _ => ?_) (fun _ => EvS_ite (fun _ => EvS_some) (fun _ => EvS_some)))
    · obtain ⟨u, t2, s2, e2, _⟩ := among_eq hl t1 s1 ([(-1), 0, 1, 1000000, 1000001, 4611686018427387904] : List Int) (by omega) (by omega) (by simp) (by simp)
      rw [e2]
      exact EvS_some
    · obtain ⟨u, t2, s2, e2, _⟩ := pick_eq hl t1 s1 20 (by omega) (by omega) (by omega)
      rw [e2]
      exact EvS_some
  | succ d ih =>
    intro a b c n hn
    by_cases h : n > 0
    · refine EvS_succ ?_
      simp only [spec_l1Cur_quotient.l0]
      refine EvS_true h ?_
      rw [in_eq]
      simp only [Option.bind_some]
      have hw : (wrap64 (n - 1)).toNat ≤ d := by unfold wrap64; omega
      exact EvS_ite (fun _ => ih _ _ _ _ hw) (fun _ => ih _ _ _ _ hw)
    · have h2 := ih a b c n (by omega)
      exact h2
theorem drawRun_ev {l : List Int} (hl : Bytes l) : EvS (fun k => spec_DrawQuotientRun.f k l) := by
  unfold spec_DrawQuotientRun.f spec_DrawSquareQuotient.f spec_l1Cur_quotient.f
  refine EvS_bind (EvS_bind ?_ (fun _ _ => EvS_some)) (fun _ _ => EvS_some)
  obtain ⟨v, t1, s1, e1, v0, v1, ht, ht'⟩ := pick_eq hl 0 0 7 (by omega) (by omega) (by omega)
  rw [e1]
  simp only [Option.bind_some]
  obtain ⟨u, t2, s2, e2, u0, u1, ht2, ht2'⟩ := pick_eq hl t1 s1 6 (by omega) (by omega) (by omega)
  rw [e2]
  simp only [Option.bind_some]
  exact quotient_l0 hl t2 s2 (by omega) (by omega) u.toNat _ _ _ _ (Nat.le_refl _)
theorem drawPairs_eq {l : List Int} (hl : Bytes l) : ∃ r, spec_DrawQuotientPairs.f l = some r := by
  unfold spec_DrawQuotientPairs.f
  obtain ⟨v, t1, s1, e1, v0, v1, ht, ht'⟩ := pick_eq hl 0 0 12 (by omega) (by omega) (by omega)
  rw [e1]
  simp only [Option.bind_some]
  obtain ⟨u, t2, s2, e2, u0, u1, ht2, ht2'⟩ := pick_eq hl t1 s1 9 (by omega) (by omega) (by omega)
  rw [e2]
  simp only [Option.bind_some]
  obtain ⟨x, t3, s3, e3, x0, x1, ht3, ht3'⟩ := pick_eq hl t2 s2 10 (by omega) (by omega) (by omega)
  rw [e3]
  simp only [Option.bind_some]
  split
  · obtain ⟨y, t4, s4, e4, _⟩ := among_eq hl t3 s3 ([(-1), 0, 1, 100, 101] : List Int) (by omega) (by omega) (by simp) (by simp)
    rw [e4]
    exact ⟨_, rfl⟩
  · split
    · obtain ⟨y, t4, s4, e4, _⟩ := among_eq hl t3 s3 ([(-1), 0, 20, 21] : List Int) (by omega) (by omega) (by simp) (by simp)
      rw [e4]
      exact ⟨_, rfl⟩
    · exact ⟨_, rfl⟩

/-- The first pairs with a quotient. -/
def pairsQ (q : Int) : Nat → Int → Int → List (List Int)
  | 0, _, _ => []
  | n + 1, x, y => [x, y] :: (if x ≤ q * x - y ∧ q * x - y ≤ 1000000 then pairsQ q n (q * x - y) x else [])
theorem pairsQ_yes {q x y : Int} {n : Nat} (hw : x ≤ q * x - y ∧ q * x - y ≤ 1000000) : pairsQ q (n + 1) x y = [x, y] :: pairsQ q n (q * x - y) x := by
  show [x, y] :: (if x ≤ q * x - y ∧ q * x - y ≤ 1000000 then pairsQ q n (q * x - y) x else []) = _
  rw [if_pos hw]
theorem pairsQ_no {q x y : Int} {n : Nat} (hw : ¬ (x ≤ q * x - y ∧ q * x - y ≤ 1000000)) : pairsQ q (n + 1) x y = [[x, y]] := by
  show [x, y] :: (if x ≤ q * x - y ∧ q * x - y ≤ 1000000 then pairsQ q n (q * x - y) x else []) = _
  rw [if_neg hw]
theorem up_PQ {q x y : Int} (h : PQ q x y) (hx : x ≤ q * x - y) : PQ q (q * x - y) x := by
  have h2 := h.h2
  have e := h.e
  refine ⟨by omega, hx, by omega, ?_⟩
  grind
theorem up_bounds {r x y : Int} (hr : 1 ≤ r ∧ r ≤ 100) (hx : 0 < x ∧ x ≤ 1000000) (hy : 0 ≤ y ∧ y ≤ x) : wrap64 (r * r) = r * r ∧ wrap64 (r * r * x) = r * r * x ∧ wrap64 (r * r * x - y) = r * r * x - y := by
  have h1 : 0 ≤ r * r ∧ r * r ≤ 10000 := by
    refine ⟨Int.mul_nonneg (by omega) (by omega), ?_⟩
    have := Int.mul_le_mul hr.2 hr.2 (by omega) (by omega)
    omega
  have h2 : 0 ≤ r * r * x ∧ r * r * x ≤ 10000000000 := by
    refine ⟨Int.mul_nonneg h1.1 (by omega), ?_⟩
    have := Int.mul_le_mul h1.2 hx.2 (by omega) (by omega)
    omega
  exact ⟨w64 (by omega) (by omega), w64 (by omega) (by omega), w64 (by omega) (by omega)⟩
theorem pairs_l0 {r c : Int} (hr : 1 ≤ r ∧ r ≤ 100) (hc : c ≤ 20) (n : Nat) : ∀ (x y : Int) (acc : List (List Int)), PQ (r * r) x y → x ≤ 1000000 → (acc.length : Int) + n = c → Ev (fun k => impl_QuotientPairs.l0 k r c acc x y true) (acc ++ pairsQ (r * r) n x y, true) := by
  induction n with
  | zero =>
    intro x y acc _ _ ha
    refine Ev_succ ?_
    simp only [impl_QuotientPairs.l0]
    rw [show acc ++ pairsQ (r * r) 0 x y = acc from List.append_nil _]
    exact Ev_true (by trivial) (Ev_false (by omega) Ev_some)
  | succ n ih =>
    intro x y acc h hx ha
    have h0 := h.h0
    have h1 := h.h1
    have h2 := h.h2
    obtain ⟨e1, e2, e3⟩ := up_bounds hr ⟨h2, hx⟩ ⟨h0, h1⟩
    refine Ev_succ ?_
    simp only [impl_QuotientPairs.l0]
    refine Ev_true (by trivial) (Ev_true (by omega) (Ev_true (by omega) ?_))
    unfold impl_jumpUp.f
    rw [e1, e2, e3, within_eq]
    simp only [Option.bind_some]
    by_cases hw : x ≤ r * r * x - y ∧ r * r * x - y ≤ 1000000
    · rw [if_pos (decide_eq_true hw), show pairsQ (r * r) (n + 1) x y = [x, y] :: pairsQ (r * r) n (r * r * x - y) x from pairsQ_yes hw]
      have h3 := ih (r * r * x - y) x (acc ++ [[x, y]]) (up_PQ h hw.1) hw.2 (by simp; omega)
      rw [List.append_assoc acc [[x, y]], List.singleton_append] at h3
      exact h3
    · rw [if_neg (by simpa using hw), show pairsQ (r * r) (n + 1) x y = [[x, y]] from pairsQ_no hw]
      simp only [Option.bind_some]
      refine Ev_succ ?_
      simp only [impl_QuotientPairs.l0]
      exact Ev_false (by simp) Ev_some
theorem foPairs_end {r c : Int} {x y : Int} {acc : List (List Int)} : Ev (fun k => spec_QuotientPairs.j2 k r c acc x y false) (acc, true) := by
  refine Ev_succ ?_
  simp only [spec_QuotientPairs.j2]
  exact Ev_false (by simp) Ev_some
theorem foPairs_l0 {r c : Int} (hr : 1 ≤ r ∧ r ≤ 100) (hc : c ≤ 20) (n : Nat) : ∀ (x y : Int) (acc : List (List Int)), PQ (r * r) x y → x ≤ 1000000 → (acc.length : Int) + n = c → Ev (fun k => spec_QuotientPairs.l0 k r c acc x y) (acc ++ pairsQ (r * r) n x y, true) := by
  induction n with
  | zero =>
    intro x y acc _ _ ha
    refine Ev_succ ?_
    simp only [spec_QuotientPairs.l0]
    rw [show acc ++ pairsQ (r * r) 0 x y = acc from List.append_nil _]
    exact Ev_false (by omega) foPairs_end
  | succ n ih =>
    intro x y acc h hx ha
    have h0 := h.h0
    have h1 := h.h1
    have h2 := h.h2
    obtain ⟨e1, e2, e3⟩ := up_bounds hr ⟨h2, hx⟩ ⟨h0, h1⟩
    refine Ev_succ ?_
    simp only [spec_QuotientPairs.l0]
    rw [decide_eq_true hx]
    refine Ev_true (by omega) (Ev_succ ?_)
    simp only [spec_QuotientPairs.j2]
    rw [e1, e2, e3]
    refine Ev_true (by trivial) (Ev_true (by omega) ?_)
    simp only [Option.bind_some]
    by_cases hw : x ≤ r * r * x - y ∧ r * r * x - y ≤ 1000000
    · rw [show pairsQ (r * r) (n + 1) x y = [x, y] :: pairsQ (r * r) n (r * r * x - y) x from pairsQ_yes hw]
      have h3 := ih (r * r * x - y) x (acc ++ [[x, y]]) (up_PQ h hw.1) hw.2 (by simp; omega)
      rw [List.append_assoc acc [[x, y]] (pairsQ _ _ _ _), List.singleton_append] at h3
      exact Ev_false (by omega) h3
    · rw [show pairsQ (r * r) (n + 1) x y = [[x, y]] from pairsQ_no hw]
      by_cases hw2 : r * r * x - y < x
      · exact Ev_true hw2 Ev_some
      · refine Ev_false hw2 (Ev_succ ?_)
        simp only [spec_QuotientPairs.l0]
        rw [decide_eq_false (show ¬ r * r * x - y ≤ 1000000 by omega)]
        by_cases h5 : ((acc ++ [[x, y]]).length : Int) < c
        · exact Ev_true h5 foPairs_end
        · exact Ev_false h5 foPairs_end
def pairsR (r c : Int) : List (List Int) × Bool := if (1 ≤ r ∧ r ≤ 100) ∧ 0 ≤ c ∧ c ≤ 20 then (pairsQ (r * r) c.toNat r 0, true) else ([], false)
theorem start_PQ {r : Int} (hr : 1 ≤ r) : PQ (r * r) r 0 := ⟨by omega, by omega, by omega, by simp⟩
theorem pairs_ev (r c : Int) : Ev (fun k => impl_QuotientPairs.f k r c) (pairsR r c) := by
  unfold impl_QuotientPairs.f
  rw [within_eq, within_eq]
  simp only [Option.bind_some]
  have hno : pairsR r c = ([], false) → ∀ b : Bool, b = true → Ev (fun k => impl_QuotientPairs.j0 k r c b) (pairsR r c) := fun e b hb => by
    subst hb
    rw [e]
    refine Ev_succ ?_
    simp only [impl_QuotientPairs.j0]
    first | exact Ev_some | exact Ev_true (by trivial) Ev_some
  by_cases hr : 1 ≤ r ∧ r ≤ 100
  · refine Ev_true (decide_eq_true hr) ?_
    by_cases hc : 0 ≤ c ∧ c ≤ 20
    · rw [show pairsR r c = (pairsQ (r * r) c.toNat r 0, true) from if_pos ⟨hr, hc⟩, decide_eq_true hc]
      refine Ev_succ ?_
      simp only [impl_QuotientPairs.j0]
      exact Ev_false (by simp) (pairs_l0 hr hc.2 c.toNat r 0 [] (start_PQ hr.1) (by omega) (by simp; omega))
    · exact hno (if_neg (fun h => hc h.2)) _ (by rw [decide_eq_false hc]; rfl)
  · exact Ev_false (by simpa using hr) (hno (if_neg (fun h => hr h.1)) _ rfl)
theorem foPairs_ev (r c : Int) : Ev (fun k => spec_QuotientPairs.f k r c) (pairsR r c) := by
  unfold spec_QuotientPairs.f
  rw [in_eq, in_eq]
  simp only [Option.bind_some]
  have hno : pairsR r c = ([], false) → ∀ b : Bool, b = true → Ev (fun k => spec_QuotientPairs.j0 k r c b) (pairsR r c) := fun e b hb => by
    subst hb
    rw [e]
    refine Ev_succ ?_
    simp only [spec_QuotientPairs.j0]
    first | exact Ev_some | exact Ev_true (by trivial) Ev_some
  by_cases hr : 1 ≤ r ∧ r ≤ 100
  · refine Ev_true (decide_eq_true hr) ?_
    by_cases hc : 0 ≤ c ∧ c ≤ 20
    · rw [show pairsR r c = (pairsQ (r * r) c.toNat r 0, true) from if_pos ⟨hr, hc⟩, decide_eq_true hc]
      refine Ev_succ ?_
      simp only [spec_QuotientPairs.j0]
      exact Ev_false (by simp) (foPairs_l0 hr hc.2 c.toNat r 0 [] (start_PQ hr.1) (by omega) (by simp; omega))
    · exact hno (if_neg (fun h => hc h.2)) _ (by rw [decide_eq_false hc]; rfl)
  · exact Ev_false (by simpa using hr) (hno (if_neg (fun h => hr h.1)) _ rfl)
/-- What the pairs tell. -/
def PairsOk (q : Int) (n : Nat) (R : List (List Int)) : Prop :=
  R.length ≤ n ∧ (∀ (i : Nat) (r : List Int), R[i]? = some r → ∃ a b, r = [a, b] ∧ PQ q a b ∧ a ≤ 1000000) ∧ (∀ (i : Nat) (r s : List Int), R[i]? = some r → R[i + 1]? = some s → ∃ a b u, r = [a, b] ∧ s = [u, a] ∧ a ≤ u)
theorem pairsQ_ok {q : Int} (n : Nat) : ∀ (x y : Int), PQ q x y → x ≤ 1000000 → PairsOk q n (pairsQ q n x y) := by
  induction n with
  | zero => exact fun x y _ _ => ⟨by simp [pairsQ], by simp [pairsQ], by simp [pairsQ]⟩
  | succ n ih =>
    intro x y h hx
    by_cases hw : x ≤ q * x - y ∧ q * x - y ≤ 1000000
    · rw [show pairsQ q (n + 1) x y = [x, y] :: pairsQ q n (q * x - y) x from pairsQ_yes hw]
      obtain ⟨a1, a2, a3⟩ := ih (q * x - y) x (up_PQ h hw.1) hw.2
      refine ⟨by simp; omega, fun i r hi => ?_, fun i r s hi hs => ?_⟩
      · cases i with
        | zero => exact ⟨x, y, by simpa using hi.symm, h, hx⟩
        | succ i => exact a2 i r (by simpa using hi)
      · cases i with
        | zero =>
          rw [List.getElem?_cons_succ] at hs
          cases n with
          | zero => simp [pairsQ] at hs
          | succ n =>
            unfold pairsQ at hs
            exact ⟨x, y, q * x - y, by simpa using hi.symm, by simpa using hs.symm, hw.1⟩
        | succ i => exact a3 i r s (by simpa using hi) (by simpa using hs)
    · rw [show pairsQ q (n + 1) x y = [[x, y]] from pairsQ_no hw]
      refine ⟨by simp, fun i r hi => ?_, fun i r s _ hs => by simp at hs⟩
      cases i with
      | zero => exact ⟨x, y, by simpa using hi.symm, h, hx⟩
      | succ i => simp at hi

theorem rd0 (a b : Int) : rd [a, b] 0 = a := rfl
theorem rd1 (a b : Int) : rd [a, b] 1 = b := rfl
theorem law_l1 {r : Int} (hr : 1 ≤ r ∧ r ≤ 100) {R : List (List Int)} {n : Nat} (hR : PairsOk (r * r) n R) (hn : n ≤ 1000) (d : Nat) : ∀ i : Nat, i + d = R.length → Ev (fun k => laws_FnQuotientsAreSquares.l1 k r R R (R.length : Int) (i : Int)) true := by
  have hlen := hR.1
  have er : wrap64 (r * r) = r * r := (up_bounds (x := 1) (y := 0) hr (by omega) (by omega)).1
  induction d with
  | zero =>
    intro i hi
    refine Ev_succ ?_
    simp only [laws_FnQuotientsAreSquares.l1]
    exact Ev_false (by omega) Ev_some
  | succ d ih =>
    intro i hi
    have h1 : i < R.length := by omega
    obtain ⟨a, b, e, hp, ha⟩ := hR.2.1 i _ (List.getElem?_eq_getElem h1)
    have hnext := ih (i + 1) (by omega)
    refine Ev_succ ?_
    simp only [laws_FnQuotientsAreSquares.l1]
    rw [rdvRow h1, e, rd0, rd1, squareQuotient_eq, hp.quotient ha, w64 (x := (i : Int) + 1) (by omega) (by omega), er]
    simp only [Option.bind_some]
    refine Ev_true (by omega) (Ev_true (by omega) (Ev_true (by omega) (Ev_true (by simp) (Ev_true (by simp) (Ev_true (by trivial) (Ev_true (by trivial) ?_))))))
    by_cases hi0 : (i : Int) > 0
    · obtain ⟨j, rfl⟩ : ∃ j, i = j + 1 := ⟨i - 1, by omega⟩
      have h2 : j < R.length := by omega
      obtain ⟨u, v, z, e1, e2, hz⟩ := hR.2.2 j _ _ (List.getElem?_eq_getElem h2) (List.getElem?_eq_getElem h1)
      rw [e] at e2
      simp only [List.cons.injEq, and_true] at e2
      obtain ⟨rfl, rfl⟩ := e2
      rw [show ((j + 1 : Nat) : Int) - 1 = (j : Int) by omega, w64 (x := (j : Int)) (by omega) (by omega), rdvRow h2, e1, rd0]
      exact Ev_true hi0 (Ev_true (by omega) (Ev_true (by omega) (Ev_true (by simp) (Ev_true (by trivial) (Ev_false (by omega) hnext)))))
    · exact Ev_false hi0 hnext
theorem law_j3 {l : List Int} (hl : Bytes l) : Ev (fun k => laws_FnQuotientsAreSquares.j3 k l) true := by
  obtain ⟨⟨r, c⟩, e⟩ := drawPairs_eq hl
  refine Ev_succ ?_
  simp only [laws_FnQuotientsAreSquares.j3]
  rw [e]
  simp only [Option.bind_some]
  refine Ev.bind (pairs_ev r c) (Ev.bind (foPairs_ev r c) (Ev_false (by simp) ?_))
  by_cases h : (1 ≤ r ∧ r ≤ 100) ∧ 0 ≤ c ∧ c ≤ 20
  · rw [show pairsR r c = (pairsQ (r * r) c.toNat r 0, true) from if_pos h]
    have hok := pairsQ_ok c.toNat r 0 (start_PQ h.1.1) (by omega)
    have hlen := hok.1
    refine Ev.bind (vSameLists_same (L := pairsQ (r * r) c.toNat r 0) (by omega) (fun x hx => ?_)) (Ev_succ ?_)
    · obtain ⟨i, hi, rfl⟩ := List.mem_iff_getElem.1 hx
      obtain ⟨a, b, e, _⟩ := hok.2.1 i _ (List.getElem?_eq_getElem hi)
      rw [e]
      simp
    · simp only [laws_FnQuotientsAreSquares.j4]
      exact Ev_false (by simp) (law_l1 h.1 hok (by omega) _ 0 (Nat.zero_add _))
  · rw [show pairsR r c = ([], false) from if_neg h]
    refine Ev.bind (vSameLists_same (L := []) (by simp) (by simp)) (Ev_succ ?_)
    simp only [laws_FnQuotientsAreSquares.j4]
    refine Ev_false (by simp) (Ev_succ ?_)
    simp only [laws_FnQuotientsAreSquares.l1]
    exact Ev_false (by simp) Ev_some
theorem law_l0 {l : List Int} (hl : Bytes l) {q x y : Int} {R : List (List Int)} {n : Nat} (hR : RunOk q n x y R) (hn : n ≤ 1000) (d : Nat) : ∀ i : Nat, i + d = R.length → Ev (fun k => laws_FnQuotientsAreSquares.l0 k l q R R (R.length : Int) (i : Int)) true := by
  have hlen := hR.1
  induction d with
  | zero =>
    intro i hi
    refine Ev_succ ?_
    simp only [laws_FnQuotientsAreSquares.l0]
    exact Ev_false (by omega) (law_j3 hl)
  | succ d ih =>
    intro i hi
    have h1 : i < R.length := by omega
    obtain ⟨a, b, e, hp, ha⟩ := hR.2.2.1 i _ (List.getElem?_eq_getElem h1)
    have hnext := ih (i + 1) (by omega)
    refine Ev_succ ?_
    simp only [laws_FnQuotientsAreSquares.l0]
    rw [rdvRow h1, e, rd0, rd1, squareQuotient_eq, hp.quotient ha, w64 (x := (i : Int) + 1) (by omega) (by omega)]
    simp only [Option.bind_some]
    refine Ev_true (by omega) (Ev_true (by omega) (Ev_true (by omega) (Ev_true (by simp) (Ev_true (by simp) (Ev_true (by trivial) (Ev_true (by trivial) ?_))))))
    by_cases hi0 : (i : Int) > 0
    · obtain ⟨j, rfl⟩ : ∃ j, i = j + 1 := ⟨i - 1, by omega⟩
      have h2 : j < R.length := by omega
      obtain ⟨u, v, z, t, e1, e2, hz, hz0, hz1⟩ := hR.2.2.2.1 j _ _ (List.getElem?_eq_getElem h2) (List.getElem?_eq_getElem h1)
      rw [e] at e2
      simp only [List.cons.injEq, and_true] at e2
      obtain ⟨rfl, rfl⟩ := e2
      rw [show ((j + 1 : Nat) : Int) - 1 = (j : Int) by omega, w64 (x := (j : Int)) (by omega) (by omega), rdvRow h2, e1, rd0, rd1, w64 (x := a + b) (by omega) (by omega), w64 (x := u + v) (by omega) (by omega)]
      exact Ev_true hi0 (Ev_true (by omega) (Ev_true (by omega) (Ev_true (by simp) (Ev_true (by simp) (Ev_false (by omega) hnext)))))
    · exact Ev_false hi0 hnext
theorem FnQuotientsAreSquares : laws_FnQuotientsAreSquares.Pure := by
  intro l0 l1 _ hs0 hw0 _ hs1 hw1
  have b0 := Bytes.of hs0 hw0
  have b1 := Bytes.of hs1 hw1
  refine Ev_out (g := fun k => laws_FnQuotientsAreSquares.f k l0 l1) ?_
  unfold laws_FnQuotientsAreSquares.f
  obtain ⟨bb, eb⟩ := big_eq l0 l1
  rw [eb]
  simp only [Option.bind_some]
  cases bb with
  | true => exact Ev_true rfl Ev_some
  | false =>
    obtain ⟨⟨a, b⟩, hd⟩ := drawRun_ev b0
    refine Ev_false (by simp) (Ev.bind hd ?_)
    have e1 : spec_SquareQuotient.f a b = some (quotientR a b) := by
      unfold spec_SquareQuotient.f
      rw [juQuotient_eq]
      rfl
    simp only
    rw [squareQuotient_eq, e1]
    simp only [Option.bind_some]
    refine Ev.bind (quotRun_ev a b) (Ev.bind (foQuotRun_ev a b) (Ev_false (by simp) (Ev_true (by trivial) (Ev_false (by simp) ?_))))
    have hlen := quotRun_len a b
    refine Ev.bind (vSameLists_same (L := (quotRunR a b).1) (by omega) (fun x hx => by have := hlen.2 x hx; omega)) (Ev_true rfl ?_)
    refine Ev_succ ?_
    simp only [laws_FnQuotientsAreSquares.j0]
    by_cases h : (quotientR a b).2 = true
    · obtain ⟨e2, hok⟩ := quotRun_ok h
      obtain ⟨ha, hb, hab, hdv, e3⟩ := quotient_some h
      have hq : (quotientR a b).1 * (a * b + 1) = a * a + b * b := by
        rw [e3]
        exact (Int.mul_comm _ _).trans (Int.mul_ediv_cancel_of_emod_eq_zero hdv)
      have s1 := sq_bounds ha hb
      have s2 := sq_bounds ha ha
      have s3 := sq_bounds hb hb
      have hq2 : 0 ≤ (quotientR a b).1 ∧ (quotientR a b).1 ≤ a * a + b * b := by
        rw [e3]
        exact ⟨Int.ediv_nonneg (by omega) (by omega), Int.ediv_le_self _ (by omega)⟩
      rw [e2]
      generalize (quotientR a b).1 = q at hok hq hq2
      generalize runQ q 13 (max a b) (min a b) = R at hok ⊢
      dsimp only
      obtain ⟨a1, ⟨L, a2⟩, a3, a4, g, a5, a6⟩ := id hok
      have hpos : 0 < R.length := by rw [a2]; simp
      have hl : R.length - 1 < R.length := by omega
      rw [List.getElem?_eq_getElem hl] at a5
      have a5 := Option.some.inj a5
      rw [show ((R.length : Nat) : Int) - 1 = ((R.length - 1 : Nat) : Int) by omega, w64 (x := ((R.length - 1 : Nat) : Int)) (by omega) (by omega), rdvRow hl, a5, rd0, rd1, a6, w64 (x := q) (by omega) (by omega),
        w64 (x := a * b) (by omega) (by omega), w64 (x := a * b + 1) (by omega) (by omega), w64 (x := a * a) (by omega) (by omega), w64 (x := b * b) (by omega) (by omega), w64 (x := a * a + b * b) (by omega) (by omega), hq, w64 (x := a * a + b * b) (by omega) (by omega)]
      refine Ev_false (by rw [h]; simp) (Ev_true h (Ev_true (by omega) (Ev_true (by omega) (Ev_true (by simp) (Ev_true (by trivial) (Ev_true (by simp) (Ev_true (by trivial) ?_)))))))
      refine Ev_succ ?_
      simp only [laws_FnQuotientsAreSquares.j1]
      exact Ev_false (by simp) (law_l0 b1 hok (by omega) _ 0 (Nat.zero_add _))
    · have e2 : quotRunR a b = ([], false) := if_neg h
      rw [e2]
      exact Ev_false (by rw [Bool.eq_false_iff.2 h]; simp) (Ev_false h (law_j3 b1))
end Go.Proofs.Ytaphbbnoadjplaa.Pure

/- Jumping roots: pairs that solve x x + y y = q (x y + 1), and their way down. -/
import Derived.Test.YtaphbbnoadjplaaPx1
import Derived.Test.YtaphbbnoadjplaaQEv
namespace Go.Proofs.Ytaphbbnoadjplaa.Q
open Go.RowKit Go.Proofs.Ytaphbbnoadjplaa.P Go.Proofs.YtaphbbnoadjplaaW.PrintWords Go.Proofs.YtaphbbnoadjplaaW.PrintLast

theorem step_eq {x y q : Int} (h : x*x+y*y = q*(x*y+1)) : y*y + (q*y-x)*(q*y-x) = q*(y*(q*y-x)+1) := by grind
theorem step_prod {x y q : Int} (h : x*x+y*y = q*(x*y+1)) : x*(q*y-x) = y*y - q := by grind
structure PQ (q x y : Int) : Prop where
  h0 : 0 ≤ y
  h1 : y ≤ x
  h2 : 0 < x
  e : x * x + y * y = q * (x * y + 1)
theorem PQ.pos {q x y : Int} (h : PQ q x y) : 0 < q := by
  have h0 := h.h0; have h1 := h.h1; have h2 := h.h2
  have a : 0 ≤ x * y := Int.mul_nonneg (by omega) h0
  have b : 0 < x * x := Int.mul_pos h2 h2
  have c : 0 ≤ y * y := Int.mul_nonneg h0 h0
  have d : 0 < q * (x * y + 1) := by rw [← h.e]; omega
  exact Int.pos_of_mul_pos_left d (by omega)
theorem PQ.step {q x y : Int} (h : PQ q x y) (hy : 1 ≤ y) : 0 ≤ q*y-x ∧ q*y-x < y ∧ PQ q y (q*y-x) := by
  have h1 := h.h1; have h2 := h.h2; have hq := h.pos
  have e := step_eq h.e
  have p := step_prod h.e
  generalize q*y-x = z at e p
  have hz : 0 ≤ z := by
    refine Int.not_lt.1 fun hn => ?_
    have a : y * z ≤ y * (-1) := Int.mul_le_mul_of_nonneg_left (by omega) (by omega)
    have b : q * (y * z + 1) ≤ 0 := by
      have := Int.mul_le_mul_of_nonneg_left (show y * z + 1 ≤ 0 by omega) (show 0 ≤ q by omega)
      simpa using this
    have c : 0 < y * y := Int.mul_pos (by omega) (by omega)
    have d : 0 ≤ z * z := by
      have h := Int.mul_nonneg (a := -z) (b := -z) (by omega) (by omega)
      rwa [Int.neg_mul_neg] at h
    omega
  have hzy : z < y := by
    refine Int.not_le.1 fun hn => ?_
    have a : x * y ≤ x * z := Int.mul_le_mul_of_nonneg_left hn (by omega)
    have b : y * y ≤ x * y := Int.mul_le_mul_of_nonneg_right h1 (by omega)
    omega
  exact ⟨hz, hzy, ⟨hz, by omega, by omega, e⟩⟩
theorem PQ.square {q : Int} (d : Nat) : ∀ {x y : Int}, y.toNat ≤ d → PQ q x y → ∃ g : Int, 0 < g ∧ g * g = q := by
  induction d with
  | zero =>
    intro x y hd h
    have h0 := h.h0
    have e := h.e
    obtain rfl : y = 0 := by omega
    exact ⟨x, h.h2, by simpa using e⟩
  | succ d ih =>
    intro x y hd h
    by_cases hy : y = 0
    · subst hy
      have e := h.e
      exact ⟨x, h.h2, by simpa using e⟩
    · have h0 := h.h0
      obtain ⟨h1, h2, h3⟩ := h.step (by omega)
      exact ih (by omega) h3
theorem PQ.third {q x y : Int} (h : PQ q x y) : q = 1 ∨ 4 ≤ q := by
  obtain ⟨g, hg, rfl⟩ := PQ.square y.toNat (Nat.le_refl _) h
  by_cases h1 : g = 1
  · left; subst h1; rfl
  · right
    have := Int.mul_le_mul (show (2 : Int) ≤ g by omega) (show (2 : Int) ≤ g by omega) (by omega) (by omega)
    omega
/-- The lesser number falls to less than a third. -/
theorem PQ.falls {q x y : Int} (h : PQ q x y) (hy : 1 ≤ y) : 3 * (q*y-x) < y := by
  obtain ⟨h1, h2, h3⟩ := h.step hy
  by_cases hz : q*y-x = 0
  · omega
  · obtain ⟨h4, h5, h6⟩ := h3.step (by omega)
    rcases h3.third with hq | hq
    · subst hq; omega
    · have := Int.mul_le_mul_of_nonneg_right hq h1
      omega
theorem PQ.le {q x y : Int} (h : PQ q x y) : 0 ≤ q * y ∧ q * y ≤ 2 * x := by
  have h0 := h.h0; have h1 := h.h1; have h2 := h.h2; have hq := h.pos
  have a : 0 ≤ q * y := Int.mul_nonneg (by omega) h0
  refine ⟨a, Int.not_lt.1 fun hn => ?_⟩
  have b : x * (2 * x + 1) ≤ x * (q * y) := Int.mul_le_mul_of_nonneg_left (by omega) (by omega)
  have c : y * y ≤ x * x := Int.mul_le_mul h1 h1 h0 (by omega)
  have e := h.e
  have e2 : q * (x * y + 1) = x * (q * y) + q := by grind
  have e3 : x * (2 * x + 1) = 2 * (x * x) + x := by grind
  omega

/-- The pairs on the way down. -/
def runQ (q : Int) : Nat → Int → Int → List (List Int)
  | 0, x, y => [[x, y]]
  | d + 1, x, y => if y = 0 then [[x, y]] else [x, y] :: runQ q d y (q * y - x)
theorem in_eq (a lo hi : Int) : spec_l1In.f a lo hi = some (decide (lo ≤ a ∧ a ≤ hi)) := by
  unfold spec_l1In.f
  by_cases h : lo ≤ a
  · rw [if_pos h]
    simp [h]
  · rw [if_neg h]
    simp [h]
theorem within_eq (a lo hi : Int) : impl_within.f a lo hi = some (decide (lo ≤ a ∧ a ≤ hi)) := by
  unfold impl_within.f
  by_cases h : lo ≤ a
  · rw [if_pos h]
    simp [h]
  · rw [if_neg h]
    simp [h]
/-- The quotient, as both programs answer. -/
def quotientR (a b : Int) : Int × Bool := if 0 ≤ a ∧ a ≤ 1000000 then (if 0 ≤ b ∧ b ≤ 1000000 then (if a + b = 0 then (0, false) else (if (a * a + b * b) % (a * b + 1) = 0 then ((a * a + b * b) / (a * b + 1), true) else (0, false))) else (0, false)) else (0, false)
theorem sq_bounds {a b : Int} (ha : 0 ≤ a ∧ a ≤ 1000000) (hb : 0 ≤ b ∧ b ≤ 1000000) : 0 ≤ a * b ∧ a * b ≤ 1000000000000 := by
  refine ⟨Int.mul_nonneg ha.1 hb.1, ?_⟩
  have := Int.mul_le_mul ha.2 hb.2 hb.1 (by omega)
  omega
theorem quot_core {a b : Int} (ha : 0 ≤ a ∧ a ≤ 1000000) (hb : 0 ≤ b ∧ b ≤ 1000000) :
    wrap64 (a + b) = a + b ∧ wrap64 (wrap64 (a * b) + 1) = a * b + 1 ∧ wrap64 (wrap64 (a * a) + wrap64 (b * b)) = a * a + b * b ∧ Int.tmod (a * a + b * b) (a * b + 1) = (a * a + b * b) % (a * b + 1) ∧
      wrap64 (Int.tdiv (a * a + b * b) (a * b + 1)) = (a * a + b * b) / (a * b + 1) ∧ ¬ a * b + 1 = 0 := by
  have h1 := sq_bounds ha hb
  have h2 := sq_bounds ha ha
  have h3 := sq_bounds hb hb
  rw [w64 (x := a * b) (by omega) (by omega), w64 (x := a * a) (by omega) (by omega), w64 (x := b * b) (by omega) (by omega)]
  refine ⟨w64 (by omega) (by omega), w64 (by omega) (by omega), w64 (by omega) (by omega), Int.tmod_eq_emod_of_nonneg (by omega), ?_, by omega⟩
  rw [Int.tdiv_eq_ediv_of_nonneg (by omega)]
  have h4 : 0 ≤ (a * a + b * b) / (a * b + 1) := Int.ediv_nonneg (by omega) (by omega)
  have h5 : (a * a + b * b) / (a * b + 1) ≤ a * a + b * b := Int.ediv_le_self _ (by omega)
  exact w64 (by omega) (by omega)
theorem juQuotient_eq (a b : Int) : spec_juQuotient.f a b = some (quotientR a b) := by
  unfold spec_juQuotient.f quotientR
  rw [in_eq, in_eq]
  simp only [Option.bind_some]
  by_cases ha : 0 ≤ a ∧ a ≤ 1000000
  · rw [if_pos (decide_eq_true ha), if_pos ha]
    by_cases hb : 0 ≤ b ∧ b ≤ 1000000
    · rw [if_pos (decide_eq_true hb), if_pos hb]
      obtain ⟨e1, e2, e3, e4, e5, e6⟩ := quot_core ha hb
      rw [e1, e2, e3, e4, e5]
      by_cases h1 : a + b = 0
      · rw [if_pos h1, if_pos h1]
      · rw [if_neg h1, if_neg h1, if_neg e6]
        by_cases h2 : (a * a + b * b) % (a * b + 1) = 0
        · rw [if_pos h2, if_pos h2]
        · rw [if_neg h2, if_neg h2]
    · rw [if_neg (by simpa using hb), if_neg hb]
  · rw [if_neg (by simpa using ha), if_neg ha]
theorem squareQuotient_eq (a b : Int) : impl_SquareQuotient.f a b = some (quotientR a b) := by
  unfold impl_SquareQuotient.f quotientR
  rw [within_eq, within_eq]
  simp only [Option.bind_some]
  by_cases ha : 0 ≤ a ∧ a ≤ 1000000
  · rw [if_pos (decide_eq_true ha), if_pos ha]
    by_cases hb : 0 ≤ b ∧ b ≤ 1000000
    · rw [if_pos (decide_eq_true hb), if_pos hb]
      obtain ⟨e1, e2, e3, e4, e5, e6⟩ := quot_core ha hb
      rw [e1, e2, e3, e4, e5]
      by_cases h1 : a + b = 0
      · rw [if_pos h1, if_pos h1]
      · rw [if_neg h1, if_neg h1, if_neg e6]
        by_cases h2 : (a * a + b * b) % (a * b + 1) = 0
        · rw [if_pos h2, if_pos h2]
        · rw [if_neg h2, if_neg h2]
    · rw [if_neg (by simpa using hb), if_neg hb]
  · rw [if_neg (by simpa using ha), if_neg ha]
theorem PQ.of {a b : Int} (ha : 0 ≤ a ∧ a ≤ 1000000) (hb : 0 ≤ b ∧ b ≤ a) (h : a + b ≠ 0) (hd : (a * a + b * b) % (a * b + 1) = 0) : PQ ((a * a + b * b) / (a * b + 1)) a b := by
  refine ⟨hb.1, hb.2, by omega, ?_⟩
  exact (Int.mul_ediv_cancel_of_emod_eq_zero hd).symm.trans (Int.mul_comm _ _)
theorem PQ.quotient {q x y : Int} (h : PQ q x y) (hx : x ≤ 1000000) : quotientR x y = (q, true) := by
  have h0 := h.h0
  have h1 := h.h1
  have h2 := h.h2
  have hxy : 0 ≤ x * y := Int.mul_nonneg (by omega) h0
  unfold quotientR
  rw [if_pos (by omega), if_pos (by omega), if_neg (by omega), h.e, if_pos (by rw [Int.mul_comm]; exact Int.mul_emod_right _ _), Int.mul_ediv_cancel _ (by omega)]
theorem down_nil {q x : Int} (hx : 0 < x) (hx2 : x ≤ 1000000) : impl_jumpDown.f x 0 q = some (0, 0, false) ∧ spec_juDown.f x 0 q = some (0, 0, false) := by
  unfold impl_jumpDown.f spec_juDown.f
  rw [in_eq, Int.mul_zero, w64 (x := 0) (by omega) (by omega), w64 (x := 0 - x) (by omega) (by omega), w64 (x := x - 1) (by omega) (by omega)]
  simp only [Option.bind_some]
  rw [if_pos (by omega), if_neg (by simp; omega)]
  exact ⟨rfl, rfl⟩
theorem PQ.down {q x y : Int} (h : PQ q x y) (hx : x ≤ 1000000) (hy : 1 ≤ y) : impl_jumpDown.f x y q = some (y, q * y - x, true) ∧ spec_juDown.f x y q = some (y, q * y - x, true) := by
  have h1 := h.h1
  have h2 := h.le
  obtain ⟨h3, h4, _⟩ := h.step hy
  unfold impl_jumpDown.f spec_juDown.f
  rw [in_eq, w64 (x := q * y) (by omega) (by omega), w64 (x := q * y - x) (by omega) (by omega), w64 (x := x - 1) (by omega) (by omega)]
  simp only [Option.bind_some]
  rw [if_neg (by omega), if_neg (by omega), if_pos (by simp; omega), if_pos (by omega)]
  refine ⟨?_, rfl⟩
  have e1 : mx (q * y - x) y = y := by unfold mx; omega
  have e2 : mn (q * y - x) y = q * y - x := by unfold mn; omega
  rw [e1, e2]
theorem descend_ev {q : Int} (d : Nat) : ∀ (x y : Int) (acc : List (List Int)), PQ q x y → x ≤ 1000000 → y < (3 : Int) ^ d → acc.length + d ≤ 900 → Ev (fun k => impl_descend.l0 k x y q 1000 acc true) (acc ++ runQ q d x y, true) := by
  have last : ∀ (x y : Int) (acc : List (List Int)), PQ q x y → x ≤ 1000000 → y = 0 → acc.length ≤ 900 → Ev (fun k => impl_descend.l0 k x y q 1000 acc true) (acc ++ [[x, y]], true) := by
    intro x y acc h hx hy ha
    subst hy
    refine Ev_succ ?_
    simp only [impl_descend.l0]
    refine Ev_true (by trivial) (Ev_false (by omega) (Ev_true (by omega) ?_))
    rw [(down_nil h.h2 hx).1]
    simp only [Option.bind_some]
    refine Ev_succ ?_
    simp only [impl_descend.l0]
    exact Ev_false (by simp) Ev_some
  induction d with
  | zero =>
    intro x y acc h hx hy ha
    have h0 := h.h0
    have : (3 : Int) ^ 0 = 1 := rfl
    exact last x y acc h hx (by omega) (by omega)
  | succ d ih =>
    intro x y acc h hx hy ha
    have h0 := h.h0
    have h1 := h.h1
    by_cases hz : y = 0
    · rw [show runQ q (d + 1) x y = [[x, y]] from if_pos hz]
      exact last x y acc h hx hz (by omega)
    · rw [show runQ q (d + 1) x y = [x, y] :: runQ q d y (q * y - x) from if_neg hz]
      obtain ⟨h3, h4, h5⟩ := h.step (by omega)
      have h6 := h.falls (by omega)
      rw [Int.pow_succ] at hy
      refine Ev_succ ?_
      simp only [impl_descend.l0]
      refine Ev_true (by trivial) (Ev_false (by omega) (Ev_true (by omega) ?_))
      rw [(h.down hx (by omega)).1]
      simp only [Option.bind_some]
      have h7 := ih y (q * y - x) (acc ++ [[x, y]]) h5 (by omega) (by omega) (by simp; omega)
      rw [List.append_assoc, List.singleton_append] at h7
      exact h7
theorem juRun_ev {q : Int} (d : Nat) : ∀ (x y : Int) (acc : List (List Int)), PQ q x y → x ≤ 1000000 → y < (3 : Int) ^ d → acc.length + d ≤ 900 → Ev (fun k => spec_juRun.l0 k x y q 1000 (acc ++ [[x, y]])) (acc ++ runQ q d x y) := by
  have last : ∀ (x y : Int) (acc : List (List Int)), PQ q x y → x ≤ 1000000 → y = 0 → acc.length ≤ 900 → Ev (fun k => spec_juRun.l0 k x y q 1000 (acc ++ [[x, y]])) (acc ++ [[x, y]]) := by
    intro x y acc h hx hy ha
    subst hy
    refine Ev_succ ?_
    simp only [spec_juRun.l0]
    rw [(down_nil h.h2 hx).2]
    simp only [Option.bind_some]
    exact Ev_false (by simp) Ev_some
  induction d with
  | zero =>
    intro x y acc h hx hy ha
    have h0 := h.h0
    have : (3 : Int) ^ 0 = 1 := rfl
    exact last x y acc h hx (by omega) (by omega)
  | succ d ih =>
    intro x y acc h hx hy ha
    have h0 := h.h0
    have h1 := h.h1
    by_cases hz : y = 0
    · rw [show runQ q (d + 1) x y = [[x, y]] from if_pos hz]
      exact last x y acc h hx hz (by omega)
    · rw [show runQ q (d + 1) x y = [x, y] :: runQ q d y (q * y - x) from if_neg hz]
      obtain ⟨h3, h4, h5⟩ := h.step (by omega)
      have h6 := h.falls (by omega)
      rw [Int.pow_succ] at hy
      refine Ev_succ ?_
      simp only [spec_juRun.l0]
      rw [(h.down hx (by omega)).2]
      simp only [Option.bind_some]
      have h7 := ih y (q * y - x) (acc ++ [[x, y]]) h5 (by omega) (by omega) (by simp; omega)
      rw [List.append_assoc acc [[x, y]] (runQ q d y (q * y - x)), List.singleton_append] at h7
      exact Ev_true (by trivial) (Ev_false (by simp; omega) (Ev_true (by simp; omega) h7))
/-- What a run tells: each pair is one of the same quotient, sums fall, and the last one is a root and 0. -/
def RunOk (q : Int) (n : Nat) (x y : Int) (R : List (List Int)) : Prop :=
  R.length ≤ n ∧ (∃ L, R = [x, y] :: L) ∧ (∀ (i : Nat) (r : List Int), R[i]? = some r → ∃ a b, r = [a, b] ∧ PQ q a b ∧ a ≤ 1000000) ∧
    (∀ (i : Nat) (r s : List Int), R[i]? = some r → R[i + 1]? = some s → ∃ a b u v, r = [a, b] ∧ s = [u, v] ∧ u + v < a + b ∧ 0 ≤ u + v ∧ a + b ≤ 2000000) ∧ (∃ g, R[R.length - 1]? = some [g, 0] ∧ g * g = q)
theorem RunOk.last {q : Int} {n : Nat} {x : Int} (hn : 1 ≤ n) (h : PQ q x 0) (hx : x ≤ 1000000) : RunOk q n x 0 [[x, 0]] := by
  refine ⟨by simpa using hn, ⟨[], rfl⟩, fun i r hi => ?_, fun i r s _ hs => by simp at hs, x, rfl, by simpa using h.e⟩
  cases i with
  | zero => exact ⟨x, 0, by simpa using hi.symm, h, hx⟩
  | succ i => simp at hi
theorem RunOk.cons {q : Int} {n : Nat} {x y z : Int} {R : List (List Int)} (h : PQ q x y) (hx : x ≤ 1000000) (hz : 0 ≤ z) (hzy : z < y) (hR : RunOk q n y z R) : RunOk q (n + 1) x y ([x, y] :: R) := by
  have h1 := h.h1
  obtain ⟨a1, ⟨L, rfl⟩, a3, a4, g, a5, a6⟩ := hR
  refine ⟨by simp at a1 ⊢; omega, ⟨_, rfl⟩, fun i r hi => ?_, fun i r s hi hs => ?_, g, ?_, a6⟩
  · cases i with
    | zero => exact ⟨x, y, by simpa using hi.symm, h, hx⟩
    | succ i => exact a3 i r (by simpa using hi)
  · cases i with
    | zero => exact ⟨x, y, y, z, by simpa using hi.symm, by simpa using hs.symm, by omega, by omega, by omega⟩
    | succ i => exact a4 i r s (by simpa using hi) (by simpa using hs)
  · simp only [List.length_cons, Nat.add_sub_cancel] at a5 ⊢
    rw [List.getElem?_cons_succ]
    exact a5
theorem runQ_ok {q : Int} (d : Nat) : ∀ (x y : Int), PQ q x y → x ≤ 1000000 → y < (3 : Int) ^ d → RunOk q (d + 1) x y (runQ q d x y) := by
  induction d with
  | zero =>
    intro x y h hx hy
    have h0 := h.h0
    have : (3 : Int) ^ 0 = 1 := rfl
    obtain rfl : y = 0 := by omega
    exact RunOk.last (by omega) h hx
  | succ d ih =>
    intro x y h hx hy
    have h0 := h.h0
    have h1 := h.h1
    by_cases hz : y = 0
    · rw [show runQ q (d + 1) x y = [[x, y]] from if_pos hz]
      subst hz
      exact RunOk.last (by omega) h hx
    · obtain ⟨h3, h4, h5⟩ := h.step (by omega)
      have h6 := h.falls (by omega)
      rw [Int.pow_succ] at hy
      rw [show runQ q (d + 1) x y = [x, y] :: runQ q d y (q * y - x) from if_neg hz]
      exact RunOk.cons h hx h3 h4 (ih y (q * y - x) h5 (by omega) (by omega))
end Go.Proofs.Ytaphbbnoadjplaa.Q

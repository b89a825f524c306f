/- Quads on their way down: plain arithmetic and lists. -/
import Derived.Test.YtnaginnhccldhaaBQQuadF
namespace Go.Proofs.Ytnaginnhccldhaa.Q
open Go.RowKit Go.Proofs.Ytnaginnhccldhaa.P Go.Proofs.YtnaginnhccldhaaW.PrintWords Go.Proofs.YtnaginnhccldhaaW.PrintLast
theorem QuadZ.twos {a b c d : Int} (h : QuadZ a b c d) : 0 ≤ a + b ∧ 0 ≤ a + c ∧ 0 ≤ a + d ∧ 0 ≤ b + c ∧ 0 ≤ b + d ∧ 0 ≤ c + d := by
  have h1 := h.two
  have h2 := h.rot.two
  have h3 : QuadZ a c b d := ⟨by have := h.sq; grind, by have := h.pos; omega⟩
  have h4 := h3.two
  omega
/-- The least index of a greatest number. -/
def best : List Int → Nat
  | [a, b, c, d] => if b ≤ a ∧ c ≤ a ∧ d ≤ a then 0 else if c ≤ b ∧ d ≤ b then 1 else if d ≤ c then 2 else 3
  | _ => 0
/-- No swap makes a number less. -/
def rootB : List Int → Bool
  | [a, b, c, d] => decide (a ≤ 2 * (b + c + d) - a ∧ b ≤ 2 * (a + c + d) - b ∧ c ≤ 2 * (a + b + d) - c ∧ d ≤ 2 * (a + b + c) - d)
  | _ => true
def sum4 : List Int → Int
  | [a, b, c, d] => a + b + c + d
  | _ => 0
def downQ (q : List Int) : List Int := swapL q (best q)
theorem best_lt (q : List Int) : best q < 4 := by
  unfold best
  split
  · repeat' split
    all_goals omega
  · omega
/-- A swap that makes its number less is the swap down. -/
theorem less_best {q : List Int} (h : Quad4 q) {i : Nat} (hi : i < 4) (hl : rd (swapL q i) (i : Int) < rd q (i : Int)) : best q = i ∧ rootB q = false ∧ InC (rd (swapL q i) (i : Int)) ∧ sum4 (swapL q i) < sum4 q := by
  obtain ⟨a, b, c, d, rfl, ⟨⟨a1, a2⟩, ⟨b1, b2⟩, ⟨c1, c2⟩, ⟨d1, d2⟩⟩, hz⟩ := h
  obtain ⟨t1, t2, t3, t4, t5, t6⟩ := hz.twos
  rcases (show i = 0 ∨ i = 1 ∨ i = 2 ∨ i = 3 by omega) with rfl | rfl | rfl | rfl
  · replace hl : 2 * (b + c + d) - a < a := hl
    refine ⟨if_pos (by omega), decide_eq_false (by omega), ⟨show -100000 ≤ 2 * (b + c + d) - a by omega, show 2 * (b + c + d) - a ≤ 100000 by omega⟩, show 2 * (b + c + d) - a + b + c + d < a + b + c + d by omega⟩
  · replace hl : 2 * (a + c + d) - b < b := hl
    refine ⟨?_, decide_eq_false (by omega), ⟨show -100000 ≤ 2 * (a + c + d) - b by omega, show 2 * (a + c + d) - b ≤ 100000 by omega⟩, show a + (2 * (a + c + d) - b) + c + d < a + b + c + d by omega⟩
    show (if b ≤ a ∧ c ≤ a ∧ d ≤ a then 0 else if c ≤ b ∧ d ≤ b then 1 else if d ≤ c then 2 else 3) = _
    rw [if_neg (by omega), if_pos (by omega)]
  · replace hl : 2 * (a + b + d) - c < c := hl
    refine ⟨?_, decide_eq_false (by omega), ⟨show -100000 ≤ 2 * (a + b + d) - c by omega, show 2 * (a + b + d) - c ≤ 100000 by omega⟩, show a + b + (2 * (a + b + d) - c) + d < a + b + c + d by omega⟩
    show (if b ≤ a ∧ c ≤ a ∧ d ≤ a then 0 else if c ≤ b ∧ d ≤ b then 1 else if d ≤ c then 2 else 3) = _
    rw [if_neg (by omega), if_neg (by omega), if_pos (by omega)]
  · replace hl : 2 * (a + b + c) - d < d := hl
    refine ⟨?_, decide_eq_false (by omega), ⟨show -100000 ≤ 2 * (a + b + c) - d by omega, show 2 * (a + b + c) - d ≤ 100000 by omega⟩, show a + b + c + (2 * (a + b + c) - d) < a + b + c + d by omega⟩
    show (if b ≤ a ∧ c ≤ a ∧ d ≤ a then 0 else if c ≤ b ∧ d ≤ b then 1 else if d ≤ c then 2 else 3) = _
    rw [if_neg (by omega), if_neg (by omega), if_neg (by omega)]
theorem not_root {q : List Int} (h : Quad4 q) (hr : rootB q = false) : rd (swapL q (best q)) ((best q : Nat) : Int) < rd q ((best q : Nat) : Int) := by
  obtain ⟨a, b, c, d, rfl, hc, hz⟩ := h
  have h : Quad4 [a, b, c, d] := ⟨a, b, c, d, rfl, hc, hz⟩
  have hr' := of_decide_eq_false hr
  have : (∃ i < 4, rd (swapL [a, b, c, d] i) (i : Int) < rd [a, b, c, d] (i : Int)) := by
    by_cases h0 : 2 * (b + c + d) - a < a
    · exact ⟨0, by omega, h0⟩
    by_cases h1 : 2 * (a + c + d) - b < b
    · exact ⟨1, by omega, h1⟩
    by_cases h2 : 2 * (a + b + d) - c < c
    · exact ⟨2, by omega, h2⟩
    by_cases h3 : 2 * (a + b + c) - d < d
    · exact ⟨3, by omega, h3⟩
    omega
  obtain ⟨i, hi, hl⟩ := this
  rw [(less_best h hi hl).1]
  exact hl
theorem swap_swap {q : List Int} (hq : q.length = 4) {i : Nat} (hi : i < 4) : swapL (swapL q i) i = q := by
  match q, hq with
  | [a, b, c, d], _ =>
    rcases (show i = 0 ∨ i = 1 ∨ i = 2 ∨ i = 3 by omega) with rfl | rfl | rfl | rfl
    all_goals
      simp only [swapL, List.cons.injEq, and_true, true_and]
      omega
theorem swap_new {q : List Int} (hq : q.length = 4) {i : Nat} (hi : i < 4) : rd (swapL (swapL q i) i) (i : Int) = rd q (i : Int) := by rw [swap_swap hq hi]
theorem down_quad {q : List Int} (h : Quad4 q) (hr : rootB q = false) : Quad4 (downQ q) ∧ sum4 (downQ q) < sum4 q ∧ InC (rd (swapL q (best q)) ((best q : Nat) : Int)) := by
  have h1 := less_best h (best_lt q) (not_root h hr)
  exact ⟨swap_quad h (best_lt q) h1.2.2.1, h1.2.2.2, h1.2.2.1⟩
/-! ### The way down -/
def pathQ : Nat → List Int → List (List Int)
  | 0, q => [q]
  | n + 1, q => if rootB q = true then [q] else q :: pathQ n (downQ q)
def wordQ : Nat → List Int → List Int
  | 0, _ => []
  | n + 1, q => if rootB q = true then [] else ((best q : Nat) : Int) :: wordQ n (downQ q)
def rootP : Nat → List Int → List Int
  | 0, q => q
  | n + 1, q => if rootB q = true then q else rootP n (downQ q)
theorem path_len (n : Nat) (q : List Int) : (pathQ n q).length = (wordQ n q).length + 1 ∧ (pathQ n q).length ≤ n + 1 := by
  induction n generalizing q with
  | zero => exact ⟨rfl, Nat.le_refl _⟩
  | succ n ih =>
    unfold pathQ wordQ
    have := ih (downQ q)
    split
    · simp
    · simp only [List.length_cons]; omega
theorem path_head (n : Nat) (q : List Int) : ∃ t, pathQ n q = q :: t := by
  cases n with
  | zero => exact ⟨[], rfl⟩
  | succ n =>
    unfold pathQ
    split
    · exact ⟨_, rfl⟩
    · exact ⟨_, rfl⟩
theorem path_all {n : Nat} {q : List Int} (h : Quad4 q) : ∀ x ∈ pathQ n q, Quad4 x := by
  induction n generalizing q with
  | zero => intro x hx; rw [List.mem_singleton.1 hx]; exact h
  | succ n ih =>
    intro x hx
    unfold pathQ at hx
    split at hx
    · rw [List.mem_singleton.1 hx]; exact h
    · rename_i hr
      rcases List.mem_cons.1 hx with e | hx
      · rw [e]; exact h
      · exact ih (down_quad h (by simpa using hr)).1 x hx
theorem word_all (n : Nat) (q : List Int) : ∀ x ∈ wordQ n q, 0 ≤ x ∧ x ≤ 3 := by
  induction n generalizing q with
  | zero => intro x hx; cases hx
  | succ n ih =>
    intro x hx
    unfold wordQ at hx
    split at hx
    · cases hx
    · rcases List.mem_cons.1 hx with e | hx
      · have := best_lt q; omega
      · exact ih _ x hx
/-- One step of the way. -/
theorem path_step {n : Nat} {q : List Int} (h : Quad4 q) : ∀ k (hk : k + 1 < (pathQ n q).length) (hw : k < (wordQ n q).length), (pathQ n q)[k + 1] = downQ (pathQ n q)[k] ∧ (wordQ n q)[k] = ((best (pathQ n q)[k] : Nat) : Int) ∧ rootB (pathQ n q)[k] = false := by
  induction n generalizing q with
  | zero => intro k hk; exact absurd hk (by simp [pathQ])
  | succ n ih =>
    intro k hk hw
    by_cases hr : rootB q = true
    · have e : pathQ (n + 1) q = [q] := by unfold pathQ; rw [if_pos hr]
      rw [e] at hk
      simp at hk
    · have e : pathQ (n + 1) q = q :: pathQ n (downQ q) := by rw [pathQ, if_neg hr]
      have e2 : wordQ (n + 1) q = ((best q : Nat) : Int) :: wordQ n (downQ q) := by rw [wordQ, if_neg hr]
      simp only [e, e2] at hk hw ⊢
      cases k with
      | zero =>
        obtain ⟨t, ht⟩ := path_head n (downQ q)
        refine ⟨by simp [ht], rfl, by simpa using hr⟩
      | succ k =>
        simp only [List.length_cons] at hk hw
        have := ih (down_quad h (by simpa using hr)).1 k (by omega) (by omega)
        simpa using this
theorem path_last (n : Nat) (q : List Int) : ∀ (h : (pathQ n q).length - 1 < (pathQ n q).length), (pathQ n q)[(pathQ n q).length - 1] = rootP n q := by
  induction n generalizing q with
  | zero => intro h; rfl
  | succ n ih =>
    intro h
    by_cases hr : rootB q = true
    · have e : pathQ (n + 1) q = [q] := by unfold pathQ; rw [if_pos hr]
      have e2 : rootP (n + 1) q = q := by unfold rootP; rw [if_pos hr]
      simp [e, e2]
    · have e : pathQ (n + 1) q = q :: pathQ n (downQ q) := by rw [pathQ, if_neg hr]
      have e2 : rootP (n + 1) q = rootP n (downQ q) := by rw [rootP, if_neg hr]
      obtain ⟨t, ht⟩ := path_head n (downQ q)
      have h3 := ih (downQ q) (by rw [ht]; simp)
      simp only [e, e2]
      rw [← h3]
      simp [ht]
theorem root_root {n : Nat} {q : List Int} (h : (pathQ n q).length ≤ n) : rootB (rootP n q) = true := by
  induction n generalizing q with
  | zero => obtain ⟨t, ht⟩ := path_head 0 q; rw [ht] at h; simp at h
  | succ n ih =>
    unfold rootP
    unfold pathQ at h
    split
    · assumption
    · rename_i hr
      rw [if_neg hr] at h
      simp only [List.length_cons] at h
      exact ih (by omega)
theorem root_stays {n : Nat} {q : List Int} (h : (pathQ n q).length ≤ n) : rootP (n + 1) q = rootP n q := by
  induction n generalizing q with
  | zero => obtain ⟨t, ht⟩ := path_head 0 q; rw [ht] at h; simp at h
  | succ n ih =>
    show (if rootB q = true then q else rootP (n + 1) (downQ q)) = (if rootB q = true then q else rootP n (downQ q))
    unfold pathQ at h
    by_cases hr : rootB q = true
    · rw [if_pos hr, if_pos hr]
    · rw [if_neg hr] at h
      rw [if_neg hr, if_neg hr]
      simp only [List.length_cons] at h
      exact ih (by omega)
theorem root_quad {n : Nat} {q : List Int} (h : Quad4 q) : Quad4 (rootP n q) := by
  induction n generalizing q with
  | zero => exact h
  | succ n ih =>
    unfold rootP
    split
    · exact h
    · rename_i hr
      exact ih (down_quad h (by simpa using hr)).1
theorem follow_word {n : Nat} {q : List Int} (h : Quad4 q) : follow q (wordQ n q) = (rootP n q, true) := by
  induction n generalizing q with
  | zero => rfl
  | succ n ih =>
    unfold wordQ rootP
    split
    · rfl
    · rename_i hr
      have hd := down_quad h (by simpa using hr)
      unfold follow
      rw [Int.toNat_natCast, if_pos hd.2.2]
      exact ih hd.1
theorem follow_snoc (w : List Int) (x : Int) : ∀ q r, follow q w = (r, true) → follow q (w ++ [x]) = follow r [x] := by
  induction w with
  | nil => intro q r h; cases h; rfl
  | cons y w ih =>
    intro q r h
    unfold follow at h
    rw [List.cons_append, follow]
    split at h
    · rename_i hc
      rw [if_pos hc]
      exact ih _ _ h
    · cases h
theorem follow_back {n : Nat} {q : List Int} (h : Quad4 q) : follow (rootP n q) (wordQ n q).reverse = (q, true) := by
  induction n generalizing q with
  | zero => rfl
  | succ n ih =>
    unfold wordQ rootP
    split
    · rfl
    · rename_i hr
      have hd := down_quad h (by simpa using hr)
      rw [List.reverse_cons, follow_snoc _ _ _ _ (ih hd.1)]
      unfold follow
      have hb := swap_swap (quad_len h) (best_lt q)
      have hin : InC (rd q ((best q : Nat) : Int)) := by
        obtain ⟨a, b, c, d, rfl, ⟨ha, hb, hc, hd⟩, _⟩ := h
        rcases (show best [a, b, c, d] = 0 ∨ best [a, b, c, d] = 1 ∨ best [a, b, c, d] = 2 ∨ best [a, b, c, d] = 3 by have := best_lt [a, b, c, d]; omega) with e | e | e | e
        all_goals rw [e]; assumption
      rw [Int.toNat_natCast, downQ, hb, if_pos hin]
      rfl
/-- Behind a swap that makes a number less the root is the same. -/
theorem same_less {p : List Int} (h : Quad4 p) {i : Nat} (hi : i < 4) (hl : rd (swapL p i) (i : Int) < rd p (i : Int)) (h1 : (pathQ 200 p).length ≤ 200) : rootP 200 (swapL p i) = rootP 200 p := by
  obtain ⟨e, hr, _⟩ := less_best h hi hl
  have e0 : swapL p i = downQ p := by rw [downQ, e]
  have hr' : ¬ rootB p = true := by rw [hr]; simp
  have e1 : rootP 200 p = rootP 199 (downQ p) := by rw [show (200 : Nat) = 199 + 1 from rfl, rootP, if_neg hr']
  rw [show (200 : Nat) = 199 + 1 from rfl, pathQ, if_neg hr', List.length_cons] at h1
  rw [e1, e0]
  exact root_stays (n := 199) (by omega)
theorem same_root {p : List Int} (h : Quad4 p) {i : Nat} (hi : i < 4) (hs : Quad4 (swapL p i)) (h1 : (pathQ 200 p).length ≤ 200) (h2 : (pathQ 200 (swapL p i)).length ≤ 200) : rootP 200 (swapL p i) = rootP 200 p := by
  rcases Int.lt_trichotomy (rd (swapL p i) (i : Int)) (rd p (i : Int)) with hl | hl | hl
  · exact same_less h hi hl h1
  · have : swapL p i = p := by
      match p, quad_len h with
      | [a, b, c, d], _ =>
        rcases (show i = 0 ∨ i = 1 ∨ i = 2 ∨ i = 3 by omega) with rfl | rfl | rfl | rfl
        · replace hl : 2 * (b + c + d) - a = a := hl; simp only [swapL, hl]
        · replace hl : 2 * (a + c + d) - b = b := hl; simp only [swapL, hl]
        · replace hl : 2 * (a + b + d) - c = c := hl; simp only [swapL, hl]
        · replace hl : 2 * (a + b + c) - d = d := hl; simp only [swapL, hl]
    rw [this]
  · have hb := swap_swap (quad_len h) hi
    have := same_less hs hi (by rw [hb]; exact hl) h2
    rw [hb] at this
    exact this.symm
end Go.Proofs.Ytnaginnhccldhaa.Q

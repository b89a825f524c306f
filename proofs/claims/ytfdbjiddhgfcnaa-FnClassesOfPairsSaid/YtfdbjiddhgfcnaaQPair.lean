/- Pairs of an equation x x + y y + c = k x y: jumps, of both programs. -/
import Derived.Test.YtfdbjiddhgfcnaaPx1
import Derived.Test.YtfdbjiddhgfcnaaPx2
import Derived.Test.YtfdbjiddhgfcnaaPx3
import Derived.Test.YtfdbjiddhgfcnaaPx5
import Derived.Test.YtfdbjiddhgfcnaaQIn
namespace Go.Proofs.Ytfdbjiddhgfcnaa.Q
open Go.RowKit Go.Proofs.Ytfdbjiddhgfcnaa.P Go.Proofs.YtfdbjiddhgfcnaaW.PrintWords Go.Proofs.YtfdbjiddhgfcnaaW.PrintLast

/-- k and c are as told. -/
def KC (k c : Int) : Prop := (1 ≤ k ∧ k ≤ 1000) ∧ (-1000 ≤ c ∧ c ≤ 1000)
instance (k c : Int) : Decidable (KC k c) := inferInstanceAs (Decidable (_ ∧ _))
/-- A pair. -/
def Pr (k c x y : Int) : Prop := 0 ≤ y ∧ y ≤ x ∧ x ≤ 1000000 ∧ x * x + y * y + c = k * x * y
instance (k c x y : Int) : Decidable (Pr k c x y) := inferInstanceAs (Decidable (_ ∧ _ ∧ _ ∧ _))
theorem pr_bounds {k c x y : Int} (hk : KC k c) (h0 : 0 ≤ y) (h1 : y ≤ x) (h2 : x ≤ 1000000) :
    wrap64 (wrap64 (wrap64 (x * x) + wrap64 (y * y)) + c) = x * x + y * y + c ∧ wrap64 (wrap64 (k * x) * y) = k * x * y ∧ wrap64 (wrap64 (k * y) - x) = k * y - x ∧ wrap64 (wrap64 (k * x) - y) = k * x - y ∧
      0 ≤ k * y ∧ 0 ≤ k * x ∧ k * x ≤ 1000000000 := by
  obtain ⟨⟨k0, k1⟩, c0, c1⟩ := hk
  have a1 : 0 ≤ x * x ∧ x * x ≤ 1000000000000 := ⟨Int.mul_nonneg (by omega) (by omega), by have := Int.mul_le_mul h2 h2 (by omega) (by omega); omega⟩
  have a2 : 0 ≤ y * y ∧ y * y ≤ 1000000000000 := ⟨Int.mul_nonneg (by omega) (by omega), by have := Int.mul_le_mul (show y ≤ 1000000 by omega) (show y ≤ 1000000 by omega) (by omega) (by omega); omega⟩
  have a3 : 0 ≤ k * x ∧ k * x ≤ 1000000000 := ⟨Int.mul_nonneg (by omega) (by omega), by have := Int.mul_le_mul k1 h2 (by omega) (by omega); omega⟩
  have a4 : 0 ≤ k * y ∧ k * y ≤ 1000000000 := ⟨Int.mul_nonneg (by omega) (by omega), by have := Int.mul_le_mul k1 (show y ≤ 1000000 by omega) (by omega) (by omega); omega⟩
  have a5 : 0 ≤ k * x * y ∧ k * x * y ≤ 1000000000000000 := ⟨Int.mul_nonneg (by omega) (by omega), by have := Int.mul_le_mul a3.2 (show y ≤ 1000000 by omega) (by omega) (by omega); omega⟩
  rw [w64 (x := x * x) (by omega) (by omega), w64 (x := y * y) (by omega) (by omega), w64 (x := x * x + y * y) (by omega) (by omega), w64 (x := k * x) (by omega) (by omega), w64 (x := k * y) (by omega) (by omega)]
  exact ⟨w64 (by omega) (by omega), w64 (by omega) (by omega), w64 (by omega) (by omega), w64 (by omega) (by omega), a4.1, a3.1, a3.2⟩
theorem isJump_eq {k c : Int} (hk : KC k c) (x y : Int) : impl_isJump.f x y k c = some (decide (Pr k c x y)) := by
  unfold impl_isJump.f
  rw [within_eq, within_eq]
  simp only [Option.bind_some]
  by_cases h : (0 ≤ y ∧ y ≤ 1000000) ∧ y ≤ x ∧ x ≤ 1000000
  · rw [if_pos (decide_eq_true h.1), if_pos (decide_eq_true h.2)]
    obtain ⟨e1, e2, _⟩ := pr_bounds hk h.1.1 h.2.1 h.2.2
    rw [e1, e2]
    by_cases he : x * x + y * y + c = k * x * y
    · rw [decide_eq_true (show Pr k c x y from ⟨h.1.1, h.2.1, h.2.2, he⟩), he]
      simp
    · rw [decide_eq_false (fun p : Pr k c x y => he p.2.2.2), beq_eq_false_iff_ne.2 he]
  · rw [decide_eq_false (fun p : Pr k c x y => h ⟨⟨p.1, by have := p.2.1; have := p.2.2.1; omega⟩, p.2.1, p.2.2.1⟩)]
    by_cases h1 : 0 ≤ y ∧ y ≤ 1000000
    · rw [if_pos (decide_eq_true h1), if_neg (by simp; omega)]
    · rw [if_neg (by simpa using h1)]
theorem juGood_eq {k c : Int} (hk : KC k c) (x y : Int) : spec_juGood.f x y k c = some (decide (Pr k c x y)) := by
  unfold spec_juGood.f
  rw [in_eq, in_eq]
  simp only [Option.bind_some]
  by_cases h : (0 ≤ x ∧ x ≤ 1000000) ∧ 0 ≤ y ∧ y ≤ x
  · rw [if_pos (decide_eq_true h.1), if_pos (decide_eq_true h.2)]
    obtain ⟨e1, e2, _⟩ := pr_bounds hk h.2.1 h.2.2 h.1.2
    rw [e1, e2]
    by_cases he : x * x + y * y + c = k * x * y
    · rw [decide_eq_true (show Pr k c x y from ⟨h.2.1, h.2.2, h.1.2, he⟩), he]
      simp
    · rw [decide_eq_false (fun p : Pr k c x y => he p.2.2.2), beq_eq_false_iff_ne.2 he]
  · rw [decide_eq_false (fun p : Pr k c x y => h ⟨⟨by have := p.1; have := p.2.1; omega, p.2.2.1⟩, p.1, p.2.1⟩)]
    by_cases h1 : 0 ≤ x ∧ x ≤ 1000000
    · rw [if_pos (decide_eq_true h1), if_neg (by simp; omega)]
    · rw [if_neg (by simpa using h1)]
theorem constants_eq (k c : Int) : impl_areConstants.f k c = some (decide (KC k c)) := by
  unfold impl_areConstants.f
  rw [within_eq, within_eq]
  simp only [Option.bind_some]
  by_cases h : 1 ≤ k ∧ k ≤ 1000
  · rw [if_pos (decide_eq_true h)]
    congr 1
    rw [decide_eq_decide]
    exact ⟨fun p => ⟨h, p⟩, fun p => p.2⟩
  · rw [if_neg (by simpa using h), decide_eq_false (fun p : KC k c => h p.1)]
theorem juGiven_eq (k c : Int) : spec_juGiven.f k c = some (decide (KC k c)) := by
  unfold spec_juGiven.f
  rw [in_eq, in_eq]
  simp only [Option.bind_some]
  by_cases h : 1 ≤ k ∧ k ≤ 1000
  · rw [if_pos (decide_eq_true h)]
    congr 1
    rw [decide_eq_decide]
    exact ⟨fun p => ⟨h, p⟩, fun p => p.2⟩
  · rw [if_neg (by simpa using h), decide_eq_false (fun p : KC k c => h p.1)]
theorem isJumper_eq (x y k c : Int) : impl_isJumper.f x y k c = some (decide (KC k c ∧ Pr k c x y)) := by
  unfold impl_isJumper.f
  rw [constants_eq]
  simp only [Option.bind_some]
  by_cases hk : KC k c
  · rw [if_pos (decide_eq_true hk), isJump_eq hk]
    simp only [Option.bind_some, Option.some.injEq, decide_eq_decide]
    exact ⟨fun p => ⟨hk, p⟩, fun p => p.2⟩
  · rw [if_neg (by simpa using hk), decide_eq_false (fun p => hk p.1)]
/-- A jump down, of a pair. -/
def downR (x y k : Int) : Int × Int × Bool := if 0 ≤ k * y - x ∧ k * y - x < x then (max (k * y - x) y, min (k * y - x) y, true) else (0, 0, false)
def upR (x y k : Int) : Int × Int × Bool := if x ≤ k * x - y ∧ k * x - y ≤ 1000000 then (k * x - y, x, true) else (0, 0, false)
theorem jumpDown_eq {k c x y : Int} (hk : KC k c) (h : Pr k c x y) : impl_jumpDown.f x y k = some (downR x y k) := by
  obtain ⟨h0, h1, h2, _⟩ := h
  obtain ⟨_, _, e3, e4, _⟩ := pr_bounds hk h0 h1 h2
  unfold impl_jumpDown.f downR
  rw [e3]
  by_cases hn : k * y - x < 0
  · rw [if_pos hn, if_neg (by omega)]
  · rw [if_neg hn]
    by_cases hg : k * y - x ≥ x
    · rw [if_pos hg, if_neg (by omega)]
    · rw [if_neg hg, if_pos (by omega), show mx (k * y - x) y = max (k * y - x) y by unfold mx; omega, show mn (k * y - x) y = min (k * y - x) y by unfold mn; omega]
theorem juDown_eq {k c x y : Int} (hk : KC k c) (h : Pr k c x y) : spec_juDown.f x y k = some (downR x y k) := by
  obtain ⟨h0, h1, h2, _⟩ := h
  obtain ⟨_, _, e3, e4, _⟩ := pr_bounds hk h0 h1 h2
  unfold spec_juDown.f downR
  rw [e3, in_eq, w64 (x := x - 1) (by omega) (by omega)]
  simp only [Option.bind_some]
  by_cases hn : 0 ≤ k * y - x ∧ k * y - x < x
  · rw [if_pos (by simp; omega), if_pos hn]
    by_cases hg : k * y - x < y
    · rw [if_pos hg, show max (k * y - x) y = y by omega, show min (k * y - x) y = k * y - x by omega]
    · rw [if_neg hg, show max (k * y - x) y = k * y - x by omega, show min (k * y - x) y = y by omega]
  · rw [if_neg (by simp; omega), if_neg hn]
def DownR (x y k c : Int) : Int × Int × Bool := if KC k c ∧ Pr k c x y then downR x y k else (0, 0, false)
def UpR (x y k c : Int) : Int × Int × Bool := if KC k c ∧ Pr k c x y then upR x y k else (0, 0, false)
/-- The pair behind a jump down. -/
theorem Pr.down {k c x y : Int} (h : Pr k c x y) (hn : 0 ≤ k * y - x ∧ k * y - x < x) : Pr k c (max (k * y - x) y) (min (k * y - x) y) ∧ max (k * y - x) y + min (k * y - x) y = k * y - x + y := by
  obtain ⟨h0, h1, h2, e⟩ := h
  by_cases hg : k * y - x < y
  · rw [show max (k * y - x) y = y by omega, show min (k * y - x) y = k * y - x by omega]
    exact ⟨⟨hn.1, by omega, by omega, by grind⟩, by omega⟩
  · rw [show max (k * y - x) y = k * y - x by omega, show min (k * y - x) y = y by omega]
    exact ⟨⟨h0, by omega, by omega, by grind⟩, by omega⟩
theorem Pr.up {k c x y : Int} (h : Pr k c x y) (hn : x ≤ k * x - y ∧ k * x - y ≤ 1000000) : Pr k c (k * x - y) x := by
  obtain ⟨h0, h1, h2, e⟩ := h
  exact ⟨by omega, hn.1, hn.2, by grind⟩
end Go.Proofs.Ytfdbjiddhgfcnaa.Q

/- Where the descent to four squares begins: both programs find the first numbers. -/
import Derived.Test.YtkchoccicpbbfaaPx3
import Derived.Test.YtkchoccicpbbfaaPx7
import Derived.Test.YtkchoccicpbbfaaPx8
import Derived.Test.YtkchoccicpbbfaaQFourComp
import Derived.Test.YtkchoccicpbbfaaQNum
namespace Go.Proofs.Ytkchoccicpbbfaa.Q
open Go.RowKit Go.Proofs.Ytkchoccicpbbfaa.P Go.Proofs.YtkchoccicpbbfaaW.PrintWords Go.Proofs.YtkchoccicpbbfaaW.PrintLast

theorem least_ex {P : Nat → Prop} {n : Nat} (h : P n) : ∃ m, P m ∧ (∀ k, k < m → ¬ P k) ∧ m ≤ n := by
  induction n using Nat.strongRecOn with
  | _ n ih =>
    by_cases hk : ∃ k, k < n ∧ P k
    · obtain ⟨k, hk, hP⟩ := hk
      obtain ⟨m, h1, h2, h3⟩ := ih k hk hP
      exact ⟨m, h1, h2, by omega⟩
    · exact ⟨n, h, fun k hk' hP => hk ⟨k, hk', hP⟩, Nat.le_refl _⟩

def Hit (p a b : Nat) : Prop := (a * a + b * b + 1) % p = 0
/-- The first numbers: a least, and for it b least. -/
structure First (p a b : Nat) : Prop where
  half : 2 * a ≤ p
  le : b ≤ a
  hit : Hit p a b
  noA : ∀ x, x < a → ∀ y, y ≤ x → ¬ Hit p x y
  noB : ∀ y, y < b → ¬ Hit p a y
theorem first_exists {p : Nat} (hp : isPr p) (h : p ≤ 2000) : ∃ a b, First p a b := by
  obtain ⟨x, y, h1, h2, h3⟩ := FourComp.start_exists p hp.1 h hp.2
  obtain ⟨a, ⟨b1, hb1, hb2⟩, ha, hax⟩ := least_ex (P := fun a => ∃ b, b ≤ a ∧ Hit p a b) (n := x) ⟨y, h2, h3⟩
  obtain ⟨b, hb, hbm, hbl⟩ := least_ex (P := fun b => Hit p a b) (n := b1) hb2
  exact ⟨a, b, ⟨by omega, by omega, hb, fun x hx y hy hh => ha x hx ⟨y, hy, hh⟩, hbm⟩⟩

theorem sum_wrap {a b : Nat} (ha : a ≤ 2000) (hb : b ≤ 2000) : wrap64 (wrap64 (wrap64 ((a : Int) * (a : Int)) + wrap64 ((b : Int) * (b : Int))) + 1) = ((a * a + b * b + 1 : Nat) : Int) := by
  have h1 : a * a ≤ 2000 * 2000 := Nat.mul_le_mul ha ha
  have h2 : b * b ≤ 2000 * 2000 := Nat.mul_le_mul hb hb
  rw [w64_mul (c := 2000) (d := 2000) ha ha (by omega), w64_mul (c := 2000) (d := 2000) hb hb (by omega), w64 (x := ((a * a : Nat) : Int) + ((b * b : Nat) : Int)) (by omega) (by omega)]
  exact w64 (by omega) (by omega)

theorem sqStart_l1 {p a0 b0 : Nat} (hp : p ≤ 2000) (hp2 : 2 ≤ p) (F : First p a0 b0) (n : Nat) : ∀ a b : Nat, a ≤ a0 → b ≤ a + 1 → (a = a0 → b ≤ b0) → 3000 * (a0 - a) + (a + 1 - b) ≤ n →
    Ev (fun k => spec_sqStart.l1 k (p : Int) (a : Int) (b : Int)) [(a0 : Int), (b0 : Int), 1, 0] := by
  have hal : a0 ≤ 1000 := by have := F.half; omega
  induction n with
  | zero =>
    intro a b h1 h2 h3 h4
    have : a = a0 := by omega
    have := h3 this
    have := F.le
    omega
  | succ n ih =>
    intro a b h1 h2 h3 h4
    refine Ev_succ ?_
    simp only [spec_sqStart.l1]
    by_cases hb : b ≤ a
    · rw [sum_wrap (by omega) (by omega), tmod_cast, w64 (x := (b : Int) + 1) (by omega) (by omega)]
      refine Ev_true (by omega) (Ev_false (by omega) ?_)
      by_cases hh : Hit p a b
      · have e : a = a0 ∧ b = b0 := by
          by_cases ea : a = a0
          · refine ⟨ea, ?_⟩
            subst ea
            have h5 := h3 rfl
            by_cases eb : b = b0
            · exact eb
            · exact absurd hh (F.noB b (by omega))
          · exact absurd hh (F.noA a (by omega) b hb)
        obtain ⟨rfl, rfl⟩ := e
        have hh : (a * a + b * b + 1) % p = 0 := hh
        exact Ev_true (by omega) Ev_some
      · have hh : (a * a + b * b + 1) % p ≠ 0 := hh
        refine Ev_false (by omega) ?_
        refine ih a (b + 1) h1 (by omega) (fun e => ?_) (by omega)
        have h5 := h3 e
        by_cases eb : b = b0
        · subst e eb
          exact absurd F.hit hh
        · omega
    · rw [w64 (x := (a : Int) + 1) (by omega) (by omega)]
      refine Ev_false (by omega) ?_
      have ha : a < a0 := by
        rcases Nat.lt_or_ge a a0 with h | h
        · exact h
        · have e : a = a0 := by omega
          have := h3 e
          have := F.le
          omega
      refine Ev_succ ?_
      simp only [spec_sqStart.l0]
      exact ih (a + 1) 0 (by omega) (by omega) (fun _ => by omega) (by omega)
theorem fourStart_l1 {p a0 b0 : Nat} (hp : p ≤ 2000) (hp2 : 2 ≤ p) (F : First p a0 b0) (n : Nat) : ∀ a b : Nat, a ≤ a0 → b ≤ a + 1 → (a = a0 → b ≤ b0) → 3000 * (a0 - a) + (a + 1 - b) ≤ n →
    Ev (fun k => impl_FourStart.l1 k (p : Int) (a : Int) ((a : Int) + 1) (b : Int)) ([(a0 : Int), (b0 : Int), 1, 0], true) := by
  have hal : a0 ≤ 1000 := by have := F.half; omega
  induction n with
  | zero =>
    intro a b h1 h2 h3 h4
    have : a = a0 := by omega
    have := h3 this
    have := F.le
    omega
  | succ n ih =>
    intro a b h1 h2 h3 h4
    refine Ev_succ ?_
    simp only [impl_FourStart.l1]
    by_cases hb : b ≤ a
    · rw [sum_wrap (by omega) (by omega), tmod_cast, w64 (x := (b : Int) + 1) (by omega) (by omega)]
      refine Ev_true (by omega) (Ev_false (by omega) ?_)
      by_cases hh : Hit p a b
      · have e : a = a0 ∧ b = b0 := by
          by_cases ea : a = a0
          · refine ⟨ea, ?_⟩
            subst ea
            have h5 := h3 rfl
            by_cases eb : b = b0
            · exact eb
            · exact absurd hh (F.noB b (by omega))
          · exact absurd hh (F.noA a (by omega) b hb)
        obtain ⟨rfl, rfl⟩ := e
        have hh : (a * a + b * b + 1) % p = 0 := hh
        exact Ev_true (by omega) Ev_some
      · have hh : (a * a + b * b + 1) % p ≠ 0 := hh
        refine Ev_false (by omega) ?_
        refine ih a (b + 1) h1 (by omega) (fun e => ?_) (by omega)
        have h5 := h3 e
        by_cases eb : b = b0
        · subst e eb
          exact absurd F.hit hh
        · omega
    · rw [w64 (x := (a : Int) + 1) (by omega) (by omega)]
      refine Ev_false (by omega) ?_
      have ha : a < a0 := by
        rcases Nat.lt_or_ge a a0 with h | h
        · exact h
        · have e : a = a0 := by omega
          have := h3 e
          have := F.le
          omega
      refine Ev_succ ?_
      simp only [impl_FourStart.l0]
      have hf := F.half
      rw [w64 (x := 2 * ((a : Int) + 1)) (by omega) (by omega), w64 (x := (a : Int) + 1 + 1) (by omega) (by omega)]
      exact Ev_true (by omega) (ih (a + 1) 0 (by omega) (by omega) (fun _ => by omega) (by omega))

theorem start_ev (a : Int) : ∃ r : List Int × Bool, r.1.length ≤ 4 ∧ Ev (fun k => spec_FourStart.f k a) r ∧ Ev (fun k => impl_FourStart.f k a) r := by
  have hno : Ev (fun k => impl_FourStart.j0 k a true) ([], false) := by
    refine Ev_succ ?_
    simp only [impl_FourStart.j0]
    exact Ev_true trivial Ev_some
  unfold spec_FourStart.f impl_FourStart.f spec_sqGiven.f
  rw [l1In_eq, isFour_eq]
  simp only [Option.bind_some]
  by_cases h0 : 0 ≤ a ∧ a ≤ 2000
  · obtain ⟨p, rfl⟩ := Int.eq_ofNat_of_zero_le h0.1
    have hpe := isPrime_ev p (by omega)
    have hse := sqPrime_ev p (by omega)
    by_cases hp : isPr p
    · have hb := (prB_iff p).2 hp
      have hp2 := hp.1
      rw [hb] at hpe hse
      obtain ⟨a0, b0, F⟩ := first_exists hp (by omega)
      refine ⟨([(a0 : Int), (b0 : Int), 1, 0], true), by simp, ?_, Ev_true (by simpa using h0) ?_⟩
      · refine Ev.bind (a := true) (f := fun k t => if t = true then (spec_sqStart.f k (p : Int)).bind fun t210 => some (t210, true) else some ([], false)) ?_ ?_
        · exact Ev_true (by simp; omega) (Ev.bind (f := fun _ t => some t) hse Ev_some)
        · refine Ev_true rfl (Ev.bind (f := fun _ t => some (t, true)) ?_ Ev_some)
          refine Ev_succ ?_
          simp only [spec_sqStart.f, spec_sqStart.l0]
          exact sqStart_l1 (by omega) hp2 F _ 0 0 (by omega) (by omega) (fun _ => by omega) (Nat.le_refl _)
      · refine Ev.bind (f := fun k t => impl_FourStart.j0 k (p : Int) (!t)) hpe ?_
        refine Ev_succ ?_
        simp only [impl_FourStart.j0]
        refine Ev_false (by simp) ?_
        refine Ev_succ ?_
        simp only [impl_FourStart.l0]
        rw [w64 (x := 2 * 0) (by omega) (by omega), w64 (x := 0 + 1) (by omega) (by omega)]
        exact Ev_true (by omega) (fourStart_l1 (by omega) hp2 F _ 0 0 (by omega) (by omega) (fun _ => by omega) (Nat.le_refl _))
    · have hb : prB p = false := by
        rw [← Bool.not_eq_true]
        exact fun h => hp ((prB_iff p).1 h)
      rw [hb] at hpe hse
      refine ⟨([], false), by simp, ?_, Ev_true (by simpa using h0) ?_⟩
      · refine Ev.bind (a := false) (f := fun k t => if t = true then (spec_sqStart.f k (p : Int)).bind fun t210 => some (t210, true) else some ([], false)) ?_ (Ev_false (by simp) Ev_some)
        by_cases h2 : 2 ≤ (p : Int) ∧ (p : Int) ≤ 2000
        · exact Ev_true (by simpa using h2) (Ev.bind (f := fun _ t => some t) hse Ev_some)
        · exact Ev_false (by simpa using h2) Ev_some
      · exact Ev.bind (f := fun k t => impl_FourStart.j0 k (p : Int) (!t)) hpe hno
  · refine ⟨([], false), by simp, ?_, Ev_false (by simpa using h0) hno⟩
    refine Ev.bind (a := false) (f := fun k t => if t = true then (spec_sqStart.f k a).bind fun t210 => some (t210, true) else some ([], false)) ?_ (Ev_false (by simp) Ev_some)
    exact Ev_false (by simp; omega) Ev_some
end Go.Proofs.Ytkchoccicpbbfaa.Q

/- Small lemmas: loops with a number of rounds come to their answers. -/
import Derived.Test.YtnaginnhccldhaaWWords
namespace Go.Proofs.Ytnaginnhccldhaa.Q
open Go.RowKit Go.Proofs.YtnaginnhccldhaaW.PrintWords

theorem Ev_succ {α : Type} {g : Nat → Option α} {r : α} (h : Ev (fun k => g (k + 1)) r) : Ev g r := Ev.step (fun _ => rfl) h
theorem Ev_none {α : Type} {r : α} (h : Ev (fun _ => (none : Option α)) r) : False := by
  obtain ⟨K, h⟩ := h
  cases h K (Nat.le_refl _)
theorem Ev_some {α : Type} {a : α} : Ev (fun _ => some a) a := Ev.now a
theorem Ev_const {α : Type} {f : Option α} {a : α} (h : f = some a) : Ev (fun _ => f) a := ⟨0, fun _ _ => h⟩
theorem Ev_eq {α : Type} {g f : Nat → Option α} {r : α} (h : ∀ k, g k = f k) (k : Ev f r) : Ev g r := Ev.congr h k
theorem Ev_uniq {α : Type} {g : Nat → Option α} {r q : α} (h : Ev g r) (k : Ev g q) : r = q := by
  obtain ⟨K, h⟩ := h
  obtain ⟨K', k⟩ := k
  have h1 := h (K + K') (by omega)
  have h2 := k (K + K') (by omega)
  rw [h1] at h2
  exact Option.some.inj h2
theorem Ev_out {α : Type} {g : Nat → Option α} {r : α} (h : Ev g r) : ∃ k, g k = some r := h.rounds
theorem Ev_true {α : Type} {c : Prop} [Decidable c] {f g : Nat → Option α} {r : α} (hc : c) (h : Ev f r) : Ev (fun k => if c then f k else g k) r := by
  simpa only [if_pos hc] using h
theorem Ev_false {α : Type} {c : Prop} [Decidable c] {f g : Nat → Option α} {r : α} (hc : ¬ c) (h : Ev g r) : Ev (fun k => if c then f k else g k) r := by
  simpa only [if_neg hc] using h

/-- It comes to an answer. -/
def EvS {α : Type} (g : Nat → Option α) : Prop := ∃ r, Ev g r
theorem EvS_of {α : Type} {g : Nat → Option α} {r : α} (h : Ev g r) : EvS g := ⟨r, h⟩
theorem EvS_succ {α : Type} {g : Nat → Option α} (h : EvS (fun k => g (k + 1))) : EvS g := h.imp fun _ h => Ev_succ h
theorem EvS_some {α : Type} {a : α} : EvS (fun _ => some a) := ⟨a, Ev_some⟩
theorem EvS_true {α : Type} {c : Prop} [Decidable c] {f g : Nat → Option α} (hc : c) (h : EvS f) : EvS (fun k => if c then f k else g k) := h.imp fun _ h => Ev_true hc h
theorem EvS_false {α : Type} {c : Prop} [Decidable c] {f g : Nat → Option α} (hc : ¬ c) (h : EvS g) : EvS (fun k => if c then f k else g k) := h.imp fun _ h => Ev_false hc h
theorem EvS_ite {α : Type} {c : Prop} [Decidable c] {f g : Nat → Option α} (h1 : c → EvS f) (h2 : ¬ c → EvS g) : EvS (fun k => if c then f k else g k) := by
  by_cases hc : c
  · exact EvS_true hc (h1 hc)
  · exact EvS_false hc (h2 hc)
theorem EvS_bind {α β : Type} {g : Nat → Option α} {f : Nat → α → Option β} (h : EvS g) (k : ∀ a, Ev g a → EvS (fun n => f n a)) : EvS (fun n => (g n).bind (f n)) := by
  obtain ⟨a, ha⟩ := h
  obtain ⟨r, hr⟩ := k a ha
  exact ⟨r, Ev.bind ha hr⟩

theorem w64 {x : Int} (h : -9223372036854775808 ≤ x) (h' : x ≤ 9223372036854775807) : wrap64 x = x := by unfold wrap64; omega
theorem w64_nat (n : Nat) (h : n ≤ 9223372036854775807) : wrap64 (n : Int) = (n : Int) := w64 (by omega) (by omega)

theorem wf_i64 {a : Int} (h : (Lit.int .i64 a).wf = true) : -9223372036854775808 ≤ a ∧ a ≤ 9223372036854775807 := by
  simp [Lit.wf, IntKind.min, IntKind.max, IntKind.signed, IntKind.bits] at h
  omega
end Go.Proofs.Ytnaginnhccldhaa.Q

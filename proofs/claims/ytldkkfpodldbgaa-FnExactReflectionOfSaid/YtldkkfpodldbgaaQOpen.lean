/- Arguments of a row, opened as what is read: rows of whole numbers, rows of rows, structs of one slice. -/
import Derived.Test.YtldkkfpodldbgaaWWords
import Derived.Deep.Matrix
import Derived.Lib.SmallJoins
namespace Go.Proofs.Ytldkkfpodldbgaa.Q
open Go.RowKit Go.Proofs.YtldkkfpodldbgaaW.PrintWords Go.ChangeShapes Go.WideShapes Go.Deep
section
variable {H : Type} {enc : TypeId × Value → H} {P : Program} {w : World} {base : Nat} {held : Bool}

theorem choose_below {α : Type} (z : α) {p : Nat → α → Prop} : ∀ n, (∀ i, i < n → ∃ a, p i a) → ∃ l : List α, l.length = n ∧ ∀ i a, l[i]? = some a → p i a
  | 0, _ => ⟨[], rfl, by simp⟩
  | n + 1, h => by
    obtain ⟨l, h1, h2⟩ := choose_below z n (fun i hi => h i (by omega))
    obtain ⟨a, ha⟩ := h n (by omega)
    refine ⟨l ++ [a], by simp [h1], fun i b hb => ?_⟩
    rcases Nat.lt_or_ge i l.length with hi | hi
    · rw [List.getElem?_append_left hi] at hb
      exact h2 i b hb
    · have : i = n := by
        have := (List.getElem?_eq_some_iff.1 hb).1
        simp at this
        omega
      subst this
      rw [List.getElem?_append_right (by omega), h1, Nat.sub_self] at hb
      simp at hb
      rw [← hb]
      exact ha
/-- A slice as a row of what its elements are read as. -/
theorem open_C {α : Type} (z : α) (d : Kd α) (Good : α → Prop) {t e : TypeId} {fuel : Nat} {v : Value} {x : DataW H × List MemPlace} (ht : P.underlying t = some (.slice e)) (hc : P.cellsOf e = 1) (hd : d.sz = 1)
    (hel : ∀ n u y, DataW.trod enc P w base (fun _ => true) held n e [u] = some y → ∃ a, d.K w a [u] ∧ Good a) (h : DataW.trod enc P w base (fun _ => true) held fuel t [v] = some x) :
    ∃ A c l, v = .slice A l.length c ∧ Kd.C d w A l.length l ∧ l.length ≤ c ∧ l.length ≤ maxLen ∧ ∀ a ∈ l, Good a := by
  rcases open_slice1 ht hc h with ⟨hv, _⟩ | ⟨a, len, cap, m, n, V, D, Pl, hv, _, hl, hm, hmm, _, hx⟩
  · simp only [List.cons.injEq, and_true] at hv
    exact ⟨none, 0, [], hv, ⟨rfl, by simp, fun h => by simp at h⟩, Nat.le_refl _, Nat.zero_le _, by simp⟩
  · simp only [List.cons.injEq, and_true] at hv
    simp only [if_true] at hmm
    obtain ⟨l, h1, h2⟩ := choose_below z (p := fun i b => d.K w b [V i] ∧ Good b) len (fun i hi => hel n (V i) _ (hx i (by omega)).2)
    have hlm : l.length ≤ 9223372036854775807 := by
      have : maxLen = 9223372036854775807 := rfl
      omega
    refine ⟨some a, cap, l, by rw [hv, h1], ⟨rfl, hlm, fun _ => ⟨a, rfl, fun j p hj => ?_⟩⟩, by omega, by omega, fun b hb => ?_⟩
    · have hj' : j < len := by
        have := (List.getElem?_eq_some_iff.1 hj).1
        omega
      refine ⟨[V j], by rw [hd]; rfl, (h2 j p hj).1, fun i u hu => ?_⟩
      have hi : i = 0 := by
        have := (List.getElem?_eq_some_iff.1 hu).1
        simpa using this
      subst hi
      rw [hd, Nat.mul_one, Nat.add_zero]
      have : V j = u := by simpa using hu
      rw [← this]
      exact (hx j (by omega)).1
    · obtain ⟨i, hi, rfl⟩ := List.getElem_of_mem hb
      exact (h2 i _ (List.getElem?_eq_getElem hi)).2
theorem open_int_K {q : TypeId} {k : IntKind} (hq : P.underlying q = some (.int k)) {n : Nat} {u : Value} {y : DataW H × List MemPlace} (h : DataW.trod enc P w base (fun _ => true) held n q [u] = some y) :
    ∃ a, (Kd.int k).K w a [u] ∧ (Lit.int k a).wf = true := by
  obtain ⟨a, h1, _, h2⟩ := DataW.trod_int hq h
  exact ⟨a, h1, h2⟩
theorem open_ints_C {t q : TypeId} {k : IntKind} {fuel : Nat} {v : Value} {x : DataW H × List MemPlace} (ht : P.underlying t = some (.slice q)) (hq : P.underlying q = some (.int k)) (cq : P.cellsOf q = 1)
    (h : DataW.trod enc P w base (fun _ => true) held fuel t [v] = some x) :
    ∃ A c l, v = .slice A l.length c ∧ Kd.C (Kd.int k) w A l.length l ∧ l.length ≤ c ∧ l.length ≤ maxLen ∧ ∀ a ∈ l, (Lit.int k a).wf = true :=
  open_C 0 (Kd.int k) _ ht cq rfl (fun _ _ _ h => open_int_K hq h) h
theorem open_rows_C {t e q : TypeId} {k : IntKind} {fuel : Nat} {v : Value} {x : DataW H × List MemPlace} (ht : P.underlying t = some (.slice e)) (he : P.underlying e = some (.slice q)) (hq : P.underlying q = some (.int k)) (ce : P.cellsOf e = 1) (cq : P.cellsOf q = 1)
    (h : DataW.trod enc P w base (fun _ => true) held fuel t [v] = some x) :
    ∃ A c l, v = .slice A l.length c ∧ Kd.C (Kd.slice q (Kd.int k)) w A l.length l ∧ l.length ≤ c ∧ l.length ≤ maxLen ∧ ∀ a ∈ l, a.length ≤ maxLen ∧ ∀ x ∈ a, (Lit.int k x).wf = true :=
  open_C [] (Kd.slice q (Kd.int k)) _ ht ce rfl (fun _ _ _ h => by
    obtain ⟨A, c, l, rfl, h1, h2, h3, h4⟩ := open_ints_C he hq cq h
    exact ⟨l, ⟨A, c, rfl, h2, h1⟩, h3, h4⟩) h
theorem open_agg1 {r : Reach} {b0 : Nat} {t : TypeId} {f0 : Field} {v : Value} {y : DataW H} {p : List MemPlace} {spare : Nat → Bool} (hs : P.underlying t = some (.struct #[f0])) (hone : oneCellFields P #[f0] = true) (hC : P.cellsOf t = 1)
    (hv : Value.okWide P w r b0 t v) (h : DataW.Trod enc P w base spare held t v y p) :
    ∃ (v0 : Value) (y0 : DataW H × List MemPlace) (n : Nat), v = .agg #[v0] ∧ DataW.trod enc P w base spare held n f0.type [v0] = some y0 := by
  obtain ⟨cs, rfl, hsz⟩ := okWide_struct hs hv
  obtain ⟨c0, rfl⟩ : ∃ c, cs = #[c] := by
    have h1 := hsz.trans hC
    match cs, h1 with
    | ⟨[c]⟩, _ => exact ⟨c, rfl⟩
  obtain ⟨fuel, hf⟩ := h
  obtain ⟨xs, n, _, _, _, hlen, hf⟩ := DataW.trod_struct hs hf
  have h0 := hf 0 f0 rfl
  obtain ⟨o0, k0⟩ := hone_of hone 0 f0 rfl
  match xs, hlen with
  | [y0], _ => exact ⟨c0, y0, n, rfl, by simpa [Value.cells, o0, k0] using h0⟩
end
end Go.Proofs.Ytldkkfpodldbgaa.Q

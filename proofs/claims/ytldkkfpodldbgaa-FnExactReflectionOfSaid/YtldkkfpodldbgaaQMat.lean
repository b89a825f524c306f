/- Matrices: the laws' helpers, and the reference's test of a matrix. -/
import Derived.Test.YtldkkfpodldbgaaPx1
import Derived.Test.YtldkkfpodldbgaaPx2
import Derived.Test.YtldkkfpodldbgaaQToInt
import Derived.Test.YtldkkfpodldbgaaQM
namespace Go.Proofs.Ytldkkfpodldbgaa.Q
open Go.RowKit Go.Proofs.Ytldkkfpodldbgaa.P Go.Proofs.YtldkkfpodldbgaaW.PrintWords Go.Proofs.YtldkkfpodldbgaaW.PrintLast Go.Proofs.Ytldkkfpodldbgaa.G

theorem szIntS_eq {l : List Int} {a : Int} (hl : l.length ≤ maxLen) (h0 : 0 ≤ a) (h1 : a ≤ 1048576) : laws_szIntS.f l a = some (if a < l.length then -1 else a - l.length) := by
  have : maxLen = 9223372036854775807 := rfl
  unfold laws_szIntS.f
  rw [w64 (by omega) (by omega)]
  by_cases h : a < l.length
  · rw [if_pos h, if_pos (by omega)]
  · rw [if_neg h, if_neg (by omega)]
theorem szIntSS_l0 {L : List (List Int)} (hl : L.length ≤ 1048576) (hx : ∀ x ∈ L, x.length ≤ maxLen) (d : Nat) : ∀ (i : Nat) (a : Int), i + d = L.length → 0 ≤ a → a ≤ 1048576 →
    ∃ r, Ev (fun k => laws_szIntSS.l0 k L a (i : Int)) r ∧ (r < 0 ∨ ∀ x ∈ L.drop i, x.length ≤ 1048576) := by
  induction d with
  | zero =>
    intro i a hi h0 h1
    refine ⟨a, Ev_succ ?_, .inr ?_⟩
    · simp only [laws_szIntSS.l0]
      exact Ev_false (by omega) Ev_some
    · rw [List.drop_of_length_le (by omega)]
      simp
  | succ d ih =>
    intro i a hi h0 h1
    have hi' : i < L.length := by omega
    have hxi := hx _ (List.getElem_mem hi')
    by_cases h : a < L[i].length
    · refine ⟨-1, Ev_succ ?_, .inl (by omega)⟩
      simp only [laws_szIntSS.l0]
      rw [rdRow hi', szIntS_eq hxi h0 h1, if_pos h]
      simp only [Option.bind_some]
      exact Ev_true (by omega) (Ev_true (by omega) (Ev_true (by omega) Ev_some))
    · obtain ⟨r, h2, h3⟩ := ih (i + 1) (a - L[i].length) (by omega) (by omega) (by omega)
      refine ⟨r, Ev_succ ?_, h3.imp id fun h4 => ?_⟩
      · simp only [laws_szIntSS.l0]
        rw [rdRow hi', szIntS_eq hxi h0 h1, if_neg h, w64 (x := (i : Int) + 1) (by omega) (by omega)]
        simp only [Option.bind_some]
        exact Ev_true (by omega) (Ev_true (by omega) (Ev_false (by omega) h2))
      · rw [List.drop_eq_getElem_cons hi']
        intro x hx'
        rcases List.mem_cons.1 hx' with rfl | hx'
        · omega
        · exact h4 x hx'
theorem szMat_ev {L : List (List Int)} {a : Int} (h0 : 0 ≤ a) (h1 : a ≤ 1048576) (hl : L.length ≤ maxLen) (hx : ∀ x ∈ L, x.length ≤ maxLen) : ∃ r, Ev (fun k => laws_szMatrix.f k L a) r ∧ (r < 0 ∨ (Fits L ∧ 0 ≤ r ∧ r ≤ a)) := by
  have : maxLen = 9223372036854775807 := rfl
  have hb : ∀ d i (b : Int), i + d = L.length → 0 ≤ b → b ≤ a → L.length ≤ 1048576 → ∀ r, Ev (fun k => laws_szIntSS.l0 k L b (i : Int)) r → r ≤ a := by
    intro d
    induction d with
    | zero =>
      intro i b hi h0 hb hL r hr
      have : Ev (fun k => laws_szIntSS.l0 k L b (i : Int)) b := Ev_succ (by simp only [laws_szIntSS.l0]; exact Ev_false (by omega) Ev_some)
      rw [Ev_uniq hr this]
      exact hb
    | succ d ih =>
      intro i b hi h0 hb hL r hr
      have hi' : i < L.length := by omega
      have hxi := hx _ (List.getElem_mem hi')
      by_cases h : b < L[i].length
      · have : Ev (fun k => laws_szIntSS.l0 k L b (i : Int)) (-1) := by
          refine Ev_succ ?_
          simp only [laws_szIntSS.l0]
          rw [rdRow hi', szIntS_eq hxi h0 (by omega), if_pos h]
          simp only [Option.bind_some]
          exact Ev_true (by omega) (Ev_true (by omega) (Ev_true (by omega) Ev_some))
        rw [Ev_uniq hr this]
        omega
      · obtain ⟨r', h2, _⟩ := szIntSS_l0 hL hx d (i + 1) (b - L[i].length) (by omega) (by omega) (by omega)
        have : Ev (fun k => laws_szIntSS.l0 k L b (i : Int)) r' := by
          refine Ev_succ ?_
          simp only [laws_szIntSS.l0]
          rw [rdRow hi', szIntS_eq hxi h0 (by omega), if_neg h, w64 (x := (i : Int) + 1) (by omega) (by omega)]
          simp only [Option.bind_some]
          exact Ev_true (by omega) (Ev_true (by omega) (Ev_false (by omega) h2))
        rw [Ev_uniq hr this]
        exact ih (i + 1) (b - L[i].length) (by omega) (by omega) (by omega) hL r' h2
  unfold laws_szMatrix.f laws_szIntSS.f
  by_cases h : a < L.length
  · refine ⟨-1, ?_, .inl (by omega)⟩
    rw [w64 (by omega) (by omega)]
    refine Ev.bind (a := -1) (f := fun _ t => if t < 0 then some (-1) else some t) ?_ (Ev_true (by omega) Ev_some)
    exact Ev_true (by omega) Ev_some
  · obtain ⟨r, h2, h3⟩ := szIntSS_l0 (L := L) (by omega) hx L.length 0 (a - L.length) (by omega) (by omega) (by omega)
    have h4 := hb L.length 0 (a - L.length) (by omega) (by omega) (by omega) (by omega) r h2
    rw [w64 (by omega) (by omega)]
    have h5 : Ev (fun k => if a - (L.length : Int) < 0 then some (-1) else laws_szIntSS.l0 k L (a - L.length) 0) r := Ev_false (by omega) h2
    by_cases hr : r < 0
    · exact ⟨-1, Ev.bind (f := fun _ t => if t < 0 then some (-1) else some t) h5 (Ev_true hr Ev_some), .inl (by omega)⟩
    · refine ⟨r, Ev.bind (f := fun _ t => if t < 0 then some (-1) else some t) h5 (Ev_false hr Ev_some), .inr ⟨⟨by omega, ?_⟩, by omega, h4⟩⟩
      rcases h3 with h3 | h3
      · exact absurd h3 hr
      · simpa using h3
theorem toIntSS_l0 {L : List (List Int)} (hL : Fits L) (d : Nat) : ∀ (i : Nat) (Y : List (List Int)), i + d = L.length → Y.length = L.length → Y.take i = L.take i → Ev (fun k => laws_toIntSS.l0 k L Y (i : Int)) L := by
  have hl := hL.1
  induction d with
  | zero =>
    intro i Y hi hY hT
    refine Ev_succ ?_
    simp only [laws_toIntSS.l0]
    rw [List.take_of_length_le (by omega), List.take_of_length_le (by omega)] at hT
    rw [hT]
    exact Ev_false (by omega) Ev_some
  | succ d ih =>
    intro i Y hi hY hT
    have hi' : i < L.length := by omega
    have hxi := hL.2 _ (List.getElem_mem hi')
    refine Ev_succ ?_
    simp only [laws_toIntSS.l0]
    rw [rdRow hi', w64 (x := (i : Int) + 1) (by omega) (by omega)]
    refine Ev_true (by omega) (Ev_true (by omega) (Ev.bind (toIntS_ev (x := L[i]) (by omega)) (Ev_true (by omega) ?_)))
    refine ih (i + 1) (Y.set i L[i]) (by omega) (by simp [hY]) ?_
    rw [List.take_succ_eq_append_getElem (by simp; omega), List.getElem_set_self, List.take_set_of_le (Nat.le_refl _), hT, ← List.take_succ_eq_append_getElem hi']
theorem toMat_ev {L : List (List Int)} (hL : Fits L) : Ev (fun k => laws_toMatrix.f k L) L := by
  have hl := hL.1
  unfold laws_toMatrix.f laws_toIntSS.f
  refine Ev.bind (a := L) (f := fun _ t => some t) ?_ Ev_some
  exact Ev_true (by omega) (Ev_true (by omega) (toIntSS_l0 hL L.length 0 (List.replicate ((L.length : Int)).toNat []) (by omega) (by simp) (by simp)))
theorem eqRows_l0 {L : List (List Int)} (hL : Fits L) (d : Nat) : ∀ i : Nat, i + d = L.length → Ev (fun k => laws_eqIntSS.l0 k L L (i : Int)) true := by
  have hl := hL.1
  induction d with
  | zero =>
    intro i hi
    refine Ev_succ ?_
    simp only [laws_eqIntSS.l0]
    exact Ev_false (by omega) Ev_some
  | succ d ih =>
    intro i hi
    have h1 : i < L.length := by omega
    have hxi := hL.2 _ (List.getElem_mem h1)
    refine Ev_succ ?_
    simp only [laws_eqIntSS.l0]
    rw [rdRow h1, w64 (x := (i : Int) + 1) (by omega) (by omega)]
    exact Ev_true (by omega) (Ev_true (by omega) (Ev_true (by omega) (Ev.bind (eqIntS_same (l := L[i]) (by omega)) (Ev_true rfl (ih (i + 1) (by omega))))))
theorem eqRows_same {L : List (List Int)} (hL : Fits L) : Ev (fun k => laws_eqIntSS.f k L L) true := by
  unfold laws_eqIntSS.f
  exact Ev_true rfl (eqRows_l0 hL L.length 0 (by omega))
theorem eqMat_same {L : List (List Int)} (hL : Fits L) : Ev (fun k => laws_eqMatrix.f k L L) true := by
  unfold laws_eqMatrix.f
  exact Ev.bind (eqRows_same hL) (Ev_true rfl Ev_some)

end Go.Proofs.Ytldkkfpodldbgaa.Q

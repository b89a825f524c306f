/- The law FnExactCountTwo, pure: both programs sum over the same lists. -/
import Derived.Test.YtokachiofpfagaaPx5
import Derived.Test.YtokachiofpfagaaQCount
import Derived.Test.YtokachiofpfagaaQNum
namespace Go.Proofs.Ytokachiofpfagaa.Pure
open Go.RowKit Go.Proofs.Ytokachiofpfagaa.P Go.Proofs.YtokachiofpfagaaW.PrintWords Go.Proofs.YtokachiofpfagaaW.PrintLast Go.Proofs.Ytokachiofpfagaa.Q

theorem ctwo_l0 {L : List (List Int)} (hL : L.length ≤ 1000000) (h4 : ∀ l ∈ L, l.length ≤ 4 ∧ ∀ x ∈ l, 0 ≤ x) (d : Nat) : ∀ (i acc : Nat), i + d = L.length → acc ≤ 4096 * i →
    Ev (fun k => spec_CountTwo.l0 k (acc : Int) L (L.length : Int) (i : Int)) (((acc + sumSigns (L.drop i) : Nat) : Int), true) := by
  induction d with
  | zero =>
    intro i acc h1 h2
    refine Ev_succ ?_
    simp only [spec_CountTwo.l0]
    rw [List.drop_of_length_le (by omega)]
    exact Ev_false (by omega) Ev_some
  | succ d ih =>
    intro i acc h1 h2
    have hi : i < L.length := by omega
    obtain ⟨hl, hp⟩ := h4 L[i] (List.getElem_mem hi)
    have hs := signs_le hl
    refine Ev_succ ?_
    simp only [spec_CountTwo.l0]
    rw [rdLL hi, List.drop_eq_getElem_cons hi, w64 (x := (i : Int) + 1) (by omega) (by omega)]
    refine Ev_true (by omega) (Ev_true (by omega) (Ev_true (by omega) (Ev.bind (sqSigns_ev hl hp) ?_)))
    rw [w64 (x := (acc : Int) + ((signs L[i] : Nat) : Int)) (by omega) (by omega)]
    have h := ih (i + 1) (acc + signs L[i]) (by omega) (by omega)
    have e : acc + sumSigns (L[i] :: L.drop (i + 1)) = acc + signs L[i] + sumSigns (L.drop (i + 1)) := by
      show acc + (signs L[i] + sumSigns (L.drop (i + 1))) = _
      omega
    rw [e]
    simpa using h

theorem ctwo_ev (a : Int) : ∃ r, Ev (fun k => spec_CountTwo.f k a) r ∧ Ev (fun k => impl_CountTwo.f k a) r := by
  unfold spec_CountTwo.f impl_CountTwo.f
  rw [sqNumber_eq, isTwo_eq]
  simp only [Option.bind_some]
  by_cases h : 0 ≤ a ∧ a ≤ 1000000
  · obtain ⟨n, rfl⟩ := Int.eq_ofNat_of_zero_le h.1
    have hfew : (allL 2 n n).length ≤ 1000000 := by
      have := allL_two (n := n) (by omega) n
      omega
    refine ⟨(((sumSigns (allL 2 n n) : Nat) : Int), true), Ev_true (by simpa using h) ?_, Ev_true (by simpa using h) ?_⟩
    · refine Ev.bind (sqAllAll_ev (p := 2) (n := n) (by omega) (by omega) hfew) ?_
      have h := ctwo_l0 hfew (fun l hl => ⟨by have := allL_len hl; omega, allL_pos hl⟩) (allL 2 n n).length 0 0 (by omega) (by omega)
      simpa using h
    · exact Ev.bind (f := fun _ t => some (t, true)) (countSq_ev (p := 2) (n := n) (by omega) (by omega) hfew) Ev_some
  · exact ⟨(0, false), Ev_false (by simpa using h) Ev_some, Ev_false (by simpa using h) Ev_some⟩

theorem FnExactCountTwo : laws_FnExactCountTwo.Pure := by
  intro a _
  refine Ev_out (g := fun k => laws_FnExactCountTwo.f k a) ?_
  unfold laws_FnExactCountTwo.f
  obtain ⟨r, h1, h2⟩ := ctwo_ev a
  refine Ev.bind h1 (Ev.bind h2 ?_)
  simp only [bne_self_eq_false]
  exact Ev_some
end Go.Proofs.Ytokachiofpfagaa.Pure

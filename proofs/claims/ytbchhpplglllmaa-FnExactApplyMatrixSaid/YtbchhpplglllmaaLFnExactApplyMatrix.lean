/- The law FnExactApplyMatrix. -/
import Derived.Test.YtbchhpplglllmaaPx6
import Derived.Test.YtbchhpplglllmaaQApply
import Derived.Test.YtbchhpplglllmaaWFnExactApplyMatrix
namespace Go.Proofs.Ytbchhpplglllmaa.G
open Go.RowKit Go.Proofs.Ytbchhpplglllmaa.P Go.Proofs.YtbchhpplglllmaaW.PrintWords Go.Proofs.YtbchhpplglllmaaW.PrintLast Go.Proofs.Ytbchhpplglllmaa.Q
theorem isVector_eq (l : List Int) (n : Int) : impl_isVector.f l n = some (isVec n l) := by
  unfold impl_isVector.f impl_allWithin.f isVec
  simp only [Option.bind_some]
  by_cases h : (l.length : Int) = n
  · rw [if_pos h, decide_eq_true h, Bool.true_and]
  · rw [if_neg h, decide_eq_false h, Bool.false_and]
/-- What both programs answer. -/
def applyR (L : List (List Int)) (v : List Int) : List Int × Bool := if isMat L = true then (if isVec L.length v = true then (if isVec L.length (applyL L v) = true then (applyL L v, true) else ([], false)) else ([], false)) else ([], false)
theorem applyR_len (L : List (List Int)) (v : List Int) : (applyR L v).1.length ≤ 4 := by
  unfold applyR
  split
  · rename_i h
    have := isMat_len h
    split
    · split
      · show (applyL L v).length ≤ 4
        rw [applyL_length]
        omega
      · simp
    · simp
  · simp
theorem foApplyMatrix_ev {L : List (List Int)} {v : List Int} (hL : Fits L) (hv : v.length ≤ 1048576) : Ev (fun k => spec_ApplyMatrix.f k L v) (applyR L v) := by
  unfold spec_ApplyMatrix.f spec_foVector.f applyR
  by_cases h : isMat L = true
  · rw [if_pos h]
    by_cases hvl : (v.length : Int) = L.length
    · by_cases ha : v.all (inB (-1000000) 1000000) = true
      · have e : isVec L.length v = true := by unfold isVec; rw [decide_eq_true hvl, ha]; rfl
        rw [if_pos e]
        refine Ev.bind (a := true) (Ev.bind (foGood_ev hL) (Ev_true h (Ev_true hvl (Ev.bind (f := fun _ t => some t) (l1All_ev (by omega) _ _) (by rw [ha]; exact Ev_some))))) (Ev_true rfl ?_)
        have h4 := isMat_len h
        refine Ev.bind (foApply_ev (isMat_sq h) (by omega)) (Ev.bind (l1All_ev (l := applyL L v) (by rw [applyL_length]; omega) _ _) ?_)
        have e2 : isVec L.length (applyL L v) = (applyL L v).all (inB (-1000000) 1000000) := by unfold isVec; rw [decide_eq_true (by rw [applyL_length]), Bool.true_and]
        rw [e2]
        by_cases hb : (applyL L v).all (inB (-1000000) 1000000) = true
        · simp only [if_pos hb]
          exact Ev_some
        · simp only [if_neg hb]
          exact Ev_some
      · have e : isVec L.length v = false := by unfold isVec; rw [Bool.eq_false_iff.2 ha, Bool.and_false]
        rw [if_neg (by rw [e]; simp)]
        exact Ev.bind (a := false) (Ev.bind (foGood_ev hL) (Ev_true h (Ev_true hvl (Ev.bind (f := fun _ t => some t) (l1All_ev (by omega) _ _) (by rw [Bool.eq_false_iff.2 ha]; exact Ev_some))))) (Ev_false (by simp) Ev_some)
    · have e : isVec L.length v = false := by unfold isVec; rw [decide_eq_false hvl, Bool.false_and]
      rw [if_neg (by rw [e]; simp)]
      exact Ev.bind (a := false) (Ev.bind (foGood_ev hL) (Ev_true h (Ev_false hvl Ev_some))) (Ev_false (by simp) Ev_some)
  · rw [if_neg h]
    exact Ev.bind (a := false) (Ev.bind (foGood_ev hL) (Ev_false h Ev_some)) (Ev_false (by simp) Ev_some)
theorem applyMatrix_ev (L : List (List Int)) (v : List Int) : Ev (fun k => impl_ApplyMatrix.f k L v) (applyR L v) := by
  unfold impl_ApplyMatrix.f impl_IsMatrix.f impl_Matrix_size.f applyR
  simp only [Option.bind_some, isVector_eq]
  by_cases h : isMat L = true
  · rw [if_pos h]
    refine Ev_true h (Ev_succ ?_)
    simp only [impl_ApplyMatrix.j0, impl_Matrix_size.f, Option.bind_some, isVector_eq]
    by_cases hv : isVec L.length v = true
    · rw [if_pos hv]
      refine Ev_false (by rw [hv]; simp) ?_
      have hl : (v.length : Int) = L.length := of_decide_eq_true (Bool.and_eq_true_iff.1 (by unfold isVec at hv; exact hv)).1
      refine Ev.bind (apply_ev (isMat_sq h) (by omega)) ?_
      by_cases hb : isVec L.length (applyL L v) = true
      · simp only [if_pos hb]
        exact Ev_some
      · simp only [if_neg hb]
        exact Ev_some
    · rw [if_neg hv]
      exact Ev_true (by rw [Bool.eq_false_iff.2 hv]; rfl) Ev_some
  · rw [if_neg h]
    refine Ev_false h (Ev_succ ?_)
    simp only [impl_ApplyMatrix.j0]
    first | exact Ev_some | exact Ev_true rfl Ev_some
theorem FnExactApplyMatrix_walk (A0 : Option Addr) (c0 : Nat) (l0 : List (List Int)) (A1 : Option Addr) (c1 : Nat) (l1 : List Int) (w : World) (hr0 : Kd.C (Kd.slice 3 (Kd.int .i64)) w A0 l0.length l0) (hc0 : l0.length ≤ c0) (hm0 : l0.length ≤ maxLen) (hw0 : ∀ x ∈ l0, x.length ≤ maxLen ∧ ∀ a ∈ x, (Lit.int .i64 a).wf = true)
    (hr1 : Kd.C (Kd.int .i64) w A1 l1.length l1) (hc1 : l1.length ≤ c1) (_hm1 : l1.length ≤ maxLen) (_hw1 : ∀ x ∈ l1, (Lit.int .i64 x).wf = true) :
    Calls Try.prog 6 #[.agg #[.slice A0 l0.length c0], .slice A1 l1.length c1] w fun e w' => e = .returned (.bool true) ∧ Below w.heap.size w w' := by
  by_cases hl : 1048576 < l1.length
  · exact FnExactApplyMatrix_out1 A0 c0 l0 A1 c1 l1 w hl
  · obtain ⟨r, h1, h2⟩ := szMat_ev (L := l0) (a := 1048576) (by omega) (by omega) hm0 (fun x hx => (hw0 x hx).1)
    obtain ⟨kz, hz⟩ := Ev_out h1
    rcases h2 with h2 | ⟨hL, h0, _⟩
    · exact FnExactApplyMatrix_less0 A0 c0 l0 A1 c1 l1 w hr0 hc0 hr1 hc1 (by omega) kz r hz h2
    · obtain ⟨ks, hs⟩ := Ev_out (foApplyMatrix_ev hL (v := l1) (by omega))
      obtain ⟨ki, hi⟩ := Ev_out (applyMatrix_ev l0 l1)
      have hlen := applyR_len l0 l1
      refine FnExactApplyMatrix_calls A0 c0 l0 A1 c1 l1 (applyR l0 l1).1 (applyR l0 l1).2 w hr0 hc0 hr1 hc1 hL (by omega) kz r hz h0 (fun W B0 d0 B1 d1 hC hl hC1 hl1 => (spec_ApplyMatrix.calls ks B0 d0 l0 B1 d1 l1 _ _ W hC hl hC1 hl1 hs).mono ?_) (fun W B0 d0 B1 d1 hC hl hC1 hl1 => impl_ApplyMatrix.calls ki B0 d0 l0 B1 d1 l1 _ _ W hC hl hC1 hl1 hi) (by omega)
      rintro e w' ⟨v, rfl, hS, hb⟩
      obtain ⟨A, c, rfl, h1, h2⟩ := Kd.R_reads hS
      exact ⟨A, c, rfl, h1, h2, hb⟩
end Go.Proofs.Ytbchhpplglllmaa.G

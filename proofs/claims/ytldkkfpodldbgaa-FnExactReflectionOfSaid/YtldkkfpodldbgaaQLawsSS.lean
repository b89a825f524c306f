/- What the laws' helpers over rows of rows come to. -/
import Derived.Test.YtldkkfpodldbgaaPx1
import Derived.Test.YtldkkfpodldbgaaPx2
import Derived.Test.YtldkkfpodldbgaaQLaws
import Derived.Test.YtldkkfpodldbgaaGMarkSS
namespace Go.Proofs.Ytldkkfpodldbgaa.Q
open Go.RowKit Go.Proofs.Ytldkkfpodldbgaa.P Go.Proofs.YtldkkfpodldbgaaW.PrintWords Go.Proofs.YtldkkfpodldbgaaW.PrintLast Go.Proofs.Ytldkkfpodldbgaa.G

theorem rdSS {l : List (List Int)} {i : Nat} (h : i < l.length) : rd_L1 l (i : Int) = l[i] := by
  simp [rd_L1, List.getD_eq_getElem?_getD, List.getElem?_eq_getElem h]
theorem eqIntSS_l0 {L : List (List Int)} (hn : L.length ≤ 4611686018427387904) (hx : ∀ x ∈ L, x.length ≤ 4611686018427387904) (d : Nat) : ∀ i : Nat, i + d = L.length → Ev (fun k => laws_eqIntSS.l0 k L L (i : Int)) true := by
  induction d with
  | zero =>
    intro i hi
    refine Ev_succ ?_
    simp only [laws_eqIntSS.l0]
    exact Ev_false (by omega) Ev_some
  | succ d ih =>
    intro i hi
    have h1 : i < L.length := by omega
    refine Ev_succ ?_
    simp only [laws_eqIntSS.l0]
    rw [rdSS h1, w64 (by omega) (by omega)]
    refine Ev_true (by omega) (Ev_true (by omega) (Ev_true (by omega) ?_))
    refine Ev.bind (eqIntS_same (hx _ (List.getElem_mem h1))) ?_
    exact Ev_true rfl (ih (i + 1) (by omega))
theorem eqIntSS_same {L : List (List Int)} (hn : L.length ≤ 4611686018427387904) (hx : ∀ x ∈ L, x.length ≤ 4611686018427387904) : Ev (fun k => laws_eqIntSS.f k L L) true := by
  unfold laws_eqIntSS.f
  exact Ev_true rfl (eqIntSS_l0 hn hx L.length 0 (by omega))
theorem drop_markLL : ∀ (L : List (List Int)) (a : Int) (i : Nat) (h : i < L.length), (markLL a L)[i]'(by rw [markLL_length]; exact h) = marks (a + tot (L.take i)) L[i].length
  | [], _, _, h => by simp at h
  | x :: L, a, 0, _ => by simp [markLL, tot]
  | x :: L, a, i + 1, h => by
    have h' : i < L.length := by simpa using h
    have e := drop_markLL L (a + x.length) i h'
    simp only [markLL, List.getElem_cons_succ, List.take_succ_cons, tot]
    rw [e]
    congr 1
    omega
theorem heldIntSS_l0 {L : List (List Int)} {a : Int} (hn : L.length ≤ 4611686018427387904) (h0 : 0 ≤ a) (ha : a + tot L ≤ 4611686018427387904) (d : Nat) : ∀ i : Nat, i + d = L.length →
    Ev (fun k => laws_heldIntSS.l0 k (markLL a L) (a + tot (L.take i)) (i : Int)) (a + tot L) := by
  induction d with
  | zero =>
    intro i hi
    refine Ev_succ ?_
    simp only [laws_heldIntSS.l0]
    rw [markLL_length, List.take_of_length_le (by omega)]
    exact Ev_false (by omega) Ev_some
  | succ d ih =>
    intro i hi
    have h1 : i < L.length := by omega
    have h2 : i < (markLL a L).length := by rw [markLL_length]; exact h1
    have ht := tot_take L i h1
    have hl := tot_le L (i + 1)
    refine Ev_succ ?_
    simp only [laws_heldIntSS.l0]
    rw [rdSS h2, drop_markLL L a i h1, w64 (by omega) (by omega), markLL_length]
    refine Ev_true (by omega) (Ev_true (by omega) ?_)
    refine Ev.bind (heldIntS_ev (by omega) (by omega) (by omega)) ?_
    have e : a + ((tot (L.take i) : Nat) : Int) + ((L[i].length : Nat) : Int) = a + ((tot (L.take (i + 1)) : Nat) : Int) := by omega
    rw [e]
    exact Ev_false (by omega) (ih (i + 1) (by omega))
theorem heldIntSS_ev {L : List (List Int)} {a : Int} (hn : L.length ≤ 4611686018427387904) (h0 : 0 ≤ a) (ha : a + tot L ≤ 4611686018427387904) : Ev (fun k => laws_heldIntSS.f k (markLL a L) a) (a + tot L) := by
  unfold laws_heldIntSS.f
  have h := heldIntSS_l0 hn h0 ha L.length 0 (by omega)
  simpa [tot] using h
theorem tot_bound {B : Nat} : ∀ (L : List (List Int)), (∀ x ∈ L, x.length ≤ B) → tot L ≤ L.length * B
  | [], _ => by simp [tot]
  | x :: L, h => by
    have h1 := h x (by simp)
    have h2 := tot_bound L fun y hy => h y (by simp [hy])
    simp only [tot, List.length_cons, Nat.succ_mul]
    omega
end Go.Proofs.Ytldkkfpodldbgaa.Q

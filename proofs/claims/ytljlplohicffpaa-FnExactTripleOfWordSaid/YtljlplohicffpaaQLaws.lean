/- What the laws' own helpers come to: copies, comparisons, marks. -/
import Derived.Test.YtljlplohicffpaaTx14
import Derived.Test.YtljlplohicffpaaQEq
namespace Go.Proofs.Ytljlplohicffpaa.Q
open Go.RowKit Go.Proofs.Ytljlplohicffpaa.P Go.Proofs.YtljlplohicffpaaW.PrintWords Go.Proofs.YtljlplohicffpaaW.PrintLast

/-- n numbers from a on. -/
def marks : Int → Nat → List Int
  | _, 0 => []
  | a, n + 1 => a :: marks (a + 1) n
theorem marks_length : ∀ n a, (marks a n).length = n
  | 0, _ => rfl
  | n + 1, a => by simp [marks, marks_length n]
theorem markIntS_l0 {n : Nat} (hn : n ≤ 4611686018427387904) (d : Nat) : ∀ (x : List Int) (a : Int) (i : Nat), x.length = n → i + d = n → 0 ≤ a → a + d ≤ 4611686018427387904 →
    Ev (fun k => laws_markIntS.l0 k x a (i : Int)) (a + d, x.take i ++ marks a d) := by
  induction d with
  | zero =>
    intro x a i h1 h2 h3 h4
    refine Ev_succ ?_
    simp only [laws_markIntS.l0]
    have e : x.take i = x := List.take_of_length_le (by omega)
    simp only [marks, List.append_nil, e, Int.natCast_zero, Int.add_zero]
    exact Ev_false (by omega) Ev_some
  | succ d ih =>
    intro x a i h1 h2 h3 h4
    refine Ev_succ ?_
    simp only [laws_markIntS.l0]
    rw [w64 (x := a + 1) (by omega) (by omega), w64 (x := (i : Int) + 1) (by omega) (by omega)]
    have h := ih (x.set i a) (a + 1) (i + 1) (by simp [h1]) (by omega) (by omega) (by omega)
    have e1 : (x.set i a).take (i + 1) = x.take i ++ [a] := by
      rw [List.take_succ_eq_append_getElem (by simp; omega), List.getElem_set_self, List.take_set_of_le (Nat.le_refl _)]
    have e2 : (a + ((d + 1 : Nat) : Int), x.take i ++ marks a (d + 1)) = (a + 1 + (d : Int), (x.set i a).take (i + 1) ++ marks (a + 1) d) := by
      rw [e1]
      simp only [marks, List.append_assoc, List.singleton_append, Prod.mk.injEq, and_true]
      omega
    rw [e2]
    exact Ev_true (by omega) (Ev_true (by omega) h)
theorem markIntS_ev {x : List Int} {a : Int} (hn : x.length ≤ 4611686018427387904) (h0 : 0 ≤ a) (h1 : a + x.length ≤ 4611686018427387904) : Ev (fun k => laws_markIntS.f k x a) (a + x.length, marks a x.length) :=
  markIntS_l0 hn x.length x a 0 rfl (by omega) h0 h1
theorem heldIntS_l0 {l : List Int} (hn : l.length ≤ 4611686018427387904) (d : Nat) : ∀ (a : Int) (i : Nat), i + d = l.length → l.drop i = marks a d → 0 ≤ a → a + d ≤ 4611686018427387904 →
    Ev (fun k => laws_heldIntS.l0 k l a (i : Int)) (a + d) := by
  induction d with
  | zero =>
    intro a i h1 h2 h3 h4
    refine Ev_succ ?_
    simp only [laws_heldIntS.l0, Int.natCast_zero, Int.add_zero]
    exact Ev_false (by omega) Ev_some
  | succ d ih =>
    intro a i h1 h2 h3 h4
    have hi : i < l.length := by omega
    rw [List.drop_eq_getElem_cons hi] at h2
    obtain ⟨e1, e2⟩ := List.cons.inj h2
    refine Ev_succ ?_
    simp only [laws_heldIntS.l0]
    rw [rd_get hi, w64 (x := a + 1) (by omega) (by omega), w64 (x := (i : Int) + 1) (by omega) (by omega)]
    have h := ih (a + 1) (i + 1) (by omega) e2 (by omega) (by omega)
    have e3 : a + ((d + 1 : Nat) : Int) = a + 1 + (d : Int) := by omega
    rw [e3]
    exact Ev_true (by omega) (Ev_true (by omega) (Ev_true e1 h))
theorem heldIntS_ev {a : Int} {n : Nat} (hn : n ≤ 4611686018427387904) (h0 : 0 ≤ a) (h1 : a + n ≤ 4611686018427387904) : Ev (fun k => laws_heldIntS.f k (marks a n) a) (a + n) :=
  heldIntS_l0 (l := marks a n) (by rw [marks_length]; exact hn) n a 0 (by rw [marks_length]; omega) rfl h0 h1

end Go.Proofs.Ytljlplohicffpaa.Q

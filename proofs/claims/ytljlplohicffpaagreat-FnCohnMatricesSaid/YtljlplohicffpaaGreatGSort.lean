/- slices.Sort for rows of at most twelve numbers, by hand: out of the contract of the sort by insertion. -/
import Derived.Test.YtljlplohicffpaaGreatSh
import Derived.Test.YtljlplohicffpaaGreatWKept
import Derived.Test.YtljlplohicffpaaGreatWLast
namespace Go.Proofs.YtljlplohicffpaaGreat.G
open Go.RowKit Go.Proofs.YtljlplohicffpaaGreatW.PrintWords Go.Proofs.YtljlplohicffpaaGreatW.PrintLast
set_option linter.unusedVariables false
set_option linter.unusedSimpArgs false

/-- What a sort by insertion does to a row of one's own. -/
def InsC (I : Nat → List Int → Int → Int → Option (List Int)) : Prop := ∀ (k : Nat) (P : Nat → Prop) (u : Value) (l : List Int) (a b : Int) (r : List Int) (w0 w : World), Below w0.heap.size w0 w → Kd.R (Kd.int .i64) 3 w w0.heap.size P u l → I k l a b = some r →
    Calls Tryz.prog 84 #[u, .int .i64 a, .int .i64 b] w fun e w' => e = .returned (.tuple #[]) ∧ Kd.R (Kd.int .i64) 3 w' w0.heap.size (fun k_ => (P k_ ∨ w.heap.size ≤ k_)) u r ∧ Below w0.heap.size w0 w' ∧ Kept w w' (fun k_ => P k_)
def sortF (I : Nat → List Int → Int → Int → Option (List Int)) (k : Nat) (l : List Int) : Option (List Int) := if l.length ≤ 12 then I k l 0 (l.length : Int) else none
set_option maxHeartbeats 4000000 in
theorem pdq_any {I : Nat → List Int → Int → Int → Option (List Int)} (HI : InsC I) (k : Nat) (P : Nat → Prop) (u : Value) (l : List Int) (m : Int) (r : List Int) (w0 w : World) (hB : Below w0.heap.size w0 w) (ho : Kd.R (Kd.int .i64) 3 w w0.heap.size P u l) (hl : l.length ≤ 12) (h : I k l 0 (l.length : Int) = some r) :
    Calls Tryz.prog 57 #[u, .int .i64 0, .int .i64 (l.length : Int), .int .i64 m] w fun e w' => e = .returned (.tuple #[]) ∧ Kd.R (Kd.int .i64) 3 w' w0.heap.size (fun k_ => (P k_ ∨ w.heap.size ≤ k_)) u r ∧ Below w0.heap.size w0 w' ∧ Kept w w' (fun k_ => P k_) := by
  have CI := Aside0.mk (HI k P u l 0 (l.length : Int) r w0 w hB ho h)
  have hw : wrap64 ((l.length : Int) - 0) = (l.length : Int) := by unfold wrap64; omega
  have hw2 : wrap64 (l.length : Int) = (l.length : Int) := by unfold wrap64; omega
  have hd : decide ((l.length : Int) ≤ 12) = true := decide_eq_true (by omega)
  have hd2 : decide (l.length ≤ 12) = true := decide_eq_true hl
  clear hB ho h HI
  generalize l.length = n at CI hw hw2 hd hd2 hl ⊢
  clear hl
  go_enter Tryz.func57, Tryz.ntmps57
  go_wp2
  refine wp_loop_rounds 1 ?_
  rw [rounds_succ]
  go_wp2_with fail
  refine CI.out.mono ?_
  rintro e w1 ⟨rfl, hR, hb, hk⟩
  have Y := Aside0.mk (And.intro hR (And.intro hb hk))
  clear hR hb hk CI
  go_wp2
  first | go_end0 | ((try simp only [Exit.inBlock, Exit.then]); refine bodyPost_ret (results_none rfl _ _ _) rfl ?_)
  exact ⟨rfl, Y.out⟩
theorem sort_any {I : Nat → List Int → Int → Int → Option (List Int)} (HI : InsC I) (k : Nat) (P : Nat → Prop) (u : Value) (l : List Int) (r : List Int) (w0 w : World) (hB : Below w0.heap.size w0 w) (ho : Kd.R (Kd.int .i64) 3 w w0.heap.size P u l) (h : sortF I k l = some r) :
    Calls Tryz.prog 28 #[u] w fun e w' => e = .returned (.tuple #[]) ∧ Kd.R (Kd.int .i64) 3 w' w0.heap.size (fun k_ => (P k_ ∨ w.heap.size ≤ k_)) u r ∧ Below w0.heap.size w0 w' ∧ Kept w w' (fun k_ => P k_) := by
  unfold sortF at h
  by_cases hl : l.length ≤ 12
  · rw [if_pos hl] at h
    have CP := Aside0.mk (fun m => pdq_any HI k P u l m r w0 w hB ho hl h)
    obtain ⟨A, c, rfl⟩ := Kd.R_slice ho
    have CL := Aside0.mk (fun (W : World) => Tryz.bits_Len (l.length : Int) W (by omega) (by omega))
    have hu : IntKind.u64.wrap (l.length : Int) = (l.length : Int) := by simp [IntKind.wrap, IntKind.bits, IntKind.signed]; omega
    clear hB ho h HI
    generalize l.length = n at CP CL hl hu ⊢
    go_enter Tryz.func28, Tryz.ntmps28
    go_wp2_with fail
    refine (CL.out w).mono ?_
    rintro e w' ⟨rfl, rfl⟩
    go_wp2_with fail
    refine (CP.out _).mono ?_
    rintro e w1 ⟨rfl, hR, hb, hk⟩
    have Y := Aside0.mk (And.intro hR (And.intro hb hk))
    clear hR hb hk CP CL
    go_wp2
    first | go_end0 | ((try simp only [Exit.inBlock, Exit.then]); refine bodyPost_ret (results_none rfl _ _ _) rfl ?_)
    exact ⟨rfl, Y.out⟩
  · rw [if_neg hl] at h
    cases h
end Go.Proofs.YtljlplohicffpaaGreat.G

/- Rows of one's own, within a range of blocks. -/
import Derived.Test.YtldkkfpodldbgaaWKept
import Derived.Test.YtldkkfpodldbgaaWMore
namespace Go.Proofs.Ytldkkfpodldbgaa.G
open Go.RowKit Go.Proofs.YtldkkfpodldbgaaW.PrintWords Go.Proofs.YtldkkfpodldbgaaW.PrintLast
set_option linter.unusedVariables false
set_option linter.unusedSimpArgs false

def OwnM (W : World) (base lo hi : Nat) (v : Value) (L : List (List Int)) : Prop := Kd.S (Kd.slice 3 (Kd.int .i64)) 34 W base (fun k => lo ≤ k ∧ k < hi) v L
def OwnI (W : World) (base lo hi : Nat) (v : Value) (l : List Int) : Prop := Kd.R (Kd.int .i64) 3 W base (fun k => lo ≤ k ∧ k < hi) v l
theorem OwnM.below {W W' : World} {base lo hi : Nat} {v : Value} {L : List (List Int)} (h : OwnM W base lo hi v L) (hb : Below W.heap.size W W') : OwnM W' base lo hi v L := Kd.S_below h hb
theorem OwnI.below {W W' : World} {base lo hi : Nat} {v : Value} {L : List Int} (h : OwnI W base lo hi v L) (hb : Below W.heap.size W W') : OwnI W' base lo hi v L := Kd.R_below h hb
theorem OwnM.drew {W : World} {base lo hi : Nat} {v : Value} {L : List (List Int)} (h : OwnM W base lo hi v L) : OwnM W.drew base lo hi v L := Kd.S_drew h
theorem OwnI.drew {W : World} {base lo hi : Nat} {v : Value} {L : List Int} (h : OwnI W base lo hi v L) : OwnI W.drew base lo hi v L := Kd.R_drew h
theorem OwnM.kept {W W' : World} {base lo hi lo' hi' : Nat} {v : Value} {L : List (List Int)} (h : OwnM W base lo hi v L) (hk : Kept W W' (fun k => lo' ≤ k ∧ k < hi')) (hd : hi ≤ lo' ∨ hi' ≤ lo) : OwnM W' base lo hi v L :=
  Kd.S_kept h hk (fun k h1 h2 => by omega)
theorem OwnI.kept {W W' : World} {base lo hi lo' hi' : Nat} {v : Value} {L : List Int} (h : OwnI W base lo hi v L) (hk : Kept W W' (fun k => lo' ≤ k ∧ k < hi')) (hd : hi ≤ lo' ∨ hi' ≤ lo) : OwnI W' base lo hi v L :=
  Kd.R_kept h hk (fun k h1 h2 => by omega)
theorem OwnM.lower {W : World} {base base' lo hi : Nat} {v : Value} {L : List (List Int)} (h : OwnM W base lo hi v L) (hb : base' ≤ base) : OwnM W base' lo hi v L := Kd.S_lower h hb
theorem OwnI.lower {W : World} {base base' lo hi : Nat} {v : Value} {L : List Int} (h : OwnI W base lo hi v L) (hb : base' ≤ base) : OwnI W base' lo hi v L := Kd.R_lower h hb
theorem OwnM.of {W : World} {base : Nat} {v : Value} {L : List (List Int)} (h : Kd.S (Kd.slice 3 (Kd.int .i64)) 34 W base (fun _ => True) v L) : ∃ A c, v = .slice A L.length c ∧ L.length ≤ c ∧ OwnM W base base W.heap.size v L := by
  obtain ⟨A, c, hv, hl, _⟩ := Kd.S_reads h
  exact ⟨A, c, hv, hl, Kd.S_mono (Kd.S_bound h) (fun k hk => ⟨hk.2.1, hk.2.2.1⟩)⟩
theorem OwnI.of {W : World} {base : Nat} {v : Value} {L : List Int} (h : Kd.R (Kd.int .i64) 3 W base (fun _ => True) v L) : ∃ A c, v = .slice A L.length c ∧ L.length ≤ c ∧ OwnI W base base W.heap.size v L := by
  obtain ⟨A, c, hv, hl, _⟩ := Kd.R_reads h
  exact ⟨A, c, hv, hl, Kd.R_mono (Kd.R_bound h) (fun k hk => ⟨hk.2.1, hk.2.2.1⟩)⟩
theorem OwnM.C {W : World} {base lo hi n c : Nat} {A : Option Addr} {L : List (List Int)} (h : OwnM W base lo hi (.slice A n c) L) : Kd.C (Kd.slice 3 (Kd.int .i64)) W A L.length L := (Kd.S_reads' h).2.2
theorem OwnI.C {W : World} {base lo hi n c : Nat} {A : Option Addr} {L : List Int} (h : OwnI W base lo hi (.slice A n c) L) : Kd.C (Kd.int .i64) W A L.length L := (Kd.R_reads' h).2.2

end Go.Proofs.Ytldkkfpodldbgaa.G

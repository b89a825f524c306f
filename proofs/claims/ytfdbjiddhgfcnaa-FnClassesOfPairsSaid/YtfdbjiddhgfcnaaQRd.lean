/- Reads of a row, and of its numbers, by what stands there. -/
import Derived.Test.YtfdbjiddhgfcnaaPx3
import Derived.Test.YtfdbjiddhgfcnaaQV
namespace Go.Proofs.Ytfdbjiddhgfcnaa.Q
open Go.RowKit Go.Proofs.Ytfdbjiddhgfcnaa.P Go.Proofs.YtfdbjiddhgfcnaaW.PrintWords Go.Proofs.YtfdbjiddhgfcnaaW.PrintLast
theorem rdRow {L : List (List Int)} {i : Nat} {x : List Int} (h : L[i]? = some x) : rd_L2 L (i : Int) = x ∧ i < L.length := by
  obtain ⟨h1, h2⟩ := List.getElem?_eq_some_iff.1 h
  exact ⟨(rdvRow h1).trans h2, h1⟩
theorem rdRow0 {L : List (List Int)} {x : List Int} (h : L[0]? = some x) : rd_L2 L 0 = x ∧ 0 < L.length := rdRow (i := 0) h
theorem rd30 (x y z : Int) : rd [x, y, z] 0 = x := rfl
theorem rd31 (x y z : Int) : rd [x, y, z] 1 = y := rfl
theorem rd32 (x y z : Int) : rd [x, y, z] 2 = z := rfl
theorem len3 (x y z : Int) : (([x, y, z] : List Int).length : Int) = 3 := rfl
end Go.Proofs.Ytfdbjiddhgfcnaa.Q

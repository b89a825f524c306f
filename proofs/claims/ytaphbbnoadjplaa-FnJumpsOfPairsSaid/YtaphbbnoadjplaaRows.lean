/-
  No cell of these rows narrows 'for every input' (looked for: loops, veiled, ifaces, maps, wideKeys, modest, calm, conditions, laid).
  DERIVED. THE GIVEN ROWS OF THIS SEAT. 5 by the template 'for every input the law returns true; each argument reads behind the call as it read before'; 0 by the template 'total and deterministic' (their statements: YtaphbbnoadjplaaTotals.lean).
  GIVEN WITH THE SEED: the statements are not yours to turn. If you find one false, say at which input.
  Laid BY PROGRAM, IN A SANDBOX (cutbox-rows.mjs): the forced cells as the released guide's own fill.sh prints them over the translation 2f1709b9bac7c8a5… (all of the seat's roots in one cut). By AI agents, Wed Nov 11 2026. No macro, syntax, notation, axiom, sorry.
-/
import Derived.Test.YtaphbbnoadjplaaChecked
import GoSem.Claim
import GoSem.ClaimJoined
import GoSem.ClaimMapViews
import Derived.JoinedTies
import Derived.KernelRfl
namespace Go.Proofs.Ytaphbbnoadjplaa
/- THE CELL 'sum', in the pinned program and in every row, IS THE sha256 OF THE DUMP (.gsa) THAT YtaphbbnoadjplaaProg.lean LOADS. Nothing in Lean hashes anything: it is a label: what it is worth is what the hold of that sum in a sandbox is worth. -/
noncomputable def Try.pinned : Pinned := { name := "ytaphbbnoadjplaa", sum := "2f1709b9bac7c8a5ad9d1c88967ca9d1d9d404af2b71104af44f49629e218cbf", checked := Try.checked }
namespace Rows
def none {H : Type} : Left H := { results := [], args := [] }

/-- 'laws.FnExactQuotientRun': WHATEVER THE INPUT: true; the input reads as it did. -/
def fnExactQuotientRunSpec : ChangeSpec := { name := "fnExactQuotientRun", fn := fun _ => fun
  | [d1, d2] => { results := [.lit (.bool true)], args := [d1, d2] }
  | _ => none }
def fnExactQuotientRunRow : OpenClaim := { program := "ytaphbbnoadjplaa", sum := "2f1709b9bac7c8a5ad9d1c88967ca9d1d9d404af2b71104af44f49629e218cbf", func := "loop.example/g01122/laws.FnExactQuotientRun", spec := "fnExactQuotientRun", apart := false }
def FnExactQuotientRunSaid : Prop := fnExactQuotientRunRow.holds Try.pinned (OpenSpec.ofChange fnExactQuotientRunSpec)

/-- ITS FALSE NEIGHBOUR: 'it returns false'. Refute it at one input. -/
def fnExactQuotientRunWrong : ChangeSpec := { name := "fnExactQuotientRun", fn := fun _ => fun
  | [d1, d2] => { results := [.lit (.bool false)], args := [d1, d2] }
  | _ => none }
def FnExactQuotientRunWrongFalsely : Prop := fnExactQuotientRunRow.holds Try.pinned (OpenSpec.ofChange fnExactQuotientRunWrong)

/-- 'laws.FnQuotientsAreSquares': WHATEVER THE INPUT: true; the input reads as it did. -/
def fnQuotientsAreSquaresSpec : ChangeSpec := { name := "fnQuotientsAreSquares", fn := fun _ => fun
  | [d1, d2] => { results := [.lit (.bool true)], args := [d1, d2] }
  | _ => none }
def fnQuotientsAreSquaresRow : OpenClaim := { program := "ytaphbbnoadjplaa", sum := "2f1709b9bac7c8a5ad9d1c88967ca9d1d9d404af2b71104af44f49629e218cbf", func := "loop.example/g01122/laws.FnQuotientsAreSquares", spec := "fnQuotientsAreSquares", apart := false }
def FnQuotientsAreSquaresSaid : Prop := fnQuotientsAreSquaresRow.holds Try.pinned (OpenSpec.ofChange fnQuotientsAreSquaresSpec)

/-- ITS FALSE NEIGHBOUR: 'it returns false'. Refute it at one input. -/
def fnQuotientsAreSquaresWrong : ChangeSpec := { name := "fnQuotientsAreSquares", fn := fun _ => fun
  | [d1, d2] => { results := [.lit (.bool false)], args := [d1, d2] }
  | _ => none }
def FnQuotientsAreSquaresWrongFalsely : Prop := fnQuotientsAreSquaresRow.holds Try.pinned (OpenSpec.ofChange fnQuotientsAreSquaresWrong)

/-- 'laws.FnRunsOfPairs': WHATEVER THE INPUT: true; the input reads as it did. -/
def fnRunsOfPairsSpec : ChangeSpec := { name := "fnRunsOfPairs", fn := fun _ => fun
  | [d1, d2] => { results := [.lit (.bool true)], args := [d1, d2] }
  | _ => none }
def fnRunsOfPairsRow : OpenClaim := { program := "ytaphbbnoadjplaa", sum := "2f1709b9bac7c8a5ad9d1c88967ca9d1d9d404af2b71104af44f49629e218cbf", func := "loop.example/g01122/laws.FnRunsOfPairs", spec := "fnRunsOfPairs", apart := false }
def FnRunsOfPairsSaid : Prop := fnRunsOfPairsRow.holds Try.pinned (OpenSpec.ofChange fnRunsOfPairsSpec)

/-- ITS FALSE NEIGHBOUR: 'it returns false'. Refute it at one input. -/
def fnRunsOfPairsWrong : ChangeSpec := { name := "fnRunsOfPairs", fn := fun _ => fun
  | [d1, d2] => { results := [.lit (.bool false)], args := [d1, d2] }
  | _ => none }
def FnRunsOfPairsWrongFalsely : Prop := fnRunsOfPairsRow.holds Try.pinned (OpenSpec.ofChange fnRunsOfPairsWrong)

/-- 'laws.FnJumpsOfPairs': WHATEVER THE INPUT: true; the input reads as it did. -/
def fnJumpsOfPairsSpec : ChangeSpec := { name := "fnJumpsOfPairs", fn := fun _ => fun
  | [d1, d2] => { results := [.lit (.bool true)], args := [d1, d2] }
  | _ => none }
def fnJumpsOfPairsRow : OpenClaim := { program := "ytaphbbnoadjplaa", sum := "2f1709b9bac7c8a5ad9d1c88967ca9d1d9d404af2b71104af44f49629e218cbf", func := "loop.example/g01122/laws.FnJumpsOfPairs", spec := "fnJumpsOfPairs", unfollowed := true, recurses := true, apart := false }
def FnJumpsOfPairsSaid : Prop := fnJumpsOfPairsRow.holds Try.pinned (OpenSpec.ofChange fnJumpsOfPairsSpec)

/-- ITS FALSE NEIGHBOUR: 'it returns false'. Refute it at one input. -/
def fnJumpsOfPairsWrong : ChangeSpec := { name := "fnJumpsOfPairs", fn := fun _ => fun
  | [d1, d2] => { results := [.lit (.bool false)], args := [d1, d2] }
  | _ => none }
def FnJumpsOfPairsWrongFalsely : Prop := fnJumpsOfPairsRow.holds Try.pinned (OpenSpec.ofChange fnJumpsOfPairsWrong)

/-- 'laws.FnClassesOfPairs': WHATEVER THE INPUT: true; the input reads as it did. -/
def fnClassesOfPairsSpec : ChangeSpec := { name := "fnClassesOfPairs", fn := fun _ => fun
  | [d1, d2] => { results := [.lit (.bool true)], args := [d1, d2] }
  | _ => none }
def fnClassesOfPairsRow : OpenClaim := { program := "ytaphbbnoadjplaa", sum := "2f1709b9bac7c8a5ad9d1c88967ca9d1d9d404af2b71104af44f49629e218cbf", func := "loop.example/g01122/laws.FnClassesOfPairs", spec := "fnClassesOfPairs", unfollowed := true, recurses := true, apart := false }
def FnClassesOfPairsSaid : Prop := fnClassesOfPairsRow.holds Try.pinned (OpenSpec.ofChange fnClassesOfPairsSpec)

/-- ITS FALSE NEIGHBOUR: 'it returns false'. Refute it at one input. -/
def fnClassesOfPairsWrong : ChangeSpec := { name := "fnClassesOfPairs", fn := fun _ => fun
  | [d1, d2] => { results := [.lit (.bool false)], args := [d1, d2] }
  | _ => none }
def FnClassesOfPairsWrongFalsely : Prop := fnClassesOfPairsRow.holds Try.pinned (OpenSpec.ofChange fnClassesOfPairsWrong)

/- THE SECOND FORM. 'bulk': how many values and letters a reading holds, each counted each time it is reached (what is shared counts as often as it is met; a slice's spare places count too). A statement '..UptoSaid' is the law's where the arguments, and the package variables that the reading takes, are together of bulk at most 1048576: NARROWER than '..Said'. Prove '..Said' where nothing that the law and all that it calls make is longer than what came in: it says more and counts as full. Else prove '..UptoSaid'. A law counts once. -/
mutual
def uptoBulk {H : Type} : DataW H → Nat
  | .lit (.string bytes) => bytes.length + 1
  | .lit _ => 1
  | .nil => 1
  | .ptr d => uptoBulk d + 1
  | .slice elems spare => uptoBulkAll elems + uptoBulkAll spare + 1
  | .agg parts => uptoBulkAll parts + 1
  | .iface _ d => uptoBulk d + 1
  | .map entries => uptoBulkEntries entries + 1
  | .held _ => 1
def uptoBulkAll {H : Type} : List (DataW H) → Nat
  | [] => 0
  | d :: r => uptoBulk d + uptoBulkAll r
def uptoBulkEntries {H : Type} : List (Lit × DataW H) → Nat
  | [] => 0
  | x :: r => uptoBulkEntry x + uptoBulkEntries r
def uptoBulkEntry {H : Type} : Lit × DataW H → Nat
  | (.string bytes, d) => bytes.length + uptoBulk d + 1
  | (_, d) => uptoBulk d + 1
 end
def uptoSmall : (H : Type) → List (DataW H) → Bool := fun _ ds => decide (uptoBulkAll ds ≤ 1048576)
def OpenSpec.upto (s : _root_.Go.ChangeSpec) : _root_.Go.OpenSpec := { _root_.Go.OpenSpec.ofChange s with cond := some uptoSmall }

/-- 'laws.FnExactQuotientRun', WHERE WHAT IT READS IS OF BULK AT MOST 1048576: true; the input reads as it did. -/
def fnExactQuotientRunUptoRow : OpenClaim := { program := "ytaphbbnoadjplaa", sum := "2f1709b9bac7c8a5ad9d1c88967ca9d1d9d404af2b71104af44f49629e218cbf", func := "loop.example/g01122/laws.FnExactQuotientRun", spec := "fnExactQuotientRun", apart := false, narrowed := true }
def FnExactQuotientRunUptoSaid : Prop := fnExactQuotientRunUptoRow.holds Try.pinned (OpenSpec.upto fnExactQuotientRunSpec)

/-- 'laws.FnQuotientsAreSquares', WHERE WHAT IT READS IS OF BULK AT MOST 1048576: true; the input reads as it did. -/
def fnQuotientsAreSquaresUptoRow : OpenClaim := { program := "ytaphbbnoadjplaa", sum := "2f1709b9bac7c8a5ad9d1c88967ca9d1d9d404af2b71104af44f49629e218cbf", func := "loop.example/g01122/laws.FnQuotientsAreSquares", spec := "fnQuotientsAreSquares", apart := false, narrowed := true }
def FnQuotientsAreSquaresUptoSaid : Prop := fnQuotientsAreSquaresUptoRow.holds Try.pinned (OpenSpec.upto fnQuotientsAreSquaresSpec)

/-- 'laws.FnRunsOfPairs', WHERE WHAT IT READS IS OF BULK AT MOST 1048576: true; the input reads as it did. -/
def fnRunsOfPairsUptoRow : OpenClaim := { program := "ytaphbbnoadjplaa", sum := "2f1709b9bac7c8a5ad9d1c88967ca9d1d9d404af2b71104af44f49629e218cbf", func := "loop.example/g01122/laws.FnRunsOfPairs", spec := "fnRunsOfPairs", apart := false, narrowed := true }
def FnRunsOfPairsUptoSaid : Prop := fnRunsOfPairsUptoRow.holds Try.pinned (OpenSpec.upto fnRunsOfPairsSpec)

/-- 'laws.FnJumpsOfPairs', WHERE WHAT IT READS IS OF BULK AT MOST 1048576: true; the input reads as it did. -/
def fnJumpsOfPairsUptoRow : OpenClaim := { program := "ytaphbbnoadjplaa", sum := "2f1709b9bac7c8a5ad9d1c88967ca9d1d9d404af2b71104af44f49629e218cbf", func := "loop.example/g01122/laws.FnJumpsOfPairs", spec := "fnJumpsOfPairs", unfollowed := true, recurses := true, apart := false, narrowed := true }
def FnJumpsOfPairsUptoSaid : Prop := fnJumpsOfPairsUptoRow.holds Try.pinned (OpenSpec.upto fnJumpsOfPairsSpec)

/-- 'laws.FnClassesOfPairs', WHERE WHAT IT READS IS OF BULK AT MOST 1048576: true; the input reads as it did. -/
def fnClassesOfPairsUptoRow : OpenClaim := { program := "ytaphbbnoadjplaa", sum := "2f1709b9bac7c8a5ad9d1c88967ca9d1d9d404af2b71104af44f49629e218cbf", func := "loop.example/g01122/laws.FnClassesOfPairs", spec := "fnClassesOfPairs", unfollowed := true, recurses := true, apart := false, narrowed := true }
def FnClassesOfPairsUptoSaid : Prop := fnClassesOfPairsUptoRow.holds Try.pinned (OpenSpec.upto fnClassesOfPairsSpec)

end Rows
end Go.Proofs.Ytaphbbnoadjplaa

/-
  No cell of these rows narrows 'for every input' (looked for: loops, veiled, ifaces, maps, wideKeys, modest, calm, conditions, laid).
  DERIVED. THE GIVEN ROWS OF THIS SEAT. 11 by the template 'for every input the law returns true; each argument reads behind the call as it read before'; 0 by the template 'total and deterministic' (their statements: YtokachiofpfagaaTotals.lean).
  GIVEN WITH THE SEED: the statements are not yours to turn. If you find one false, say at which input.
  Laid BY PROGRAM, IN A SANDBOX (cutbox-rows.mjs): the forced cells as the released guide's own fill.sh prints them over the translation 755626b194e7ed69… (all of the seat's roots in one cut). By AI agents, Wed Nov 11 2026. No macro, syntax, notation, axiom, sorry.
-/
import Derived.Test.YtokachiofpfagaaChecked
import GoSem.Claim
import GoSem.ClaimJoined
import GoSem.ClaimMapViews
import Derived.JoinedTies
import Derived.KernelRfl
namespace Go.Proofs.Ytokachiofpfagaa
/- THE CELL 'sum', in the pinned program and in every row, IS THE sha256 OF THE DUMP (.gsa) THAT YtokachiofpfagaaProg.lean LOADS. Nothing in Lean hashes anything: it is a label: what it is worth is what the hold of that sum in a sandbox is worth. -/
noncomputable def Try.pinned : Pinned := { name := "ytokachiofpfagaa", sum := "755626b194e7ed698a41cd045f2ed7db244ce0a2dfc19ae76a7604ac6d09a6f2", checked := Try.checked }
namespace Rows
def none {H : Type} : Left H := { results := [], args := [] }

/-- 'laws.FnExactFourSquares': WHATEVER THE INPUT: true; the input reads as it did. -/
def fnExactFourSquaresSpec : ChangeSpec := { name := "fnExactFourSquares", fn := fun _ => fun
  | [d] => { results := [.lit (.bool true)], args := [d] }
  | _ => none }
def fnExactFourSquaresRow : OpenClaim := { program := "ytokachiofpfagaa", sum := "755626b194e7ed698a41cd045f2ed7db244ce0a2dfc19ae76a7604ac6d09a6f2", func := "loop.example/g01122/laws.FnExactFourSquares", spec := "fnExactFourSquares", unfollowed := true, recurses := true, apart := false }
def FnExactFourSquaresSaid : Prop := fnExactFourSquaresRow.holds Try.pinned (OpenSpec.ofChange fnExactFourSquaresSpec)

/-- ITS FALSE NEIGHBOUR: 'it returns false'. Refute it at one input. -/
def fnExactFourSquaresWrong : ChangeSpec := { name := "fnExactFourSquares", fn := fun _ => fun
  | [d] => { results := [.lit (.bool false)], args := [d] }
  | _ => none }
def FnExactFourSquaresWrongFalsely : Prop := fnExactFourSquaresRow.holds Try.pinned (OpenSpec.ofChange fnExactFourSquaresWrong)

/-- 'laws.FnExactThreeSquares': WHATEVER THE INPUT: true; the input reads as it did. -/
def fnExactThreeSquaresSpec : ChangeSpec := { name := "fnExactThreeSquares", fn := fun _ => fun
  | [d] => { results := [.lit (.bool true)], args := [d] }
  | _ => none }
def fnExactThreeSquaresRow : OpenClaim := { program := "ytokachiofpfagaa", sum := "755626b194e7ed698a41cd045f2ed7db244ce0a2dfc19ae76a7604ac6d09a6f2", func := "loop.example/g01122/laws.FnExactThreeSquares", spec := "fnExactThreeSquares", unfollowed := true, recurses := true, apart := false }
def FnExactThreeSquaresSaid : Prop := fnExactThreeSquaresRow.holds Try.pinned (OpenSpec.ofChange fnExactThreeSquaresSpec)

/-- ITS FALSE NEIGHBOUR: 'it returns false'. Refute it at one input. -/
def fnExactThreeSquaresWrong : ChangeSpec := { name := "fnExactThreeSquares", fn := fun _ => fun
  | [d] => { results := [.lit (.bool false)], args := [d] }
  | _ => none }
def FnExactThreeSquaresWrongFalsely : Prop := fnExactThreeSquaresRow.holds Try.pinned (OpenSpec.ofChange fnExactThreeSquaresWrong)

/-- 'laws.FnExactTwoSquares': WHATEVER THE INPUT: true; the input reads as it did. -/
def fnExactTwoSquaresSpec : ChangeSpec := { name := "fnExactTwoSquares", fn := fun _ => fun
  | [d] => { results := [.lit (.bool true)], args := [d] }
  | _ => none }
def fnExactTwoSquaresRow : OpenClaim := { program := "ytokachiofpfagaa", sum := "755626b194e7ed698a41cd045f2ed7db244ce0a2dfc19ae76a7604ac6d09a6f2", func := "loop.example/g01122/laws.FnExactTwoSquares", spec := "fnExactTwoSquares", unfollowed := true, recurses := true, apart := false }
def FnExactTwoSquaresSaid : Prop := fnExactTwoSquaresRow.holds Try.pinned (OpenSpec.ofChange fnExactTwoSquaresSpec)

/-- ITS FALSE NEIGHBOUR: 'it returns false'. Refute it at one input. -/
def fnExactTwoSquaresWrong : ChangeSpec := { name := "fnExactTwoSquares", fn := fun _ => fun
  | [d] => { results := [.lit (.bool false)], args := [d] }
  | _ => none }
def FnExactTwoSquaresWrongFalsely : Prop := fnExactTwoSquaresRow.holds Try.pinned (OpenSpec.ofChange fnExactTwoSquaresWrong)

/-- 'laws.FnExactCountFour': WHATEVER THE INPUT: true; the input reads as it did. -/
def fnExactCountFourSpec : ChangeSpec := { name := "fnExactCountFour", fn := fun _ => fun
  | [d] => { results := [.lit (.bool true)], args := [d] }
  | _ => none }
def fnExactCountFourRow : OpenClaim := { program := "ytokachiofpfagaa", sum := "755626b194e7ed698a41cd045f2ed7db244ce0a2dfc19ae76a7604ac6d09a6f2", func := "loop.example/g01122/laws.FnExactCountFour", spec := "fnExactCountFour", unfollowed := true, recurses := true, apart := false }
def FnExactCountFourSaid : Prop := fnExactCountFourRow.holds Try.pinned (OpenSpec.ofChange fnExactCountFourSpec)

/-- ITS FALSE NEIGHBOUR: 'it returns false'. Refute it at one input. -/
def fnExactCountFourWrong : ChangeSpec := { name := "fnExactCountFour", fn := fun _ => fun
  | [d] => { results := [.lit (.bool false)], args := [d] }
  | _ => none }
def FnExactCountFourWrongFalsely : Prop := fnExactCountFourRow.holds Try.pinned (OpenSpec.ofChange fnExactCountFourWrong)

/-- 'laws.FnExactCountTwo': WHATEVER THE INPUT: true; the input reads as it did. -/
def fnExactCountTwoSpec : ChangeSpec := { name := "fnExactCountTwo", fn := fun _ => fun
  | [d] => { results := [.lit (.bool true)], args := [d] }
  | _ => none }
def fnExactCountTwoRow : OpenClaim := { program := "ytokachiofpfagaa", sum := "755626b194e7ed698a41cd045f2ed7db244ce0a2dfc19ae76a7604ac6d09a6f2", func := "loop.example/g01122/laws.FnExactCountTwo", spec := "fnExactCountTwo", unfollowed := true, recurses := true, apart := false }
def FnExactCountTwoSaid : Prop := fnExactCountTwoRow.holds Try.pinned (OpenSpec.ofChange fnExactCountTwoSpec)

/-- ITS FALSE NEIGHBOUR: 'it returns false'. Refute it at one input. -/
def fnExactCountTwoWrong : ChangeSpec := { name := "fnExactCountTwo", fn := fun _ => fun
  | [d] => { results := [.lit (.bool false)], args := [d] }
  | _ => none }
def FnExactCountTwoWrongFalsely : Prop := fnExactCountTwoRow.holds Try.pinned (OpenSpec.ofChange fnExactCountTwoWrong)

/-- 'laws.FnExactAllFourSquares': WHATEVER THE INPUT: true; the input reads as it did. -/
def fnExactAllFourSquaresSpec : ChangeSpec := { name := "fnExactAllFourSquares", fn := fun _ => fun
  | [d] => { results := [.lit (.bool true)], args := [d] }
  | _ => none }
def fnExactAllFourSquaresRow : OpenClaim := { program := "ytokachiofpfagaa", sum := "755626b194e7ed698a41cd045f2ed7db244ce0a2dfc19ae76a7604ac6d09a6f2", func := "loop.example/g01122/laws.FnExactAllFourSquares", spec := "fnExactAllFourSquares", unfollowed := true, recurses := true, apart := false }
def FnExactAllFourSquaresSaid : Prop := fnExactAllFourSquaresRow.holds Try.pinned (OpenSpec.ofChange fnExactAllFourSquaresSpec)

/-- ITS FALSE NEIGHBOUR: 'it returns false'. Refute it at one input. -/
def fnExactAllFourSquaresWrong : ChangeSpec := { name := "fnExactAllFourSquares", fn := fun _ => fun
  | [d] => { results := [.lit (.bool false)], args := [d] }
  | _ => none }
def FnExactAllFourSquaresWrongFalsely : Prop := fnExactAllFourSquaresRow.holds Try.pinned (OpenSpec.ofChange fnExactAllFourSquaresWrong)

/-- 'laws.FnExactAllTwoSquares': WHATEVER THE INPUT: true; the input reads as it did. -/
def fnExactAllTwoSquaresSpec : ChangeSpec := { name := "fnExactAllTwoSquares", fn := fun _ => fun
  | [d] => { results := [.lit (.bool true)], args := [d] }
  | _ => none }
def fnExactAllTwoSquaresRow : OpenClaim := { program := "ytokachiofpfagaa", sum := "755626b194e7ed698a41cd045f2ed7db244ce0a2dfc19ae76a7604ac6d09a6f2", func := "loop.example/g01122/laws.FnExactAllTwoSquares", spec := "fnExactAllTwoSquares", unfollowed := true, recurses := true, apart := false }
def FnExactAllTwoSquaresSaid : Prop := fnExactAllTwoSquaresRow.holds Try.pinned (OpenSpec.ofChange fnExactAllTwoSquaresSpec)

/-- ITS FALSE NEIGHBOUR: 'it returns false'. Refute it at one input. -/
def fnExactAllTwoSquaresWrong : ChangeSpec := { name := "fnExactAllTwoSquares", fn := fun _ => fun
  | [d] => { results := [.lit (.bool false)], args := [d] }
  | _ => none }
def FnExactAllTwoSquaresWrongFalsely : Prop := fnExactAllTwoSquaresRow.holds Try.pinned (OpenSpec.ofChange fnExactAllTwoSquaresWrong)

/-- 'laws.FnTwoSquaresDescend': WHATEVER THE INPUT: true; the input reads as it did. -/
def fnTwoSquaresDescendSpec : ChangeSpec := { name := "fnTwoSquaresDescend", fn := fun _ => fun
  | [d1, d2] => { results := [.lit (.bool true)], args := [d1, d2] }
  | _ => none }
def fnTwoSquaresDescendRow : OpenClaim := { program := "ytokachiofpfagaa", sum := "755626b194e7ed698a41cd045f2ed7db244ce0a2dfc19ae76a7604ac6d09a6f2", func := "loop.example/g01122/laws.FnTwoSquaresDescend", spec := "fnTwoSquaresDescend", unfollowed := true, recurses := true, apart := false }
def FnTwoSquaresDescendSaid : Prop := fnTwoSquaresDescendRow.holds Try.pinned (OpenSpec.ofChange fnTwoSquaresDescendSpec)

/-- ITS FALSE NEIGHBOUR: 'it returns false'. Refute it at one input. -/
def fnTwoSquaresDescendWrong : ChangeSpec := { name := "fnTwoSquaresDescend", fn := fun _ => fun
  | [d1, d2] => { results := [.lit (.bool false)], args := [d1, d2] }
  | _ => none }
def FnTwoSquaresDescendWrongFalsely : Prop := fnTwoSquaresDescendRow.holds Try.pinned (OpenSpec.ofChange fnTwoSquaresDescendWrong)

/-- 'laws.FnFourSquaresDescend': WHATEVER THE INPUT: true; the input reads as it did. -/
def fnFourSquaresDescendSpec : ChangeSpec := { name := "fnFourSquaresDescend", fn := fun _ => fun
  | [d1, d2] => { results := [.lit (.bool true)], args := [d1, d2] }
  | _ => none }
def fnFourSquaresDescendRow : OpenClaim := { program := "ytokachiofpfagaa", sum := "755626b194e7ed698a41cd045f2ed7db244ce0a2dfc19ae76a7604ac6d09a6f2", func := "loop.example/g01122/laws.FnFourSquaresDescend", spec := "fnFourSquaresDescend", unfollowed := true, recurses := true, apart := false }
def FnFourSquaresDescendSaid : Prop := fnFourSquaresDescendRow.holds Try.pinned (OpenSpec.ofChange fnFourSquaresDescendSpec)

/-- ITS FALSE NEIGHBOUR: 'it returns false'. Refute it at one input. -/
def fnFourSquaresDescendWrong : ChangeSpec := { name := "fnFourSquaresDescend", fn := fun _ => fun
  | [d1, d2] => { results := [.lit (.bool false)], args := [d1, d2] }
  | _ => none }
def FnFourSquaresDescendWrongFalsely : Prop := fnFourSquaresDescendRow.holds Try.pinned (OpenSpec.ofChange fnFourSquaresDescendWrong)

/-- 'laws.FnFourSquaresCounted': WHATEVER THE INPUT: true; the input reads as it did. -/
def fnFourSquaresCountedSpec : ChangeSpec := { name := "fnFourSquaresCounted", fn := fun _ => fun
  | [d1, d2] => { results := [.lit (.bool true)], args := [d1, d2] }
  | _ => none }
def fnFourSquaresCountedRow : OpenClaim := { program := "ytokachiofpfagaa", sum := "755626b194e7ed698a41cd045f2ed7db244ce0a2dfc19ae76a7604ac6d09a6f2", func := "loop.example/g01122/laws.FnFourSquaresCounted", spec := "fnFourSquaresCounted", unfollowed := true, recurses := true, apart := false }
def FnFourSquaresCountedSaid : Prop := fnFourSquaresCountedRow.holds Try.pinned (OpenSpec.ofChange fnFourSquaresCountedSpec)

/-- ITS FALSE NEIGHBOUR: 'it returns false'. Refute it at one input. -/
def fnFourSquaresCountedWrong : ChangeSpec := { name := "fnFourSquaresCounted", fn := fun _ => fun
  | [d1, d2] => { results := [.lit (.bool false)], args := [d1, d2] }
  | _ => none }
def FnFourSquaresCountedWrongFalsely : Prop := fnFourSquaresCountedRow.holds Try.pinned (OpenSpec.ofChange fnFourSquaresCountedWrong)

/-- 'laws.FnTwoSquaresCounted': WHATEVER THE INPUT: true; the input reads as it did. -/
def fnTwoSquaresCountedSpec : ChangeSpec := { name := "fnTwoSquaresCounted", fn := fun _ => fun
  | [d1, d2] => { results := [.lit (.bool true)], args := [d1, d2] }
  | _ => none }
def fnTwoSquaresCountedRow : OpenClaim := { program := "ytokachiofpfagaa", sum := "755626b194e7ed698a41cd045f2ed7db244ce0a2dfc19ae76a7604ac6d09a6f2", func := "loop.example/g01122/laws.FnTwoSquaresCounted", spec := "fnTwoSquaresCounted", unfollowed := true, recurses := true, apart := false }
def FnTwoSquaresCountedSaid : Prop := fnTwoSquaresCountedRow.holds Try.pinned (OpenSpec.ofChange fnTwoSquaresCountedSpec)

/-- ITS FALSE NEIGHBOUR: 'it returns false'. Refute it at one input. -/
def fnTwoSquaresCountedWrong : ChangeSpec := { name := "fnTwoSquaresCounted", fn := fun _ => fun
  | [d1, d2] => { results := [.lit (.bool false)], args := [d1, d2] }
  | _ => none }
def FnTwoSquaresCountedWrongFalsely : Prop := fnTwoSquaresCountedRow.holds Try.pinned (OpenSpec.ofChange fnTwoSquaresCountedWrong)

/- THE SECOND FORM. 'bulk': how many values and letters a reading holds, each counted each time it is reached (what is shared counts as often as it is met; a slice's spare places count too). A statement '..UptoSaid' is the law's where the arguments, and the package variables that the reading takes, are together of bulk at most 1048576: NARROWER than '..Said'. Prove '..Said' where nothing that the law and all that it calls make is longer than what came in: it says more and counts as full. Else prove '..UptoSaid'. A law counts once. -/
mutual
def uptoBulk {H : Type} : DataW H → Nat
  | .lit (.string bytes) => bytes.length + 1
  | .lit _ => 1
  | .nil => 1
  | .ptr d => uptoBulk d + 1
  | .slice elems spare => uptoBulkAll elems + uptoBulkAll spare + 1
  | .agg parts => uptoBulkAll parts + 1
  | .iface _ d => uptoBulk d + 1
  | .map entries => uptoBulkEntries entries + 1
  | .held _ => 1
def uptoBulkAll {H : Type} : List (DataW H) → Nat
  | [] => 0
  | d :: r => uptoBulk d + uptoBulkAll r
def uptoBulkEntries {H : Type} : List (Lit × DataW H) → Nat
  | [] => 0
  | x :: r => uptoBulkEntry x + uptoBulkEntries r
def uptoBulkEntry {H : Type} : Lit × DataW H → Nat
  | (.string bytes, d) => bytes.length + uptoBulk d + 1
  | (_, d) => uptoBulk d + 1
 end
def uptoSmall : (H : Type) → List (DataW H) → Bool := fun _ ds => decide (uptoBulkAll ds ≤ 1048576)
def OpenSpec.upto (s : _root_.Go.ChangeSpec) : _root_.Go.OpenSpec := { _root_.Go.OpenSpec.ofChange s with cond := some uptoSmall }

/-- 'laws.FnExactFourSquares', WHERE WHAT IT READS IS OF BULK AT MOST 1048576: true; the input reads as it did. -/
def fnExactFourSquaresUptoRow : OpenClaim := { program := "ytokachiofpfagaa", sum := "755626b194e7ed698a41cd045f2ed7db244ce0a2dfc19ae76a7604ac6d09a6f2", func := "loop.example/g01122/laws.FnExactFourSquares", spec := "fnExactFourSquares", unfollowed := true, recurses := true, apart := false, narrowed := true }
def FnExactFourSquaresUptoSaid : Prop := fnExactFourSquaresUptoRow.holds Try.pinned (OpenSpec.upto fnExactFourSquaresSpec)

/-- 'laws.FnExactThreeSquares', WHERE WHAT IT READS IS OF BULK AT MOST 1048576: true; the input reads as it did. -/
def fnExactThreeSquaresUptoRow : OpenClaim := { program := "ytokachiofpfagaa", sum := "755626b194e7ed698a41cd045f2ed7db244ce0a2dfc19ae76a7604ac6d09a6f2", func := "loop.example/g01122/laws.FnExactThreeSquares", spec := "fnExactThreeSquares", unfollowed := true, recurses := true, apart := false, narrowed := true }
def FnExactThreeSquaresUptoSaid : Prop := fnExactThreeSquaresUptoRow.holds Try.pinned (OpenSpec.upto fnExactThreeSquaresSpec)

/-- 'laws.FnExactTwoSquares', WHERE WHAT IT READS IS OF BULK AT MOST 1048576: true; the input reads as it did. -/
def fnExactTwoSquaresUptoRow : OpenClaim := { program := "ytokachiofpfagaa", sum := "755626b194e7ed698a41cd045f2ed7db244ce0a2dfc19ae76a7604ac6d09a6f2", func := "loop.example/g01122/laws.FnExactTwoSquares", spec := "fnExactTwoSquares", unfollowed := true, recurses := true, apart := false, narrowed := true }
def FnExactTwoSquaresUptoSaid : Prop := fnExactTwoSquaresUptoRow.holds Try.pinned (OpenSpec.upto fnExactTwoSquaresSpec)

/-- 'laws.FnExactCountFour', WHERE WHAT IT READS IS OF BULK AT MOST 1048576: true; the input reads as it did. -/
def fnExactCountFourUptoRow : OpenClaim := { program := "ytokachiofpfagaa", sum := "755626b194e7ed698a41cd045f2ed7db244ce0a2dfc19ae76a7604ac6d09a6f2", func := "loop.example/g01122/laws.FnExactCountFour", spec := "fnExactCountFour", unfollowed := true, recurses := true, apart := false, narrowed := true }
def FnExactCountFourUptoSaid : Prop := fnExactCountFourUptoRow.holds Try.pinned (OpenSpec.upto fnExactCountFourSpec)

/-- 'laws.FnExactCountTwo', WHERE WHAT IT READS IS OF BULK AT MOST 1048576: true; the input reads as it did. -/
def fnExactCountTwoUptoRow : OpenClaim := { program := "ytokachiofpfagaa", sum := "755626b194e7ed698a41cd045f2ed7db244ce0a2dfc19ae76a7604ac6d09a6f2", func := "loop.example/g01122/laws.FnExactCountTwo", spec := "fnExactCountTwo", unfollowed := true, recurses := true, apart := false, narrowed := true }
def FnExactCountTwoUptoSaid : Prop := fnExactCountTwoUptoRow.holds Try.pinned (OpenSpec.upto fnExactCountTwoSpec)

/-- 'laws.FnExactAllFourSquares', WHERE WHAT IT READS IS OF BULK AT MOST 1048576: true; the input reads as it did. -/
def fnExactAllFourSquaresUptoRow : OpenClaim := { program := "ytokachiofpfagaa", sum := "755626b194e7ed698a41cd045f2ed7db244ce0a2dfc19ae76a7604ac6d09a6f2", func := "loop.example/g01122/laws.FnExactAllFourSquares", spec := "fnExactAllFourSquares", unfollowed := true, recurses := true, apart := false, narrowed := true }
def FnExactAllFourSquaresUptoSaid : Prop := fnExactAllFourSquaresUptoRow.holds Try.pinned (OpenSpec.upto fnExactAllFourSquaresSpec)

/-- 'laws.FnExactAllTwoSquares', WHERE WHAT IT READS IS OF BULK AT MOST 1048576: true; the input reads as it did. -/
def fnExactAllTwoSquaresUptoRow : OpenClaim := { program := "ytokachiofpfagaa", sum := "755626b194e7ed698a41cd045f2ed7db244ce0a2dfc19ae76a7604ac6d09a6f2", func := "loop.example/g01122/laws.FnExactAllTwoSquares", spec := "fnExactAllTwoSquares", unfollowed := true, recurses := true, apart := false, narrowed := true }
def FnExactAllTwoSquaresUptoSaid : Prop := fnExactAllTwoSquaresUptoRow.holds Try.pinned (OpenSpec.upto fnExactAllTwoSquaresSpec)

/-- 'laws.FnTwoSquaresDescend', WHERE WHAT IT READS IS OF BULK AT MOST 1048576: true; the input reads as it did. -/
def fnTwoSquaresDescendUptoRow : OpenClaim := { program := "ytokachiofpfagaa", sum := "755626b194e7ed698a41cd045f2ed7db244ce0a2dfc19ae76a7604ac6d09a6f2", func := "loop.example/g01122/laws.FnTwoSquaresDescend", spec := "fnTwoSquaresDescend", unfollowed := true, recurses := true, apart := false, narrowed := true }
def FnTwoSquaresDescendUptoSaid : Prop := fnTwoSquaresDescendUptoRow.holds Try.pinned (OpenSpec.upto fnTwoSquaresDescendSpec)

/-- 'laws.FnFourSquaresDescend', WHERE WHAT IT READS IS OF BULK AT MOST 1048576: true; the input reads as it did. -/
def fnFourSquaresDescendUptoRow : OpenClaim := { program := "ytokachiofpfagaa", sum := "755626b194e7ed698a41cd045f2ed7db244ce0a2dfc19ae76a7604ac6d09a6f2", func := "loop.example/g01122/laws.FnFourSquaresDescend", spec := "fnFourSquaresDescend", unfollowed := true, recurses := true, apart := false, narrowed := true }
def FnFourSquaresDescendUptoSaid : Prop := fnFourSquaresDescendUptoRow.holds Try.pinned (OpenSpec.upto fnFourSquaresDescendSpec)

/-- 'laws.FnFourSquaresCounted', WHERE WHAT IT READS IS OF BULK AT MOST 1048576: true; the input reads as it did. -/
def fnFourSquaresCountedUptoRow : OpenClaim := { program := "ytokachiofpfagaa", sum := "755626b194e7ed698a41cd045f2ed7db244ce0a2dfc19ae76a7604ac6d09a6f2", func := "loop.example/g01122/laws.FnFourSquaresCounted", spec := "fnFourSquaresCounted", unfollowed := true, recurses := true, apart := false, narrowed := true }
def FnFourSquaresCountedUptoSaid : Prop := fnFourSquaresCountedUptoRow.holds Try.pinned (OpenSpec.upto fnFourSquaresCountedSpec)

/-- 'laws.FnTwoSquaresCounted', WHERE WHAT IT READS IS OF BULK AT MOST 1048576: true; the input reads as it did. -/
def fnTwoSquaresCountedUptoRow : OpenClaim := { program := "ytokachiofpfagaa", sum := "755626b194e7ed698a41cd045f2ed7db244ce0a2dfc19ae76a7604ac6d09a6f2", func := "loop.example/g01122/laws.FnTwoSquaresCounted", spec := "fnTwoSquaresCounted", unfollowed := true, recurses := true, apart := false, narrowed := true }
def FnTwoSquaresCountedUptoSaid : Prop := fnTwoSquaresCountedUptoRow.holds Try.pinned (OpenSpec.upto fnTwoSquaresCountedSpec)

end Rows
end Go.Proofs.Ytokachiofpfagaa

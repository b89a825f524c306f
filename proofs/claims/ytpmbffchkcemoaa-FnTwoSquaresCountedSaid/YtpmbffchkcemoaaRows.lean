/-
  No cell of these rows narrows 'for every input' (looked for: loops, veiled, ifaces, maps, wideKeys, modest, calm, conditions, laid).
  DERIVED. THE GIVEN ROWS OF THIS SEAT. 5 by the template 'for every input the law returns true; each argument reads behind the call as it read before'; 0 by the template 'total and deterministic' (their statements: YtpmbffchkcemoaaTotals.lean).
  GIVEN WITH THE SEED: the statements are not yours to turn. If you find one false, say at which input.
  Laid BY PROGRAM, IN A SANDBOX (cutbox-rows.mjs): the forced cells as the released guide's own fill.sh prints them over the translation cbc222b327fae361… (all of the seat's roots in one cut). By AI agents, Wed Nov 11 2026. No macro, syntax, notation, axiom, sorry.
-/
import Derived.Test.YtpmbffchkcemoaaChecked
import GoSem.Claim
import GoSem.ClaimJoined
import GoSem.ClaimMapViews
import Derived.JoinedTies
import Derived.KernelRfl
namespace Go.Proofs.Ytpmbffchkcemoaa
/- THE CELL 'sum', in the pinned program and in every row, IS THE sha256 OF THE DUMP (.gsa) THAT YtpmbffchkcemoaaProg.lean LOADS. Nothing in Lean hashes anything: it is a label: what it is worth is what the hold of that sum in a sandbox is worth. -/
noncomputable def Try.pinned : Pinned := { name := "ytpmbffchkcemoaa", sum := "cbc222b327fae361d26e9e0ac38f032135e5a3256a37a92000f747eeb29c1c97", checked := Try.checked }
namespace Rows
def none {H : Type} : Left H := { results := [], args := [] }

/-- 'laws.FnExactFourDescent': WHATEVER THE INPUT: true; the input reads as it did. -/
def fnExactFourDescentSpec : ChangeSpec := { name := "fnExactFourDescent", fn := fun _ => fun
  | [d] => { results := [.lit (.bool true)], args := [d] }
  | _ => none }
def fnExactFourDescentRow : OpenClaim := { program := "ytpmbffchkcemoaa", sum := "cbc222b327fae361d26e9e0ac38f032135e5a3256a37a92000f747eeb29c1c97", func := "loop.example/g01122/laws.FnExactFourDescent", spec := "fnExactFourDescent", apart := false }
def FnExactFourDescentSaid : Prop := fnExactFourDescentRow.holds Try.pinned (OpenSpec.ofChange fnExactFourDescentSpec)

/-- ITS FALSE NEIGHBOUR: 'it returns false'. Refute it at one input. -/
def fnExactFourDescentWrong : ChangeSpec := { name := "fnExactFourDescent", fn := fun _ => fun
  | [d] => { results := [.lit (.bool false)], args := [d] }
  | _ => none }
def FnExactFourDescentWrongFalsely : Prop := fnExactFourDescentRow.holds Try.pinned (OpenSpec.ofChange fnExactFourDescentWrong)

/-- 'laws.FnTwoSquaresDescend': WHATEVER THE INPUT: true; the input reads as it did. -/
def fnTwoSquaresDescendSpec : ChangeSpec := { name := "fnTwoSquaresDescend", fn := fun _ => fun
  | [d1, d2] => { results := [.lit (.bool true)], args := [d1, d2] }
  | _ => none }
def fnTwoSquaresDescendRow : OpenClaim := { program := "ytpmbffchkcemoaa", sum := "cbc222b327fae361d26e9e0ac38f032135e5a3256a37a92000f747eeb29c1c97", func := "loop.example/g01122/laws.FnTwoSquaresDescend", spec := "fnTwoSquaresDescend", unfollowed := true, recurses := true, apart := false }
def FnTwoSquaresDescendSaid : Prop := fnTwoSquaresDescendRow.holds Try.pinned (OpenSpec.ofChange fnTwoSquaresDescendSpec)

/-- ITS FALSE NEIGHBOUR: 'it returns false'. Refute it at one input. -/
def fnTwoSquaresDescendWrong : ChangeSpec := { name := "fnTwoSquaresDescend", fn := fun _ => fun
  | [d1, d2] => { results := [.lit (.bool false)], args := [d1, d2] }
  | _ => none }
def FnTwoSquaresDescendWrongFalsely : Prop := fnTwoSquaresDescendRow.holds Try.pinned (OpenSpec.ofChange fnTwoSquaresDescendWrong)

/-- 'laws.FnFourSquaresDescend': WHATEVER THE INPUT: true; the input reads as it did. -/
def fnFourSquaresDescendSpec : ChangeSpec := { name := "fnFourSquaresDescend", fn := fun _ => fun
  | [d1, d2] => { results := [.lit (.bool true)], args := [d1, d2] }
  | _ => none }
def fnFourSquaresDescendRow : OpenClaim := { program := "ytpmbffchkcemoaa", sum := "cbc222b327fae361d26e9e0ac38f032135e5a3256a37a92000f747eeb29c1c97", func := "loop.example/g01122/laws.FnFourSquaresDescend", spec := "fnFourSquaresDescend", unfollowed := true, recurses := true, apart := false }
def FnFourSquaresDescendSaid : Prop := fnFourSquaresDescendRow.holds Try.pinned (OpenSpec.ofChange fnFourSquaresDescendSpec)

/-- ITS FALSE NEIGHBOUR: 'it returns false'. Refute it at one input. -/
def fnFourSquaresDescendWrong : ChangeSpec := { name := "fnFourSquaresDescend", fn := fun _ => fun
  | [d1, d2] => { results := [.lit (.bool false)], args := [d1, d2] }
  | _ => none }
def FnFourSquaresDescendWrongFalsely : Prop := fnFourSquaresDescendRow.holds Try.pinned (OpenSpec.ofChange fnFourSquaresDescendWrong)

/-- 'laws.FnFourSquaresCounted': WHATEVER THE INPUT: true; the input reads as it did. -/
def fnFourSquaresCountedSpec : ChangeSpec := { name := "fnFourSquaresCounted", fn := fun _ => fun
  | [d1, d2] => { results := [.lit (.bool true)], args := [d1, d2] }
  | _ => none }
def fnFourSquaresCountedRow : OpenClaim := { program := "ytpmbffchkcemoaa", sum := "cbc222b327fae361d26e9e0ac38f032135e5a3256a37a92000f747eeb29c1c97", func := "loop.example/g01122/laws.FnFourSquaresCounted", spec := "fnFourSquaresCounted", unfollowed := true, recurses := true, apart := false }
def FnFourSquaresCountedSaid : Prop := fnFourSquaresCountedRow.holds Try.pinned (OpenSpec.ofChange fnFourSquaresCountedSpec)

/-- ITS FALSE NEIGHBOUR: 'it returns false'. Refute it at one input. -/
def fnFourSquaresCountedWrong : ChangeSpec := { name := "fnFourSquaresCounted", fn := fun _ => fun
  | [d1, d2] => { results := [.lit (.bool false)], args := [d1, d2] }
  | _ => none }
def FnFourSquaresCountedWrongFalsely : Prop := fnFourSquaresCountedRow.holds Try.pinned (OpenSpec.ofChange fnFourSquaresCountedWrong)

/-- 'laws.FnTwoSquaresCounted': WHATEVER THE INPUT: true; the input reads as it did. -/
def fnTwoSquaresCountedSpec : ChangeSpec := { name := "fnTwoSquaresCounted", fn := fun _ => fun
  | [d1, d2] => { results := [.lit (.bool true)], args := [d1, d2] }
  | _ => none }
def fnTwoSquaresCountedRow : OpenClaim := { program := "ytpmbffchkcemoaa", sum := "cbc222b327fae361d26e9e0ac38f032135e5a3256a37a92000f747eeb29c1c97", func := "loop.example/g01122/laws.FnTwoSquaresCounted", spec := "fnTwoSquaresCounted", unfollowed := true, recurses := true, apart := false }
def FnTwoSquaresCountedSaid : Prop := fnTwoSquaresCountedRow.holds Try.pinned (OpenSpec.ofChange fnTwoSquaresCountedSpec)

/-- ITS FALSE NEIGHBOUR: 'it returns false'. Refute it at one input. -/
def fnTwoSquaresCountedWrong : ChangeSpec := { name := "fnTwoSquaresCounted", fn := fun _ => fun
  | [d1, d2] => { results := [.lit (.bool false)], args := [d1, d2] }
  | _ => none }
def FnTwoSquaresCountedWrongFalsely : Prop := fnTwoSquaresCountedRow.holds Try.pinned (OpenSpec.ofChange fnTwoSquaresCountedWrong)

/- THE SECOND FORM. 'bulk': how many values and letters a reading holds, each counted each time it is reached (what is shared counts as often as it is met; a slice's spare places count too). A statement '..UptoSaid' is the law's where the arguments, and the package variables that the reading takes, are together of bulk at most 1048576: NARROWER than '..Said'. Prove '..Said' where nothing that the law and all that it calls make is longer than what came in: it says more and counts as full. Else prove '..UptoSaid'. A law counts once. -/
mutual
def uptoBulk {H : Type} : DataW H → Nat
  | .lit (.string bytes) => bytes.length + 1
  | .lit _ => 1
  | .nil => 1
  | .ptr d => uptoBulk d + 1
  | .slice elems spare => uptoBulkAll elems + uptoBulkAll spare + 1
  | .agg parts => uptoBulkAll parts + 1
  | .iface _ d => uptoBulk d + 1
  | .map entries => uptoBulkEntries entries + 1
  | .held _ => 1
def uptoBulkAll {H : Type} : List (DataW H) → Nat
  | [] => 0
  | d :: r => uptoBulk d + uptoBulkAll r
def uptoBulkEntries {H : Type} : List (Lit × DataW H) → Nat
  | [] => 0
  | x :: r => uptoBulkEntry x + uptoBulkEntries r
def uptoBulkEntry {H : Type} : Lit × DataW H → Nat
  | (.string bytes, d) => bytes.length + uptoBulk d + 1
  | (_, d) => uptoBulk d + 1
 end
def uptoSmall : (H : Type) → List (DataW H) → Bool := fun _ ds => decide (uptoBulkAll ds ≤ 1048576)
def OpenSpec.upto (s : _root_.Go.ChangeSpec) : _root_.Go.OpenSpec := { _root_.Go.OpenSpec.ofChange s with cond := some uptoSmall }

/-- 'laws.FnExactFourDescent', WHERE WHAT IT READS IS OF BULK AT MOST 1048576: true; the input reads as it did. -/
def fnExactFourDescentUptoRow : OpenClaim := { program := "ytpmbffchkcemoaa", sum := "cbc222b327fae361d26e9e0ac38f032135e5a3256a37a92000f747eeb29c1c97", func := "loop.example/g01122/laws.FnExactFourDescent", spec := "fnExactFourDescent", apart := false, narrowed := true }
def FnExactFourDescentUptoSaid : Prop := fnExactFourDescentUptoRow.holds Try.pinned (OpenSpec.upto fnExactFourDescentSpec)

/-- 'laws.FnTwoSquaresDescend', WHERE WHAT IT READS IS OF BULK AT MOST 1048576: true; the input reads as it did. -/
def fnTwoSquaresDescendUptoRow : OpenClaim := { program := "ytpmbffchkcemoaa", sum := "cbc222b327fae361d26e9e0ac38f032135e5a3256a37a92000f747eeb29c1c97", func := "loop.example/g01122/laws.FnTwoSquaresDescend", spec := "fnTwoSquaresDescend", unfollowed := true, recurses := true, apart := false, narrowed := true }
def FnTwoSquaresDescendUptoSaid : Prop := fnTwoSquaresDescendUptoRow.holds Try.pinned (OpenSpec.upto fnTwoSquaresDescendSpec)

/-- 'laws.FnFourSquaresDescend', WHERE WHAT IT READS IS OF BULK AT MOST 1048576: true; the input reads as it did. -/
def fnFourSquaresDescendUptoRow : OpenClaim := { program := "ytpmbffchkcemoaa", sum := "cbc222b327fae361d26e9e0ac38f032135e5a3256a37a92000f747eeb29c1c97", func := "loop.example/g01122/laws.FnFourSquaresDescend", spec := "fnFourSquaresDescend", unfollowed := true, recurses := true, apart := false, narrowed := true }
def FnFourSquaresDescendUptoSaid : Prop := fnFourSquaresDescendUptoRow.holds Try.pinned (OpenSpec.upto fnFourSquaresDescendSpec)

/-- 'laws.FnFourSquaresCounted', WHERE WHAT IT READS IS OF BULK AT MOST 1048576: true; the input reads as it did. -/
def fnFourSquaresCountedUptoRow : OpenClaim := { program := "ytpmbffchkcemoaa", sum := "cbc222b327fae361d26e9e0ac38f032135e5a3256a37a92000f747eeb29c1c97", func := "loop.example/g01122/laws.FnFourSquaresCounted", spec := "fnFourSquaresCounted", unfollowed := true, recurses := true, apart := false, narrowed := true }
def FnFourSquaresCountedUptoSaid : Prop := fnFourSquaresCountedUptoRow.holds Try.pinned (OpenSpec.upto fnFourSquaresCountedSpec)

/-- 'laws.FnTwoSquaresCounted', WHERE WHAT IT READS IS OF BULK AT MOST 1048576: true; the input reads as it did. -/
def fnTwoSquaresCountedUptoRow : OpenClaim := { program := "ytpmbffchkcemoaa", sum := "cbc222b327fae361d26e9e0ac38f032135e5a3256a37a92000f747eeb29c1c97", func := "loop.example/g01122/laws.FnTwoSquaresCounted", spec := "fnTwoSquaresCounted", unfollowed := true, recurses := true, apart := false, narrowed := true }
def FnTwoSquaresCountedUptoSaid : Prop := fnTwoSquaresCountedUptoRow.holds Try.pinned (OpenSpec.upto fnTwoSquaresCountedSpec)

end Rows
end Go.Proofs.Ytpmbffchkcemoaa

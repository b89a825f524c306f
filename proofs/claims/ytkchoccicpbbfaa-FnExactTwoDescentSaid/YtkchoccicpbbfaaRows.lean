/-
  No cell of these rows narrows 'for every input' (looked for: loops, veiled, ifaces, maps, wideKeys, modest, calm, conditions, laid).
  DERIVED. THE GIVEN ROWS OF THIS SEAT. 11 by the template 'for every input the law returns true; each argument reads behind the call as it read before'; 0 by the template 'total and deterministic' (their statements: YtkchoccicpbbfaaTotals.lean).
  GIVEN WITH THE SEED: the statements are not yours to turn. If you find one false, say at which input.
  Laid BY PROGRAM, IN A SANDBOX (cutbox-rows.mjs): the forced cells as the released guide's own fill.sh prints them over the translation 4b75d29055a75690… (all of the seat's roots in one cut). By AI agents, Wed Nov 11 2026. No macro, syntax, notation, axiom, sorry.
-/
import Derived.Test.YtkchoccicpbbfaaChecked
import GoSem.Claim
import GoSem.ClaimJoined
import GoSem.ClaimMapViews
import Derived.JoinedTies
import Derived.KernelRfl
namespace Go.Proofs.Ytkchoccicpbbfaa
/- THE CELL 'sum', in the pinned program and in every row, IS THE sha256 OF THE DUMP (.gsa) THAT YtkchoccicpbbfaaProg.lean LOADS. Nothing in Lean hashes anything: it is a label: what it is worth is what the hold of that sum in a sandbox is worth. -/
noncomputable def Try.pinned : Pinned := { name := "ytkchoccicpbbfaa", sum := "4b75d29055a756901962268409bfbd754312149b0790d3b35268f639974cc997", checked := Try.checked }
namespace Rows
def none {H : Type} : Left H := { results := [], args := [] }

/-- 'laws.FnExactIsRefusedByEight': WHATEVER THE INPUT: true; the input reads as it did. -/
def fnExactIsRefusedByEightSpec : ChangeSpec := { name := "fnExactIsRefusedByEight", fn := fun _ => fun
  | [d] => { results := [.lit (.bool true)], args := [d] }
  | _ => none }
def fnExactIsRefusedByEightRow : OpenClaim := { program := "ytkchoccicpbbfaa", sum := "4b75d29055a756901962268409bfbd754312149b0790d3b35268f639974cc997", func := "loop.example/g01122/laws.FnExactIsRefusedByEight", spec := "fnExactIsRefusedByEight", apart := false }
def FnExactIsRefusedByEightSaid : Prop := fnExactIsRefusedByEightRow.holds Try.pinned (OpenSpec.ofChange fnExactIsRefusedByEightSpec)

/-- ITS FALSE NEIGHBOUR: 'it returns false'. Refute it at one input. -/
def fnExactIsRefusedByEightWrong : ChangeSpec := { name := "fnExactIsRefusedByEight", fn := fun _ => fun
  | [d] => { results := [.lit (.bool false)], args := [d] }
  | _ => none }
def FnExactIsRefusedByEightWrongFalsely : Prop := fnExactIsRefusedByEightRow.holds Try.pinned (OpenSpec.ofChange fnExactIsRefusedByEightWrong)

/-- 'laws.FnExactIsPrimeNumber': WHATEVER THE INPUT: true; the input reads as it did. -/
def fnExactIsPrimeNumberSpec : ChangeSpec := { name := "fnExactIsPrimeNumber", fn := fun _ => fun
  | [d] => { results := [.lit (.bool true)], args := [d] }
  | _ => none }
def fnExactIsPrimeNumberRow : OpenClaim := { program := "ytkchoccicpbbfaa", sum := "4b75d29055a756901962268409bfbd754312149b0790d3b35268f639974cc997", func := "loop.example/g01122/laws.FnExactIsPrimeNumber", spec := "fnExactIsPrimeNumber", apart := false }
def FnExactIsPrimeNumberSaid : Prop := fnExactIsPrimeNumberRow.holds Try.pinned (OpenSpec.ofChange fnExactIsPrimeNumberSpec)

/-- ITS FALSE NEIGHBOUR: 'it returns false'. Refute it at one input. -/
def fnExactIsPrimeNumberWrong : ChangeSpec := { name := "fnExactIsPrimeNumber", fn := fun _ => fun
  | [d] => { results := [.lit (.bool false)], args := [d] }
  | _ => none }
def FnExactIsPrimeNumberWrongFalsely : Prop := fnExactIsPrimeNumberRow.holds Try.pinned (OpenSpec.ofChange fnExactIsPrimeNumberWrong)

/-- 'laws.FnExactDivisorSumFour': WHATEVER THE INPUT: true; the input reads as it did. -/
def fnExactDivisorSumFourSpec : ChangeSpec := { name := "fnExactDivisorSumFour", fn := fun _ => fun
  | [d] => { results := [.lit (.bool true)], args := [d] }
  | _ => none }
def fnExactDivisorSumFourRow : OpenClaim := { program := "ytkchoccicpbbfaa", sum := "4b75d29055a756901962268409bfbd754312149b0790d3b35268f639974cc997", func := "loop.example/g01122/laws.FnExactDivisorSumFour", spec := "fnExactDivisorSumFour", apart := false }
def FnExactDivisorSumFourSaid : Prop := fnExactDivisorSumFourRow.holds Try.pinned (OpenSpec.ofChange fnExactDivisorSumFourSpec)

/-- ITS FALSE NEIGHBOUR: 'it returns false'. Refute it at one input. -/
def fnExactDivisorSumFourWrong : ChangeSpec := { name := "fnExactDivisorSumFour", fn := fun _ => fun
  | [d] => { results := [.lit (.bool false)], args := [d] }
  | _ => none }
def FnExactDivisorSumFourWrongFalsely : Prop := fnExactDivisorSumFourRow.holds Try.pinned (OpenSpec.ofChange fnExactDivisorSumFourWrong)

/-- 'laws.FnExactDivisorBalance': WHATEVER THE INPUT: true; the input reads as it did. -/
def fnExactDivisorBalanceSpec : ChangeSpec := { name := "fnExactDivisorBalance", fn := fun _ => fun
  | [d] => { results := [.lit (.bool true)], args := [d] }
  | _ => none }
def fnExactDivisorBalanceRow : OpenClaim := { program := "ytkchoccicpbbfaa", sum := "4b75d29055a756901962268409bfbd754312149b0790d3b35268f639974cc997", func := "loop.example/g01122/laws.FnExactDivisorBalance", spec := "fnExactDivisorBalance", apart := false }
def FnExactDivisorBalanceSaid : Prop := fnExactDivisorBalanceRow.holds Try.pinned (OpenSpec.ofChange fnExactDivisorBalanceSpec)

/-- ITS FALSE NEIGHBOUR: 'it returns false'. Refute it at one input. -/
def fnExactDivisorBalanceWrong : ChangeSpec := { name := "fnExactDivisorBalance", fn := fun _ => fun
  | [d] => { results := [.lit (.bool false)], args := [d] }
  | _ => none }
def FnExactDivisorBalanceWrongFalsely : Prop := fnExactDivisorBalanceRow.holds Try.pinned (OpenSpec.ofChange fnExactDivisorBalanceWrong)

/-- 'laws.FnExactRefusingPrime': WHATEVER THE INPUT: true; the input reads as it did. -/
def fnExactRefusingPrimeSpec : ChangeSpec := { name := "fnExactRefusingPrime", fn := fun _ => fun
  | [d] => { results := [.lit (.bool true)], args := [d] }
  | _ => none }
def fnExactRefusingPrimeRow : OpenClaim := { program := "ytkchoccicpbbfaa", sum := "4b75d29055a756901962268409bfbd754312149b0790d3b35268f639974cc997", func := "loop.example/g01122/laws.FnExactRefusingPrime", spec := "fnExactRefusingPrime", apart := false }
def FnExactRefusingPrimeSaid : Prop := fnExactRefusingPrimeRow.holds Try.pinned (OpenSpec.ofChange fnExactRefusingPrimeSpec)

/-- ITS FALSE NEIGHBOUR: 'it returns false'. Refute it at one input. -/
def fnExactRefusingPrimeWrong : ChangeSpec := { name := "fnExactRefusingPrime", fn := fun _ => fun
  | [d] => { results := [.lit (.bool false)], args := [d] }
  | _ => none }
def FnExactRefusingPrimeWrongFalsely : Prop := fnExactRefusingPrimeRow.holds Try.pinned (OpenSpec.ofChange fnExactRefusingPrimeWrong)

/-- 'laws.FnExactRootOfMinusOne': WHATEVER THE INPUT: true; the input reads as it did. -/
def fnExactRootOfMinusOneSpec : ChangeSpec := { name := "fnExactRootOfMinusOne", fn := fun _ => fun
  | [d] => { results := [.lit (.bool true)], args := [d] }
  | _ => none }
def fnExactRootOfMinusOneRow : OpenClaim := { program := "ytkchoccicpbbfaa", sum := "4b75d29055a756901962268409bfbd754312149b0790d3b35268f639974cc997", func := "loop.example/g01122/laws.FnExactRootOfMinusOne", spec := "fnExactRootOfMinusOne", apart := false }
def FnExactRootOfMinusOneSaid : Prop := fnExactRootOfMinusOneRow.holds Try.pinned (OpenSpec.ofChange fnExactRootOfMinusOneSpec)

/-- ITS FALSE NEIGHBOUR: 'it returns false'. Refute it at one input. -/
def fnExactRootOfMinusOneWrong : ChangeSpec := { name := "fnExactRootOfMinusOne", fn := fun _ => fun
  | [d] => { results := [.lit (.bool false)], args := [d] }
  | _ => none }
def FnExactRootOfMinusOneWrongFalsely : Prop := fnExactRootOfMinusOneRow.holds Try.pinned (OpenSpec.ofChange fnExactRootOfMinusOneWrong)

/-- 'laws.FnExactMultiplyTwo': WHATEVER THE INPUT: true; the input reads as it did. -/
def fnExactMultiplyTwoSpec : ChangeSpec := { name := "fnExactMultiplyTwo", fn := fun _ => fun
  | [d1, d2] => { results := [.lit (.bool true)], args := [d1, d2] }
  | _ => none }
def fnExactMultiplyTwoRow : OpenClaim := { program := "ytkchoccicpbbfaa", sum := "4b75d29055a756901962268409bfbd754312149b0790d3b35268f639974cc997", func := "loop.example/g01122/laws.FnExactMultiplyTwo", spec := "fnExactMultiplyTwo", unfollowed := true, recurses := true, apart := false }
def FnExactMultiplyTwoSaid : Prop := fnExactMultiplyTwoRow.holds Try.pinned (OpenSpec.ofChange fnExactMultiplyTwoSpec)

/-- ITS FALSE NEIGHBOUR: 'it returns false'. Refute it at one input. -/
def fnExactMultiplyTwoWrong : ChangeSpec := { name := "fnExactMultiplyTwo", fn := fun _ => fun
  | [d1, d2] => { results := [.lit (.bool false)], args := [d1, d2] }
  | _ => none }
def FnExactMultiplyTwoWrongFalsely : Prop := fnExactMultiplyTwoRow.holds Try.pinned (OpenSpec.ofChange fnExactMultiplyTwoWrong)

/-- 'laws.FnExactFourStart': WHATEVER THE INPUT: true; the input reads as it did. -/
def fnExactFourStartSpec : ChangeSpec := { name := "fnExactFourStart", fn := fun _ => fun
  | [d] => { results := [.lit (.bool true)], args := [d] }
  | _ => none }
def fnExactFourStartRow : OpenClaim := { program := "ytkchoccicpbbfaa", sum := "4b75d29055a756901962268409bfbd754312149b0790d3b35268f639974cc997", func := "loop.example/g01122/laws.FnExactFourStart", spec := "fnExactFourStart", apart := false }
def FnExactFourStartSaid : Prop := fnExactFourStartRow.holds Try.pinned (OpenSpec.ofChange fnExactFourStartSpec)

/-- ITS FALSE NEIGHBOUR: 'it returns false'. Refute it at one input. -/
def fnExactFourStartWrong : ChangeSpec := { name := "fnExactFourStart", fn := fun _ => fun
  | [d] => { results := [.lit (.bool false)], args := [d] }
  | _ => none }
def FnExactFourStartWrongFalsely : Prop := fnExactFourStartRow.holds Try.pinned (OpenSpec.ofChange fnExactFourStartWrong)

/-- 'laws.FnExactMultiplyFour': WHATEVER THE INPUT: true; the input reads as it did. -/
def fnExactMultiplyFourSpec : ChangeSpec := { name := "fnExactMultiplyFour", fn := fun _ => fun
  | [d1, d2] => { results := [.lit (.bool true)], args := [d1, d2] }
  | _ => none }
def fnExactMultiplyFourRow : OpenClaim := { program := "ytkchoccicpbbfaa", sum := "4b75d29055a756901962268409bfbd754312149b0790d3b35268f639974cc997", func := "loop.example/g01122/laws.FnExactMultiplyFour", spec := "fnExactMultiplyFour", unfollowed := true, recurses := true, apart := false }
def FnExactMultiplyFourSaid : Prop := fnExactMultiplyFourRow.holds Try.pinned (OpenSpec.ofChange fnExactMultiplyFourSpec)

/-- ITS FALSE NEIGHBOUR: 'it returns false'. Refute it at one input. -/
def fnExactMultiplyFourWrong : ChangeSpec := { name := "fnExactMultiplyFour", fn := fun _ => fun
  | [d1, d2] => { results := [.lit (.bool false)], args := [d1, d2] }
  | _ => none }
def FnExactMultiplyFourWrongFalsely : Prop := fnExactMultiplyFourRow.holds Try.pinned (OpenSpec.ofChange fnExactMultiplyFourWrong)

/-- 'laws.FnExactTwoDescent': WHATEVER THE INPUT: true; the input reads as it did. -/
def fnExactTwoDescentSpec : ChangeSpec := { name := "fnExactTwoDescent", fn := fun _ => fun
  | [d] => { results := [.lit (.bool true)], args := [d] }
  | _ => none }
def fnExactTwoDescentRow : OpenClaim := { program := "ytkchoccicpbbfaa", sum := "4b75d29055a756901962268409bfbd754312149b0790d3b35268f639974cc997", func := "loop.example/g01122/laws.FnExactTwoDescent", spec := "fnExactTwoDescent", apart := false }
def FnExactTwoDescentSaid : Prop := fnExactTwoDescentRow.holds Try.pinned (OpenSpec.ofChange fnExactTwoDescentSpec)

/-- ITS FALSE NEIGHBOUR: 'it returns false'. Refute it at one input. -/
def fnExactTwoDescentWrong : ChangeSpec := { name := "fnExactTwoDescent", fn := fun _ => fun
  | [d] => { results := [.lit (.bool false)], args := [d] }
  | _ => none }
def FnExactTwoDescentWrongFalsely : Prop := fnExactTwoDescentRow.holds Try.pinned (OpenSpec.ofChange fnExactTwoDescentWrong)

/-- 'laws.FnExactFourDescent': WHATEVER THE INPUT: true; the input reads as it did. -/
def fnExactFourDescentSpec : ChangeSpec := { name := "fnExactFourDescent", fn := fun _ => fun
  | [d] => { results := [.lit (.bool true)], args := [d] }
  | _ => none }
def fnExactFourDescentRow : OpenClaim := { program := "ytkchoccicpbbfaa", sum := "4b75d29055a756901962268409bfbd754312149b0790d3b35268f639974cc997", func := "loop.example/g01122/laws.FnExactFourDescent", spec := "fnExactFourDescent", apart := false }
def FnExactFourDescentSaid : Prop := fnExactFourDescentRow.holds Try.pinned (OpenSpec.ofChange fnExactFourDescentSpec)

/-- ITS FALSE NEIGHBOUR: 'it returns false'. Refute it at one input. -/
def fnExactFourDescentWrong : ChangeSpec := { name := "fnExactFourDescent", fn := fun _ => fun
  | [d] => { results := [.lit (.bool false)], args := [d] }
  | _ => none }
def FnExactFourDescentWrongFalsely : Prop := fnExactFourDescentRow.holds Try.pinned (OpenSpec.ofChange fnExactFourDescentWrong)

/- THE SECOND FORM. 'bulk': how many values and letters a reading holds, each counted each time it is reached (what is shared counts as often as it is met; a slice's spare places count too). A statement '..UptoSaid' is the law's where the arguments, and the package variables that the reading takes, are together of bulk at most 1048576: NARROWER than '..Said'. Prove '..Said' where nothing that the law and all that it calls make is longer than what came in: it says more and counts as full. Else prove '..UptoSaid'. A law counts once. -/
mutual
def uptoBulk {H : Type} : DataW H → Nat
  | .lit (.string bytes) => bytes.length + 1
  | .lit _ => 1
  | .nil => 1
  | .ptr d => uptoBulk d + 1
  | .slice elems spare => uptoBulkAll elems + uptoBulkAll spare + 1
  | .agg parts => uptoBulkAll parts + 1
  | .iface _ d => uptoBulk d + 1
  | .map entries => uptoBulkEntries entries + 1
  | .held _ => 1
def uptoBulkAll {H : Type} : List (DataW H) → Nat
  | [] => 0
  | d :: r => uptoBulk d + uptoBulkAll r
def uptoBulkEntries {H : Type} : List (Lit × DataW H) → Nat
  | [] => 0
  | x :: r => uptoBulkEntry x + uptoBulkEntries r
def uptoBulkEntry {H : Type} : Lit × DataW H → Nat
  | (.string bytes, d) => bytes.length + uptoBulk d + 1
  | (_, d) => uptoBulk d + 1
 end
def uptoSmall : (H : Type) → List (DataW H) → Bool := fun _ ds => decide (uptoBulkAll ds ≤ 1048576)
def OpenSpec.upto (s : _root_.Go.ChangeSpec) : _root_.Go.OpenSpec := { _root_.Go.OpenSpec.ofChange s with cond := some uptoSmall }

/-- 'laws.FnExactIsRefusedByEight', WHERE WHAT IT READS IS OF BULK AT MOST 1048576: true; the input reads as it did. -/
def fnExactIsRefusedByEightUptoRow : OpenClaim := { program := "ytkchoccicpbbfaa", sum := "4b75d29055a756901962268409bfbd754312149b0790d3b35268f639974cc997", func := "loop.example/g01122/laws.FnExactIsRefusedByEight", spec := "fnExactIsRefusedByEight", apart := false, narrowed := true }
def FnExactIsRefusedByEightUptoSaid : Prop := fnExactIsRefusedByEightUptoRow.holds Try.pinned (OpenSpec.upto fnExactIsRefusedByEightSpec)

/-- 'laws.FnExactIsPrimeNumber', WHERE WHAT IT READS IS OF BULK AT MOST 1048576: true; the input reads as it did. -/
def fnExactIsPrimeNumberUptoRow : OpenClaim := { program := "ytkchoccicpbbfaa", sum := "4b75d29055a756901962268409bfbd754312149b0790d3b35268f639974cc997", func := "loop.example/g01122/laws.FnExactIsPrimeNumber", spec := "fnExactIsPrimeNumber", apart := false, narrowed := true }
def FnExactIsPrimeNumberUptoSaid : Prop := fnExactIsPrimeNumberUptoRow.holds Try.pinned (OpenSpec.upto fnExactIsPrimeNumberSpec)

/-- 'laws.FnExactDivisorSumFour', WHERE WHAT IT READS IS OF BULK AT MOST 1048576: true; the input reads as it did. -/
def fnExactDivisorSumFourUptoRow : OpenClaim := { program := "ytkchoccicpbbfaa", sum := "4b75d29055a756901962268409bfbd754312149b0790d3b35268f639974cc997", func := "loop.example/g01122/laws.FnExactDivisorSumFour", spec := "fnExactDivisorSumFour", apart := false, narrowed := true }
def FnExactDivisorSumFourUptoSaid : Prop := fnExactDivisorSumFourUptoRow.holds Try.pinned (OpenSpec.upto fnExactDivisorSumFourSpec)

/-- 'laws.FnExactDivisorBalance', WHERE WHAT IT READS IS OF BULK AT MOST 1048576: true; the input reads as it did. -/
def fnExactDivisorBalanceUptoRow : OpenClaim := { program := "ytkchoccicpbbfaa", sum := "4b75d29055a756901962268409bfbd754312149b0790d3b35268f639974cc997", func := "loop.example/g01122/laws.FnExactDivisorBalance", spec := "fnExactDivisorBalance", apart := false, narrowed := true }
def FnExactDivisorBalanceUptoSaid : Prop := fnExactDivisorBalanceUptoRow.holds Try.pinned (OpenSpec.upto fnExactDivisorBalanceSpec)

/-- 'laws.FnExactRefusingPrime', WHERE WHAT IT READS IS OF BULK AT MOST 1048576: true; the input reads as it did. -/
def fnExactRefusingPrimeUptoRow : OpenClaim := { program := "ytkchoccicpbbfaa", sum := "4b75d29055a756901962268409bfbd754312149b0790d3b35268f639974cc997", func := "loop.example/g01122/laws.FnExactRefusingPrime", spec := "fnExactRefusingPrime", apart := false, narrowed := true }
def FnExactRefusingPrimeUptoSaid : Prop := fnExactRefusingPrimeUptoRow.holds Try.pinned (OpenSpec.upto fnExactRefusingPrimeSpec)

/-- 'laws.FnExactRootOfMinusOne', WHERE WHAT IT READS IS OF BULK AT MOST 1048576: true; the input reads as it did. -/
def fnExactRootOfMinusOneUptoRow : OpenClaim := { program := "ytkchoccicpbbfaa", sum := "4b75d29055a756901962268409bfbd754312149b0790d3b35268f639974cc997", func := "loop.example/g01122/laws.FnExactRootOfMinusOne", spec := "fnExactRootOfMinusOne", apart := false, narrowed := true }
def FnExactRootOfMinusOneUptoSaid : Prop := fnExactRootOfMinusOneUptoRow.holds Try.pinned (OpenSpec.upto fnExactRootOfMinusOneSpec)

/-- 'laws.FnExactMultiplyTwo', WHERE WHAT IT READS IS OF BULK AT MOST 1048576: true; the input reads as it did. -/
def fnExactMultiplyTwoUptoRow : OpenClaim := { program := "ytkchoccicpbbfaa", sum := "4b75d29055a756901962268409bfbd754312149b0790d3b35268f639974cc997", func := "loop.example/g01122/laws.FnExactMultiplyTwo", spec := "fnExactMultiplyTwo", unfollowed := true, recurses := true, apart := false, narrowed := true }
def FnExactMultiplyTwoUptoSaid : Prop := fnExactMultiplyTwoUptoRow.holds Try.pinned (OpenSpec.upto fnExactMultiplyTwoSpec)

/-- 'laws.FnExactFourStart', WHERE WHAT IT READS IS OF BULK AT MOST 1048576: true; the input reads as it did. -/
def fnExactFourStartUptoRow : OpenClaim := { program := "ytkchoccicpbbfaa", sum := "4b75d29055a756901962268409bfbd754312149b0790d3b35268f639974cc997", func := "loop.example/g01122/laws.FnExactFourStart", spec := "fnExactFourStart", apart := false, narrowed := true }
def FnExactFourStartUptoSaid : Prop := fnExactFourStartUptoRow.holds Try.pinned (OpenSpec.upto fnExactFourStartSpec)

/-- 'laws.FnExactMultiplyFour', WHERE WHAT IT READS IS OF BULK AT MOST 1048576: true; the input reads as it did. -/
def fnExactMultiplyFourUptoRow : OpenClaim := { program := "ytkchoccicpbbfaa", sum := "4b75d29055a756901962268409bfbd754312149b0790d3b35268f639974cc997", func := "loop.example/g01122/laws.FnExactMultiplyFour", spec := "fnExactMultiplyFour", unfollowed := true, recurses := true, apart := false, narrowed := true }
def FnExactMultiplyFourUptoSaid : Prop := fnExactMultiplyFourUptoRow.holds Try.pinned (OpenSpec.upto fnExactMultiplyFourSpec)

/-- 'laws.FnExactTwoDescent', WHERE WHAT IT READS IS OF BULK AT MOST 1048576: true; the input reads as it did. -/
def fnExactTwoDescentUptoRow : OpenClaim := { program := "ytkchoccicpbbfaa", sum := "4b75d29055a756901962268409bfbd754312149b0790d3b35268f639974cc997", func := "loop.example/g01122/laws.FnExactTwoDescent", spec := "fnExactTwoDescent", apart := false, narrowed := true }
def FnExactTwoDescentUptoSaid : Prop := fnExactTwoDescentUptoRow.holds Try.pinned (OpenSpec.upto fnExactTwoDescentSpec)

/-- 'laws.FnExactFourDescent', WHERE WHAT IT READS IS OF BULK AT MOST 1048576: true; the input reads as it did. -/
def fnExactFourDescentUptoRow : OpenClaim := { program := "ytkchoccicpbbfaa", sum := "4b75d29055a756901962268409bfbd754312149b0790d3b35268f639974cc997", func := "loop.example/g01122/laws.FnExactFourDescent", spec := "fnExactFourDescent", apart := false, narrowed := true }
def FnExactFourDescentUptoSaid : Prop := fnExactFourDescentUptoRow.holds Try.pinned (OpenSpec.upto fnExactFourDescentSpec)

end Rows
end Go.Proofs.Ytkchoccicpbbfaa

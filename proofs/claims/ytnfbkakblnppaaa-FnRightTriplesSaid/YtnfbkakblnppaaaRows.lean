/-
  No cell of these rows narrows 'for every input' (looked for: loops, veiled, ifaces, maps, wideKeys, modest, calm, conditions, laid).
  DERIVED. THE GIVEN ROWS OF THIS SEAT. 4 by the template 'for every input the law returns true; each argument reads behind the call as it read before'; 0 by the template 'total and deterministic' (their statements: YtnfbkakblnppaaaTotals.lean).
  GIVEN WITH THE SEED: the statements are not yours to turn. If you find one false, say at which input.
  Laid BY PROGRAM, IN A SANDBOX (cutbox-rows.mjs): the forced cells as the released guide's own fill.sh prints them over the translation 68e2e380db236782… (all of the seat's roots in one cut). By AI agents, Wed Nov 11 2026. No macro, syntax, notation, axiom, sorry.
-/
import Derived.Test.YtnfbkakblnppaaaChecked
import GoSem.Claim
import GoSem.ClaimJoined
import GoSem.ClaimMapViews
import Derived.JoinedTies
import Derived.KernelRfl
namespace Go.Proofs.Ytnfbkakblnppaaa
/- THE CELL 'sum', in the pinned program and in every row, IS THE sha256 OF THE DUMP (.gsa) THAT YtnfbkakblnppaaaProg.lean LOADS. Nothing in Lean hashes anything: it is a label: what it is worth is what the hold of that sum in a sandbox is worth. -/
noncomputable def Try.pinned : Pinned := { name := "ytnfbkakblnppaaa", sum := "68e2e380db2367825a14487a1d0c47e359633d18209155314470fdcc2dde4e09", checked := Try.checked }
namespace Rows
def none {H : Type} : Left H := { results := [], args := [] }

/-- 'laws.FnSecondTree': WHATEVER THE INPUT: true; the input reads as it did. -/
def fnSecondTreeSpec : ChangeSpec := { name := "fnSecondTree", fn := fun _ => fun
  | [d1, d2] => { results := [.lit (.bool true)], args := [d1, d2] }
  | _ => none }
def fnSecondTreeRow : OpenClaim := { program := "ytnfbkakblnppaaa", sum := "68e2e380db2367825a14487a1d0c47e359633d18209155314470fdcc2dde4e09", func := "loop.example/g01122/laws.FnSecondTree", spec := "fnSecondTree", unfollowed := true, recurses := true, apart := false }
def FnSecondTreeSaid : Prop := fnSecondTreeRow.holds Try.pinned (OpenSpec.ofChange fnSecondTreeSpec)

/-- ITS FALSE NEIGHBOUR: 'it returns false'. Refute it at one input. -/
def fnSecondTreeWrong : ChangeSpec := { name := "fnSecondTree", fn := fun _ => fun
  | [d1, d2] => { results := [.lit (.bool false)], args := [d1, d2] }
  | _ => none }
def FnSecondTreeWrongFalsely : Prop := fnSecondTreeRow.holds Try.pinned (OpenSpec.ofChange fnSecondTreeWrong)

/-- 'laws.FnFirstTree': WHATEVER THE INPUT: true; the input reads as it did. -/
def fnFirstTreeSpec : ChangeSpec := { name := "fnFirstTree", fn := fun _ => fun
  | [d1, d2] => { results := [.lit (.bool true)], args := [d1, d2] }
  | _ => none }
def fnFirstTreeRow : OpenClaim := { program := "ytnfbkakblnppaaa", sum := "68e2e380db2367825a14487a1d0c47e359633d18209155314470fdcc2dde4e09", func := "loop.example/g01122/laws.FnFirstTree", spec := "fnFirstTree", unfollowed := true, recurses := true, apart := false }
def FnFirstTreeSaid : Prop := fnFirstTreeRow.holds Try.pinned (OpenSpec.ofChange fnFirstTreeSpec)

/-- ITS FALSE NEIGHBOUR: 'it returns false'. Refute it at one input. -/
def fnFirstTreeWrong : ChangeSpec := { name := "fnFirstTree", fn := fun _ => fun
  | [d1, d2] => { results := [.lit (.bool false)], args := [d1, d2] }
  | _ => none }
def FnFirstTreeWrongFalsely : Prop := fnFirstTreeRow.holds Try.pinned (OpenSpec.ofChange fnFirstTreeWrong)

/-- 'laws.FnWordsOfTriples': WHATEVER THE INPUT: true; the input reads as it did. -/
def fnWordsOfTriplesSpec : ChangeSpec := { name := "fnWordsOfTriples", fn := fun _ => fun
  | [d1, d2] => { results := [.lit (.bool true)], args := [d1, d2] }
  | _ => none }
def fnWordsOfTriplesRow : OpenClaim := { program := "ytnfbkakblnppaaa", sum := "68e2e380db2367825a14487a1d0c47e359633d18209155314470fdcc2dde4e09", func := "loop.example/g01122/laws.FnWordsOfTriples", spec := "fnWordsOfTriples", unfollowed := true, recurses := true, apart := false }
def FnWordsOfTriplesSaid : Prop := fnWordsOfTriplesRow.holds Try.pinned (OpenSpec.ofChange fnWordsOfTriplesSpec)

/-- ITS FALSE NEIGHBOUR: 'it returns false'. Refute it at one input. -/
def fnWordsOfTriplesWrong : ChangeSpec := { name := "fnWordsOfTriples", fn := fun _ => fun
  | [d1, d2] => { results := [.lit (.bool false)], args := [d1, d2] }
  | _ => none }
def FnWordsOfTriplesWrongFalsely : Prop := fnWordsOfTriplesRow.holds Try.pinned (OpenSpec.ofChange fnWordsOfTriplesWrong)

/-- 'laws.FnRightTriples': WHATEVER THE INPUT: true; the input reads as it did. -/
def fnRightTriplesSpec : ChangeSpec := { name := "fnRightTriples", fn := fun _ => fun
  | [d1, d2] => { results := [.lit (.bool true)], args := [d1, d2] }
  | _ => none }
def fnRightTriplesRow : OpenClaim := { program := "ytnfbkakblnppaaa", sum := "68e2e380db2367825a14487a1d0c47e359633d18209155314470fdcc2dde4e09", func := "loop.example/g01122/laws.FnRightTriples", spec := "fnRightTriples", unfollowed := true, recurses := true, apart := false }
def FnRightTriplesSaid : Prop := fnRightTriplesRow.holds Try.pinned (OpenSpec.ofChange fnRightTriplesSpec)

/-- ITS FALSE NEIGHBOUR: 'it returns false'. Refute it at one input. -/
def fnRightTriplesWrong : ChangeSpec := { name := "fnRightTriples", fn := fun _ => fun
  | [d1, d2] => { results := [.lit (.bool false)], args := [d1, d2] }
  | _ => none }
def FnRightTriplesWrongFalsely : Prop := fnRightTriplesRow.holds Try.pinned (OpenSpec.ofChange fnRightTriplesWrong)

/- THE SECOND FORM. 'bulk': how many values and letters a reading holds, each counted each time it is reached (what is shared counts as often as it is met; a slice's spare places count too). A statement '..UptoSaid' is the law's where the arguments, and the package variables that the reading takes, are together of bulk at most 1048576: NARROWER than '..Said'. Prove '..Said' where nothing that the law and all that it calls make is longer than what came in: it says more and counts as full. Else prove '..UptoSaid'. A law counts once. -/
mutual
def uptoBulk {H : Type} : DataW H → Nat
  | .lit (.string bytes) => bytes.length + 1
  | .lit _ => 1
  | .nil => 1
  | .ptr d => uptoBulk d + 1
  | .slice elems spare => uptoBulkAll elems + uptoBulkAll spare + 1
  | .agg parts => uptoBulkAll parts + 1
  | .iface _ d => uptoBulk d + 1
  | .map entries => uptoBulkEntries entries + 1
  | .held _ => 1
def uptoBulkAll {H : Type} : List (DataW H) → Nat
  | [] => 0
  | d :: r => uptoBulk d + uptoBulkAll r
def uptoBulkEntries {H : Type} : List (Lit × DataW H) → Nat
  | [] => 0
  | x :: r => uptoBulkEntry x + uptoBulkEntries r
def uptoBulkEntry {H : Type} : Lit × DataW H → Nat
  | (.string bytes, d) => bytes.length + uptoBulk d + 1
  | (_, d) => uptoBulk d + 1
 end
def uptoSmall : (H : Type) → List (DataW H) → Bool := fun _ ds => decide (uptoBulkAll ds ≤ 1048576)
def OpenSpec.upto (s : _root_.Go.ChangeSpec) : _root_.Go.OpenSpec := { _root_.Go.OpenSpec.ofChange s with cond := some uptoSmall }

/-- 'laws.FnSecondTree', WHERE WHAT IT READS IS OF BULK AT MOST 1048576: true; the input reads as it did. -/
def fnSecondTreeUptoRow : OpenClaim := { program := "ytnfbkakblnppaaa", sum := "68e2e380db2367825a14487a1d0c47e359633d18209155314470fdcc2dde4e09", func := "loop.example/g01122/laws.FnSecondTree", spec := "fnSecondTree", unfollowed := true, recurses := true, apart := false, narrowed := true }
def FnSecondTreeUptoSaid : Prop := fnSecondTreeUptoRow.holds Try.pinned (OpenSpec.upto fnSecondTreeSpec)

/-- 'laws.FnFirstTree', WHERE WHAT IT READS IS OF BULK AT MOST 1048576: true; the input reads as it did. -/
def fnFirstTreeUptoRow : OpenClaim := { program := "ytnfbkakblnppaaa", sum := "68e2e380db2367825a14487a1d0c47e359633d18209155314470fdcc2dde4e09", func := "loop.example/g01122/laws.FnFirstTree", spec := "fnFirstTree", unfollowed := true, recurses := true, apart := false, narrowed := true }
def FnFirstTreeUptoSaid : Prop := fnFirstTreeUptoRow.holds Try.pinned (OpenSpec.upto fnFirstTreeSpec)

/-- 'laws.FnWordsOfTriples', WHERE WHAT IT READS IS OF BULK AT MOST 1048576: true; the input reads as it did. -/
def fnWordsOfTriplesUptoRow : OpenClaim := { program := "ytnfbkakblnppaaa", sum := "68e2e380db2367825a14487a1d0c47e359633d18209155314470fdcc2dde4e09", func := "loop.example/g01122/laws.FnWordsOfTriples", spec := "fnWordsOfTriples", unfollowed := true, recurses := true, apart := false, narrowed := true }
def FnWordsOfTriplesUptoSaid : Prop := fnWordsOfTriplesUptoRow.holds Try.pinned (OpenSpec.upto fnWordsOfTriplesSpec)

/-- 'laws.FnRightTriples', WHERE WHAT IT READS IS OF BULK AT MOST 1048576: true; the input reads as it did. -/
def fnRightTriplesUptoRow : OpenClaim := { program := "ytnfbkakblnppaaa", sum := "68e2e380db2367825a14487a1d0c47e359633d18209155314470fdcc2dde4e09", func := "loop.example/g01122/laws.FnRightTriples", spec := "fnRightTriples", unfollowed := true, recurses := true, apart := false, narrowed := true }
def FnRightTriplesUptoSaid : Prop := fnRightTriplesUptoRow.holds Try.pinned (OpenSpec.upto fnRightTriplesSpec)

end Rows
end Go.Proofs.Ytnfbkakblnppaaa

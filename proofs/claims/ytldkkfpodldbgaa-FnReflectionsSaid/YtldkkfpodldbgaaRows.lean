/-
  No cell of these rows narrows 'for every input' (looked for: loops, veiled, ifaces, maps, wideKeys, modest, calm, conditions, laid).
  DERIVED. THE GIVEN ROWS OF THIS SEAT. 6 by the template 'for every input the law returns true; each argument reads behind the call as it read before'; 0 by the template 'total and deterministic' (their statements: YtldkkfpodldbgaaTotals.lean).
  GIVEN WITH THE SEED: the statements are not yours to turn. If you find one false, say at which input.
  Laid BY PROGRAM, IN A SANDBOX (cutbox-rows.mjs): the forced cells as the released guide's own fill.sh prints them over the translation 8f01085fc9f30bfb… (all of the seat's roots in one cut). By AI agents, Wed Nov 11 2026. No macro, syntax, notation, axiom, sorry.
-/
import Derived.Test.YtldkkfpodldbgaaChecked
import GoSem.Claim
import GoSem.ClaimJoined
import GoSem.ClaimMapViews
import Derived.JoinedTies
import Derived.KernelRfl
namespace Go.Proofs.Ytldkkfpodldbgaa
/- THE CELL 'sum', in the pinned program and in every row, IS THE sha256 OF THE DUMP (.gsa) THAT YtldkkfpodldbgaaProg.lean LOADS. Nothing in Lean hashes anything: it is a label: what it is worth is what the hold of that sum in a sandbox is worth. -/
noncomputable def Try.pinned : Pinned := { name := "ytldkkfpodldbgaa", sum := "8f01085fc9f30bfbdaf4193607c5ad87be77b01740d7c20177ff2cf6f3482196", checked := Try.checked }
namespace Rows
def none {H : Type} : Left H := { results := [], args := [] }

/-- 'laws.FnExactInverseOf': WHATEVER THE INPUT: true; the input reads as it did. -/
def fnExactInverseOfSpec : ChangeSpec := { name := "fnExactInverseOf", fn := fun _ => fun
  | [d] => { results := [.lit (.bool true)], args := [d] }
  | _ => none }
def fnExactInverseOfRow : OpenClaim := { program := "ytldkkfpodldbgaa", sum := "8f01085fc9f30bfbdaf4193607c5ad87be77b01740d7c20177ff2cf6f3482196", func := "loop.example/g01122/laws.FnExactInverseOf", spec := "fnExactInverseOf", unfollowed := true, recurses := true, apart := false }
def FnExactInverseOfSaid : Prop := fnExactInverseOfRow.holds Try.pinned (OpenSpec.ofChange fnExactInverseOfSpec)

/-- ITS FALSE NEIGHBOUR: 'it returns false'. Refute it at one input. -/
def fnExactInverseOfWrong : ChangeSpec := { name := "fnExactInverseOf", fn := fun _ => fun
  | [d] => { results := [.lit (.bool false)], args := [d] }
  | _ => none }
def FnExactInverseOfWrongFalsely : Prop := fnExactInverseOfRow.holds Try.pinned (OpenSpec.ofChange fnExactInverseOfWrong)

/-- 'laws.FnExactWordMatrix': WHATEVER THE INPUT: true; the input reads as it did. -/
def fnExactWordMatrixSpec : ChangeSpec := { name := "fnExactWordMatrix", fn := fun _ => fun
  | [d1, d2] => { results := [.lit (.bool true)], args := [d1, d2] }
  | _ => none }
def fnExactWordMatrixRow : OpenClaim := { program := "ytldkkfpodldbgaa", sum := "8f01085fc9f30bfbdaf4193607c5ad87be77b01740d7c20177ff2cf6f3482196", func := "loop.example/g01122/laws.FnExactWordMatrix", spec := "fnExactWordMatrix", unfollowed := true, recurses := true, apart := false }
def FnExactWordMatrixSaid : Prop := fnExactWordMatrixRow.holds Try.pinned (OpenSpec.ofChange fnExactWordMatrixSpec)

/-- ITS FALSE NEIGHBOUR: 'it returns false'. Refute it at one input. -/
def fnExactWordMatrixWrong : ChangeSpec := { name := "fnExactWordMatrix", fn := fun _ => fun
  | [d1, d2] => { results := [.lit (.bool false)], args := [d1, d2] }
  | _ => none }
def FnExactWordMatrixWrongFalsely : Prop := fnExactWordMatrixRow.holds Try.pinned (OpenSpec.ofChange fnExactWordMatrixWrong)

/-- 'laws.FnExactReflectionOf': WHATEVER THE INPUT: true; the input reads as it did. -/
def fnExactReflectionOfSpec : ChangeSpec := { name := "fnExactReflectionOf", fn := fun _ => fun
  | [d1, d2] => { results := [.lit (.bool true)], args := [d1, d2] }
  | _ => none }
def fnExactReflectionOfRow : OpenClaim := { program := "ytldkkfpodldbgaa", sum := "8f01085fc9f30bfbdaf4193607c5ad87be77b01740d7c20177ff2cf6f3482196", func := "loop.example/g01122/laws.FnExactReflectionOf", spec := "fnExactReflectionOf", unfollowed := true, recurses := true, apart := false }
def FnExactReflectionOfSaid : Prop := fnExactReflectionOfRow.holds Try.pinned (OpenSpec.ofChange fnExactReflectionOfSpec)

/-- ITS FALSE NEIGHBOUR: 'it returns false'. Refute it at one input. -/
def fnExactReflectionOfWrong : ChangeSpec := { name := "fnExactReflectionOf", fn := fun _ => fun
  | [d1, d2] => { results := [.lit (.bool false)], args := [d1, d2] }
  | _ => none }
def FnExactReflectionOfWrongFalsely : Prop := fnExactReflectionOfRow.holds Try.pinned (OpenSpec.ofChange fnExactReflectionOfWrong)

/-- 'laws.FnMatrices': WHATEVER THE INPUT: true; the input reads as it did. -/
def fnMatricesSpec : ChangeSpec := { name := "fnMatrices", fn := fun _ => fun
  | [d1, d2] => { results := [.lit (.bool true)], args := [d1, d2] }
  | _ => none }
def fnMatricesRow : OpenClaim := { program := "ytldkkfpodldbgaa", sum := "8f01085fc9f30bfbdaf4193607c5ad87be77b01740d7c20177ff2cf6f3482196", func := "loop.example/g01122/laws.FnMatrices", spec := "fnMatrices", unfollowed := true, recurses := true, apart := false }
def FnMatricesSaid : Prop := fnMatricesRow.holds Try.pinned (OpenSpec.ofChange fnMatricesSpec)

/-- ITS FALSE NEIGHBOUR: 'it returns false'. Refute it at one input. -/
def fnMatricesWrong : ChangeSpec := { name := "fnMatrices", fn := fun _ => fun
  | [d1, d2] => { results := [.lit (.bool false)], args := [d1, d2] }
  | _ => none }
def FnMatricesWrongFalsely : Prop := fnMatricesRow.holds Try.pinned (OpenSpec.ofChange fnMatricesWrong)

/-- 'laws.FnForms': WHATEVER THE INPUT: true; the input reads as it did. -/
def fnFormsSpec : ChangeSpec := { name := "fnForms", fn := fun _ => fun
  | [d1, d2] => { results := [.lit (.bool true)], args := [d1, d2] }
  | _ => none }
def fnFormsRow : OpenClaim := { program := "ytldkkfpodldbgaa", sum := "8f01085fc9f30bfbdaf4193607c5ad87be77b01740d7c20177ff2cf6f3482196", func := "loop.example/g01122/laws.FnForms", spec := "fnForms", unfollowed := true, recurses := true, apart := false }
def FnFormsSaid : Prop := fnFormsRow.holds Try.pinned (OpenSpec.ofChange fnFormsSpec)

/-- ITS FALSE NEIGHBOUR: 'it returns false'. Refute it at one input. -/
def fnFormsWrong : ChangeSpec := { name := "fnForms", fn := fun _ => fun
  | [d1, d2] => { results := [.lit (.bool false)], args := [d1, d2] }
  | _ => none }
def FnFormsWrongFalsely : Prop := fnFormsRow.holds Try.pinned (OpenSpec.ofChange fnFormsWrong)

/-- 'laws.FnReflections': WHATEVER THE INPUT: true; the input reads as it did. -/
def fnReflectionsSpec : ChangeSpec := { name := "fnReflections", fn := fun _ => fun
  | [d1, d2] => { results := [.lit (.bool true)], args := [d1, d2] }
  | _ => none }
def fnReflectionsRow : OpenClaim := { program := "ytldkkfpodldbgaa", sum := "8f01085fc9f30bfbdaf4193607c5ad87be77b01740d7c20177ff2cf6f3482196", func := "loop.example/g01122/laws.FnReflections", spec := "fnReflections", unfollowed := true, recurses := true, apart := false }
def FnReflectionsSaid : Prop := fnReflectionsRow.holds Try.pinned (OpenSpec.ofChange fnReflectionsSpec)

/-- ITS FALSE NEIGHBOUR: 'it returns false'. Refute it at one input. -/
def fnReflectionsWrong : ChangeSpec := { name := "fnReflections", fn := fun _ => fun
  | [d1, d2] => { results := [.lit (.bool false)], args := [d1, d2] }
  | _ => none }
def FnReflectionsWrongFalsely : Prop := fnReflectionsRow.holds Try.pinned (OpenSpec.ofChange fnReflectionsWrong)

/- THE SECOND FORM. 'bulk': how many values and letters a reading holds, each counted each time it is reached (what is shared counts as often as it is met; a slice's spare places count too). A statement '..UptoSaid' is the law's where the arguments, and the package variables that the reading takes, are together of bulk at most 1048576: NARROWER than '..Said'. Prove '..Said' where nothing that the law and all that it calls make is longer than what came in: it says more and counts as full. Else prove '..UptoSaid'. A law counts once. -/
mutual
def uptoBulk {H : Type} : DataW H → Nat
  | .lit (.string bytes) => bytes.length + 1
  | .lit _ => 1
  | .nil => 1
  | .ptr d => uptoBulk d + 1
  | .slice elems spare => uptoBulkAll elems + uptoBulkAll spare + 1
  | .agg parts => uptoBulkAll parts + 1
  | .iface _ d => uptoBulk d + 1
  | .map entries => uptoBulkEntries entries + 1
  | .held _ => 1
def uptoBulkAll {H : Type} : List (DataW H) → Nat
  | [] => 0
  | d :: r => uptoBulk d + uptoBulkAll r
def uptoBulkEntries {H : Type} : List (Lit × DataW H) → Nat
  | [] => 0
  | x :: r => uptoBulkEntry x + uptoBulkEntries r
def uptoBulkEntry {H : Type} : Lit × DataW H → Nat
  | (.string bytes, d) => bytes.length + uptoBulk d + 1
  | (_, d) => uptoBulk d + 1
 end
def uptoSmall : (H : Type) → List (DataW H) → Bool := fun _ ds => decide (uptoBulkAll ds ≤ 1048576)
def OpenSpec.upto (s : _root_.Go.ChangeSpec) : _root_.Go.OpenSpec := { _root_.Go.OpenSpec.ofChange s with cond := some uptoSmall }

/-- 'laws.FnExactInverseOf', WHERE WHAT IT READS IS OF BULK AT MOST 1048576: true; the input reads as it did. -/
def fnExactInverseOfUptoRow : OpenClaim := { program := "ytldkkfpodldbgaa", sum := "8f01085fc9f30bfbdaf4193607c5ad87be77b01740d7c20177ff2cf6f3482196", func := "loop.example/g01122/laws.FnExactInverseOf", spec := "fnExactInverseOf", unfollowed := true, recurses := true, apart := false, narrowed := true }
def FnExactInverseOfUptoSaid : Prop := fnExactInverseOfUptoRow.holds Try.pinned (OpenSpec.upto fnExactInverseOfSpec)

/-- 'laws.FnExactWordMatrix', WHERE WHAT IT READS IS OF BULK AT MOST 1048576: true; the input reads as it did. -/
def fnExactWordMatrixUptoRow : OpenClaim := { program := "ytldkkfpodldbgaa", sum := "8f01085fc9f30bfbdaf4193607c5ad87be77b01740d7c20177ff2cf6f3482196", func := "loop.example/g01122/laws.FnExactWordMatrix", spec := "fnExactWordMatrix", unfollowed := true, recurses := true, apart := false, narrowed := true }
def FnExactWordMatrixUptoSaid : Prop := fnExactWordMatrixUptoRow.holds Try.pinned (OpenSpec.upto fnExactWordMatrixSpec)

/-- 'laws.FnExactReflectionOf', WHERE WHAT IT READS IS OF BULK AT MOST 1048576: true; the input reads as it did. -/
def fnExactReflectionOfUptoRow : OpenClaim := { program := "ytldkkfpodldbgaa", sum := "8f01085fc9f30bfbdaf4193607c5ad87be77b01740d7c20177ff2cf6f3482196", func := "loop.example/g01122/laws.FnExactReflectionOf", spec := "fnExactReflectionOf", unfollowed := true, recurses := true, apart := false, narrowed := true }
def FnExactReflectionOfUptoSaid : Prop := fnExactReflectionOfUptoRow.holds Try.pinned (OpenSpec.upto fnExactReflectionOfSpec)

/-- 'laws.FnMatrices', WHERE WHAT IT READS IS OF BULK AT MOST 1048576: true; the input reads as it did. -/
def fnMatricesUptoRow : OpenClaim := { program := "ytldkkfpodldbgaa", sum := "8f01085fc9f30bfbdaf4193607c5ad87be77b01740d7c20177ff2cf6f3482196", func := "loop.example/g01122/laws.FnMatrices", spec := "fnMatrices", unfollowed := true, recurses := true, apart := false, narrowed := true }
def FnMatricesUptoSaid : Prop := fnMatricesUptoRow.holds Try.pinned (OpenSpec.upto fnMatricesSpec)

/-- 'laws.FnForms', WHERE WHAT IT READS IS OF BULK AT MOST 1048576: true; the input reads as it did. -/
def fnFormsUptoRow : OpenClaim := { program := "ytldkkfpodldbgaa", sum := "8f01085fc9f30bfbdaf4193607c5ad87be77b01740d7c20177ff2cf6f3482196", func := "loop.example/g01122/laws.FnForms", spec := "fnForms", unfollowed := true, recurses := true, apart := false, narrowed := true }
def FnFormsUptoSaid : Prop := fnFormsUptoRow.holds Try.pinned (OpenSpec.upto fnFormsSpec)

/-- 'laws.FnReflections', WHERE WHAT IT READS IS OF BULK AT MOST 1048576: true; the input reads as it did. -/
def fnReflectionsUptoRow : OpenClaim := { program := "ytldkkfpodldbgaa", sum := "8f01085fc9f30bfbdaf4193607c5ad87be77b01740d7c20177ff2cf6f3482196", func := "loop.example/g01122/laws.FnReflections", spec := "fnReflections", unfollowed := true, recurses := true, apart := false, narrowed := true }
def FnReflectionsUptoSaid : Prop := fnReflectionsUptoRow.holds Try.pinned (OpenSpec.upto fnReflectionsSpec)

end Rows
end Go.Proofs.Ytldkkfpodldbgaa

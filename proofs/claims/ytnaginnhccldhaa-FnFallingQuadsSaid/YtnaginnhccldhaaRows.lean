/-
  No cell of these rows narrows 'for every input' (looked for: loops, veiled, ifaces, maps, wideKeys, modest, calm, conditions, laid).
  DERIVED. THE GIVEN ROWS OF THIS SEAT. 3 by the template 'for every input the law returns true; each argument reads behind the call as it read before'; 0 by the template 'total and deterministic' (their statements: YtnaginnhccldhaaTotals.lean).
  GIVEN WITH THE SEED: the statements are not yours to turn. If you find one false, say at which input.
  Laid BY PROGRAM, IN A SANDBOX (cutbox-rows.mjs): the forced cells as the released guide's own fill.sh prints them over the translation 4580ba2c050ca3cd… (all of the seat's roots in one cut). By AI agents, Wed Nov 11 2026. No macro, syntax, notation, axiom, sorry.
-/
import Derived.Test.YtnaginnhccldhaaChecked
import GoSem.Claim
import GoSem.ClaimJoined
import GoSem.ClaimMapViews
import Derived.JoinedTies
import Derived.KernelRfl
namespace Go.Proofs.Ytnaginnhccldhaa
/- THE CELL 'sum', in the pinned program and in every row, IS THE sha256 OF THE DUMP (.gsa) THAT YtnaginnhccldhaaProg.lean LOADS. Nothing in Lean hashes anything: it is a label: what it is worth is what the hold of that sum in a sandbox is worth. -/
noncomputable def Try.pinned : Pinned := { name := "ytnaginnhccldhaa", sum := "4580ba2c050ca3cd03e29d0c0cca964ba036c028d73ffa6f0dda82d9e1ae63f7", checked := Try.checked }
namespace Rows
def none {H : Type} : Left H := { results := [], args := [] }

/-- 'laws.FnSwapsKeepTheForm': WHATEVER THE INPUT: true; the input reads as it did. -/
def fnSwapsKeepTheFormSpec : ChangeSpec := { name := "fnSwapsKeepTheForm", fn := fun _ => fun
  | [d1, d2] => { results := [.lit (.bool true)], args := [d1, d2] }
  | _ => none }
def fnSwapsKeepTheFormRow : OpenClaim := { program := "ytnaginnhccldhaa", sum := "4580ba2c050ca3cd03e29d0c0cca964ba036c028d73ffa6f0dda82d9e1ae63f7", func := "loop.example/g01122/laws.FnSwapsKeepTheForm", spec := "fnSwapsKeepTheForm", unfollowed := true, recurses := true, plainKeys := false, apart := false }
def FnSwapsKeepTheFormSaid : Prop := fnSwapsKeepTheFormRow.holds Try.pinned (OpenSpec.ofChange fnSwapsKeepTheFormSpec)

/-- ITS FALSE NEIGHBOUR: 'it returns false'. Refute it at one input. -/
def fnSwapsKeepTheFormWrong : ChangeSpec := { name := "fnSwapsKeepTheForm", fn := fun _ => fun
  | [d1, d2] => { results := [.lit (.bool false)], args := [d1, d2] }
  | _ => none }
def FnSwapsKeepTheFormWrongFalsely : Prop := fnSwapsKeepTheFormRow.holds Try.pinned (OpenSpec.ofChange fnSwapsKeepTheFormWrong)

/-- 'laws.FnFallingQuads': WHATEVER THE INPUT: true; the input reads as it did. -/
def fnFallingQuadsSpec : ChangeSpec := { name := "fnFallingQuads", fn := fun _ => fun
  | [d1, d2] => { results := [.lit (.bool true)], args := [d1, d2] }
  | _ => none }
def fnFallingQuadsRow : OpenClaim := { program := "ytnaginnhccldhaa", sum := "4580ba2c050ca3cd03e29d0c0cca964ba036c028d73ffa6f0dda82d9e1ae63f7", func := "loop.example/g01122/laws.FnFallingQuads", spec := "fnFallingQuads", unfollowed := true, recurses := true, plainKeys := false, apart := false }
def FnFallingQuadsSaid : Prop := fnFallingQuadsRow.holds Try.pinned (OpenSpec.ofChange fnFallingQuadsSpec)

/-- ITS FALSE NEIGHBOUR: 'it returns false'. Refute it at one input. -/
def fnFallingQuadsWrong : ChangeSpec := { name := "fnFallingQuads", fn := fun _ => fun
  | [d1, d2] => { results := [.lit (.bool false)], args := [d1, d2] }
  | _ => none }
def FnFallingQuadsWrongFalsely : Prop := fnFallingQuadsRow.holds Try.pinned (OpenSpec.ofChange fnFallingQuadsWrong)

/-- 'laws.FnCurvaturesOfPackings': WHATEVER THE INPUT: true; the input reads as it did. -/
def fnCurvaturesOfPackingsSpec : ChangeSpec := { name := "fnCurvaturesOfPackings", fn := fun _ => fun
  | [d1, d2] => { results := [.lit (.bool true)], args := [d1, d2] }
  | _ => none }
def fnCurvaturesOfPackingsRow : OpenClaim := { program := "ytnaginnhccldhaa", sum := "4580ba2c050ca3cd03e29d0c0cca964ba036c028d73ffa6f0dda82d9e1ae63f7", func := "loop.example/g01122/laws.FnCurvaturesOfPackings", spec := "fnCurvaturesOfPackings", unfollowed := true, recurses := true, plainKeys := false, apart := false }
def FnCurvaturesOfPackingsSaid : Prop := fnCurvaturesOfPackingsRow.holds Try.pinned (OpenSpec.ofChange fnCurvaturesOfPackingsSpec)

/-- ITS FALSE NEIGHBOUR: 'it returns false'. Refute it at one input. -/
def fnCurvaturesOfPackingsWrong : ChangeSpec := { name := "fnCurvaturesOfPackings", fn := fun _ => fun
  | [d1, d2] => { results := [.lit (.bool false)], args := [d1, d2] }
  | _ => none }
def FnCurvaturesOfPackingsWrongFalsely : Prop := fnCurvaturesOfPackingsRow.holds Try.pinned (OpenSpec.ofChange fnCurvaturesOfPackingsWrong)

/- THE SECOND FORM. 'bulk': how many values and letters a reading holds, each counted each time it is reached (what is shared counts as often as it is met; a slice's spare places count too). A statement '..UptoSaid' is the law's where the arguments, and the package variables that the reading takes, are together of bulk at most 1048576: NARROWER than '..Said'. Prove '..Said' where nothing that the law and all that it calls make is longer than what came in: it says more and counts as full. Else prove '..UptoSaid'. A law counts once. -/
mutual
def uptoBulk {H : Type} : DataW H → Nat
  | .lit (.string bytes) => bytes.length + 1
  | .lit _ => 1
  | .nil => 1
  | .ptr d => uptoBulk d + 1
  | .slice elems spare => uptoBulkAll elems + uptoBulkAll spare + 1
  | .agg parts => uptoBulkAll parts + 1
  | .iface _ d => uptoBulk d + 1
  | .map entries => uptoBulkEntries entries + 1
  | .held _ => 1
def uptoBulkAll {H : Type} : List (DataW H) → Nat
  | [] => 0
  | d :: r => uptoBulk d + uptoBulkAll r
def uptoBulkEntries {H : Type} : List (Lit × DataW H) → Nat
  | [] => 0
  | x :: r => uptoBulkEntry x + uptoBulkEntries r
def uptoBulkEntry {H : Type} : Lit × DataW H → Nat
  | (.string bytes, d) => bytes.length + uptoBulk d + 1
  | (_, d) => uptoBulk d + 1
 end
def uptoSmall : (H : Type) → List (DataW H) → Bool := fun _ ds => decide (uptoBulkAll ds ≤ 1048576)
def OpenSpec.upto (s : _root_.Go.ChangeSpec) : _root_.Go.OpenSpec := { _root_.Go.OpenSpec.ofChange s with cond := some uptoSmall }

/-- 'laws.FnSwapsKeepTheForm', WHERE WHAT IT READS IS OF BULK AT MOST 1048576: true; the input reads as it did. -/
def fnSwapsKeepTheFormUptoRow : OpenClaim := { program := "ytnaginnhccldhaa", sum := "4580ba2c050ca3cd03e29d0c0cca964ba036c028d73ffa6f0dda82d9e1ae63f7", func := "loop.example/g01122/laws.FnSwapsKeepTheForm", spec := "fnSwapsKeepTheForm", unfollowed := true, recurses := true, plainKeys := false, apart := false, narrowed := true }
def FnSwapsKeepTheFormUptoSaid : Prop := fnSwapsKeepTheFormUptoRow.holds Try.pinned (OpenSpec.upto fnSwapsKeepTheFormSpec)

/-- 'laws.FnFallingQuads', WHERE WHAT IT READS IS OF BULK AT MOST 1048576: true; the input reads as it did. -/
def fnFallingQuadsUptoRow : OpenClaim := { program := "ytnaginnhccldhaa", sum := "4580ba2c050ca3cd03e29d0c0cca964ba036c028d73ffa6f0dda82d9e1ae63f7", func := "loop.example/g01122/laws.FnFallingQuads", spec := "fnFallingQuads", unfollowed := true, recurses := true, plainKeys := false, apart := false, narrowed := true }
def FnFallingQuadsUptoSaid : Prop := fnFallingQuadsUptoRow.holds Try.pinned (OpenSpec.upto fnFallingQuadsSpec)

/-- 'laws.FnCurvaturesOfPackings', WHERE WHAT IT READS IS OF BULK AT MOST 1048576: true; the input reads as it did. -/
def fnCurvaturesOfPackingsUptoRow : OpenClaim := { program := "ytnaginnhccldhaa", sum := "4580ba2c050ca3cd03e29d0c0cca964ba036c028d73ffa6f0dda82d9e1ae63f7", func := "loop.example/g01122/laws.FnCurvaturesOfPackings", spec := "fnCurvaturesOfPackings", unfollowed := true, recurses := true, plainKeys := false, apart := false, narrowed := true }
def FnCurvaturesOfPackingsUptoSaid : Prop := fnCurvaturesOfPackingsUptoRow.holds Try.pinned (OpenSpec.upto fnCurvaturesOfPackingsSpec)

end Rows
end Go.Proofs.Ytnaginnhccldhaa

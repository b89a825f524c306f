-- Written by a program of this session (wip/mkprint.py over the kit's print), out of the translation. Not trusted: Lean checks it.
import Derived.Test.YtldkkfpodldbgaaRx0
import Derived.Test.YtldkkfpodldbgaaRx4
import Derived.Test.YtldkkfpodldbgaaRx9
import Derived.Test.YtldkkfpodldbgaaGR
namespace Go.Proofs.Ytldkkfpodldbgaa.P
open Go.RowKit Go.Proofs.YtldkkfpodldbgaaW.PrintWords Go.Proofs.YtldkkfpodldbgaaW.PrintLast Go.Proofs.YtldkkfpodldbgaaW.PrintMore
attribute [local go_sem] max2_int min2_int max_two min_two max_three min_three max_four min_four   -- for this text's walks alone
set_option linter.unusedVariables false
set_option linter.unusedSimpArgs false
/-! ### impl_ReflectionOf: function 26 -/
def impl_ReflectionOf.f (l0_0 : List (List Int)) (l1 : List Int) : Option (List (List Int) × Bool) := some (Go.Proofs.Ytldkkfpodldbgaa.Q.refR l0_0 l1)
theorem impl_ReflectionOf.calls (A0_0 : Option Addr) (c0_0 : Nat) (l0_0 : List (List Int)) (A1 : Option Addr) (c1 : Nat) (l1 : List Int) (r1 : List (List Int)) (r2 : Bool) (w : World) (hr0_0 : Kd.C (Kd.slice 3 (Kd.int .i64)) w A0_0 l0_0.length l0_0) (hc0_0 : l0_0.length ≤ c0_0) (hr1 : Kd.C (Kd.int .i64) w A1 l1.length l1) (hc1 : l1.length ≤ c1) (h : impl_ReflectionOf.f l0_0 l1 = some (r1, r2)) :
 Calls Try.prog 26 #[.agg #[.slice A0_0 l0_0.length c0_0], .slice A1 l1.length c1] w fun e w' => ∃ v0_ : Value, e = .returned (.tuple #[.agg #[v0_], .bool r2]) ∧ Kd.S (Kd.slice 3 (Kd.int .i64)) 34 w' w.heap.size (fun _ => True) v0_ r1 ∧ Below w.heap.size w w' := by
 have e := Option.some.inj h; refine (Go.Proofs.Ytldkkfpodldbgaa.G.reflection_any A0_0 c0_0 l0_0 A1 c1 l1 w hr0_0 hc0_0 hr1 hc1).mono ?_; rintro e_ w' ⟨v0, rfl, hS, hb⟩; rw [e] at hS; exact ⟨v0, by rw [e], hS, hb⟩
end Go.Proofs.Ytldkkfpodldbgaa.P

-- Written by a program of this session (wip/mkprint.py over the kit's print), out of the translation. Not trusted: Lean checks it.
import Derived.Test.YtldkkfpodldbgaaMx0
import Derived.Test.YtldkkfpodldbgaaMx1
import Derived.Test.YtldkkfpodldbgaaMx2
import Derived.Test.YtldkkfpodldbgaaGA
import Derived.Test.YtldkkfpodldbgaaGI
namespace Go.Proofs.Ytldkkfpodldbgaa.P
open Go.RowKit Go.Proofs.YtldkkfpodldbgaaW.PrintWords Go.Proofs.YtldkkfpodldbgaaW.PrintLast Go.Proofs.YtldkkfpodldbgaaW.PrintMore
attribute [local go_sem] max2_int min2_int max_two min_two max_three min_three max_four min_four   -- for this text's walks alone
set_option linter.unusedVariables false
set_option linter.unusedSimpArgs false
/-! ### impl_InverseOf: function 12 -/
def impl_InverseOf.f (l0_0 : List (List Int)) : Option (List (List Int) × Bool) := some (Go.Proofs.Ytldkkfpodldbgaa.Q.invR l0_0)
theorem impl_InverseOf.calls (A0_0 : Option Addr) (c0_0 : Nat) (l0_0 : List (List Int)) (r1 : List (List Int)) (r2 : Bool) (w : World) (hr0_0 : Kd.C (Kd.slice 3 (Kd.int .i64)) w A0_0 l0_0.length l0_0) (hc0_0 : l0_0.length ≤ c0_0) (h : impl_InverseOf.f l0_0 = some (r1, r2)) :
 Calls Try.prog 12 #[.agg #[.slice A0_0 l0_0.length c0_0]] w fun e w' => ∃ v0_ : Value, e = .returned (.tuple #[.agg #[v0_], .bool r2]) ∧ Kd.S (Kd.slice 3 (Kd.int .i64)) 34 w' w.heap.size (fun _ => True) v0_ r1 ∧ Below w.heap.size w w' := by
 have e := Option.some.inj h; refine (Go.Proofs.Ytldkkfpodldbgaa.G.inverse_any A0_0 c0_0 l0_0 w hr0_0 hc0_0).mono ?_; rintro e_ w' ⟨v0, rfl, hS, hb⟩; rw [e] at hS; exact ⟨v0, by rw [e], hS, hb⟩
end Go.Proofs.Ytldkkfpodldbgaa.P

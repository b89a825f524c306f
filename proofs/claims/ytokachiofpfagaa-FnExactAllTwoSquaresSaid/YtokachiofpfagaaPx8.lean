-- Written by a program of this session (wip/mkprint.py over the kit's print), out of the translation. Not trusted: Lean checks it.
import Derived.Test.YtokachiofpfagaaPx0
import Derived.Test.YtokachiofpfagaaLFnExactAllTwoSquares
namespace Go.Proofs.Ytokachiofpfagaa.P
open Go.RowKit Go.Proofs.YtokachiofpfagaaW.PrintWords Go.Proofs.YtokachiofpfagaaW.PrintLast Go.Proofs.YtokachiofpfagaaW.PrintMore
attribute [local go_sem] max2_int min2_int max_two min_two max_three min_three max_four min_four   -- for this text's walks alone
set_option linter.unusedVariables false
set_option linter.unusedSimpArgs false

/-! ### laws_FnExactAllTwoSquares: function 9 -/
/-- Walked by hand: nothing is left. -/
def laws_FnExactAllTwoSquares.Pure : Prop := True
theorem laws_FnExactAllTwoSquares.walk (_P : laws_FnExactAllTwoSquares.Pure) (a0 : Int) (w : World) (_w0 : (Lit.int .i64 a0).wf = true) :
    Calls Try.prog 9 #[.int .i64 a0] w fun e w' => e = .returned (.bool true) ∧ Below w.heap.size w w' := Go.Proofs.Ytokachiofpfagaa.G.FnExactAllTwoSquares_walk a0 w

end Go.Proofs.Ytokachiofpfagaa.P

/- The law FnExactFirstDesk, pure: all is told. -/
import Derived.Test.YtmmopkbbiainmaaPx2
namespace Go.Proofs.Ytmmopkbbiainmaa.Pure
open Go.RowKit Go.Proofs.Ytmmopkbbiainmaa.P
theorem FnExactFirstDesk : laws_FnExactFirstDesk.Pure := ⟨20, by kernel_rfl⟩
end Go.Proofs.Ytmmopkbbiainmaa.Pure

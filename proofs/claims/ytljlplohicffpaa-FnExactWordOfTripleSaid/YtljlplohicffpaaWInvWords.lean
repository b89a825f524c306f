-- PRINTED BY print.sh 35421559b90ae4d0a3588c463048766b98c2df88dd9212a6774a882060cdf62d: not written by this session
import Derived.Test.YtljlplohicffpaaWInv
import Derived.Test.YtljlplohicffpaaWFootNe
namespace Go.Proofs.YtljlplohicffpaaW.PrintWords
open Go.RowKit
end Go.Proofs.YtljlplohicffpaaW.PrintWords
namespace Go.Proofs.YtljlplohicffpaaW.PrintLast
section
variable {ops : Array Oper} {a : Act} {o og : Oper} {g : Nat} {t : Tmp} {u : Bool}
end
end Go.Proofs.YtljlplohicffpaaW.PrintLast

import Derived.Test.YtcnmocbiekfpbaaWInv
import Derived.Test.YtcnmocbiekfpbaaWFootNe
namespace Go.Proofs.YtcnmocbiekfpbaaW.PrintWords
open Go.RowKit
end Go.Proofs.YtcnmocbiekfpbaaW.PrintWords
namespace Go.Proofs.YtcnmocbiekfpbaaW.PrintLast
section
variable {ops : Array Oper} {a : Act} {o og : Oper} {g : Nat} {t : Tmp} {u : Bool}
end
end Go.Proofs.YtcnmocbiekfpbaaW.PrintLast

import Derived.Test.YtdpllcmpndcbnaaWInv
import Derived.Test.YtdpllcmpndcbnaaWFootNe
namespace Go.Proofs.YtdpllcmpndcbnaaW.PrintWords
open Go.RowKit
end Go.Proofs.YtdpllcmpndcbnaaW.PrintWords
namespace Go.Proofs.YtdpllcmpndcbnaaW.PrintLast
section
variable {ops : Array Oper} {a : Act} {o og : Oper} {g : Nat} {t : Tmp} {u : Bool}
end
end Go.Proofs.YtdpllcmpndcbnaaW.PrintLast

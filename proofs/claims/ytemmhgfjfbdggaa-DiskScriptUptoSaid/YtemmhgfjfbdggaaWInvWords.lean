import Derived.Test.YtemmhgfjfbdggaaWInv
import Derived.Test.YtemmhgfjfbdggaaWFootNe
namespace Go.Proofs.YtemmhgfjfbdggaaW.PrintWords
open Go.RowKit
end Go.Proofs.YtemmhgfjfbdggaaW.PrintWords
namespace Go.Proofs.YtemmhgfjfbdggaaW.PrintLast
section
variable {ops : Array Oper} {a : Act} {o og : Oper} {g : Nat} {t : Tmp} {u : Bool}
end
end Go.Proofs.YtemmhgfjfbdggaaW.PrintLast

import Derived.Test.YtemmhgfjfbdggaaP08N
import Derived.Test.YtemmhgfjfbdggaaPx2
namespace Go.Proofs.Ytemmhgfjfbdggaa.P
open Go.RowKit Go.Proofs.YtemmhgfjfbdggaaW.PrintWords Go.Proofs.YtemmhgfjfbdggaaW.PrintLast Go.Proofs.YtemmhgfjfbdggaaW.PrintMore
attribute [local go_sem] max2_int min2_int max_two min_two max_three min_three max_four min_four
set_option linter.unusedVariables false
set_option linter.unusedSimpArgs false
def sizeOf08 (a b c : Int) : Int := wrap64 (wrap64 (12 + wrap64 (4 * (a + b))) + c)
end Go.Proofs.Ytemmhgfjfbdggaa.P

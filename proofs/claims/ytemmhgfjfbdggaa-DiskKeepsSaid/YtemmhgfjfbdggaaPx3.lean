-- Written by a program of this session, after the kit's print.
import Derived.Test.YtemmhgfjfbdggaaPx0
import Derived.Test.YtemmhgfjfbdggaaP0Short
import Derived.Test.YtemmhgfjfbdggaaPx1
import Derived.Test.YtemmhgfjfbdggaaPx2
namespace Go.Proofs.Ytemmhgfjfbdggaa.P
open Go.RowKit Go.Proofs.YtemmhgfjfbdggaaW.PrintWords Go.Proofs.YtemmhgfjfbdggaaW.PrintLast Go.Proofs.YtemmhgfjfbdggaaW.PrintMore
attribute [local go_sem] max2_int min2_int max_two min_two max_three min_three max_four min_four   -- for this text's walks alone
set_option linter.unusedVariables false
set_option linter.unusedSimpArgs false

attribute [local go_sem high] eqA23
end Go.Proofs.Ytemmhgfjfbdggaa.P

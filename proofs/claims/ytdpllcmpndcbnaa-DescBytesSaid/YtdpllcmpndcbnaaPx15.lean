-- Written by a program of this session, after the kit's print.
import Derived.Test.YtdpllcmpndcbnaaPx0
import Derived.Test.YtdpllcmpndcbnaaP0Short
import Derived.Test.YtdpllcmpndcbnaaPx9
import Derived.Test.YtdpllcmpndcbnaaPx11
import Derived.Test.YtdpllcmpndcbnaaPx12
import Derived.Test.YtdpllcmpndcbnaaPx14
namespace Go.Proofs.Ytdpllcmpndcbnaa.P
open Go.RowKit Go.Proofs.YtdpllcmpndcbnaaW.PrintWords Go.Proofs.YtdpllcmpndcbnaaW.PrintLast Go.Proofs.YtdpllcmpndcbnaaW.PrintMore
attribute [local go_sem] max2_int min2_int max_two min_two max_three min_three max_four min_four   -- for this text's walks alone
set_option linter.unusedVariables false
set_option linter.unusedSimpArgs false

def twoslotref15_Parse.f (k : Nat) (a0_0 : Int) (a0_1 : Int) (a0_2 : Int) (a0_3 : Int) (l1 : List Int) : Option (Int × Int × (List (S27)) × Int) := (twoslotref06_May.f a0_0 a0_1 a0_2 a0_3).bind fun t501 => (if t501 = true then ((twoslotref06_W.f a0_0 a0_1 a0_2 a0_3).bind fun t502 => (if (l1.length : Int) = t502 then (if 4 ≤ (l1.length : Int) then ((twoslotref15_worth.f k (l1.take 4)).bind fun t504 => (if 4 < (l1.length : Int) then (if 5 ≤ 7 then (if 7 ≤ (l1.length : Int) then ((twoslotref15_worth.f k ((l1.take 7).drop 5)).bind fun t508 => ((twoslotref06_D.f a0_0 a0_1 a0_2 a0_3).bind fun t509 => (if t508 > t509 then (some (0, 0, ([] : List (S27)), 150)) else ((twoslotref15_read.f k (l1.drop 7) t508).bind fun t511 => ((twoslotref15_May.f k a0_0 a0_1 a0_2 a0_3 t504 (wrap64 (rd l1 4)) t511).bind fun t514 => (if t514 = true then ((twoslotref15_Made.f k a0_0 a0_1 a0_2 a0_3 t504 (wrap64 (rd l1 4)) t511).bind fun t515 => (if (strOfNums t515).toList = (strOfNums l1).toList then (some (t504, wrap64 (rd l1 4), t511, 0)) else (some (0, 0, ([] : List (S27)), 150)))) else (some (0, 0, ([] : List (S27)), 150)))))))) else (none)) else (none)) else (none))) else (none)) else (some (0, 0, ([] : List (S27)), 20)))) else (some (0, 0, ([] : List (S27)), 2)))
end Go.Proofs.Ytdpllcmpndcbnaa.P

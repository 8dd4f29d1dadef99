-- Written by a program of this session, after the kit's print.
import Derived.Test.YtdpllcmpndcbnaaPx0
import Derived.Test.YtdpllcmpndcbnaaP0Short
import Derived.Test.YtdpllcmpndcbnaaPx9
import Derived.Test.YtdpllcmpndcbnaaPx11
import Derived.Test.YtdpllcmpndcbnaaPx14
namespace Go.Proofs.Ytdpllcmpndcbnaa.P
open Go.RowKit Go.Proofs.YtdpllcmpndcbnaaW.PrintWords Go.Proofs.YtdpllcmpndcbnaaW.PrintLast Go.Proofs.YtdpllcmpndcbnaaW.PrintMore
attribute [local go_sem] max2_int min2_int max_two min_two max_three min_three max_four min_four   -- for this text's walks alone
set_option linter.unusedVariables false
set_option linter.unusedSimpArgs false

def twoslotref15_Refs.j0 : Nat → List Int → Int → Bool → Int → Int → Int → Int → Option ((List (S27)) × Int)
  | 0, _, _, _, _, _, _, _ => none
  | k + 1, x1, x2, x26, x519000, x519001, x519002, x519003 => if x26 = true then (some (([] : List (S27)), 20)) else ((twoslotref15_read.f k x1 x2).bind fun t522 => ((twoslotref15_refs.f k x519000 x519001 x519002 x519003 t522).bind fun t525 => (if t525 = true then ((twoslotref15_told.f k t522).bind fun t526 => ((twoslotref15_wide.f x519000 x519001 x519002 x519003 t526).bind fun t529 => (if (strOfNums t529).toList = (strOfNums x1).toList then (some (t522, 0)) else (some (([] : List (S27)), 150))))) else (some (([] : List (S27)), 150)))))
def twoslotref15_Refs.f (k : Nat) (a0_0 : Int) (a0_1 : Int) (a0_2 : Int) (a0_3 : Int) (l1 : List Int) (a2 : Int) : Option ((List (S27)) × Int) := (twoslotref06_May.f a0_0 a0_1 a0_2 a0_3).bind fun t519 => (if t519 = true then ((twoslotref06_W.f a0_0 a0_1 a0_2 a0_3).bind fun t520 => (if (l1.length : Int) = t520 then (if a2 < 1 then (twoslotref15_Refs.j0 k l1 a2 true a0_0 a0_1 a0_2 a0_3) else ((twoslotref06_L.f a0_0 a0_1 a0_2 a0_3).bind fun t521 => (twoslotref15_Refs.j0 k l1 a2 (decide (a2 > t521)) a0_0 a0_1 a0_2 a0_3))) else (twoslotref15_Refs.j0 k l1 a2 true a0_0 a0_1 a0_2 a0_3))) else (some (([] : List (S27)), 2)))
end Go.Proofs.Ytdpllcmpndcbnaa.P

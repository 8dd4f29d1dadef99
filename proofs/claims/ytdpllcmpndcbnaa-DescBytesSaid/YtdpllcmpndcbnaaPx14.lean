-- Written by a program of this session, after the kit's print.
import Derived.Test.YtdpllcmpndcbnaaPx0
import Derived.Test.YtdpllcmpndcbnaaP0Short
namespace Go.Proofs.Ytdpllcmpndcbnaa.P
open Go.RowKit Go.Proofs.YtdpllcmpndcbnaaW.PrintWords Go.Proofs.YtdpllcmpndcbnaaW.PrintLast Go.Proofs.YtdpllcmpndcbnaaW.PrintMore
attribute [local go_sem] max2_int min2_int max_two min_two max_three min_three max_four min_four   -- for this text's walks alone
set_option linter.unusedVariables false
set_option linter.unusedSimpArgs false

def twoslotref15_worth.l0 : Nat → List Int → Int → Int → Option (Int)
  | 0, _, _, _ => none
  | k + 1, x0, x3, x4 => if x4 < (x0.length : Int) then (if 0 ≤ x4 then (twoslotref15_worth.l0 k x0 (wrap64 ((wrap64 (256 * x3)) + (wrap64 (rd x0 x4)))) (wrap64 (x4 + 1))) else (none)) else (some x3)
def twoslotref15_worth.f (k : Nat) (l0 : List Int) : Option (Int) := twoslotref15_worth.l0 k l0 0 0
def twoslotref15_read.l0 : Nat → List Int → Int → List (S27) → Int → Option ((List (S27)))
  | 0, _, _, _, _ => none
  | k + 1, x0, x1, x5, x6 => if x6 < x1 then (if 0 ≤ (wrap64 (6 * x6)) then (if (wrap64 (6 * x6)) ≤ (wrap64 ((wrap64 (6 * x6)) + 2)) then (if (wrap64 ((wrap64 (6 * x6)) + 2)) ≤ (x0.length : Int) then ((twoslotref15_worth.f k ((x0.take ((wrap64 ((wrap64 (6 * x6)) + 2)) : Int).toNat).drop ((wrap64 (6 * x6)) : Int).toNat)).bind fun t493 => (if 0 ≤ (wrap64 ((wrap64 (6 * x6)) + 2)) then (if (wrap64 ((wrap64 (6 * x6)) + 2)) ≤ (wrap64 ((wrap64 (6 * x6)) + 6)) then (if (wrap64 ((wrap64 (6 * x6)) + 6)) ≤ (x0.length : Int) then ((twoslotref15_worth.f k ((x0.take ((wrap64 ((wrap64 (6 * x6)) + 6)) : Int).toNat).drop ((wrap64 ((wrap64 (6 * x6)) + 2)) : Int).toNat)).bind fun t495 => (if x5.length < 8796093022208 then (twoslotref15_read.l0 k x0 x1 (x5 ++ [(⟨t493, t495⟩ : S27)]) (wrap64 (x6 + 1))) else (none))) else (none)) else (none)) else (none))) else (none)) else (none)) else (none)) else (some x5)
def twoslotref15_read.f (k : Nat) (l0 : List Int) (a1 : Int) : Option ((List (S27))) := twoslotref15_read.l0 k l0 a1 ([] : List (S27)) 0
end Go.Proofs.Ytdpllcmpndcbnaa.P

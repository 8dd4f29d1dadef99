-- Written by a program of this session, after the kit's print.
import Derived.Test.YtcnmocbiekfpbaaP0RO
import Derived.Test.YtcnmocbiekfpbaaP0Short
import Derived.Test.YtcnmocbiekfpbaaPx0
import Derived.Test.YtcnmocbiekfpbaaPx4
import Derived.Test.YtcnmocbiekfpbaaPx5
import Derived.Test.YtcnmocbiekfpbaaPx7
import Derived.Test.YtcnmocbiekfpbaaPx8
import Derived.Test.YtcnmocbiekfpbaaPx15
import Derived.Test.YtcnmocbiekfpbaaPx16
import Derived.Test.YtcnmocbiekfpbaaPx17
import Derived.Test.YtcnmocbiekfpbaaPx18
import Derived.Test.YtcnmocbiekfpbaaPx27
namespace Go.Proofs.Ytcnmocbiekfpbaa.P
open Go.RowKit Go.Proofs.YtcnmocbiekfpbaaW.PrintWords Go.Proofs.YtcnmocbiekfpbaaW.PrintLast Go.Proofs.YtcnmocbiekfpbaaW.PrintMore
attribute [local go_sem] max2_int min2_int max_two min_two max_three min_three max_four min_four   -- for this text's walks alone
set_option linter.unusedVariables false
set_option linter.unusedSimpArgs false

mutual
def twoslotlaw09_ImageDiffs.j0 : Nat → Bool → Int → Int → Int → Int → List (List Int) → Int → Int → Int → Int → List (List Int) → Option (Bool)
  | 0, _, _, _, _, _, _, _, _, _, _, _ => none
  | k + 1, x28, x652000, x652001, x652002, x652003, x652004, x653000, x653001, x653002, x653003, x653004 => if x28 = true then (some true) else ((image_Diff.f k x652000 x652001 x652002 x652003 x652004 x652000 x652001 x652002 x652003 x652004).bind fun bt656 => (if bt656.2 = 0 then (if (bt656.1.length : Int) = 0 then ((image_Same.f k x652000 x652001 x652002 x652003 x652004 x652000 x652001 x652002 x652003 x652004).bind fun t661 => (twoslotlaw09_ImageDiffs.j1 k (!t661) x652000 x652001 x652002 x652003 x652004 x653000 x653001 x653002 x653003 x653004)) else (none)) else (if (bt656.1.length : Int) = 0 then ((image_Check.f k x652000 x652001 x652002 x652003 x652004).bind fun t660 => (some (t660 == bt656.2))) else (none))))
def twoslotlaw09_ImageDiffs.j1 : Nat → Bool → Int → Int → Int → Int → List (List Int) → Int → Int → Int → Int → List (List Int) → Option (Bool)
  | 0, _, _, _, _, _, _, _, _, _, _, _ => none
  | k + 1, x54, x652000, x652001, x652002, x652003, x652004, x653000, x653001, x653002, x653003, x653004 => if x54 = true then (none) else ((image_Diff.f k x652000 x652001 x652002 x652003 x652004 x653000 x653001 x653002 x653003 x653004).bind fun bt662 => (if bt662.2 = 0 then ((image_After.f k x652000 x652001 x652002 x652003 x652004 bt662.1 (bt662.1.length : Int)).bind fun bt666 => (if bt666.2.2.2.2.2 = 0 then ((image_Same.f k bt666.1 bt666.2.1 bt666.2.2.1 bt666.2.2.2.1 bt666.2.2.2.2.1 x653000 x653001 x653002 x653003 x653004).bind fun t675 => (if t675 = true then ((image_Same.f k x652000 x652001 x652002 x652003 x652004 x653000 x653001 x653002 x653003 x653004).bind fun t676 => (twoslotlaw09_ImageDiffs.j2 k bt662.1 (((bt662.1.length : Int) == 0) != t676) x652000 x652001 x652002 x652003 x652004 x653000 x653001 x653002 x653003 x653004)) else (none))) else (none))) else (some ((bt662.1.length : Int) == 0))))
def twoslotlaw09_ImageDiffs.j2 : Nat → List (S35) → Bool → Int → Int → Int → Int → List (List Int) → Int → Int → Int → Int → List (List Int) → Option (Bool)
  | 0, _, _, _, _, _, _, _, _, _, _, _, _ => none
  | k + 1, x8, x90, x652000, x652001, x652002, x652003, x652004, x653000, x653001, x653002, x653003, x653004 => if x90 = true then (none) else ((image_Rows.f k x8).bind fun bt677 => (if bt677.2 = 0 then (twoslotlaw09_ImageDiffs.l0 k bt677.1 0 0 x652000 x652001 x652002 x652003 x652004 x653000 x653001 x653002 x653003 x653004) else (none)))
def twoslotlaw09_ImageDiffs.l0 : Nat → List Int → Int → Int → Int → Int → Int → Int → List (List Int) → Int → Int → Int → Int → List (List Int) → Option (Bool)
  | 0, _, _, _, _, _, _, _, _, _, _, _, _, _ => none
  | k + 1, x10, x11, x12, x652000, x652001, x652002, x652003, x652004, x653000, x653001, x653002, x653003, x653004 => if x12 < x652003 then ((image_Row.f k x652000 x652001 x652002 x652003 x652004 x12).bind fun bt681 => ((image_Row.f k x653000 x653001 x653002 x653003 x653004 x12).bind fun bt685 => (if bt681.2 = 0 then (if bt685.2 = 0 then (twoslotlaw09_ImageDiffs.j4 k x10 x11 x12 bt681.1 bt685.1 ((bt681.1.length : Int) != (wrap64 (x652000 + x652001))) x652000 x652001 x652002 x652003 x652004 x653000 x653001 x653002 x653003 x653004) else (none)) else (none)))) else (some (x11 == (x10.length : Int)))
def twoslotlaw09_ImageDiffs.j4 : Nat → List Int → Int → Int → List (S59) → List (S59) → Bool → Int → Int → Int → Int → List (List Int) → Int → Int → Int → Int → List (List Int) → Option (Bool)
  | 0, _, _, _, _, _, _, _, _, _, _, _, _, _, _, _, _ => none
  | k + 1, x10, x11, x12, x13, x15, x134, x652000, x652001, x652002, x652003, x652004, x653000, x653001, x653002, x653003, x653004 => if x134 = true then (none) else (twoslotlaw09_ImageDiffs.l1 k x10 x11 x12 x13 x15 0 x652000 x652001 x652002 x652003 x652004 x653000 x653001 x653002 x653003 x653004)
def twoslotlaw09_ImageDiffs.l1 : Nat → List Int → Int → Int → List (S59) → List (S59) → Int → Int → Int → Int → Int → List (List Int) → Int → Int → Int → Int → List (List Int) → Option (Bool)
  | 0, _, _, _, _, _, _, _, _, _, _, _, _, _, _, _, _ => none
  | k + 1, x10, x11, x12, x13, x15, x17, x652000, x652001, x652002, x652003, x652004, x653000, x653001, x653002, x653003, x653004 => if x17 < (x13.length : Int) then (if 0 ≤ x17 then (if 0 ≤ (wrap64 ((wrap64 ((wrap64 (x17 * x652003)) + x12)) * 2)) then (if (wrap64 ((wrap64 ((wrap64 (x17 * x652003)) + x12)) * 2)) < (x652004.length : Int) then (if (strOfNums ((rd_T59 x13 x17).f0)).toList = (strOfNums (rd_L1 x652004 (wrap64 ((wrap64 ((wrap64 (x17 * x652003)) + x12)) * 2)))).toList then (if 0 ≤ (wrap64 ((wrap64 ((wrap64 ((wrap64 (x17 * x652003)) + x12)) * 2)) + 1)) then (if (wrap64 ((wrap64 ((wrap64 ((wrap64 (x17 * x652003)) + x12)) * 2)) + 1)) < (x652004.length : Int) then (if (strOfNums ((rd_T59 x13 x17).f1)).toList = (strOfNums (rd_L1 x652004 (wrap64 ((wrap64 ((wrap64 ((wrap64 (x17 * x652003)) + x12)) * 2)) + 1)))).toList then (twoslotlaw09_ImageDiffs.l1 k x10 x11 x12 x13 x15 (wrap64 (x17 + 1)) x652000 x652001 x652002 x652003 x652004 x653000 x653001 x653002 x653003 x653004) else (none)) else (none)) else (none)) else (none)) else (none)) else (none)) else (none)) else ((twoslotref09_SamePairs.f k x13 x15).bind fun t693 => (if t693 = true then (twoslotlaw09_ImageDiffs.l0 k x10 x11 (wrap64 (x12 + 1)) x652000 x652001 x652002 x652003 x652004 x653000 x653001 x653002 x653003 x653004) else (if x11 ≥ (x10.length : Int) then (none) else (if 0 ≤ x11 then (if x11 < (x10.length : Int) then (if (rd x10 x11) = x12 then (twoslotlaw09_ImageDiffs.l0 k x10 (wrap64 (x11 + 1)) (wrap64 (x12 + 1)) x652000 x652001 x652002 x652003 x652004 x653000 x653001 x653002 x653003 x653004) else (none)) else (none)) else (none)))))
end
def twoslotlaw09_ImageDiffs.f (k : Nat) (a0_0 : Int) (a0_1 : Int) (a0_2 : Int) (a0_3 : Int) (l0_4 : List (List Int)) (a1_0 : Int) (a1_1 : Int) (a1_2 : Int) (a1_3 : Int) (l1_4 : List (List Int)) : Option (Bool) := (twoslotlaw09_alive.f).bind fun t653 => (if t653 = true then ((twoslotlaw09_much.f a0_0 a0_1 a0_2 a0_3 l0_4).bind fun t654 => (if t654 = true then (twoslotlaw09_ImageDiffs.j0 k true a0_0 a0_1 a0_2 a0_3 l0_4 a1_0 a1_1 a1_2 a1_3 l1_4) else ((twoslotlaw09_much.f a1_0 a1_1 a1_2 a1_3 l1_4).bind fun t655 => (twoslotlaw09_ImageDiffs.j0 k t655 a0_0 a0_1 a0_2 a0_3 l0_4 a1_0 a1_1 a1_2 a1_3 l1_4)))) else (none))
set_option maxHeartbeats 8000000 in
set_option maxRecDepth 100000 in
theorem twoslotlaw09_ImageDiffs.calls (k : Nat) (a0_0 : Int) (a0_1 : Int) (a0_2 : Int) (a0_3 : Int) (A0_4 : Option Addr) (c0_4 : Nat) (l0_4 : List (List Int)) (a1_0 : Int) (a1_1 : Int) (a1_2 : Int) (a1_3 : Int) (A1_4 : Option Addr) (c1_4 : Nat) (l1_4 : List (List Int)) (r : Bool) (w : World) (hr0_4 : Kd.C (Kd.slice 5 (Kd.int .u8)) w A0_4 l0_4.length l0_4) (hc0_4 : l0_4.length ≤ c0_4) (hr1_4 : Kd.C (Kd.slice 5 (Kd.int .u8)) w A1_4 l1_4.length l1_4) (hc1_4 : l1_4.length ≤ c1_4) (h : twoslotlaw09_ImageDiffs.f k a0_0 a0_1 a0_2 a0_3 l0_4 a1_0 a1_1 a1_2 a1_3 l1_4 = some r) :
    Calls Try.prog 8 #[.agg #[.int .i64 a0_0, .int .i64 a0_1, .int .i64 a0_2, .int .i64 a0_3, .slice A0_4 l0_4.length c0_4], .agg #[.int .i64 a1_0, .int .i64 a1_1, .int .i64 a1_2, .int .i64 a1_3, .slice A1_4 l1_4.length c1_4]] w fun e w' => e = .returned (.bool r) ∧ Below w.heap.size w w' := by
  have hu27 := Try.underlying27
  have HR0_4 := Aside0.mk hr0_4
  have HC0_4 := Aside0.mk hc0_4
  clear hr0_4 hc0_4
  have HR1_4 := Aside0.mk hr1_4
  have HC1_4 := Aside0.mk hc1_4
  clear hr1_4 hc1_4
  have HB := Aside0.mk (Below.refl w.heap.size w)
  have H : ((twoslotlaw09_alive.f).bind fun t653 => (if t653 = true then ((twoslotlaw09_much.f a0_0 a0_1 a0_2 a0_3 l0_4).bind fun t654 => (if t654 = true then (twoslotlaw09_ImageDiffs.j0 k true a0_0 a0_1 a0_2 a0_3 l0_4 a1_0 a1_1 a1_2 a1_3 l1_4) else ((twoslotlaw09_much.f a1_0 a1_1 a1_2 a1_3 l1_4).bind fun t655 => (twoslotlaw09_ImageDiffs.j0 k t655 a0_0 a0_1 a0_2 a0_3 l0_4 a1_0 a1_1 a1_2 a1_3 l1_4)))) else (none))) = some r := h
  clear h
  replace H := Option.bind_eq_some_iff.mp H
  obtain ⟨t653, A30, H⟩ := H
  try dsimp only at H
  have A3 := Aside0.mk A30
  clear A30
  by_cases c4 : t653 = true
  · subst c4
    have H1 : ((twoslotlaw09_much.f a0_0 a0_1 a0_2 a0_3 l0_4).bind fun t654 => (if t654 = true then (twoslotlaw09_ImageDiffs.j0 k true a0_0 a0_1 a0_2 a0_3 l0_4 a1_0 a1_1 a1_2 a1_3 l1_4) else ((twoslotlaw09_much.f a1_0 a1_1 a1_2 a1_3 l1_4).bind fun t655 => (twoslotlaw09_ImageDiffs.j0 k t655 a0_0 a0_1 a0_2 a0_3 l0_4 a1_0 a1_1 a1_2 a1_3 l1_4)))) = some r := by rw [if_pos rfl] at H; exact H
    clear H
    have H := H1
    clear H1
    have HC5 := Aside0.mk H
    clear H
    go_enter Try.func8, Try.ntmps8
    go_upto_region 4 with (first | ((with_reducible refine gate_dst (N := 2) rfl ?_); (try (refine gate_guard (by rfl) ?_; dsimp only)); refine box_event rfl (N := 2) rfl (cs := #[.int .i64 a0_0, .int .i64 a0_1, .int .i64 a0_2, .int .i64 a0_3, .slice A0_4 l0_4.length c0_4]) (t := 27) (by go_simp; try rfl) ?_; intro gb651 hg w6 hbox hb; have BK651 := Aside0.mk (hbox); have GW651 := Aside0.mk ((by rw [hg]; exact (sZ HB) : w.heap.size ≤ gb651)); have GE651 := Aside0.mk ((by rw [hg]; exact (sZ HB) : w.heap.size ≤ gb651)); replace HB := kH HB hb; clear hb hbox hg) | ((with_reducible refine gate_dst (N := 3) rfl ?_); (try (refine gate_guard (by rfl) ?_; dsimp only)); refine box_event rfl (N := 3) rfl (cs := #[.int .i64 a1_0, .int .i64 a1_1, .int .i64 a1_2, .int .i64 a1_3, .slice A1_4 l1_4.length c1_4]) (t := 27) (by go_simp; try rfl) ?_; intro gb652 hg w7 hbox hb; have BK652 := Aside0.mk (hbox); have GW652 := Aside0.mk ((by rw [hg]; exact (below_size (by repeat (first | exact sH HB.out | refine sN (w := w) ?_ | with_reducible refine sG (w := w) ?_ (by assumption)))) : w.heap.size ≤ gb652)); have GE652 := Aside0.mk ((by rw [hg]; exact (below_size (by repeat (first | exact sH HB.out | refine sN (w := w) ?_ | with_reducible refine sG (w := w) ?_ (by assumption)))) : w.heap.size ≤ gb652)); replace HB := Aside0.mk (below_step (by repeat (first | exact sH HB.out | refine sN (w := w) ?_ | with_reducible refine sG (w := w) ?_ (by assumption))) hb); have NB651_652 := Aside0.mk ((by rw [hg]; exact Nat.ne_of_lt (blk_lt (g := gb651) (o := .cells #[.int .i64 a0_0, .int .i64 a0_1, .int .i64 a0_2, .int .i64 a0_3, .slice A0_4 l0_4.length c0_4] 27 (0, 0)) (by first | exact BK651.out | (refine sO ?_; exact BK651.out))) : gb651 ≠ gb652)); have NB652_651 := Aside0.mk ((by rw [hg]; exact Nat.ne_of_gt (blk_lt (g := gb651) (o := .cells #[.int .i64 a0_0, .int .i64 a0_1, .int .i64 a0_2, .int .i64 a0_3, .slice A0_4 l0_4.length c0_4] 27 (0, 0)) (by first | exact BK651.out | (refine sO ?_; exact BK651.out))) : gb652 ≠ gb651)); replace BK651 := kB BK651 hb; clear hb hbox hg) | (go_at_call 9; (with_reducible refine (twoslotlaw09_alive.calls  true _ A3.out).mono ?_); rintro e w8 ⟨rfl, hb⟩; replace BK651 := kB BK651 hb; replace BK652 := kB BK652 hb; replace HB := Aside0.mk (below_step (by repeat (first | exact sH HB.out | refine sN (w := w) ?_ | with_reducible refine sG (w := w) ?_ (by assumption))) hb); (try clear hb); (try clear hb2); (try clear hk); (try clear hi)))
    repeat (go_quiet (first | ((with_reducible refine gate_dst (N := 2) rfl ?_); (try (refine gate_guard (by rfl) ?_; dsimp only)); refine box_event rfl (N := 2) rfl (cs := #[.int .i64 a0_0, .int .i64 a0_1, .int .i64 a0_2, .int .i64 a0_3, .slice A0_4 l0_4.length c0_4]) (t := 27) (by go_simp; try rfl) ?_; intro gb651 hg w6 hbox hb; have BK651 := Aside0.mk (hbox); have GW651 := Aside0.mk ((by rw [hg]; exact (sZ HB) : w.heap.size ≤ gb651)); have GE651 := Aside0.mk ((by rw [hg]; exact (sZ HB) : w.heap.size ≤ gb651)); replace HB := kH HB hb; clear hb hbox hg) | ((with_reducible refine gate_dst (N := 3) rfl ?_); (try (refine gate_guard (by rfl) ?_; dsimp only)); refine box_event rfl (N := 3) rfl (cs := #[.int .i64 a1_0, .int .i64 a1_1, .int .i64 a1_2, .int .i64 a1_3, .slice A1_4 l1_4.length c1_4]) (t := 27) (by go_simp; try rfl) ?_; intro gb652 hg w7 hbox hb; have BK652 := Aside0.mk (hbox); have GW652 := Aside0.mk ((by rw [hg]; exact (below_size (by repeat (first | exact sH HB.out | refine sN (w := w) ?_ | with_reducible refine sG (w := w) ?_ (by assumption)))) : w.heap.size ≤ gb652)); have GE652 := Aside0.mk ((by rw [hg]; exact (below_size (by repeat (first | exact sH HB.out | refine sN (w := w) ?_ | with_reducible refine sG (w := w) ?_ (by assumption)))) : w.heap.size ≤ gb652)); replace HB := Aside0.mk (below_step (by repeat (first | exact sH HB.out | refine sN (w := w) ?_ | with_reducible refine sG (w := w) ?_ (by assumption))) hb); have NB651_652 := Aside0.mk ((by rw [hg]; exact Nat.ne_of_lt (blk_lt (g := gb651) (o := .cells #[.int .i64 a0_0, .int .i64 a0_1, .int .i64 a0_2, .int .i64 a0_3, .slice A0_4 l0_4.length c0_4] 27 (0, 0)) (by first | exact BK651.out | (refine sO ?_; exact BK651.out))) : gb651 ≠ gb652)); have NB652_651 := Aside0.mk ((by rw [hg]; exact Nat.ne_of_gt (blk_lt (g := gb651) (o := .cells #[.int .i64 a0_0, .int .i64 a0_1, .int .i64 a0_2, .int .i64 a0_3, .slice A0_4 l0_4.length c0_4] 27 (0, 0)) (by first | exact BK651.out | (refine sO ?_; exact BK651.out))) : gb652 ≠ gb651)); replace BK651 := kB BK651 hb; clear hb hbox hg) | (go_at_call 9; (with_reducible refine (twoslotlaw09_alive.calls  true _ A3.out).mono ?_); rintro e w8 ⟨rfl, hb⟩; replace BK651 := kB BK651 hb; replace BK652 := kB BK652 hb; replace HB := Aside0.mk (below_step (by repeat (first | exact sH HB.out | refine sN (w := w) ?_ | with_reducible refine sG (w := w) ?_ (by assumption))) hb); (try clear hb); (try clear hb2); (try clear hk); (try clear hi))); go_upto_region 4 with (first | ((with_reducible refine gate_dst (N := 2) rfl ?_); (try (refine gate_guard (by rfl) ?_; dsimp only)); refine box_event rfl (N := 2) rfl (cs := #[.int .i64 a0_0, .int .i64 a0_1, .int .i64 a0_2, .int .i64 a0_3, .slice A0_4 l0_4.length c0_4]) (t := 27) (by go_simp; try rfl) ?_; intro gb651 hg w6 hbox hb; have BK651 := Aside0.mk (hbox); have GW651 := Aside0.mk ((by rw [hg]; exact (sZ HB) : w.heap.size ≤ gb651)); have GE651 := Aside0.mk ((by rw [hg]; exact (sZ HB) : w.heap.size ≤ gb651)); replace HB := kH HB hb; clear hb hbox hg) | ((with_reducible refine gate_dst (N := 3) rfl ?_); (try (refine gate_guard (by rfl) ?_; dsimp only)); refine box_event rfl (N := 3) rfl (cs := #[.int .i64 a1_0, .int .i64 a1_1, .int .i64 a1_2, .int .i64 a1_3, .slice A1_4 l1_4.length c1_4]) (t := 27) (by go_simp; try rfl) ?_; intro gb652 hg w7 hbox hb; have BK652 := Aside0.mk (hbox); have GW652 := Aside0.mk ((by rw [hg]; exact (below_size (by repeat (first | exact sH HB.out | refine sN (w := w) ?_ | with_reducible refine sG (w := w) ?_ (by assumption)))) : w.heap.size ≤ gb652)); have GE652 := Aside0.mk ((by rw [hg]; exact (below_size (by repeat (first | exact sH HB.out | refine sN (w := w) ?_ | with_reducible refine sG (w := w) ?_ (by assumption)))) : w.heap.size ≤ gb652)); replace HB := Aside0.mk (below_step (by repeat (first | exact sH HB.out | refine sN (w := w) ?_ | with_reducible refine sG (w := w) ?_ (by assumption))) hb); have NB651_652 := Aside0.mk ((by rw [hg]; exact Nat.ne_of_lt (blk_lt (g := gb651) (o := .cells #[.int .i64 a0_0, .int .i64 a0_1, .int .i64 a0_2, .int .i64 a0_3, .slice A0_4 l0_4.length c0_4] 27 (0, 0)) (by first | exact BK651.out | (refine sO ?_; exact BK651.out))) : gb651 ≠ gb652)); have NB652_651 := Aside0.mk ((by rw [hg]; exact Nat.ne_of_gt (blk_lt (g := gb651) (o := .cells #[.int .i64 a0_0, .int .i64 a0_1, .int .i64 a0_2, .int .i64 a0_3, .slice A0_4 l0_4.length c0_4] 27 (0, 0)) (by first | exact BK651.out | (refine sO ?_; exact BK651.out))) : gb652 ≠ gb651)); replace BK651 := kB BK651 hb; clear hb hbox hg) | (go_at_call 9; (with_reducible refine (twoslotlaw09_alive.calls  true _ A3.out).mono ?_); rintro e w8 ⟨rfl, hb⟩; replace BK651 := kB BK651 hb; replace BK652 := kB BK652 hb; replace HB := Aside0.mk (below_step (by repeat (first | exact sH HB.out | refine sN (w := w) ?_ | with_reducible refine sG (w := w) ?_ (by assumption))) hb); (try clear hb); (try clear hb2); (try clear hk); (try clear hi))))
    (try simp only [Act.put, List.setIfInBounds_toArray, List.set_cons_zero, List.set_cons_succ])
    go_cut [28] (fun v28 wc => ∃ (kq : Nat) (x28_4 : Bool), v28 = .bool x28_4 ∧ Aside0 (twoslotlaw09_ImageDiffs.j0 kq x28_4 a0_0 a0_1 a0_2 a0_3 l0_4 a1_0 a1_1 a1_2 a1_3 l1_4 = some r) ∧ Aside0 (kq ≤ k) ∧ Aside0 (wc.heap[gb651]? = some (.cells #[.int .i64 a0_0, .int .i64 a0_1, .int .i64 a0_2, .int .i64 a0_3, (.slice A0_4 l0_4.length c0_4)] 27 (0, 0))) ∧ Aside0 (wc.heap[gb652]? = some (.cells #[.int .i64 a1_0, .int .i64 a1_1, .int .i64 a1_2, .int .i64 a1_3, (.slice A1_4 l1_4.length c1_4)] 27 (0, 0))) ∧ Aside0 (Below w.heap.size w wc))
    case first =>
      have H := HC5.out
      clear HC5
      replace H := Option.bind_eq_some_iff.mp H
      obtain ⟨t654, A90, H⟩ := H
      try dsimp only at H
      have A9 := Aside0.mk A90
      clear A90
      by_cases c10 : t654 = true
      · subst c10
        have H1 : (twoslotlaw09_ImageDiffs.j0 k true a0_0 a0_1 a0_2 a0_3 l0_4 a1_0 a1_1 a1_2 a1_3 l1_4) = some r := by rw [if_pos rfl] at H; exact H
        clear H
        have H := H1
        clear H1
        have H' := Aside0.mk H
        clear H
        have hnb11 := NB651_652.out
        have hnc11 := NB652_651.out
        obtain ⟨hcz12_0, hcz12_1, hcz12_2, hcz12_3, hcz12_4, hfz12_0, hfz12_1, hfz12_2, hfz12_3, hfz12_4⟩ := cs5 BK651.out
        go_wp2_with (first | (go_at_call 18; (with_reducible refine (twoslotlaw09_much.calls a0_0 a0_1 a0_2 a0_3 _ _ l0_4 true _ ?side1 ?side2 A9.out).mono ?_); (case side1 => exact sC (Kd.C_below HR0_4.out HB.out)); (case side2 => exact HC0_4.out); rintro e w13 ⟨rfl, hb⟩; replace BK651 := kB BK651 hb; replace BK652 := kB BK652 hb; replace HB := Aside0.mk (below_step (by repeat (first | exact sH HB.out | refine sN (w := w) ?_ | with_reducible refine sG (w := w) ?_ (by assumption))) hb); (try clear hb); (try clear hb2); (try clear hk); (try clear hi)))
        repeat (go_quiet (first | (go_at_call 18; (with_reducible refine (twoslotlaw09_much.calls a0_0 a0_1 a0_2 a0_3 _ _ l0_4 true _ ?side1 ?side2 A9.out).mono ?_); (case side1 => exact sC (Kd.C_below HR0_4.out HB.out)); (case side2 => exact HC0_4.out); rintro e w13 ⟨rfl, hb⟩; replace BK651 := kB BK651 hb; replace BK652 := kB BK652 hb; replace HB := Aside0.mk (below_step (by repeat (first | exact sH HB.out | refine sN (w := w) ?_ | with_reducible refine sG (w := w) ?_ (by assumption))) hb); (try clear hb); (try clear hb2); (try clear hk); (try clear hi))); try go_wp2_with (first | (go_at_call 18; (with_reducible refine (twoslotlaw09_much.calls a0_0 a0_1 a0_2 a0_3 _ _ l0_4 true _ ?side1 ?side2 A9.out).mono ?_); (case side1 => exact sC (Kd.C_below HR0_4.out HB.out)); (case side2 => exact HC0_4.out); rintro e w13 ⟨rfl, hb⟩; replace BK651 := kB BK651 hb; replace BK652 := kB BK652 hb; replace HB := Aside0.mk (below_step (by repeat (first | exact sH HB.out | refine sN (w := w) ?_ | with_reducible refine sG (w := w) ?_ (by assumption))) hb); (try clear hb); (try clear hb2); (try clear hk); (try clear hi))))
        go_meet
        case rel => exact ⟨_, (true), (by first | rfl | (simp; done) | (simp [*]; done)), H', ⟨by first | omega | exact Nat.le_refl _⟩, ⟨by (try refine sO ?_); exact BK651.out⟩, ⟨by (try refine sO ?_); exact BK652.out⟩, ⟨by repeat (first | exact sH HB.out | refine sN (w := w) ?_ | with_reducible refine sG (w := w) ?_ (by assumption))⟩⟩
      · replace c10 := Bool.eq_false_iff.mpr c10
        subst c10
        have H1 : ((twoslotlaw09_much.f a1_0 a1_1 a1_2 a1_3 l1_4).bind fun t655 => (twoslotlaw09_ImageDiffs.j0 k t655 a0_0 a0_1 a0_2 a0_3 l0_4 a1_0 a1_1 a1_2 a1_3 l1_4)) = some r := by rw [if_neg (show ¬ (false = true) by decide)] at H; exact H
        clear H
        have H := H1
        clear H1
        replace H := Option.bind_eq_some_iff.mp H
        obtain ⟨t655, A140, H⟩ := H
        try dsimp only at H
        have A14 := Aside0.mk A140
        clear A140
        have H' := Aside0.mk H
        clear H
        have hnb15 := NB651_652.out
        have hnc15 := NB652_651.out
        obtain ⟨hcz16_0, hcz16_1, hcz16_2, hcz16_3, hcz16_4, hfz16_0, hfz16_1, hfz16_2, hfz16_3, hfz16_4⟩ := cs5 BK651.out
        go_wp2_with (first | (go_at_call 18; (with_reducible refine (twoslotlaw09_much.calls a0_0 a0_1 a0_2 a0_3 _ _ l0_4 false _ ?side1 ?side2 A9.out).mono ?_); (case side1 => exact sC (Kd.C_below HR0_4.out HB.out)); (case side2 => exact HC0_4.out); rintro e w17 ⟨rfl, hb⟩; replace BK651 := kB BK651 hb; replace BK652 := kB BK652 hb; replace HB := Aside0.mk (below_step (by repeat (first | exact sH HB.out | refine sN (w := w) ?_ | with_reducible refine sG (w := w) ?_ (by assumption))) hb); (try clear hb); (try clear hb2); (try clear hk); (try clear hi); obtain ⟨hcz18_0, hcz18_1, hcz18_2, hcz18_3, hcz18_4, hfz18_0, hfz18_1, hfz18_2, hfz18_3, hfz18_4⟩ := cs5 BK652.out) | (go_at_call 18; (with_reducible refine (twoslotlaw09_much.calls a1_0 a1_1 a1_2 a1_3 _ _ l1_4 t655 _ ?side1 ?side2 A14.out).mono ?_); (case side1 => exact sC (Kd.C_below HR1_4.out HB.out)); (case side2 => exact HC1_4.out); rintro e w19 ⟨rfl, hb⟩; clear A14; replace BK651 := kB BK651 hb; replace BK652 := kB BK652 hb; replace HB := Aside0.mk (below_step (by repeat (first | exact sH HB.out | refine sN (w := w) ?_ | with_reducible refine sG (w := w) ?_ (by assumption))) hb); (try clear hb); (try clear hb2); (try clear hk); (try clear hi)))
        repeat (go_quiet (first | (go_at_call 18; (with_reducible refine (twoslotlaw09_much.calls a0_0 a0_1 a0_2 a0_3 _ _ l0_4 false _ ?side1 ?side2 A9.out).mono ?_); (case side1 => exact sC (Kd.C_below HR0_4.out HB.out)); (case side2 => exact HC0_4.out); rintro e w17 ⟨rfl, hb⟩; replace BK651 := kB BK651 hb; replace BK652 := kB BK652 hb; replace HB := Aside0.mk (below_step (by repeat (first | exact sH HB.out | refine sN (w := w) ?_ | with_reducible refine sG (w := w) ?_ (by assumption))) hb); (try clear hb); (try clear hb2); (try clear hk); (try clear hi); obtain ⟨hcz18_0, hcz18_1, hcz18_2, hcz18_3, hcz18_4, hfz18_0, hfz18_1, hfz18_2, hfz18_3, hfz18_4⟩ := cs5 BK652.out) | (go_at_call 18; (with_reducible refine (twoslotlaw09_much.calls a1_0 a1_1 a1_2 a1_3 _ _ l1_4 t655 _ ?side1 ?side2 A14.out).mono ?_); (case side1 => exact sC (Kd.C_below HR1_4.out HB.out)); (case side2 => exact HC1_4.out); rintro e w19 ⟨rfl, hb⟩; clear A14; replace BK651 := kB BK651 hb; replace BK652 := kB BK652 hb; replace HB := Aside0.mk (below_step (by repeat (first | exact sH HB.out | refine sN (w := w) ?_ | with_reducible refine sG (w := w) ?_ (by assumption))) hb); (try clear hb); (try clear hb2); (try clear hk); (try clear hi))); try go_wp2_with (first | (go_at_call 18; (with_reducible refine (twoslotlaw09_much.calls a0_0 a0_1 a0_2 a0_3 _ _ l0_4 false _ ?side1 ?side2 A9.out).mono ?_); (case side1 => exact sC (Kd.C_below HR0_4.out HB.out)); (case side2 => exact HC0_4.out); rintro e w17 ⟨rfl, hb⟩; replace BK651 := kB BK651 hb; replace BK652 := kB BK652 hb; replace HB := Aside0.mk (below_step (by repeat (first | exact sH HB.out | refine sN (w := w) ?_ | with_reducible refine sG (w := w) ?_ (by assumption))) hb); (try clear hb); (try clear hb2); (try clear hk); (try clear hi); obtain ⟨hcz18_0, hcz18_1, hcz18_2, hcz18_3, hcz18_4, hfz18_0, hfz18_1, hfz18_2, hfz18_3, hfz18_4⟩ := cs5 BK652.out) | (go_at_call 18; (with_reducible refine (twoslotlaw09_much.calls a1_0 a1_1 a1_2 a1_3 _ _ l1_4 t655 _ ?side1 ?side2 A14.out).mono ?_); (case side1 => exact sC (Kd.C_below HR1_4.out HB.out)); (case side2 => exact HC1_4.out); rintro e w19 ⟨rfl, hb⟩; clear A14; replace BK651 := kB BK651 hb; replace BK652 := kB BK652 hb; replace HB := Aside0.mk (below_step (by repeat (first | exact sH HB.out | refine sN (w := w) ?_ | with_reducible refine sG (w := w) ?_ (by assumption))) hb); (try clear hb); (try clear hb2); (try clear hk); (try clear hi))))
        go_meet
        case rel => exact ⟨_, (t655), (by first | rfl | (simp; done) | (simp [*]; done)), H', ⟨by first | omega | exact Nat.le_refl _⟩, ⟨by (try refine sO ?_); exact BK651.out⟩, ⟨by (try refine sO ?_); exact BK652.out⟩, ⟨by repeat (first | exact sH HB.out | refine sN (w := w) ?_ | with_reducible refine sG (w := w) ?_ (by assumption))⟩⟩
    case rest =>
      clear HC5
      try clear c1
      try clear p2
      try clear c4
      try clear c8
      try clear c10
      try clear c11
      try clear c15
      try clear hcz12_0
      try clear hcz12_1
      try clear hcz12_2
      try clear hcz12_3
      try clear hcz12_4
      try clear hcz16_0
      try clear hcz16_1
      try clear hcz16_2
      try clear hcz16_3
      try clear hcz16_4
      try clear hcz18_0
      try clear hcz18_1
      try clear hcz18_2
      try clear hcz18_3
      try clear hcz18_4
      try clear hfz12_0
      try clear hfz12_1
      try clear hfz12_2
      try clear hfz12_3
      try clear hfz12_4
      try clear hfz16_0
      try clear hfz16_1
      try clear hfz16_2
      try clear hfz16_3
      try clear hfz16_4
      try clear hfz18_0
      try clear hfz18_1
      try clear hfz18_2
      try clear hfz18_3
      try clear hfz18_4
      obtain ⟨kq, x28_4, rfl, HA, HJ4, BK651, BK652, HB⟩ := hcut
      cases kq with
      | zero => exact absurd HA.out (by simp [twoslotlaw09_ImageDiffs.j0])
      | succ kj4 =>
        have H := HA.out
        clear HA
        simp only [twoslotlaw09_ImageDiffs.j0] at H
        by_cases c20 : x28_4 = true
        · subst c20
          have H1 : (some true) = some r := by rw [if_pos rfl] at H; exact H
          clear H
          have H := H1
          clear H1
          obtain rfl := Option.some.inj H
          go_wp2
          repeat (go_quiet (fail); try go_wp2)
          go_ret
          exact ⟨by first | rfl | (simp [errW_none, errW_some] <;> rfl) | (simp [*, errW_none, errW_some] <;> rfl), by repeat (first | exact sH HB.out | refine sN (w := w) ?_ | with_reducible refine sG (w := w) ?_ (by assumption))⟩
        · replace c20 := Bool.eq_false_iff.mpr c20
          subst c20
          have H1 : ((image_Diff.f kj4 a0_0 a0_1 a0_2 a0_3 l0_4 a0_0 a0_1 a0_2 a0_3 l0_4).bind fun bt656 => (if bt656.2 = 0 then (if (bt656.1.length : Int) = 0 then ((image_Same.f kj4 a0_0 a0_1 a0_2 a0_3 l0_4 a0_0 a0_1 a0_2 a0_3 l0_4).bind fun t661 => (twoslotlaw09_ImageDiffs.j1 kj4 (!t661) a0_0 a0_1 a0_2 a0_3 l0_4 a1_0 a1_1 a1_2 a1_3 l1_4)) else (none)) else (if (bt656.1.length : Int) = 0 then ((image_Check.f kj4 a0_0 a0_1 a0_2 a0_3 l0_4).bind fun t660 => (some (t660 == bt656.2))) else (none)))) = some r := by rw [if_neg (show ¬ (false = true) by decide)] at H; exact H
          clear H
          have H := H1
          clear H1
          replace H := Option.bind_eq_some_iff.mp H
          obtain ⟨⟨t656, t659⟩, A210, H⟩ := H
          try dsimp only at H
          have A21 := Aside0.mk A210
          clear A210
          by_cases c22 : t659 = 0
          · rw [if_pos c22] at H
            have c22b0 : (t659 == 0) = true := beq_iff_eq.mpr c22
            have c22b1 : (t659 != 0) = false := bne_eq_false_iff_eq.mpr c22
            clear c22
            have HC23 := Aside0.mk H
            clear H
            have hnb24 := NB651_652.out
            have hnc24 := NB652_651.out
            obtain ⟨hcz25_0, hcz25_1, hcz25_2, hcz25_3, hcz25_4, hfz25_0, hfz25_1, hfz25_2, hfz25_3, hfz25_4⟩ := cs5 BK651.out
            go_upto_region 9 with (first | (go_at_call 14; (with_reducible refine (image_Diff.calls kj4 a0_0 a0_1 a0_2 a0_3 _ _ l0_4 a0_0 a0_1 a0_2 a0_3 _ _ l0_4 t656 t659 _ ?side1 ?side2 ?side3 ?side4 A21.out).mono ?_); (case side1 => exact sC (Kd.C_below HR0_4.out HB.out)); (case side2 => exact HC0_4.out); (case side3 => exact sC (Kd.C_below HR0_4.out HB.out)); (case side4 => exact HC0_4.out); rintro e w26 ⟨v657, rfl, ho0, hb⟩; have HO658 := Aside0.mk (RO_lower ho0 (below_size (by repeat (first | exact sH HB.out | refine sN (w := w) ?_ | with_reducible refine sG (w := w) ?_ (by assumption))))); replace BK651 := kB BK651 hb; replace BK652 := kB BK652 hb; replace HB := Aside0.mk (below_step (by repeat (first | exact sH HB.out | refine sN (w := w) ?_ | with_reducible refine sG (w := w) ?_ (by assumption))) hb); (try clear hb); (try clear hb2); (try clear hk); (try clear hi); (try clear ho0)))
            repeat (go_quiet (first | (go_at_call 14; (with_reducible refine (image_Diff.calls kj4 a0_0 a0_1 a0_2 a0_3 _ _ l0_4 a0_0 a0_1 a0_2 a0_3 _ _ l0_4 t656 t659 _ ?side1 ?side2 ?side3 ?side4 A21.out).mono ?_); (case side1 => exact sC (Kd.C_below HR0_4.out HB.out)); (case side2 => exact HC0_4.out); (case side3 => exact sC (Kd.C_below HR0_4.out HB.out)); (case side4 => exact HC0_4.out); rintro e w26 ⟨v657, rfl, ho0, hb⟩; have HO658 := Aside0.mk (RO_lower ho0 (below_size (by repeat (first | exact sH HB.out | refine sN (w := w) ?_ | with_reducible refine sG (w := w) ?_ (by assumption))))); replace BK651 := kB BK651 hb; replace BK652 := kB BK652 hb; replace HB := Aside0.mk (below_step (by repeat (first | exact sH HB.out | refine sN (w := w) ?_ | with_reducible refine sG (w := w) ?_ (by assumption))) hb); (try clear hb); (try clear hb2); (try clear hk); (try clear hi); (try clear ho0))); go_upto_region 9 with (first | (go_at_call 14; (with_reducible refine (image_Diff.calls kj4 a0_0 a0_1 a0_2 a0_3 _ _ l0_4 a0_0 a0_1 a0_2 a0_3 _ _ l0_4 t656 t659 _ ?side1 ?side2 ?side3 ?side4 A21.out).mono ?_); (case side1 => exact sC (Kd.C_below HR0_4.out HB.out)); (case side2 => exact HC0_4.out); (case side3 => exact sC (Kd.C_below HR0_4.out HB.out)); (case side4 => exact HC0_4.out); rintro e w26 ⟨v657, rfl, ho0, hb⟩; have HO658 := Aside0.mk (RO_lower ho0 (below_size (by repeat (first | exact sH HB.out | refine sN (w := w) ?_ | with_reducible refine sG (w := w) ?_ (by assumption))))); replace BK651 := kB BK651 hb; replace BK652 := kB BK652 hb; replace HB := Aside0.mk (below_step (by repeat (first | exact sH HB.out | refine sN (w := w) ?_ | with_reducible refine sG (w := w) ?_ (by assumption))) hb); (try clear hb); (try clear hb2); (try clear hk); (try clear hi); (try clear ho0))))
            (try simp only [Act.put, List.setIfInBounds_toArray, List.set_cons_zero, List.set_cons_succ])
            go_cut [54] (fun v54 wc => ∃ (kq : Nat) (x54_22 : Bool), v54 = .bool x54_22 ∧ Aside0 (twoslotlaw09_ImageDiffs.j1 kq x54_22 a0_0 a0_1 a0_2 a0_3 l0_4 a1_0 a1_1 a1_2 a1_3 l1_4 = some r) ∧ Aside0 (kq ≤ kj4) ∧ Aside0 (wc.heap[gb651]? = some (.cells #[.int .i64 a0_0, .int .i64 a0_1, .int .i64 a0_2, .int .i64 a0_3, (.slice A0_4 l0_4.length c0_4)] 27 (0, 0))) ∧ Aside0 (wc.heap[gb652]? = some (.cells #[.int .i64 a1_0, .int .i64 a1_1, .int .i64 a1_2, .int .i64 a1_3, (.slice A1_4 l1_4.length c1_4)] 27 (0, 0))) ∧ Aside0 (Below w.heap.size w wc))
            case first =>
              have H := HC23.out
              clear HC23
              by_cases c27 : (t656.length : Int) = 0
              · rw [if_pos c27] at H
                have c27b0 : ((t656.length : Int) == 0) = true := beq_iff_eq.mpr c27
                have c27b1 : ((t656.length : Int) != 0) = false := bne_eq_false_iff_eq.mpr c27
                clear c27
                (first | rw [c27b0] | (simp only [i64_w, i32_w]; rw [c27b0]) | skip)
                replace H := Option.bind_eq_some_iff.mp H
                obtain ⟨t661, A280, H⟩ := H
                try dsimp only at H
                have A28 := Aside0.mk A280
                clear A280
                have H' := Aside0.mk H
                clear H
                obtain ⟨Ao29, co29, eo29⟩ := RO_slice HO658.out
                subst eo29
                have hnb30 := NB651_652.out
                have hnc30 := NB652_651.out
                obtain ⟨hcz31_0, hcz31_1, hcz31_2, hcz31_3, hcz31_4, hfz31_0, hfz31_1, hfz31_2, hfz31_3, hfz31_4⟩ := cs5 BK651.out
                go_wp2_with (first | (go_at_call 34; (with_reducible refine (image_Same.calls kj4 a0_0 a0_1 a0_2 a0_3 _ _ l0_4 a0_0 a0_1 a0_2 a0_3 _ _ l0_4 t661 _ ?side1 ?side2 ?side3 ?side4 A28.out).mono ?_); (case side1 => exact sC (Kd.C_below HR0_4.out HB.out)); (case side2 => exact HC0_4.out); (case side3 => exact sC (Kd.C_below HR0_4.out HB.out)); (case side4 => exact HC0_4.out); rintro e w32 ⟨rfl, hb⟩; replace HO658 := Aside0.mk (RO_below (by (with_reducible repeat (first | apply RO_alloc | apply RO_drewN | apply RO_drew)); exact HO658.out) hb); replace BK651 := kB BK651 hb; replace BK652 := kB BK652 hb; replace HB := Aside0.mk (below_step (by repeat (first | exact sH HB.out | refine sN (w := w) ?_ | with_reducible refine sG (w := w) ?_ (by assumption))) hb); (try clear hb); (try clear hb2); (try clear hk); (try clear hi)))
                repeat (go_quiet (first | (go_at_call 34; (with_reducible refine (image_Same.calls kj4 a0_0 a0_1 a0_2 a0_3 _ _ l0_4 a0_0 a0_1 a0_2 a0_3 _ _ l0_4 t661 _ ?side1 ?side2 ?side3 ?side4 A28.out).mono ?_); (case side1 => exact sC (Kd.C_below HR0_4.out HB.out)); (case side2 => exact HC0_4.out); (case side3 => exact sC (Kd.C_below HR0_4.out HB.out)); (case side4 => exact HC0_4.out); rintro e w32 ⟨rfl, hb⟩; replace HO658 := Aside0.mk (RO_below (by (with_reducible repeat (first | apply RO_alloc | apply RO_drewN | apply RO_drew)); exact HO658.out) hb); replace BK651 := kB BK651 hb; replace BK652 := kB BK652 hb; replace HB := Aside0.mk (below_step (by repeat (first | exact sH HB.out | refine sN (w := w) ?_ | with_reducible refine sG (w := w) ?_ (by assumption))) hb); (try clear hb); (try clear hb2); (try clear hk); (try clear hi))); try go_wp2_with (first | (go_at_call 34; (with_reducible refine (image_Same.calls kj4 a0_0 a0_1 a0_2 a0_3 _ _ l0_4 a0_0 a0_1 a0_2 a0_3 _ _ l0_4 t661 _ ?side1 ?side2 ?side3 ?side4 A28.out).mono ?_); (case side1 => exact sC (Kd.C_below HR0_4.out HB.out)); (case side2 => exact HC0_4.out); (case side3 => exact sC (Kd.C_below HR0_4.out HB.out)); (case side4 => exact HC0_4.out); rintro e w32 ⟨rfl, hb⟩; replace HO658 := Aside0.mk (RO_below (by (with_reducible repeat (first | apply RO_alloc | apply RO_drewN | apply RO_drew)); exact HO658.out) hb); replace BK651 := kB BK651 hb; replace BK652 := kB BK652 hb; replace HB := Aside0.mk (below_step (by repeat (first | exact sH HB.out | refine sN (w := w) ?_ | with_reducible refine sG (w := w) ?_ (by assumption))) hb); (try clear hb); (try clear hb2); (try clear hk); (try clear hi))))
                go_meet
                case rel => exact ⟨_, (!t661), (by first | rfl | (simp; done) | (simp [*]; done)), H', ⟨by have := HJ4.out; first | omega | exact Nat.le_refl _⟩, ⟨by (try refine sO ?_); exact BK651.out⟩, ⟨by (try refine sO ?_); exact BK652.out⟩, ⟨by repeat (first | exact sH HB.out | refine sN (w := w) ?_ | with_reducible refine sG (w := w) ?_ (by assumption))⟩⟩
              · rw [if_neg c27] at H
                exact absurd H (by simp)
            case rest =>
              clear HC23
              try clear c1
              try clear c2
              try clear p2
              try clear c3
              try clear c4
              try clear c8
              try clear c10
              try clear c11
              try clear c15
              try clear c20
              try clear c22
              try clear c22b0
              try clear c22b1
              try clear c24
              try clear c27
              try clear c27b0
              try clear c27b1
              try clear c30
              try clear hcz12_0
              try clear hcz12_1
              try clear hcz12_2
              try clear hcz12_3
              try clear hcz12_4
              try clear hcz16_0
              try clear hcz16_1
              try clear hcz16_2
              try clear hcz16_3
              try clear hcz16_4
              try clear hcz18_0
              try clear hcz18_1
              try clear hcz18_2
              try clear hcz18_3
              try clear hcz18_4
              try clear hcz25_0
              try clear hcz25_1
              try clear hcz25_2
              try clear hcz25_3
              try clear hcz25_4
              try clear hcz31_0
              try clear hcz31_1
              try clear hcz31_2
              try clear hcz31_3
              try clear hcz31_4
              try clear hfz12_0
              try clear hfz12_1
              try clear hfz12_2
              try clear hfz12_3
              try clear hfz12_4
              try clear hfz16_0
              try clear hfz16_1
              try clear hfz16_2
              try clear hfz16_3
              try clear hfz16_4
              try clear hfz18_0
              try clear hfz18_1
              try clear hfz18_2
              try clear hfz18_3
              try clear hfz18_4
              try clear hfz25_0
              try clear hfz25_1
              try clear hfz25_2
              try clear hfz25_3
              try clear hfz25_4
              try clear hfz31_0
              try clear hfz31_1
              try clear hfz31_2
              try clear hfz31_3
              try clear hfz31_4
              try clear p2
              obtain ⟨kq, x54_22, rfl, HA, HJ22, BK651, BK652, HB⟩ := hcut
              cases kq with
              | zero => exact absurd HA.out (by simp [twoslotlaw09_ImageDiffs.j1])
              | succ kj22 =>
                have H := HA.out
                clear HA
                simp only [twoslotlaw09_ImageDiffs.j1] at H
                by_cases c33 : x54_22 = true
                · subst c33
                  have H1 : (none) = some r := by rw [if_pos rfl] at H; exact H
                  clear H
                  have H := H1
                  clear H1
                  exact absurd H (by simp)
                · replace c33 := Bool.eq_false_iff.mpr c33
                  subst c33
                  have H1 : ((image_Diff.f kj22 a0_0 a0_1 a0_2 a0_3 l0_4 a1_0 a1_1 a1_2 a1_3 l1_4).bind fun bt662 => (if bt662.2 = 0 then ((image_After.f kj22 a0_0 a0_1 a0_2 a0_3 l0_4 bt662.1 (bt662.1.length : Int)).bind fun bt666 => (if bt666.2.2.2.2.2 = 0 then ((image_Same.f kj22 bt666.1 bt666.2.1 bt666.2.2.1 bt666.2.2.2.1 bt666.2.2.2.2.1 a1_0 a1_1 a1_2 a1_3 l1_4).bind fun t675 => (if t675 = true then ((image_Same.f kj22 a0_0 a0_1 a0_2 a0_3 l0_4 a1_0 a1_1 a1_2 a1_3 l1_4).bind fun t676 => (twoslotlaw09_ImageDiffs.j2 kj22 bt662.1 (((bt662.1.length : Int) == 0) != t676) a0_0 a0_1 a0_2 a0_3 l0_4 a1_0 a1_1 a1_2 a1_3 l1_4)) else (none))) else (none))) else (some ((bt662.1.length : Int) == 0)))) = some r := by rw [if_neg (show ¬ (false = true) by decide)] at H; exact H
                  clear H
                  have H := H1
                  clear H1
                  replace H := Option.bind_eq_some_iff.mp H
                  obtain ⟨⟨t662, t665⟩, A340, H⟩ := H
                  try dsimp only at H
                  have A34 := Aside0.mk A340
                  clear A340
                  by_cases c35 : t665 = 0
                  · rw [if_pos c35] at H
                    have c35b0 : (t665 == 0) = true := beq_iff_eq.mpr c35
                    have c35b1 : (t665 != 0) = false := bne_eq_false_iff_eq.mpr c35
                    clear c35
                    replace H := Option.bind_eq_some_iff.mp H
                    obtain ⟨⟨t666, t667, t668, t669, t670, t673⟩, A360, H⟩ := H
                    try dsimp only at H
                    have A36 := Aside0.mk A360
                    clear A360
                    have HC37 := Aside0.mk H
                    clear H
                    have hnb38 := NB651_652.out
                    have hnc38 := NB652_651.out
                    obtain ⟨hcz39_0, hcz39_1, hcz39_2, hcz39_3, hcz39_4, hfz39_0, hfz39_1, hfz39_2, hfz39_3, hfz39_4⟩ := cs5 BK651.out; obtain ⟨hcz40_0, hcz40_1, hcz40_2, hcz40_3, hcz40_4, hfz40_0, hfz40_1, hfz40_2, hfz40_3, hfz40_4⟩ := cs5 BK652.out
                    go_upto_region 15 with (first | (go_at_call 14; (with_reducible refine (image_Diff.calls kj22 a0_0 a0_1 a0_2 a0_3 _ _ l0_4 a1_0 a1_1 a1_2 a1_3 _ _ l1_4 t662 t665 _ ?side1 ?side2 ?side3 ?side4 A34.out).mono ?_); (case side1 => exact sC (Kd.C_below HR0_4.out HB.out)); (case side2 => exact HC0_4.out); (case side3 => exact sC (Kd.C_below HR1_4.out HB.out)); (case side4 => exact HC1_4.out); rintro e w41 ⟨v663, rfl, ho0, hb⟩; have HO664 := Aside0.mk (RO_lower ho0 (below_size (by repeat (first | exact sH HB.out | refine sN (w := w) ?_ | with_reducible refine sG (w := w) ?_ (by assumption))))); replace BK651 := kB BK651 hb; replace BK652 := kB BK652 hb; replace HB := Aside0.mk (below_step (by repeat (first | exact sH HB.out | refine sN (w := w) ?_ | with_reducible refine sG (w := w) ?_ (by assumption))) hb); (try clear hb); (try clear hb2); (try clear hk); (try clear hi); (try clear ho0); obtain ⟨hcz42_0, hcz42_1, hcz42_2, hcz42_3, hcz42_4, hfz42_0, hfz42_1, hfz42_2, hfz42_3, hfz42_4⟩ := cs5 BK651.out; obtain ⟨Ao43, co43, eo43⟩ := RO_slice HO664.out; subst eo43) | (go_at_call 13; (with_reducible refine (image_After.calls kj22 a0_0 a0_1 a0_2 a0_3 _ _ l0_4 _ _ t662 (t662.length : Int) t666 t667 t668 t669 t670 t673 _ ?side1 ?side2 ?side3 ?side4 A36.out).mono ?_); (case side1 => exact sC (Kd.C_below HR0_4.out HB.out)); (case side2 => exact HC0_4.out); (case side3 => repeat (first | exact (RO_reads' HO664.out).2.2 | (with_reducible refine Kd.C_alloc ?_ _) | (with_reducible refine Kd.C_drewN ?_ _) | (with_reducible refine Kd.C_drew ?_))); (case side4 => exact (RO_reads' HO664.out).2.1); rintro e w44 ⟨v671, rfl, ho0, hb⟩; replace HO664 := Aside0.mk (RO_below (by (with_reducible repeat (first | apply RO_alloc | apply RO_drewN | apply RO_drew)); exact HO664.out) hb); have HO672 := Aside0.mk (RO_lowerR ho0 (below_size (by repeat (first | exact sH HB.out | refine sN (w := w) ?_ | with_reducible refine sG (w := w) ?_ (by assumption))))); replace BK651 := kB BK651 hb; replace BK652 := kB BK652 hb; replace HB := Aside0.mk (below_step (by repeat (first | exact sH HB.out | refine sN (w := w) ?_ | with_reducible refine sG (w := w) ?_ (by assumption))) hb); (try clear hb); (try clear hb2); (try clear hk); (try clear hi); (try clear ho0)) | ((with_reducible refine gate_dst (N := 9) rfl ?_); (try (refine gate_guard (by rfl) ?_; dsimp only)); refine box_event rfl (N := 9) rfl (cs := #[.int .i64 0, .int .i64 0, .int .i64 0, .int .i64 0, .slice none 0 0]) (t := 27) (by go_simp; try rfl) ?_; intro gb674 hg w45 hbox hb; replace HO664 := Aside0.mk (RO_below (by (with_reducible repeat (first | apply RO_alloc | apply RO_drewN | apply RO_drew)); exact HO664.out) hb); replace HO672 := Aside0.mk (RO_below (by (with_reducible repeat (first | apply RO_alloc | apply RO_drewN | apply RO_drew)); exact HO672.out) hb); have BK674 := Aside0.mk (hbox); have GW674 := Aside0.mk ((by rw [hg]; exact (below_size (by repeat (first | exact sH HB.out | refine sN (w := w) ?_ | with_reducible refine sG (w := w) ?_ (by assumption)))) : w.heap.size ≤ gb674)); have GE674 := Aside0.mk ((by rw [hg]; exact (below_size (by repeat (first | exact sH HB.out | refine sN (w := w) ?_ | with_reducible refine sG (w := w) ?_ (by assumption)))) : w.heap.size ≤ gb674)); replace HB := Aside0.mk (below_step (by repeat (first | exact sH HB.out | refine sN (w := w) ?_ | with_reducible refine sG (w := w) ?_ (by assumption))) hb); have NB651_674 := Aside0.mk ((by rw [hg]; exact Nat.ne_of_lt (blk_lt (g := gb651) (o := .cells #[.int .i64 a0_0, .int .i64 a0_1, .int .i64 a0_2, .int .i64 a0_3, .slice A0_4 l0_4.length c0_4] 27 (0, 0)) (by first | exact BK651.out | (refine sO ?_; exact BK651.out))) : gb651 ≠ gb674)); have NB674_651 := Aside0.mk ((by rw [hg]; exact Nat.ne_of_gt (blk_lt (g := gb651) (o := .cells #[.int .i64 a0_0, .int .i64 a0_1, .int .i64 a0_2, .int .i64 a0_3, .slice A0_4 l0_4.length c0_4] 27 (0, 0)) (by first | exact BK651.out | (refine sO ?_; exact BK651.out))) : gb674 ≠ gb651)); replace BK651 := kB BK651 hb; have NB652_674 := Aside0.mk ((by rw [hg]; exact Nat.ne_of_lt (blk_lt (g := gb652) (o := .cells #[.int .i64 a1_0, .int .i64 a1_1, .int .i64 a1_2, .int .i64 a1_3, .slice A1_4 l1_4.length c1_4] 27 (0, 0)) (by first | exact BK652.out | (refine sO ?_; exact BK652.out))) : gb652 ≠ gb674)); have NB674_652 := Aside0.mk ((by rw [hg]; exact Nat.ne_of_gt (blk_lt (g := gb652) (o := .cells #[.int .i64 a1_0, .int .i64 a1_1, .int .i64 a1_2, .int .i64 a1_3, .slice A1_4 l1_4.length c1_4] 27 (0, 0)) (by first | exact BK652.out | (refine sO ?_; exact BK652.out))) : gb674 ≠ gb652)); replace BK652 := kB BK652 hb; clear hb hbox hg; have hnb46 := NB674_651.out; have hnc46 := NB651_674.out; have hnb47 := NB674_652.out; have hnc47 := NB652_674.out; obtain ⟨hcz48_0, hcz48_1, hcz48_2, hcz48_3, hcz48_4, hfz48_0, hfz48_1, hfz48_2, hfz48_3, hfz48_4⟩ := cs5 BK674.out; obtain ⟨Ao49, co49, eo49⟩ := RO_slice HO672.out; subst eo49))
                    repeat (go_quiet (first | (go_at_call 14; (with_reducible refine (image_Diff.calls kj22 a0_0 a0_1 a0_2 a0_3 _ _ l0_4 a1_0 a1_1 a1_2 a1_3 _ _ l1_4 t662 t665 _ ?side1 ?side2 ?side3 ?side4 A34.out).mono ?_); (case side1 => exact sC (Kd.C_below HR0_4.out HB.out)); (case side2 => exact HC0_4.out); (case side3 => exact sC (Kd.C_below HR1_4.out HB.out)); (case side4 => exact HC1_4.out); rintro e w41 ⟨v663, rfl, ho0, hb⟩; have HO664 := Aside0.mk (RO_lower ho0 (below_size (by repeat (first | exact sH HB.out | refine sN (w := w) ?_ | with_reducible refine sG (w := w) ?_ (by assumption))))); replace BK651 := kB BK651 hb; replace BK652 := kB BK652 hb; replace HB := Aside0.mk (below_step (by repeat (first | exact sH HB.out | refine sN (w := w) ?_ | with_reducible refine sG (w := w) ?_ (by assumption))) hb); (try clear hb); (try clear hb2); (try clear hk); (try clear hi); (try clear ho0); obtain ⟨hcz42_0, hcz42_1, hcz42_2, hcz42_3, hcz42_4, hfz42_0, hfz42_1, hfz42_2, hfz42_3, hfz42_4⟩ := cs5 BK651.out; obtain ⟨Ao43, co43, eo43⟩ := RO_slice HO664.out; subst eo43) | (go_at_call 13; (with_reducible refine (image_After.calls kj22 a0_0 a0_1 a0_2 a0_3 _ _ l0_4 _ _ t662 (t662.length : Int) t666 t667 t668 t669 t670 t673 _ ?side1 ?side2 ?side3 ?side4 A36.out).mono ?_); (case side1 => exact sC (Kd.C_below HR0_4.out HB.out)); (case side2 => exact HC0_4.out); (case side3 => repeat (first | exact (RO_reads' HO664.out).2.2 | (with_reducible refine Kd.C_alloc ?_ _) | (with_reducible refine Kd.C_drewN ?_ _) | (with_reducible refine Kd.C_drew ?_))); (case side4 => exact (RO_reads' HO664.out).2.1); rintro e w44 ⟨v671, rfl, ho0, hb⟩; replace HO664 := Aside0.mk (RO_below (by (with_reducible repeat (first | apply RO_alloc | apply RO_drewN | apply RO_drew)); exact HO664.out) hb); have HO672 := Aside0.mk (RO_lowerR ho0 (below_size (by repeat (first | exact sH HB.out | refine sN (w := w) ?_ | with_reducible refine sG (w := w) ?_ (by assumption))))); replace BK651 := kB BK651 hb; replace BK652 := kB BK652 hb; replace HB := Aside0.mk (below_step (by repeat (first | exact sH HB.out | refine sN (w := w) ?_ | with_reducible refine sG (w := w) ?_ (by assumption))) hb); (try clear hb); (try clear hb2); (try clear hk); (try clear hi); (try clear ho0)) | ((with_reducible refine gate_dst (N := 9) rfl ?_); (try (refine gate_guard (by rfl) ?_; dsimp only)); refine box_event rfl (N := 9) rfl (cs := #[.int .i64 0, .int .i64 0, .int .i64 0, .int .i64 0, .slice none 0 0]) (t := 27) (by go_simp; try rfl) ?_; intro gb674 hg w45 hbox hb; replace HO664 := Aside0.mk (RO_below (by (with_reducible repeat (first | apply RO_alloc | apply RO_drewN | apply RO_drew)); exact HO664.out) hb); replace HO672 := Aside0.mk (RO_below (by (with_reducible repeat (first | apply RO_alloc | apply RO_drewN | apply RO_drew)); exact HO672.out) hb); have BK674 := Aside0.mk (hbox); have GW674 := Aside0.mk ((by rw [hg]; exact (below_size (by repeat (first | exact sH HB.out | refine sN (w := w) ?_ | with_reducible refine sG (w := w) ?_ (by assumption)))) : w.heap.size ≤ gb674)); have GE674 := Aside0.mk ((by rw [hg]; exact (below_size (by repeat (first | exact sH HB.out | refine sN (w := w) ?_ | with_reducible refine sG (w := w) ?_ (by assumption)))) : w.heap.size ≤ gb674)); replace HB := Aside0.mk (below_step (by repeat (first | exact sH HB.out | refine sN (w := w) ?_ | with_reducible refine sG (w := w) ?_ (by assumption))) hb); have NB651_674 := Aside0.mk ((by rw [hg]; exact Nat.ne_of_lt (blk_lt (g := gb651) (o := .cells #[.int .i64 a0_0, .int .i64 a0_1, .int .i64 a0_2, .int .i64 a0_3, .slice A0_4 l0_4.length c0_4] 27 (0, 0)) (by first | exact BK651.out | (refine sO ?_; exact BK651.out))) : gb651 ≠ gb674)); have NB674_651 := Aside0.mk ((by rw [hg]; exact Nat.ne_of_gt (blk_lt (g := gb651) (o := .cells #[.int .i64 a0_0, .int .i64 a0_1, .int .i64 a0_2, .int .i64 a0_3, .slice A0_4 l0_4.length c0_4] 27 (0, 0)) (by first | exact BK651.out | (refine sO ?_; exact BK651.out))) : gb674 ≠ gb651)); replace BK651 := kB BK651 hb; have NB652_674 := Aside0.mk ((by rw [hg]; exact Nat.ne_of_lt (blk_lt (g := gb652) (o := .cells #[.int .i64 a1_0, .int .i64 a1_1, .int .i64 a1_2, .int .i64 a1_3, .slice A1_4 l1_4.length c1_4] 27 (0, 0)) (by first | exact BK652.out | (refine sO ?_; exact BK652.out))) : gb652 ≠ gb674)); have NB674_652 := Aside0.mk ((by rw [hg]; exact Nat.ne_of_gt (blk_lt (g := gb652) (o := .cells #[.int .i64 a1_0, .int .i64 a1_1, .int .i64 a1_2, .int .i64 a1_3, .slice A1_4 l1_4.length c1_4] 27 (0, 0)) (by first | exact BK652.out | (refine sO ?_; exact BK652.out))) : gb674 ≠ gb652)); replace BK652 := kB BK652 hb; clear hb hbox hg; have hnb46 := NB674_651.out; have hnc46 := NB651_674.out; have hnb47 := NB674_652.out; have hnc47 := NB652_674.out; obtain ⟨hcz48_0, hcz48_1, hcz48_2, hcz48_3, hcz48_4, hfz48_0, hfz48_1, hfz48_2, hfz48_3, hfz48_4⟩ := cs5 BK674.out; obtain ⟨Ao49, co49, eo49⟩ := RO_slice HO672.out; subst eo49)); go_upto_region 15 with (first | (go_at_call 14; (with_reducible refine (image_Diff.calls kj22 a0_0 a0_1 a0_2 a0_3 _ _ l0_4 a1_0 a1_1 a1_2 a1_3 _ _ l1_4 t662 t665 _ ?side1 ?side2 ?side3 ?side4 A34.out).mono ?_); (case side1 => exact sC (Kd.C_below HR0_4.out HB.out)); (case side2 => exact HC0_4.out); (case side3 => exact sC (Kd.C_below HR1_4.out HB.out)); (case side4 => exact HC1_4.out); rintro e w41 ⟨v663, rfl, ho0, hb⟩; have HO664 := Aside0.mk (RO_lower ho0 (below_size (by repeat (first | exact sH HB.out | refine sN (w := w) ?_ | with_reducible refine sG (w := w) ?_ (by assumption))))); replace BK651 := kB BK651 hb; replace BK652 := kB BK652 hb; replace HB := Aside0.mk (below_step (by repeat (first | exact sH HB.out | refine sN (w := w) ?_ | with_reducible refine sG (w := w) ?_ (by assumption))) hb); (try clear hb); (try clear hb2); (try clear hk); (try clear hi); (try clear ho0); obtain ⟨hcz42_0, hcz42_1, hcz42_2, hcz42_3, hcz42_4, hfz42_0, hfz42_1, hfz42_2, hfz42_3, hfz42_4⟩ := cs5 BK651.out; obtain ⟨Ao43, co43, eo43⟩ := RO_slice HO664.out; subst eo43) | (go_at_call 13; (with_reducible refine (image_After.calls kj22 a0_0 a0_1 a0_2 a0_3 _ _ l0_4 _ _ t662 (t662.length : Int) t666 t667 t668 t669 t670 t673 _ ?side1 ?side2 ?side3 ?side4 A36.out).mono ?_); (case side1 => exact sC (Kd.C_below HR0_4.out HB.out)); (case side2 => exact HC0_4.out); (case side3 => repeat (first | exact (RO_reads' HO664.out).2.2 | (with_reducible refine Kd.C_alloc ?_ _) | (with_reducible refine Kd.C_drewN ?_ _) | (with_reducible refine Kd.C_drew ?_))); (case side4 => exact (RO_reads' HO664.out).2.1); rintro e w44 ⟨v671, rfl, ho0, hb⟩; replace HO664 := Aside0.mk (RO_below (by (with_reducible repeat (first | apply RO_alloc | apply RO_drewN | apply RO_drew)); exact HO664.out) hb); have HO672 := Aside0.mk (RO_lowerR ho0 (below_size (by repeat (first | exact sH HB.out | refine sN (w := w) ?_ | with_reducible refine sG (w := w) ?_ (by assumption))))); replace BK651 := kB BK651 hb; replace BK652 := kB BK652 hb; replace HB := Aside0.mk (below_step (by repeat (first | exact sH HB.out | refine sN (w := w) ?_ | with_reducible refine sG (w := w) ?_ (by assumption))) hb); (try clear hb); (try clear hb2); (try clear hk); (try clear hi); (try clear ho0)) | ((with_reducible refine gate_dst (N := 9) rfl ?_); (try (refine gate_guard (by rfl) ?_; dsimp only)); refine box_event rfl (N := 9) rfl (cs := #[.int .i64 0, .int .i64 0, .int .i64 0, .int .i64 0, .slice none 0 0]) (t := 27) (by go_simp; try rfl) ?_; intro gb674 hg w45 hbox hb; replace HO664 := Aside0.mk (RO_below (by (with_reducible repeat (first | apply RO_alloc | apply RO_drewN | apply RO_drew)); exact HO664.out) hb); replace HO672 := Aside0.mk (RO_below (by (with_reducible repeat (first | apply RO_alloc | apply RO_drewN | apply RO_drew)); exact HO672.out) hb); have BK674 := Aside0.mk (hbox); have GW674 := Aside0.mk ((by rw [hg]; exact (below_size (by repeat (first | exact sH HB.out | refine sN (w := w) ?_ | with_reducible refine sG (w := w) ?_ (by assumption)))) : w.heap.size ≤ gb674)); have GE674 := Aside0.mk ((by rw [hg]; exact (below_size (by repeat (first | exact sH HB.out | refine sN (w := w) ?_ | with_reducible refine sG (w := w) ?_ (by assumption)))) : w.heap.size ≤ gb674)); replace HB := Aside0.mk (below_step (by repeat (first | exact sH HB.out | refine sN (w := w) ?_ | with_reducible refine sG (w := w) ?_ (by assumption))) hb); have NB651_674 := Aside0.mk ((by rw [hg]; exact Nat.ne_of_lt (blk_lt (g := gb651) (o := .cells #[.int .i64 a0_0, .int .i64 a0_1, .int .i64 a0_2, .int .i64 a0_3, .slice A0_4 l0_4.length c0_4] 27 (0, 0)) (by first | exact BK651.out | (refine sO ?_; exact BK651.out))) : gb651 ≠ gb674)); have NB674_651 := Aside0.mk ((by rw [hg]; exact Nat.ne_of_gt (blk_lt (g := gb651) (o := .cells #[.int .i64 a0_0, .int .i64 a0_1, .int .i64 a0_2, .int .i64 a0_3, .slice A0_4 l0_4.length c0_4] 27 (0, 0)) (by first | exact BK651.out | (refine sO ?_; exact BK651.out))) : gb674 ≠ gb651)); replace BK651 := kB BK651 hb; have NB652_674 := Aside0.mk ((by rw [hg]; exact Nat.ne_of_lt (blk_lt (g := gb652) (o := .cells #[.int .i64 a1_0, .int .i64 a1_1, .int .i64 a1_2, .int .i64 a1_3, .slice A1_4 l1_4.length c1_4] 27 (0, 0)) (by first | exact BK652.out | (refine sO ?_; exact BK652.out))) : gb652 ≠ gb674)); have NB674_652 := Aside0.mk ((by rw [hg]; exact Nat.ne_of_gt (blk_lt (g := gb652) (o := .cells #[.int .i64 a1_0, .int .i64 a1_1, .int .i64 a1_2, .int .i64 a1_3, .slice A1_4 l1_4.length c1_4] 27 (0, 0)) (by first | exact BK652.out | (refine sO ?_; exact BK652.out))) : gb674 ≠ gb652)); replace BK652 := kB BK652 hb; clear hb hbox hg; have hnb46 := NB674_651.out; have hnc46 := NB651_674.out; have hnb47 := NB674_652.out; have hnc47 := NB652_674.out; obtain ⟨hcz48_0, hcz48_1, hcz48_2, hcz48_3, hcz48_4, hfz48_0, hfz48_1, hfz48_2, hfz48_3, hfz48_4⟩ := cs5 BK674.out; obtain ⟨Ao49, co49, eo49⟩ := RO_slice HO672.out; subst eo49)))
                    (try simp only [Act.put, List.setIfInBounds_toArray, List.set_cons_zero, List.set_cons_succ])
                    go_cut [90] (fun v90 wc => ∃ (kq : Nat) (x90_36 : Bool), v90 = .bool x90_36 ∧ Aside0 (twoslotlaw09_ImageDiffs.j2 kq t662 x90_36 a0_0 a0_1 a0_2 a0_3 l0_4 a1_0 a1_1 a1_2 a1_3 l1_4 = some r) ∧ Aside0 (kq ≤ kj22) ∧ Aside0 (RO k35 35 wc w.heap.size (fun _ => True) (.slice Ao43 t662.length co43) t662) ∧ Aside0 (RO (Kd.slice 5 (Kd.int .u8)) 33 wc w.heap.size (fun _ => True) (.slice Ao49 t670.length co49) t670) ∧ Aside0 (wc.heap[gb651]? = some (.cells #[.int .i64 a0_0, .int .i64 a0_1, .int .i64 a0_2, .int .i64 a0_3, (.slice A0_4 l0_4.length c0_4)] 27 (0, 0))) ∧ Aside0 (wc.heap[gb652]? = some (.cells #[.int .i64 a1_0, .int .i64 a1_1, .int .i64 a1_2, .int .i64 a1_3, (.slice A1_4 l1_4.length c1_4)] 27 (0, 0))) ∧ Aside0 (wc.heap[gb674]? = some (.cells #[.int .i64 t666, .int .i64 t667, .int .i64 t668, .int .i64 t669, (.slice Ao49 t670.length co49)] 27 (0, 0))) ∧ Aside0 (Below w.heap.size w wc))
                    case first =>
                      have H := HC37.out
                      clear HC37
                      by_cases c50 : t673 = 0
                      · rw [if_pos c50] at H
                        have c50b0 : (t673 == 0) = true := beq_iff_eq.mpr c50
                        have c50b1 : (t673 != 0) = false := bne_eq_false_iff_eq.mpr c50
                        clear c50
                        (first | rw [c50b0] | (simp only [i64_w, i32_w]; rw [c50b0]) | skip)
                        replace H := Option.bind_eq_some_iff.mp H
                        obtain ⟨t675, A510, H⟩ := H
                        try dsimp only at H
                        have A51 := Aside0.mk A510
                        clear A510
                        by_cases c52 : t675 = true
                        · subst c52
                          have H1 : ((image_Same.f kj22 a0_0 a0_1 a0_2 a0_3 l0_4 a1_0 a1_1 a1_2 a1_3 l1_4).bind fun t676 => (twoslotlaw09_ImageDiffs.j2 kj22 t662 (((t662.length : Int) == 0) != t676) a0_0 a0_1 a0_2 a0_3 l0_4 a1_0 a1_1 a1_2 a1_3 l1_4)) = some r := by rw [if_pos rfl] at H; exact H
                          clear H
                          have H := H1
                          clear H1
                          replace H := Option.bind_eq_some_iff.mp H
                          obtain ⟨t676, A530, H⟩ := H
                          try dsimp only at H
                          have A53 := Aside0.mk A530
                          clear A530
                          have H' := Aside0.mk H
                          clear H
                          have hnb54 := NB674_651.out
                          have hnc54 := NB651_674.out
                          have hnb55 := NB674_652.out
                          have hnc55 := NB652_674.out
                          obtain ⟨hcz56_0, hcz56_1, hcz56_2, hcz56_3, hcz56_4, hfz56_0, hfz56_1, hfz56_2, hfz56_3, hfz56_4⟩ := cs5 BK674.out
                          have hnb57 := NB652_651.out
                          have hnc57 := NB651_652.out
                          obtain ⟨hcz58_0, hcz58_1, hcz58_2, hcz58_3, hcz58_4, hfz58_0, hfz58_1, hfz58_2, hfz58_3, hfz58_4⟩ := cs5 BK652.out
                          go_wp2_with (first | (go_at_call 34; (with_reducible refine (image_Same.calls kj22 t666 t667 t668 t669 _ _ t670 a1_0 a1_1 a1_2 a1_3 _ _ l1_4 true _ ?side1 ?side2 ?side3 ?side4 A51.out).mono ?_); (case side1 => refine (RO_reads' (e := 33) (base := w.heap.size) (ok := fun k_ => True) (n := t670.length) (c := co49) ?_).2.2; exact (by (with_reducible repeat (first | apply RO_alloc | apply RO_drewN | apply RO_drew)); exact (RO_mono (RO_far (p := ⟨gb674, 4, none⟩) (RO_far (p := ⟨gb674, 3, none⟩) (RO_far (p := ⟨gb674, 2, none⟩) (RO_far (p := ⟨gb674, 1, none⟩) (RO_far (p := ⟨gb674, 0, none⟩) (RO_types HO672.out BK674.out (by decide) GE674.out) (.int .i64 t666)) (.int .i64 t667)) (.int .i64 t668)) (.int .i64 t669)) (.slice Ao49 t670.length co49))))); (case side2 => exact (RO_reads' HO672.out).2.1); (case side3 => exact Kd.C_below HR1_4.out (by repeat (first | exact sH HB.out | refine sN (w := w) ?_ | with_reducible refine sG (w := w) ?_ (by assumption)))); (case side4 => exact HC1_4.out); rintro e w59 ⟨rfl, hb⟩; clear A51; replace HO664 := Aside0.mk (RO_below (by (with_reducible repeat (first | apply RO_alloc | apply RO_drewN | apply RO_drew)); exact (RO_mono (RO_far (p := ⟨gb674, 4, none⟩) (RO_far (p := ⟨gb674, 3, none⟩) (RO_far (p := ⟨gb674, 2, none⟩) (RO_far (p := ⟨gb674, 1, none⟩) (RO_far (p := ⟨gb674, 0, none⟩) (RO_types HO664.out BK674.out (by decide) GE674.out) (.int .i64 t666)) (.int .i64 t667)) (.int .i64 t668)) (.int .i64 t669)) (.slice Ao49 t670.length co49)))) hb); replace HO672 := Aside0.mk (RO_below (by (with_reducible repeat (first | apply RO_alloc | apply RO_drewN | apply RO_drew)); exact (RO_mono (RO_far (p := ⟨gb674, 4, none⟩) (RO_far (p := ⟨gb674, 3, none⟩) (RO_far (p := ⟨gb674, 2, none⟩) (RO_far (p := ⟨gb674, 1, none⟩) (RO_far (p := ⟨gb674, 0, none⟩) (RO_types HO672.out BK674.out (by decide) GE674.out) (.int .i64 t666)) (.int .i64 t667)) (.int .i64 t668)) (.int .i64 t669)) (.slice Ao49 t670.length co49)))) hb); replace BK651 := Aside0.mk (blk_below (g := gb651) (o := .cells #[.int .i64 a0_0, .int .i64 a0_1, .int .i64 a0_2, .int .i64 a0_3, .slice A0_4 l0_4.length c0_4] 27 (0, 0)) (by (try refine sO ?_); refine blk_far ?_ NB651_674.out _; (try refine sO ?_); refine blk_far ?_ NB651_674.out _; (try refine sO ?_); refine blk_far ?_ NB651_674.out _; (try refine sO ?_); refine blk_far ?_ NB651_674.out _; (try refine sO ?_); refine blk_far ?_ NB651_674.out _; first | exact BK651.out | (refine sO ?_; exact BK651.out)) hb); replace BK652 := Aside0.mk (blk_below (g := gb652) (o := .cells #[.int .i64 a1_0, .int .i64 a1_1, .int .i64 a1_2, .int .i64 a1_3, .slice A1_4 l1_4.length c1_4] 27 (0, 0)) (by (try refine sO ?_); refine blk_far ?_ NB652_674.out _; (try refine sO ?_); refine blk_far ?_ NB652_674.out _; (try refine sO ?_); refine blk_far ?_ NB652_674.out _; (try refine sO ?_); refine blk_far ?_ NB652_674.out _; (try refine sO ?_); refine blk_far ?_ NB652_674.out _; first | exact BK652.out | (refine sO ?_; exact BK652.out)) hb); replace BK674 := Aside0.mk (blk_below (g := gb674) (o := .cells #[.int .i64 t666, .int .i64 t667, .int .i64 t668, .int .i64 t669, .slice Ao49 t670.length co49] 27 (0, 0)) (by (try refine sO ?_); refine blk_put (cs := #[.int .i64 t666, .int .i64 t667, .int .i64 t668, .int .i64 t669, .slice none 0 0]) ?_ 4 _ rfl; (try refine sO ?_); refine blk_put (cs := #[.int .i64 t666, .int .i64 t667, .int .i64 t668, .int .i64 0, .slice none 0 0]) ?_ 3 _ rfl; (try refine sO ?_); refine blk_put (cs := #[.int .i64 t666, .int .i64 t667, .int .i64 0, .int .i64 0, .slice none 0 0]) ?_ 2 _ rfl; (try refine sO ?_); refine blk_put (cs := #[.int .i64 t666, .int .i64 0, .int .i64 0, .int .i64 0, .slice none 0 0]) ?_ 1 _ rfl; (try refine sO ?_); refine blk_put (cs := #[.int .i64 0, .int .i64 0, .int .i64 0, .int .i64 0, .slice none 0 0]) ?_ 0 _ rfl; first | exact BK674.out | (refine sO ?_; exact BK674.out)) hb); replace HB := Aside0.mk (below_step (by repeat (first | exact sH HB.out | refine sN (w := w) ?_ | with_reducible refine sG (w := w) ?_ (by assumption))) hb); (try clear hb); (try clear hb2); (try clear hk); (try clear hi); obtain ⟨hcz60_0, hcz60_1, hcz60_2, hcz60_3, hcz60_4, hfz60_0, hfz60_1, hfz60_2, hfz60_3, hfz60_4⟩ := cs5 BK651.out; obtain ⟨hcz61_0, hcz61_1, hcz61_2, hcz61_3, hcz61_4, hfz61_0, hfz61_1, hfz61_2, hfz61_3, hfz61_4⟩ := cs5 BK652.out) | (go_at_call 34; (with_reducible refine (image_Same.calls kj22 a0_0 a0_1 a0_2 a0_3 _ _ l0_4 a1_0 a1_1 a1_2 a1_3 _ _ l1_4 t676 _ ?side1 ?side2 ?side3 ?side4 A53.out).mono ?_); (case side1 => exact sC (Kd.C_below HR0_4.out HB.out)); (case side2 => exact HC0_4.out); (case side3 => exact sC (Kd.C_below HR1_4.out HB.out)); (case side4 => exact HC1_4.out); rintro e w62 ⟨rfl, hb⟩; clear A53; replace HO664 := Aside0.mk (RO_below (by (with_reducible repeat (first | apply RO_alloc | apply RO_drewN | apply RO_drew)); exact HO664.out) hb); replace HO672 := Aside0.mk (RO_below (by (with_reducible repeat (first | apply RO_alloc | apply RO_drewN | apply RO_drew)); exact HO672.out) hb); replace BK651 := kB BK651 hb; replace BK652 := kB BK652 hb; replace BK674 := kB BK674 hb; replace HB := Aside0.mk (below_step (by repeat (first | exact sH HB.out | refine sN (w := w) ?_ | with_reducible refine sG (w := w) ?_ (by assumption))) hb); (try clear hb); (try clear hb2); (try clear hk); (try clear hi)))
                          repeat (go_quiet (first | (go_at_call 34; (with_reducible refine (image_Same.calls kj22 t666 t667 t668 t669 _ _ t670 a1_0 a1_1 a1_2 a1_3 _ _ l1_4 true _ ?side1 ?side2 ?side3 ?side4 A51.out).mono ?_); (case side1 => refine (RO_reads' (e := 33) (base := w.heap.size) (ok := fun k_ => True) (n := t670.length) (c := co49) ?_).2.2; exact (by (with_reducible repeat (first | apply RO_alloc | apply RO_drewN | apply RO_drew)); exact (RO_mono (RO_far (p := ⟨gb674, 4, none⟩) (RO_far (p := ⟨gb674, 3, none⟩) (RO_far (p := ⟨gb674, 2, none⟩) (RO_far (p := ⟨gb674, 1, none⟩) (RO_far (p := ⟨gb674, 0, none⟩) (RO_types HO672.out BK674.out (by decide) GE674.out) (.int .i64 t666)) (.int .i64 t667)) (.int .i64 t668)) (.int .i64 t669)) (.slice Ao49 t670.length co49))))); (case side2 => exact (RO_reads' HO672.out).2.1); (case side3 => exact Kd.C_below HR1_4.out (by repeat (first | exact sH HB.out | refine sN (w := w) ?_ | with_reducible refine sG (w := w) ?_ (by assumption)))); (case side4 => exact HC1_4.out); rintro e w59 ⟨rfl, hb⟩; clear A51; replace HO664 := Aside0.mk (RO_below (by (with_reducible repeat (first | apply RO_alloc | apply RO_drewN | apply RO_drew)); exact (RO_mono (RO_far (p := ⟨gb674, 4, none⟩) (RO_far (p := ⟨gb674, 3, none⟩) (RO_far (p := ⟨gb674, 2, none⟩) (RO_far (p := ⟨gb674, 1, none⟩) (RO_far (p := ⟨gb674, 0, none⟩) (RO_types HO664.out BK674.out (by decide) GE674.out) (.int .i64 t666)) (.int .i64 t667)) (.int .i64 t668)) (.int .i64 t669)) (.slice Ao49 t670.length co49)))) hb); replace HO672 := Aside0.mk (RO_below (by (with_reducible repeat (first | apply RO_alloc | apply RO_drewN | apply RO_drew)); exact (RO_mono (RO_far (p := ⟨gb674, 4, none⟩) (RO_far (p := ⟨gb674, 3, none⟩) (RO_far (p := ⟨gb674, 2, none⟩) (RO_far (p := ⟨gb674, 1, none⟩) (RO_far (p := ⟨gb674, 0, none⟩) (RO_types HO672.out BK674.out (by decide) GE674.out) (.int .i64 t666)) (.int .i64 t667)) (.int .i64 t668)) (.int .i64 t669)) (.slice Ao49 t670.length co49)))) hb); replace BK651 := Aside0.mk (blk_below (g := gb651) (o := .cells #[.int .i64 a0_0, .int .i64 a0_1, .int .i64 a0_2, .int .i64 a0_3, .slice A0_4 l0_4.length c0_4] 27 (0, 0)) (by (try refine sO ?_); refine blk_far ?_ NB651_674.out _; (try refine sO ?_); refine blk_far ?_ NB651_674.out _; (try refine sO ?_); refine blk_far ?_ NB651_674.out _; (try refine sO ?_); refine blk_far ?_ NB651_674.out _; (try refine sO ?_); refine blk_far ?_ NB651_674.out _; first | exact BK651.out | (refine sO ?_; exact BK651.out)) hb); replace BK652 := Aside0.mk (blk_below (g := gb652) (o := .cells #[.int .i64 a1_0, .int .i64 a1_1, .int .i64 a1_2, .int .i64 a1_3, .slice A1_4 l1_4.length c1_4] 27 (0, 0)) (by (try refine sO ?_); refine blk_far ?_ NB652_674.out _; (try refine sO ?_); refine blk_far ?_ NB652_674.out _; (try refine sO ?_); refine blk_far ?_ NB652_674.out _; (try refine sO ?_); refine blk_far ?_ NB652_674.out _; (try refine sO ?_); refine blk_far ?_ NB652_674.out _; first | exact BK652.out | (refine sO ?_; exact BK652.out)) hb); replace BK674 := Aside0.mk (blk_below (g := gb674) (o := .cells #[.int .i64 t666, .int .i64 t667, .int .i64 t668, .int .i64 t669, .slice Ao49 t670.length co49] 27 (0, 0)) (by (try refine sO ?_); refine blk_put (cs := #[.int .i64 t666, .int .i64 t667, .int .i64 t668, .int .i64 t669, .slice none 0 0]) ?_ 4 _ rfl; (try refine sO ?_); refine blk_put (cs := #[.int .i64 t666, .int .i64 t667, .int .i64 t668, .int .i64 0, .slice none 0 0]) ?_ 3 _ rfl; (try refine sO ?_); refine blk_put (cs := #[.int .i64 t666, .int .i64 t667, .int .i64 0, .int .i64 0, .slice none 0 0]) ?_ 2 _ rfl; (try refine sO ?_); refine blk_put (cs := #[.int .i64 t666, .int .i64 0, .int .i64 0, .int .i64 0, .slice none 0 0]) ?_ 1 _ rfl; (try refine sO ?_); refine blk_put (cs := #[.int .i64 0, .int .i64 0, .int .i64 0, .int .i64 0, .slice none 0 0]) ?_ 0 _ rfl; first | exact BK674.out | (refine sO ?_; exact BK674.out)) hb); replace HB := Aside0.mk (below_step (by repeat (first | exact sH HB.out | refine sN (w := w) ?_ | with_reducible refine sG (w := w) ?_ (by assumption))) hb); (try clear hb); (try clear hb2); (try clear hk); (try clear hi); obtain ⟨hcz60_0, hcz60_1, hcz60_2, hcz60_3, hcz60_4, hfz60_0, hfz60_1, hfz60_2, hfz60_3, hfz60_4⟩ := cs5 BK651.out; obtain ⟨hcz61_0, hcz61_1, hcz61_2, hcz61_3, hcz61_4, hfz61_0, hfz61_1, hfz61_2, hfz61_3, hfz61_4⟩ := cs5 BK652.out) | (go_at_call 34; (with_reducible refine (image_Same.calls kj22 a0_0 a0_1 a0_2 a0_3 _ _ l0_4 a1_0 a1_1 a1_2 a1_3 _ _ l1_4 t676 _ ?side1 ?side2 ?side3 ?side4 A53.out).mono ?_); (case side1 => exact sC (Kd.C_below HR0_4.out HB.out)); (case side2 => exact HC0_4.out); (case side3 => exact sC (Kd.C_below HR1_4.out HB.out)); (case side4 => exact HC1_4.out); rintro e w62 ⟨rfl, hb⟩; clear A53; replace HO664 := Aside0.mk (RO_below (by (with_reducible repeat (first | apply RO_alloc | apply RO_drewN | apply RO_drew)); exact HO664.out) hb); replace HO672 := Aside0.mk (RO_below (by (with_reducible repeat (first | apply RO_alloc | apply RO_drewN | apply RO_drew)); exact HO672.out) hb); replace BK651 := kB BK651 hb; replace BK652 := kB BK652 hb; replace BK674 := kB BK674 hb; replace HB := Aside0.mk (below_step (by repeat (first | exact sH HB.out | refine sN (w := w) ?_ | with_reducible refine sG (w := w) ?_ (by assumption))) hb); (try clear hb); (try clear hb2); (try clear hk); (try clear hi))); try go_wp2_with (first | (go_at_call 34; (with_reducible refine (image_Same.calls kj22 t666 t667 t668 t669 _ _ t670 a1_0 a1_1 a1_2 a1_3 _ _ l1_4 true _ ?side1 ?side2 ?side3 ?side4 A51.out).mono ?_); (case side1 => refine (RO_reads' (e := 33) (base := w.heap.size) (ok := fun k_ => True) (n := t670.length) (c := co49) ?_).2.2; exact (by (with_reducible repeat (first | apply RO_alloc | apply RO_drewN | apply RO_drew)); exact (RO_mono (RO_far (p := ⟨gb674, 4, none⟩) (RO_far (p := ⟨gb674, 3, none⟩) (RO_far (p := ⟨gb674, 2, none⟩) (RO_far (p := ⟨gb674, 1, none⟩) (RO_far (p := ⟨gb674, 0, none⟩) (RO_types HO672.out BK674.out (by decide) GE674.out) (.int .i64 t666)) (.int .i64 t667)) (.int .i64 t668)) (.int .i64 t669)) (.slice Ao49 t670.length co49))))); (case side2 => exact (RO_reads' HO672.out).2.1); (case side3 => exact Kd.C_below HR1_4.out (by repeat (first | exact sH HB.out | refine sN (w := w) ?_ | with_reducible refine sG (w := w) ?_ (by assumption)))); (case side4 => exact HC1_4.out); rintro e w59 ⟨rfl, hb⟩; clear A51; replace HO664 := Aside0.mk (RO_below (by (with_reducible repeat (first | apply RO_alloc | apply RO_drewN | apply RO_drew)); exact (RO_mono (RO_far (p := ⟨gb674, 4, none⟩) (RO_far (p := ⟨gb674, 3, none⟩) (RO_far (p := ⟨gb674, 2, none⟩) (RO_far (p := ⟨gb674, 1, none⟩) (RO_far (p := ⟨gb674, 0, none⟩) (RO_types HO664.out BK674.out (by decide) GE674.out) (.int .i64 t666)) (.int .i64 t667)) (.int .i64 t668)) (.int .i64 t669)) (.slice Ao49 t670.length co49)))) hb); replace HO672 := Aside0.mk (RO_below (by (with_reducible repeat (first | apply RO_alloc | apply RO_drewN | apply RO_drew)); exact (RO_mono (RO_far (p := ⟨gb674, 4, none⟩) (RO_far (p := ⟨gb674, 3, none⟩) (RO_far (p := ⟨gb674, 2, none⟩) (RO_far (p := ⟨gb674, 1, none⟩) (RO_far (p := ⟨gb674, 0, none⟩) (RO_types HO672.out BK674.out (by decide) GE674.out) (.int .i64 t666)) (.int .i64 t667)) (.int .i64 t668)) (.int .i64 t669)) (.slice Ao49 t670.length co49)))) hb); replace BK651 := Aside0.mk (blk_below (g := gb651) (o := .cells #[.int .i64 a0_0, .int .i64 a0_1, .int .i64 a0_2, .int .i64 a0_3, .slice A0_4 l0_4.length c0_4] 27 (0, 0)) (by (try refine sO ?_); refine blk_far ?_ NB651_674.out _; (try refine sO ?_); refine blk_far ?_ NB651_674.out _; (try refine sO ?_); refine blk_far ?_ NB651_674.out _; (try refine sO ?_); refine blk_far ?_ NB651_674.out _; (try refine sO ?_); refine blk_far ?_ NB651_674.out _; first | exact BK651.out | (refine sO ?_; exact BK651.out)) hb); replace BK652 := Aside0.mk (blk_below (g := gb652) (o := .cells #[.int .i64 a1_0, .int .i64 a1_1, .int .i64 a1_2, .int .i64 a1_3, .slice A1_4 l1_4.length c1_4] 27 (0, 0)) (by (try refine sO ?_); refine blk_far ?_ NB652_674.out _; (try refine sO ?_); refine blk_far ?_ NB652_674.out _; (try refine sO ?_); refine blk_far ?_ NB652_674.out _; (try refine sO ?_); refine blk_far ?_ NB652_674.out _; (try refine sO ?_); refine blk_far ?_ NB652_674.out _; first | exact BK652.out | (refine sO ?_; exact BK652.out)) hb); replace BK674 := Aside0.mk (blk_below (g := gb674) (o := .cells #[.int .i64 t666, .int .i64 t667, .int .i64 t668, .int .i64 t669, .slice Ao49 t670.length co49] 27 (0, 0)) (by (try refine sO ?_); refine blk_put (cs := #[.int .i64 t666, .int .i64 t667, .int .i64 t668, .int .i64 t669, .slice none 0 0]) ?_ 4 _ rfl; (try refine sO ?_); refine blk_put (cs := #[.int .i64 t666, .int .i64 t667, .int .i64 t668, .int .i64 0, .slice none 0 0]) ?_ 3 _ rfl; (try refine sO ?_); refine blk_put (cs := #[.int .i64 t666, .int .i64 t667, .int .i64 0, .int .i64 0, .slice none 0 0]) ?_ 2 _ rfl; (try refine sO ?_); refine blk_put (cs := #[.int .i64 t666, .int .i64 0, .int .i64 0, .int .i64 0, .slice none 0 0]) ?_ 1 _ rfl; (try refine sO ?_); refine blk_put (cs := #[.int .i64 0, .int .i64 0, .int .i64 0, .int .i64 0, .slice none 0 0]) ?_ 0 _ rfl; first | exact BK674.out | (refine sO ?_; exact BK674.out)) hb); replace HB := Aside0.mk (below_step (by repeat (first | exact sH HB.out | refine sN (w := w) ?_ | with_reducible refine sG (w := w) ?_ (by assumption))) hb); (try clear hb); (try clear hb2); (try clear hk); (try clear hi); obtain ⟨hcz60_0, hcz60_1, hcz60_2, hcz60_3, hcz60_4, hfz60_0, hfz60_1, hfz60_2, hfz60_3, hfz60_4⟩ := cs5 BK651.out; obtain ⟨hcz61_0, hcz61_1, hcz61_2, hcz61_3, hcz61_4, hfz61_0, hfz61_1, hfz61_2, hfz61_3, hfz61_4⟩ := cs5 BK652.out) | (go_at_call 34; (with_reducible refine (image_Same.calls kj22 a0_0 a0_1 a0_2 a0_3 _ _ l0_4 a1_0 a1_1 a1_2 a1_3 _ _ l1_4 t676 _ ?side1 ?side2 ?side3 ?side4 A53.out).mono ?_); (case side1 => exact sC (Kd.C_below HR0_4.out HB.out)); (case side2 => exact HC0_4.out); (case side3 => exact sC (Kd.C_below HR1_4.out HB.out)); (case side4 => exact HC1_4.out); rintro e w62 ⟨rfl, hb⟩; clear A53; replace HO664 := Aside0.mk (RO_below (by (with_reducible repeat (first | apply RO_alloc | apply RO_drewN | apply RO_drew)); exact HO664.out) hb); replace HO672 := Aside0.mk (RO_below (by (with_reducible repeat (first | apply RO_alloc | apply RO_drewN | apply RO_drew)); exact HO672.out) hb); replace BK651 := kB BK651 hb; replace BK652 := kB BK652 hb; replace BK674 := kB BK674 hb; replace HB := Aside0.mk (below_step (by repeat (first | exact sH HB.out | refine sN (w := w) ?_ | with_reducible refine sG (w := w) ?_ (by assumption))) hb); (try clear hb); (try clear hb2); (try clear hk); (try clear hi))))
                          go_meet
                          case rel => exact ⟨_, ((((t662.length : Int) == 0) != t676)), (by first | rfl | (simp; done) | (simp [*]; done)), H', ⟨by have := HJ4.out; have := HJ22.out; first | omega | exact Nat.le_refl _⟩, ⟨by (with_reducible repeat (first | apply RO_alloc | apply RO_drewN | apply RO_drew)); exact HO664.out⟩, ⟨by (with_reducible repeat (first | apply RO_alloc | apply RO_drewN | apply RO_drew)); exact HO672.out⟩, ⟨by (try refine sO ?_); exact BK651.out⟩, ⟨by (try refine sO ?_); exact BK652.out⟩, ⟨by (try refine sO ?_); exact BK674.out⟩, ⟨by repeat (first | exact sH HB.out | refine sN (w := w) ?_ | with_reducible refine sG (w := w) ?_ (by assumption))⟩⟩
                        · replace c52 := Bool.eq_false_iff.mpr c52
                          subst c52
                          have H1 : (none) = some r := by rw [if_neg (show ¬ (false = true) by decide)] at H; exact H
                          clear H
                          have H := H1
                          clear H1
                          exact absurd H (by simp)
                      · rw [if_neg c50] at H
                        exact absurd H (by simp)
                    case rest =>
                      clear HC37
                      try clear c1
                      try clear c2
                      try clear p2
                      try clear c3
                      try clear c4
                      try clear c5
                      try clear c8
                      try clear c10
                      try clear c11
                      try clear c15
                      try clear c20
                      try clear c22
                      try clear c22b0
                      try clear c22b1
                      try clear c24
                      try clear c27
                      try clear c27b0
                      try clear c27b1
                      try clear c30
                      try clear c33
                      try clear c35
                      try clear c35b0
                      try clear c35b1
                      try clear c38
                      try clear c46
                      try clear c47
                      try clear c50
                      try clear c50b0
                      try clear c50b1
                      try clear c52
                      try clear c54
                      try clear c55
                      try clear c57
                      try clear hcz12_0
                      try clear hcz12_1
                      try clear hcz12_2
                      try clear hcz12_3
                      try clear hcz12_4
                      try clear hcz16_0
                      try clear hcz16_1
                      try clear hcz16_2
                      try clear hcz16_3
                      try clear hcz16_4
                      try clear hcz18_0
                      try clear hcz18_1
                      try clear hcz18_2
                      try clear hcz18_3
                      try clear hcz18_4
                      try clear hcz25_0
                      try clear hcz25_1
                      try clear hcz25_2
                      try clear hcz25_3
                      try clear hcz25_4
                      try clear hcz31_0
                      try clear hcz31_1
                      try clear hcz31_2
                      try clear hcz31_3
                      try clear hcz31_4
                      try clear hcz39_0
                      try clear hcz39_1
                      try clear hcz39_2
                      try clear hcz39_3
                      try clear hcz39_4
                      try clear hcz40_0
                      try clear hcz40_1
                      try clear hcz40_2
                      try clear hcz40_3
                      try clear hcz40_4
                      try clear hcz42_0
                      try clear hcz42_1
                      try clear hcz42_2
                      try clear hcz42_3
                      try clear hcz42_4
                      try clear hcz48_0
                      try clear hcz48_1
                      try clear hcz48_2
                      try clear hcz48_3
                      try clear hcz48_4
                      try clear hcz56_0
                      try clear hcz56_1
                      try clear hcz56_2
                      try clear hcz56_3
                      try clear hcz56_4
                      try clear hcz58_0
                      try clear hcz58_1
                      try clear hcz58_2
                      try clear hcz58_3
                      try clear hcz58_4
                      try clear hcz60_0
                      try clear hcz60_1
                      try clear hcz60_2
                      try clear hcz60_3
                      try clear hcz60_4
                      try clear hcz61_0
                      try clear hcz61_1
                      try clear hcz61_2
                      try clear hcz61_3
                      try clear hcz61_4
                      try clear hfz12_0
                      try clear hfz12_1
                      try clear hfz12_2
                      try clear hfz12_3
                      try clear hfz12_4
                      try clear hfz16_0
                      try clear hfz16_1
                      try clear hfz16_2
                      try clear hfz16_3
                      try clear hfz16_4
                      try clear hfz18_0
                      try clear hfz18_1
                      try clear hfz18_2
                      try clear hfz18_3
                      try clear hfz18_4
                      try clear hfz25_0
                      try clear hfz25_1
                      try clear hfz25_2
                      try clear hfz25_3
                      try clear hfz25_4
                      try clear hfz31_0
                      try clear hfz31_1
                      try clear hfz31_2
                      try clear hfz31_3
                      try clear hfz31_4
                      try clear hfz39_0
                      try clear hfz39_1
                      try clear hfz39_2
                      try clear hfz39_3
                      try clear hfz39_4
                      try clear hfz40_0
                      try clear hfz40_1
                      try clear hfz40_2
                      try clear hfz40_3
                      try clear hfz40_4
                      try clear hfz42_0
                      try clear hfz42_1
                      try clear hfz42_2
                      try clear hfz42_3
                      try clear hfz42_4
                      try clear hfz48_0
                      try clear hfz48_1
                      try clear hfz48_2
                      try clear hfz48_3
                      try clear hfz48_4
                      try clear hfz56_0
                      try clear hfz56_1
                      try clear hfz56_2
                      try clear hfz56_3
                      try clear hfz56_4
                      try clear hfz58_0
                      try clear hfz58_1
                      try clear hfz58_2
                      try clear hfz58_3
                      try clear hfz58_4
                      try clear hfz60_0
                      try clear hfz60_1
                      try clear hfz60_2
                      try clear hfz60_3
                      try clear hfz60_4
                      try clear hfz61_0
                      try clear hfz61_1
                      try clear hfz61_2
                      try clear hfz61_3
                      try clear hfz61_4
                      try clear p2
                      obtain ⟨kq, x90_36, rfl, HA, HJ36, HO_8, HO_675004, BK651, BK652, BK674, HB⟩ := hcut
                      cases kq with
                      | zero => exact absurd HA.out (by simp [twoslotlaw09_ImageDiffs.j2])
                      | succ kj36 =>
                        have H := HA.out
                        clear HA
                        simp only [twoslotlaw09_ImageDiffs.j2] at H
                        by_cases c63 : x90_36 = true
                        · subst c63
                          have H1 : (none) = some r := by rw [if_pos rfl] at H; exact H
                          clear H
                          have H := H1
                          clear H1
                          exact absurd H (by simp)
                        · replace c63 := Bool.eq_false_iff.mpr c63
                          subst c63
                          have H1 : ((image_Rows.f kj36 t662).bind fun bt677 => (if bt677.2 = 0 then (twoslotlaw09_ImageDiffs.l0 kj36 bt677.1 0 0 a0_0 a0_1 a0_2 a0_3 l0_4 a1_0 a1_1 a1_2 a1_3 l1_4) else (none))) = some r := by rw [if_neg (show ¬ (false = true) by decide)] at H; exact H
                          clear H
                          have H := H1
                          clear H1
                          replace H := Option.bind_eq_some_iff.mp H
                          obtain ⟨⟨t677, t678⟩, A640, H⟩ := H
                          try dsimp only at H
                          have A64 := Aside0.mk A640
                          clear A640
                          by_cases c65 : t678 = 0
                          · rw [if_pos c65] at H
                            have c65b0 : (t678 == 0) = true := beq_iff_eq.mpr c65
                            have c65b1 : (t678 != 0) = false := bne_eq_false_iff_eq.mpr c65
                            clear c65
                            have H' := Aside0.mk H
                            clear H
                            go_wp2_with (first | (go_at_call 12; (with_reducible refine (image_Rows.calls kj36 _ _ t662 t677 t678 _ ?side1 ?side2 A64.out).mono ?_); (case side1 => repeat (first | exact (RO_reads' HO_8.out).2.2 | (with_reducible refine Kd.C_alloc ?_ _) | (with_reducible refine Kd.C_drewN ?_ _) | (with_reducible refine Kd.C_drew ?_))); (case side2 => exact (RO_reads' HO_8.out).2.1); rintro e w66 ⟨v679, rfl, ho0, hb⟩; replace HO_8 := Aside0.mk (RO_below (by (with_reducible repeat (first | apply RO_alloc | apply RO_drewN | apply RO_drew)); exact HO_8.out) hb); replace HO_675004 := Aside0.mk (RO_below (by (with_reducible repeat (first | apply RO_alloc | apply RO_drewN | apply RO_drew)); exact HO_675004.out) hb); have HO680 := Aside0.mk (Kd.R_lower ho0 (below_size (by repeat (first | exact sH HB.out | refine sN (w := w) ?_ | with_reducible refine sG (w := w) ?_ (by assumption))))); replace BK651 := kB BK651 hb; replace BK652 := kB BK652 hb; replace BK674 := kB BK674 hb; replace HB := Aside0.mk (below_step (by repeat (first | exact sH HB.out | refine sN (w := w) ?_ | with_reducible refine sG (w := w) ?_ (by assumption))) hb); (try clear hb); (try clear hb2); (try clear hk); (try clear hi); (try clear ho0)))
                            repeat (go_quiet (first | (go_at_call 12; (with_reducible refine (image_Rows.calls kj36 _ _ t662 t677 t678 _ ?side1 ?side2 A64.out).mono ?_); (case side1 => repeat (first | exact (RO_reads' HO_8.out).2.2 | (with_reducible refine Kd.C_alloc ?_ _) | (with_reducible refine Kd.C_drewN ?_ _) | (with_reducible refine Kd.C_drew ?_))); (case side2 => exact (RO_reads' HO_8.out).2.1); rintro e w66 ⟨v679, rfl, ho0, hb⟩; replace HO_8 := Aside0.mk (RO_below (by (with_reducible repeat (first | apply RO_alloc | apply RO_drewN | apply RO_drew)); exact HO_8.out) hb); replace HO_675004 := Aside0.mk (RO_below (by (with_reducible repeat (first | apply RO_alloc | apply RO_drewN | apply RO_drew)); exact HO_675004.out) hb); have HO680 := Aside0.mk (Kd.R_lower ho0 (below_size (by repeat (first | exact sH HB.out | refine sN (w := w) ?_ | with_reducible refine sG (w := w) ?_ (by assumption))))); replace BK651 := kB BK651 hb; replace BK652 := kB BK652 hb; replace BK674 := kB BK674 hb; replace HB := Aside0.mk (below_step (by repeat (first | exact sH HB.out | refine sN (w := w) ?_ | with_reducible refine sG (w := w) ?_ (by assumption))) hb); (try clear hb); (try clear hb2); (try clear hk); (try clear hi); (try clear ho0))); try go_wp2_with (first | (go_at_call 12; (with_reducible refine (image_Rows.calls kj36 _ _ t662 t677 t678 _ ?side1 ?side2 A64.out).mono ?_); (case side1 => repeat (first | exact (RO_reads' HO_8.out).2.2 | (with_reducible refine Kd.C_alloc ?_ _) | (with_reducible refine Kd.C_drewN ?_ _) | (with_reducible refine Kd.C_drew ?_))); (case side2 => exact (RO_reads' HO_8.out).2.1); rintro e w66 ⟨v679, rfl, ho0, hb⟩; replace HO_8 := Aside0.mk (RO_below (by (with_reducible repeat (first | apply RO_alloc | apply RO_drewN | apply RO_drew)); exact HO_8.out) hb); replace HO_675004 := Aside0.mk (RO_below (by (with_reducible repeat (first | apply RO_alloc | apply RO_drewN | apply RO_drew)); exact HO_675004.out) hb); have HO680 := Aside0.mk (Kd.R_lower ho0 (below_size (by repeat (first | exact sH HB.out | refine sN (w := w) ?_ | with_reducible refine sG (w := w) ?_ (by assumption))))); replace BK651 := kB BK651 hb; replace BK652 := kB BK652 hb; replace BK674 := kB BK674 hb; replace HB := Aside0.mk (below_step (by repeat (first | exact sH HB.out | refine sN (w := w) ?_ | with_reducible refine sG (w := w) ?_ (by assumption))) hb); (try clear hb); (try clear hb2); (try clear hk); (try clear hi); (try clear ho0))))
                            go_loopg [11, 12] kj36 (fun kq v11 v12 w' => ∃ (x11_4 : Int) (x12_4 : Int), v11 = .int .i64 x11_4 ∧ v12 = .int .i64 x12_4 ∧ Aside0 (twoslotlaw09_ImageDiffs.l0 kq t677 x11_4 x12_4 a0_0 a0_1 a0_2 a0_3 l0_4 a1_0 a1_1 a1_2 a1_3 l1_4 = some r) ∧ Aside0 (kq ≤ kj36) ∧ Aside0 (Kd.R (Kd.int .i64) 3 w' w.heap.size (fun _ => True) v679 t677) ∧ Aside0 (RO (Kd.slice 5 (Kd.int .u8)) 33 w' w.heap.size (fun _ => True) (.slice Ao49 t670.length co49) t670) ∧ Aside0 (w'.heap[gb651]? = some (.cells #[.int .i64 a0_0, .int .i64 a0_1, .int .i64 a0_2, .int .i64 a0_3, (.slice A0_4 l0_4.length c0_4)] 27 (0, 0))) ∧ Aside0 (w'.heap[gb652]? = some (.cells #[.int .i64 a1_0, .int .i64 a1_1, .int .i64 a1_2, .int .i64 a1_3, (.slice A1_4 l1_4.length c1_4)] 27 (0, 0))) ∧ Aside0 (w'.heap[gb674]? = some (.cells #[.int .i64 t666, .int .i64 t667, .int .i64 t668, .int .i64 t669, (.slice Ao49 t670.length co49)] 27 (0, 0))) ∧ Aside0 (Below w.heap.size w w'))
                            case atStart => exact ⟨(0), (0), (by first | rfl | (simp; done) | (simp [*]; done)), (by first | rfl | (simp; done) | (simp [*]; done)), H', ⟨Nat.le_refl _⟩, ⟨by (with_reducible repeat (first | apply Kd.R_alloc | apply Kd.R_drewN | apply Kd.R_drew)); exact HO680.out⟩, ⟨by (with_reducible repeat (first | apply RO_alloc | apply RO_drewN | apply RO_drew)); exact HO_675004.out⟩, ⟨by (try refine sO ?_); exact BK651.out⟩, ⟨by (try refine sO ?_); exact BK652.out⟩, ⟨by (try refine sO ?_); exact BK674.out⟩, ⟨by repeat (first | exact sH HB.out | refine sN (w := w) ?_ | with_reducible refine sG (w := w) ?_ (by assumption))⟩⟩
                            case round =>
                              clear H'
                              try clear c1
                              try clear c2
                              try clear p2
                              try clear c3
                              try clear c4
                              try clear c5
                              try clear c6
                              try clear c8
                              try clear c10
                              try clear c11
                              try clear c15
                              try clear c20
                              try clear c22
                              try clear c22b0
                              try clear c22b1
                              try clear c24
                              try clear c27
                              try clear c27b0
                              try clear c27b1
                              try clear c30
                              try clear c33
                              try clear c35
                              try clear c35b0
                              try clear c35b1
                              try clear c38
                              try clear c46
                              try clear c47
                              try clear c50
                              try clear c50b0
                              try clear c50b1
                              try clear c52
                              try clear c54
                              try clear c55
                              try clear c57
                              try clear c63
                              try clear c65
                              try clear c65b0
                              try clear c65b1
                              try clear hcz12_0
                              try clear hcz12_1
                              try clear hcz12_2
                              try clear hcz12_3
                              try clear hcz12_4
                              try clear hcz16_0
                              try clear hcz16_1
                              try clear hcz16_2
                              try clear hcz16_3
                              try clear hcz16_4
                              try clear hcz18_0
                              try clear hcz18_1
                              try clear hcz18_2
                              try clear hcz18_3
                              try clear hcz18_4
                              try clear hcz25_0
                              try clear hcz25_1
                              try clear hcz25_2
                              try clear hcz25_3
                              try clear hcz25_4
                              try clear hcz31_0
                              try clear hcz31_1
                              try clear hcz31_2
                              try clear hcz31_3
                              try clear hcz31_4
                              try clear hcz39_0
                              try clear hcz39_1
                              try clear hcz39_2
                              try clear hcz39_3
                              try clear hcz39_4
                              try clear hcz40_0
                              try clear hcz40_1
                              try clear hcz40_2
                              try clear hcz40_3
                              try clear hcz40_4
                              try clear hcz42_0
                              try clear hcz42_1
                              try clear hcz42_2
                              try clear hcz42_3
                              try clear hcz42_4
                              try clear hcz48_0
                              try clear hcz48_1
                              try clear hcz48_2
                              try clear hcz48_3
                              try clear hcz48_4
                              try clear hcz56_0
                              try clear hcz56_1
                              try clear hcz56_2
                              try clear hcz56_3
                              try clear hcz56_4
                              try clear hcz58_0
                              try clear hcz58_1
                              try clear hcz58_2
                              try clear hcz58_3
                              try clear hcz58_4
                              try clear hcz60_0
                              try clear hcz60_1
                              try clear hcz60_2
                              try clear hcz60_3
                              try clear hcz60_4
                              try clear hcz61_0
                              try clear hcz61_1
                              try clear hcz61_2
                              try clear hcz61_3
                              try clear hcz61_4
                              try clear hfz12_0
                              try clear hfz12_1
                              try clear hfz12_2
                              try clear hfz12_3
                              try clear hfz12_4
                              try clear hfz16_0
                              try clear hfz16_1
                              try clear hfz16_2
                              try clear hfz16_3
                              try clear hfz16_4
                              try clear hfz18_0
                              try clear hfz18_1
                              try clear hfz18_2
                              try clear hfz18_3
                              try clear hfz18_4
                              try clear hfz25_0
                              try clear hfz25_1
                              try clear hfz25_2
                              try clear hfz25_3
                              try clear hfz25_4
                              try clear hfz31_0
                              try clear hfz31_1
                              try clear hfz31_2
                              try clear hfz31_3
                              try clear hfz31_4
                              try clear hfz39_0
                              try clear hfz39_1
                              try clear hfz39_2
                              try clear hfz39_3
                              try clear hfz39_4
                              try clear hfz40_0
                              try clear hfz40_1
                              try clear hfz40_2
                              try clear hfz40_3
                              try clear hfz40_4
                              try clear hfz42_0
                              try clear hfz42_1
                              try clear hfz42_2
                              try clear hfz42_3
                              try clear hfz42_4
                              try clear hfz48_0
                              try clear hfz48_1
                              try clear hfz48_2
                              try clear hfz48_3
                              try clear hfz48_4
                              try clear hfz56_0
                              try clear hfz56_1
                              try clear hfz56_2
                              try clear hfz56_3
                              try clear hfz56_4
                              try clear hfz58_0
                              try clear hfz58_1
                              try clear hfz58_2
                              try clear hfz58_3
                              try clear hfz58_4
                              try clear hfz60_0
                              try clear hfz60_1
                              try clear hfz60_2
                              try clear hfz60_3
                              try clear hfz60_4
                              try clear hfz61_0
                              try clear hfz61_1
                              try clear hfz61_2
                              try clear hfz61_3
                              try clear hfz61_4
                              try clear p2
                              obtain ⟨x11_4, x12_4, rfl, rfl, HA, HK4, HO_10, HO_675004, BK651, BK652, BK674, HB⟩ := hrel
                              cases gk with
                              | zero => exact absurd HA.out (by simp [twoslotlaw09_ImageDiffs.l0])
                              | succ k4 =>
                                have H := HA.out
                                clear HA
                                simp only [twoslotlaw09_ImageDiffs.l0] at H
                                by_cases c67 : x12_4 < a0_3
                                · rw [if_pos c67] at H
                                  have c67b0 : decide (x12_4 < a0_3) = true := decide_eq_true c67
                                  clear c67
                                  replace H := Option.bind_eq_some_iff.mp H
                                  obtain ⟨⟨t681, t684⟩, A680, H⟩ := H
                                  try dsimp only at H
                                  have A68 := Aside0.mk A680
                                  clear A680
                                  replace H := Option.bind_eq_some_iff.mp H
                                  obtain ⟨⟨t685, t688⟩, A690, H⟩ := H
                                  try dsimp only at H
                                  have A69 := Aside0.mk A690
                                  clear A690
                                  have HC70 := Aside0.mk H
                                  clear H
                                  have hnb71 := NB651_652.out
                                  have hnc71 := NB652_651.out
                                  have hnb72 := NB651_674.out
                                  have hnc72 := NB674_651.out
                                  obtain ⟨hcz73_0, hcz73_1, hcz73_2, hcz73_3, hcz73_4, hfz73_0, hfz73_1, hfz73_2, hfz73_3, hfz73_4⟩ := cs5 BK651.out
                                  go_upto_region 26 with (first | (go_at_call 15; (with_reducible refine (image_Row.calls k4 a0_0 a0_1 a0_2 a0_3 _ _ l0_4 x12_4 t681 t684 _ ?side1 ?side2 A68.out).mono ?_); (case side1 => exact sC (Kd.C_below HR0_4.out HB.out)); (case side2 => exact HC0_4.out); rintro e w74 ⟨v682, rfl, ho0, hb⟩; replace HO_10 := Aside0.mk (Kd.R_below (sR HO_10.out) hb); replace HO_675004 := Aside0.mk (RO_below (by (with_reducible repeat (first | apply RO_alloc | apply RO_drewN | apply RO_drew)); exact HO_675004.out) hb); have HO683 := Aside0.mk (RO_lowerR ho0 (below_size (by repeat (first | exact sH HB.out | refine sN (w := w) ?_ | with_reducible refine sG (w := w) ?_ (by assumption))))); replace BK651 := kB BK651 hb; replace BK652 := kB BK652 hb; replace BK674 := kB BK674 hb; replace HB := Aside0.mk (below_step (by repeat (first | exact sH HB.out | refine sN (w := w) ?_ | with_reducible refine sG (w := w) ?_ (by assumption))) hb); (try clear hb); (try clear hb2); (try clear hk); (try clear hi); (try clear ho0); have hnb75 := NB652_674.out; have hnc75 := NB674_652.out; obtain ⟨hcz76_0, hcz76_1, hcz76_2, hcz76_3, hcz76_4, hfz76_0, hfz76_1, hfz76_2, hfz76_3, hfz76_4⟩ := cs5 BK652.out) | (go_at_call 15; (with_reducible refine (image_Row.calls k4 a1_0 a1_1 a1_2 a1_3 _ _ l1_4 x12_4 t685 t688 _ ?side1 ?side2 A69.out).mono ?_); (case side1 => exact sC (Kd.C_below HR1_4.out HB.out)); (case side2 => exact HC1_4.out); rintro e w77 ⟨v686, rfl, ho0, hb⟩; replace HO_10 := Aside0.mk (Kd.R_below (sR HO_10.out) hb); replace HO_675004 := Aside0.mk (RO_below (by (with_reducible repeat (first | apply RO_alloc | apply RO_drewN | apply RO_drew)); exact HO_675004.out) hb); replace HO683 := Aside0.mk (RO_below (by (with_reducible repeat (first | apply RO_alloc | apply RO_drewN | apply RO_drew)); exact HO683.out) hb); have HO687 := Aside0.mk (RO_lowerR ho0 (below_size (by repeat (first | exact sH HB.out | refine sN (w := w) ?_ | with_reducible refine sG (w := w) ?_ (by assumption))))); replace BK651 := kB BK651 hb; replace BK652 := kB BK652 hb; replace BK674 := kB BK674 hb; replace HB := Aside0.mk (below_step (by repeat (first | exact sH HB.out | refine sN (w := w) ?_ | with_reducible refine sG (w := w) ?_ (by assumption))) hb); (try clear hb); (try clear hb2); (try clear hk); (try clear hi); (try clear ho0)))
                                  repeat (go_quiet (first | (go_at_call 15; (with_reducible refine (image_Row.calls k4 a0_0 a0_1 a0_2 a0_3 _ _ l0_4 x12_4 t681 t684 _ ?side1 ?side2 A68.out).mono ?_); (case side1 => exact sC (Kd.C_below HR0_4.out HB.out)); (case side2 => exact HC0_4.out); rintro e w74 ⟨v682, rfl, ho0, hb⟩; replace HO_10 := Aside0.mk (Kd.R_below (sR HO_10.out) hb); replace HO_675004 := Aside0.mk (RO_below (by (with_reducible repeat (first | apply RO_alloc | apply RO_drewN | apply RO_drew)); exact HO_675004.out) hb); have HO683 := Aside0.mk (RO_lowerR ho0 (below_size (by repeat (first | exact sH HB.out | refine sN (w := w) ?_ | with_reducible refine sG (w := w) ?_ (by assumption))))); replace BK651 := kB BK651 hb; replace BK652 := kB BK652 hb; replace BK674 := kB BK674 hb; replace HB := Aside0.mk (below_step (by repeat (first | exact sH HB.out | refine sN (w := w) ?_ | with_reducible refine sG (w := w) ?_ (by assumption))) hb); (try clear hb); (try clear hb2); (try clear hk); (try clear hi); (try clear ho0); have hnb75 := NB652_674.out; have hnc75 := NB674_652.out; obtain ⟨hcz76_0, hcz76_1, hcz76_2, hcz76_3, hcz76_4, hfz76_0, hfz76_1, hfz76_2, hfz76_3, hfz76_4⟩ := cs5 BK652.out) | (go_at_call 15; (with_reducible refine (image_Row.calls k4 a1_0 a1_1 a1_2 a1_3 _ _ l1_4 x12_4 t685 t688 _ ?side1 ?side2 A69.out).mono ?_); (case side1 => exact sC (Kd.C_below HR1_4.out HB.out)); (case side2 => exact HC1_4.out); rintro e w77 ⟨v686, rfl, ho0, hb⟩; replace HO_10 := Aside0.mk (Kd.R_below (sR HO_10.out) hb); replace HO_675004 := Aside0.mk (RO_below (by (with_reducible repeat (first | apply RO_alloc | apply RO_drewN | apply RO_drew)); exact HO_675004.out) hb); replace HO683 := Aside0.mk (RO_below (by (with_reducible repeat (first | apply RO_alloc | apply RO_drewN | apply RO_drew)); exact HO683.out) hb); have HO687 := Aside0.mk (RO_lowerR ho0 (below_size (by repeat (first | exact sH HB.out | refine sN (w := w) ?_ | with_reducible refine sG (w := w) ?_ (by assumption))))); replace BK651 := kB BK651 hb; replace BK652 := kB BK652 hb; replace BK674 := kB BK674 hb; replace HB := Aside0.mk (below_step (by repeat (first | exact sH HB.out | refine sN (w := w) ?_ | with_reducible refine sG (w := w) ?_ (by assumption))) hb); (try clear hb); (try clear hb2); (try clear hk); (try clear hi); (try clear ho0))); go_upto_region 26 with (first | (go_at_call 15; (with_reducible refine (image_Row.calls k4 a0_0 a0_1 a0_2 a0_3 _ _ l0_4 x12_4 t681 t684 _ ?side1 ?side2 A68.out).mono ?_); (case side1 => exact sC (Kd.C_below HR0_4.out HB.out)); (case side2 => exact HC0_4.out); rintro e w74 ⟨v682, rfl, ho0, hb⟩; replace HO_10 := Aside0.mk (Kd.R_below (sR HO_10.out) hb); replace HO_675004 := Aside0.mk (RO_below (by (with_reducible repeat (first | apply RO_alloc | apply RO_drewN | apply RO_drew)); exact HO_675004.out) hb); have HO683 := Aside0.mk (RO_lowerR ho0 (below_size (by repeat (first | exact sH HB.out | refine sN (w := w) ?_ | with_reducible refine sG (w := w) ?_ (by assumption))))); replace BK651 := kB BK651 hb; replace BK652 := kB BK652 hb; replace BK674 := kB BK674 hb; replace HB := Aside0.mk (below_step (by repeat (first | exact sH HB.out | refine sN (w := w) ?_ | with_reducible refine sG (w := w) ?_ (by assumption))) hb); (try clear hb); (try clear hb2); (try clear hk); (try clear hi); (try clear ho0); have hnb75 := NB652_674.out; have hnc75 := NB674_652.out; obtain ⟨hcz76_0, hcz76_1, hcz76_2, hcz76_3, hcz76_4, hfz76_0, hfz76_1, hfz76_2, hfz76_3, hfz76_4⟩ := cs5 BK652.out) | (go_at_call 15; (with_reducible refine (image_Row.calls k4 a1_0 a1_1 a1_2 a1_3 _ _ l1_4 x12_4 t685 t688 _ ?side1 ?side2 A69.out).mono ?_); (case side1 => exact sC (Kd.C_below HR1_4.out HB.out)); (case side2 => exact HC1_4.out); rintro e w77 ⟨v686, rfl, ho0, hb⟩; replace HO_10 := Aside0.mk (Kd.R_below (sR HO_10.out) hb); replace HO_675004 := Aside0.mk (RO_below (by (with_reducible repeat (first | apply RO_alloc | apply RO_drewN | apply RO_drew)); exact HO_675004.out) hb); replace HO683 := Aside0.mk (RO_below (by (with_reducible repeat (first | apply RO_alloc | apply RO_drewN | apply RO_drew)); exact HO683.out) hb); have HO687 := Aside0.mk (RO_lowerR ho0 (below_size (by repeat (first | exact sH HB.out | refine sN (w := w) ?_ | with_reducible refine sG (w := w) ?_ (by assumption))))); replace BK651 := kB BK651 hb; replace BK652 := kB BK652 hb; replace BK674 := kB BK674 hb; replace HB := Aside0.mk (below_step (by repeat (first | exact sH HB.out | refine sN (w := w) ?_ | with_reducible refine sG (w := w) ?_ (by assumption))) hb); (try clear hb); (try clear hb2); (try clear hk); (try clear hi); (try clear ho0))))
                                  (try simp only [Act.put, List.setIfInBounds_toArray, List.set_cons_zero, List.set_cons_succ])
                                  go_cut [134] (fun v134 wc => ∃ (kq : Nat) (x134_69 : Bool), v134 = .bool x134_69 ∧ Aside0 (twoslotlaw09_ImageDiffs.j4 kq t677 x11_4 x12_4 t681 t685 x134_69 a0_0 a0_1 a0_2 a0_3 l0_4 a1_0 a1_1 a1_2 a1_3 l1_4 = some r) ∧ Aside0 (kq ≤ k4) ∧ Aside0 (Kd.R (Kd.int .i64) 3 wc w.heap.size (fun _ => True) v679 t677) ∧ Aside0 (RO k59 59 wc w.heap.size (fun _ => True) v682 t681) ∧ Aside0 (RO k59 59 wc w.heap.size (fun _ => True) v686 t685) ∧ Aside0 (RO (Kd.slice 5 (Kd.int .u8)) 33 wc w.heap.size (fun _ => True) (.slice Ao49 t670.length co49) t670) ∧ Aside0 (wc.heap[gb651]? = some (.cells #[.int .i64 a0_0, .int .i64 a0_1, .int .i64 a0_2, .int .i64 a0_3, (.slice A0_4 l0_4.length c0_4)] 27 (0, 0))) ∧ Aside0 (wc.heap[gb652]? = some (.cells #[.int .i64 a1_0, .int .i64 a1_1, .int .i64 a1_2, .int .i64 a1_3, (.slice A1_4 l1_4.length c1_4)] 27 (0, 0))) ∧ Aside0 (wc.heap[gb674]? = some (.cells #[.int .i64 t666, .int .i64 t667, .int .i64 t668, .int .i64 t669, (.slice Ao49 t670.length co49)] 27 (0, 0))) ∧ Aside0 (Below w.heap.size w wc))
                                  case first =>
                                    have H := HC70.out
                                    clear HC70
                                    by_cases c78 : t684 = 0
                                    · rw [if_pos c78] at H
                                      have c78b0 : (t684 == 0) = true := beq_iff_eq.mpr c78
                                      have c78b1 : (t684 != 0) = false := bne_eq_false_iff_eq.mpr c78
                                      clear c78
                                      (first | rw [c78b0] | (simp only [i64_w, i32_w]; rw [c78b0]) | skip)
                                      by_cases c79 : t688 = 0
                                      · rw [if_pos c79] at H
                                        have c79b0 : (t688 == 0) = true := beq_iff_eq.mpr c79
                                        have c79b1 : (t688 != 0) = false := bne_eq_false_iff_eq.mpr c79
                                        clear c79
                                        have H' := Aside0.mk H
                                        clear H
                                        obtain ⟨Ao80, co80, eo80⟩ := RO_slice HO683.out
                                        subst eo80
                                        have hnb81 := NB651_652.out
                                        have hnc81 := NB652_651.out
                                        have hnb82 := NB651_674.out
                                        have hnc82 := NB674_651.out
                                        obtain ⟨hcz83_0, hcz83_1, hcz83_2, hcz83_3, hcz83_4, hfz83_0, hfz83_1, hfz83_2, hfz83_3, hfz83_4⟩ := cs5 BK651.out
                                        go_wp2
                                        repeat (go_quiet (fail); try go_wp2)
                                        go_meet
                                        case rel => exact ⟨_, (((t681.length : Int) != (wrap64 (a0_0 + a0_1)))), (by first | rfl | (simp; done) | (simp [*]; done)), H', ⟨by have := HJ4.out; have := HJ22.out; have := HJ36.out; have := HK4.out; first | omega | exact Nat.le_refl _⟩, ⟨by (with_reducible repeat (first | apply Kd.R_alloc | apply Kd.R_drewN | apply Kd.R_drew)); exact HO_10.out⟩, ⟨by (with_reducible repeat (first | apply RO_alloc | apply RO_drewN | apply RO_drew)); exact HO683.out⟩, ⟨by (with_reducible repeat (first | apply RO_alloc | apply RO_drewN | apply RO_drew)); exact HO687.out⟩, ⟨by (with_reducible repeat (first | apply RO_alloc | apply RO_drewN | apply RO_drew)); exact HO_675004.out⟩, ⟨by (try refine sO ?_); exact BK651.out⟩, ⟨by (try refine sO ?_); exact BK652.out⟩, ⟨by (try refine sO ?_); exact BK674.out⟩, ⟨by repeat (first | exact sH HB.out | refine sN (w := w) ?_ | with_reducible refine sG (w := w) ?_ (by assumption))⟩⟩
                                      · rw [if_neg c79] at H
                                        exact absurd H (by simp)
                                    · rw [if_neg c78] at H
                                      exact absurd H (by simp)
                                  case rest =>
                                    clear HC70
                                    try clear c1
                                    try clear c2
                                    try clear p2
                                    try clear c3
                                    try clear c4
                                    try clear c5
                                    try clear c6
                                    try clear p6
                                    try clear c7
                                    try clear c8
                                    try clear c10
                                    try clear c11
                                    try clear c15
                                    try clear c20
                                    try clear c22
                                    try clear c22b0
                                    try clear c22b1
                                    try clear c24
                                    try clear c27
                                    try clear c27b0
                                    try clear c27b1
                                    try clear c30
                                    try clear c33
                                    try clear c35
                                    try clear c35b0
                                    try clear c35b1
                                    try clear c38
                                    try clear c46
                                    try clear c47
                                    try clear c50
                                    try clear c50b0
                                    try clear c50b1
                                    try clear c52
                                    try clear c54
                                    try clear c55
                                    try clear c57
                                    try clear c63
                                    try clear p64
                                    try clear c65
                                    try clear c65b0
                                    try clear c65b1
                                    try clear c67
                                    try clear c67b0
                                    try clear c71
                                    try clear c72
                                    try clear c75
                                    try clear c78
                                    try clear c78b0
                                    try clear c78b1
                                    try clear c79
                                    try clear c79b0
                                    try clear c79b1
                                    try clear c81
                                    try clear c82
                                    try clear hcz12_0
                                    try clear hcz12_1
                                    try clear hcz12_2
                                    try clear hcz12_3
                                    try clear hcz12_4
                                    try clear hcz16_0
                                    try clear hcz16_1
                                    try clear hcz16_2
                                    try clear hcz16_3
                                    try clear hcz16_4
                                    try clear hcz18_0
                                    try clear hcz18_1
                                    try clear hcz18_2
                                    try clear hcz18_3
                                    try clear hcz18_4
                                    try clear hcz25_0
                                    try clear hcz25_1
                                    try clear hcz25_2
                                    try clear hcz25_3
                                    try clear hcz25_4
                                    try clear hcz31_0
                                    try clear hcz31_1
                                    try clear hcz31_2
                                    try clear hcz31_3
                                    try clear hcz31_4
                                    try clear hcz39_0
                                    try clear hcz39_1
                                    try clear hcz39_2
                                    try clear hcz39_3
                                    try clear hcz39_4
                                    try clear hcz40_0
                                    try clear hcz40_1
                                    try clear hcz40_2
                                    try clear hcz40_3
                                    try clear hcz40_4
                                    try clear hcz42_0
                                    try clear hcz42_1
                                    try clear hcz42_2
                                    try clear hcz42_3
                                    try clear hcz42_4
                                    try clear hcz48_0
                                    try clear hcz48_1
                                    try clear hcz48_2
                                    try clear hcz48_3
                                    try clear hcz48_4
                                    try clear hcz56_0
                                    try clear hcz56_1
                                    try clear hcz56_2
                                    try clear hcz56_3
                                    try clear hcz56_4
                                    try clear hcz58_0
                                    try clear hcz58_1
                                    try clear hcz58_2
                                    try clear hcz58_3
                                    try clear hcz58_4
                                    try clear hcz60_0
                                    try clear hcz60_1
                                    try clear hcz60_2
                                    try clear hcz60_3
                                    try clear hcz60_4
                                    try clear hcz61_0
                                    try clear hcz61_1
                                    try clear hcz61_2
                                    try clear hcz61_3
                                    try clear hcz61_4
                                    try clear hcz73_0
                                    try clear hcz73_1
                                    try clear hcz73_2
                                    try clear hcz73_3
                                    try clear hcz73_4
                                    try clear hcz76_0
                                    try clear hcz76_1
                                    try clear hcz76_2
                                    try clear hcz76_3
                                    try clear hcz76_4
                                    try clear hcz83_0
                                    try clear hcz83_1
                                    try clear hcz83_2
                                    try clear hcz83_3
                                    try clear hcz83_4
                                    try clear hfz12_0
                                    try clear hfz12_1
                                    try clear hfz12_2
                                    try clear hfz12_3
                                    try clear hfz12_4
                                    try clear hfz16_0
                                    try clear hfz16_1
                                    try clear hfz16_2
                                    try clear hfz16_3
                                    try clear hfz16_4
                                    try clear hfz18_0
                                    try clear hfz18_1
                                    try clear hfz18_2
                                    try clear hfz18_3
                                    try clear hfz18_4
                                    try clear hfz25_0
                                    try clear hfz25_1
                                    try clear hfz25_2
                                    try clear hfz25_3
                                    try clear hfz25_4
                                    try clear hfz31_0
                                    try clear hfz31_1
                                    try clear hfz31_2
                                    try clear hfz31_3
                                    try clear hfz31_4
                                    try clear hfz39_0
                                    try clear hfz39_1
                                    try clear hfz39_2
                                    try clear hfz39_3
                                    try clear hfz39_4
                                    try clear hfz40_0
                                    try clear hfz40_1
                                    try clear hfz40_2
                                    try clear hfz40_3
                                    try clear hfz40_4
                                    try clear hfz42_0
                                    try clear hfz42_1
                                    try clear hfz42_2
                                    try clear hfz42_3
                                    try clear hfz42_4
                                    try clear hfz48_0
                                    try clear hfz48_1
                                    try clear hfz48_2
                                    try clear hfz48_3
                                    try clear hfz48_4
                                    try clear hfz56_0
                                    try clear hfz56_1
                                    try clear hfz56_2
                                    try clear hfz56_3
                                    try clear hfz56_4
                                    try clear hfz58_0
                                    try clear hfz58_1
                                    try clear hfz58_2
                                    try clear hfz58_3
                                    try clear hfz58_4
                                    try clear hfz60_0
                                    try clear hfz60_1
                                    try clear hfz60_2
                                    try clear hfz60_3
                                    try clear hfz60_4
                                    try clear hfz61_0
                                    try clear hfz61_1
                                    try clear hfz61_2
                                    try clear hfz61_3
                                    try clear hfz61_4
                                    try clear hfz73_0
                                    try clear hfz73_1
                                    try clear hfz73_2
                                    try clear hfz73_3
                                    try clear hfz73_4
                                    try clear hfz76_0
                                    try clear hfz76_1
                                    try clear hfz76_2
                                    try clear hfz76_3
                                    try clear hfz76_4
                                    try clear hfz83_0
                                    try clear hfz83_1
                                    try clear hfz83_2
                                    try clear hfz83_3
                                    try clear hfz83_4
                                    try clear p2
                                    obtain ⟨kq, x134_69, rfl, HA, HJ69, HO_10, HO_13, HO_15, HO_675004, BK651, BK652, BK674, HB⟩ := hcut
                                    cases kq with
                                    | zero => exact absurd HA.out (by simp [twoslotlaw09_ImageDiffs.j4])
                                    | succ kj69 =>
                                      have H := HA.out
                                      clear HA
                                      simp only [twoslotlaw09_ImageDiffs.j4] at H
                                      by_cases c84 : x134_69 = true
                                      · subst c84
                                        have H1 : (none) = some r := by rw [if_pos rfl] at H; exact H
                                        clear H
                                        have H := H1
                                        clear H1
                                        exact absurd H (by simp)
                                      · replace c84 := Bool.eq_false_iff.mpr c84
                                        subst c84
                                        have H1 : (twoslotlaw09_ImageDiffs.l1 kj69 t677 x11_4 x12_4 t681 t685 0 a0_0 a0_1 a0_2 a0_3 l0_4 a1_0 a1_1 a1_2 a1_3 l1_4) = some r := by rw [if_neg (show ¬ (false = true) by decide)] at H; exact H
                                        clear H
                                        have H := H1
                                        clear H1
                                        have H' := Aside0.mk H
                                        clear H
                                        go_wp2
                                        repeat (go_quiet (fail); try go_wp2)
                                        go_loopg [17] kj69 (fun kq v17 w' => ∃ (x17_6 : Int), v17 = .int .i64 x17_6 ∧ Aside0 (twoslotlaw09_ImageDiffs.l1 kq t677 x11_4 x12_4 t681 t685 x17_6 a0_0 a0_1 a0_2 a0_3 l0_4 a1_0 a1_1 a1_2 a1_3 l1_4 = some r) ∧ Aside0 (kq ≤ kj69) ∧ Aside0 (Kd.R (Kd.int .i64) 3 w' w.heap.size (fun _ => True) v679 t677) ∧ Aside0 (RO k59 59 w' w.heap.size (fun _ => True) v682 t681) ∧ Aside0 (RO k59 59 w' w.heap.size (fun _ => True) v686 t685) ∧ Aside0 (RO (Kd.slice 5 (Kd.int .u8)) 33 w' w.heap.size (fun _ => True) (.slice Ao49 t670.length co49) t670) ∧ Aside0 (w'.heap[gb651]? = some (.cells #[.int .i64 a0_0, .int .i64 a0_1, .int .i64 a0_2, .int .i64 a0_3, (.slice A0_4 l0_4.length c0_4)] 27 (0, 0))) ∧ Aside0 (w'.heap[gb652]? = some (.cells #[.int .i64 a1_0, .int .i64 a1_1, .int .i64 a1_2, .int .i64 a1_3, (.slice A1_4 l1_4.length c1_4)] 27 (0, 0))) ∧ Aside0 (w'.heap[gb674]? = some (.cells #[.int .i64 t666, .int .i64 t667, .int .i64 t668, .int .i64 t669, (.slice Ao49 t670.length co49)] 27 (0, 0))) ∧ Aside0 (Below w.heap.size w w'))
                                        case atStart => exact ⟨(0), (by first | rfl | (simp; done) | (simp [*]; done)), H', ⟨Nat.le_refl _⟩, ⟨by (with_reducible repeat (first | apply Kd.R_alloc | apply Kd.R_drewN | apply Kd.R_drew)); exact HO_10.out⟩, ⟨by (with_reducible repeat (first | apply RO_alloc | apply RO_drewN | apply RO_drew)); exact HO_13.out⟩, ⟨by (with_reducible repeat (first | apply RO_alloc | apply RO_drewN | apply RO_drew)); exact HO_15.out⟩, ⟨by (with_reducible repeat (first | apply RO_alloc | apply RO_drewN | apply RO_drew)); exact HO_675004.out⟩, ⟨by (try refine sO ?_); exact BK651.out⟩, ⟨by (try refine sO ?_); exact BK652.out⟩, ⟨by (try refine sO ?_); exact BK674.out⟩, ⟨by repeat (first | exact sH HB.out | refine sN (w := w) ?_ | with_reducible refine sG (w := w) ?_ (by assumption))⟩⟩
                                        case round =>
                                          clear H'
                                          try clear c1
                                          try clear c2
                                          try clear p2
                                          try clear c3
                                          try clear c4
                                          try clear c5
                                          try clear c6
                                          try clear p6
                                          try clear c7
                                          try clear c8
                                          try clear c10
                                          try clear c11
                                          try clear c15
                                          try clear c20
                                          try clear c22
                                          try clear c22b0
                                          try clear c22b1
                                          try clear c24
                                          try clear c27
                                          try clear c27b0
                                          try clear c27b1
                                          try clear c30
                                          try clear c33
                                          try clear c35
                                          try clear c35b0
                                          try clear c35b1
                                          try clear c38
                                          try clear c46
                                          try clear c47
                                          try clear c50
                                          try clear c50b0
                                          try clear c50b1
                                          try clear c52
                                          try clear c54
                                          try clear c55
                                          try clear c57
                                          try clear c63
                                          try clear p64
                                          try clear c65
                                          try clear c65b0
                                          try clear c65b1
                                          try clear c67
                                          try clear c67b0
                                          try clear c71
                                          try clear c72
                                          try clear c75
                                          try clear c78
                                          try clear c78b0
                                          try clear c78b1
                                          try clear c79
                                          try clear c79b0
                                          try clear c79b1
                                          try clear c81
                                          try clear c82
                                          try clear c84
                                          try clear hcz12_0
                                          try clear hcz12_1
                                          try clear hcz12_2
                                          try clear hcz12_3
                                          try clear hcz12_4
                                          try clear hcz16_0
                                          try clear hcz16_1
                                          try clear hcz16_2
                                          try clear hcz16_3
                                          try clear hcz16_4
                                          try clear hcz18_0
                                          try clear hcz18_1
                                          try clear hcz18_2
                                          try clear hcz18_3
                                          try clear hcz18_4
                                          try clear hcz25_0
                                          try clear hcz25_1
                                          try clear hcz25_2
                                          try clear hcz25_3
                                          try clear hcz25_4
                                          try clear hcz31_0
                                          try clear hcz31_1
                                          try clear hcz31_2
                                          try clear hcz31_3
                                          try clear hcz31_4
                                          try clear hcz39_0
                                          try clear hcz39_1
                                          try clear hcz39_2
                                          try clear hcz39_3
                                          try clear hcz39_4
                                          try clear hcz40_0
                                          try clear hcz40_1
                                          try clear hcz40_2
                                          try clear hcz40_3
                                          try clear hcz40_4
                                          try clear hcz42_0
                                          try clear hcz42_1
                                          try clear hcz42_2
                                          try clear hcz42_3
                                          try clear hcz42_4
                                          try clear hcz48_0
                                          try clear hcz48_1
                                          try clear hcz48_2
                                          try clear hcz48_3
                                          try clear hcz48_4
                                          try clear hcz56_0
                                          try clear hcz56_1
                                          try clear hcz56_2
                                          try clear hcz56_3
                                          try clear hcz56_4
                                          try clear hcz58_0
                                          try clear hcz58_1
                                          try clear hcz58_2
                                          try clear hcz58_3
                                          try clear hcz58_4
                                          try clear hcz60_0
                                          try clear hcz60_1
                                          try clear hcz60_2
                                          try clear hcz60_3
                                          try clear hcz60_4
                                          try clear hcz61_0
                                          try clear hcz61_1
                                          try clear hcz61_2
                                          try clear hcz61_3
                                          try clear hcz61_4
                                          try clear hcz73_0
                                          try clear hcz73_1
                                          try clear hcz73_2
                                          try clear hcz73_3
                                          try clear hcz73_4
                                          try clear hcz76_0
                                          try clear hcz76_1
                                          try clear hcz76_2
                                          try clear hcz76_3
                                          try clear hcz76_4
                                          try clear hcz83_0
                                          try clear hcz83_1
                                          try clear hcz83_2
                                          try clear hcz83_3
                                          try clear hcz83_4
                                          try clear hfz12_0
                                          try clear hfz12_1
                                          try clear hfz12_2
                                          try clear hfz12_3
                                          try clear hfz12_4
                                          try clear hfz16_0
                                          try clear hfz16_1
                                          try clear hfz16_2
                                          try clear hfz16_3
                                          try clear hfz16_4
                                          try clear hfz18_0
                                          try clear hfz18_1
                                          try clear hfz18_2
                                          try clear hfz18_3
                                          try clear hfz18_4
                                          try clear hfz25_0
                                          try clear hfz25_1
                                          try clear hfz25_2
                                          try clear hfz25_3
                                          try clear hfz25_4
                                          try clear hfz31_0
                                          try clear hfz31_1
                                          try clear hfz31_2
                                          try clear hfz31_3
                                          try clear hfz31_4
                                          try clear hfz39_0
                                          try clear hfz39_1
                                          try clear hfz39_2
                                          try clear hfz39_3
                                          try clear hfz39_4
                                          try clear hfz40_0
                                          try clear hfz40_1
                                          try clear hfz40_2
                                          try clear hfz40_3
                                          try clear hfz40_4
                                          try clear hfz42_0
                                          try clear hfz42_1
                                          try clear hfz42_2
                                          try clear hfz42_3
                                          try clear hfz42_4
                                          try clear hfz48_0
                                          try clear hfz48_1
                                          try clear hfz48_2
                                          try clear hfz48_3
                                          try clear hfz48_4
                                          try clear hfz56_0
                                          try clear hfz56_1
                                          try clear hfz56_2
                                          try clear hfz56_3
                                          try clear hfz56_4
                                          try clear hfz58_0
                                          try clear hfz58_1
                                          try clear hfz58_2
                                          try clear hfz58_3
                                          try clear hfz58_4
                                          try clear hfz60_0
                                          try clear hfz60_1
                                          try clear hfz60_2
                                          try clear hfz60_3
                                          try clear hfz60_4
                                          try clear hfz61_0
                                          try clear hfz61_1
                                          try clear hfz61_2
                                          try clear hfz61_3
                                          try clear hfz61_4
                                          try clear hfz73_0
                                          try clear hfz73_1
                                          try clear hfz73_2
                                          try clear hfz73_3
                                          try clear hfz73_4
                                          try clear hfz76_0
                                          try clear hfz76_1
                                          try clear hfz76_2
                                          try clear hfz76_3
                                          try clear hfz76_4
                                          try clear hfz83_0
                                          try clear hfz83_1
                                          try clear hfz83_2
                                          try clear hfz83_3
                                          try clear hfz83_4
                                          try clear p2
                                          try clear p6
                                          try clear p64
                                          obtain ⟨x17_6, rfl, HA, HK6, HO_10, HO_13, HO_15, HO_675004, BK651, BK652, BK674, HB⟩ := hrel
                                          cases gk with
                                          | zero => exact absurd HA.out (by simp [twoslotlaw09_ImageDiffs.l1])
                                          | succ k6 =>
                                            have H := HA.out
                                            clear HA
                                            simp only [twoslotlaw09_ImageDiffs.l1] at H
                                            by_cases c85 : x17_6 < (t681.length : Int)
                                            · rw [if_pos c85] at H
                                              have c85b0 : decide (x17_6 < (t681.length : Int)) = true := decide_eq_true c85
                                              clear c85
                                              by_cases c86 : 0 ≤ x17_6
                                              · rw [if_pos c86] at H
                                                have c86b0 : decide (0 ≤ x17_6) = true := decide_eq_true c86
                                                clear c86
                                                obtain ⟨ji87, hji87⟩ : ∃ j_ : Int, (wrap64 ((wrap64 ((wrap64 (x17_6 * a0_3)) + x12_4)) * 2)) = j_ := ⟨_, rfl⟩
                                                replace H : (if 0 ≤ (ji87) then (if (ji87) < (l0_4.length : Int) then (if (strOfNums ((rd_T59 t681 x17_6).f0)).toList = (strOfNums (rd_L1 l0_4 (ji87))).toList then (if 0 ≤ (wrap64 ((ji87) + 1)) then (if (wrap64 ((ji87) + 1)) < (l0_4.length : Int) then (if (strOfNums ((rd_T59 t681 x17_6).f1)).toList = (strOfNums (rd_L1 l0_4 (wrap64 ((ji87) + 1)))).toList then (twoslotlaw09_ImageDiffs.l1 k6 t677 x11_4 x12_4 t681 t685 (wrap64 (x17_6 + 1)) a0_0 a0_1 a0_2 a0_3 l0_4 a1_0 a1_1 a1_2 a1_3 l1_4) else (none)) else (none)) else (none)) else (none)) else (none)) else (none)) = some r := by first | (rw [hji87] at H; exact H) | (simp only [hji87] at H ⊢; exact H)
                                                have hji87w : (IntKind.i64.wrap ((wrap64 ((wrap64 (x17_6 * a0_3)) + x12_4)) * 2)) = ji87 := (i64_w _).trans hji87
                                                by_cases c88 : 0 ≤ (ji87)
                                                · rw [if_pos c88] at H
                                                  have c88b0 : decide (0 ≤ (ji87)) = true := decide_eq_true c88
                                                  clear c88
                                                  by_cases c89 : (ji87) < (l0_4.length : Int)
                                                  · rw [if_pos c89] at H
                                                    have c89b0 : decide ((ji87) < (l0_4.length : Int)) = true := decide_eq_true c89
                                                    clear c89
                                                    by_cases c90 : (strOfNums ((rd_T59 t681 x17_6).f0)).toList = (strOfNums (rd_L1 l0_4 (ji87))).toList
                                                    · rw [if_pos c90] at H
                                                      have c90b0 : ((strOfNums ((rd_T59 t681 x17_6).f0)).toList == (strOfNums (rd_L1 l0_4 (ji87))).toList) = true := beq_iff_eq.mpr c90
                                                      have c90b1 : ((strOfNums ((rd_T59 t681 x17_6).f0)).toList != (strOfNums (rd_L1 l0_4 (ji87))).toList) = false := bne_eq_false_iff_eq.mpr c90
                                                      clear c90
                                                      obtain ⟨ji91, hji91⟩ : ∃ j_ : Int, (wrap64 ((ji87) + 1)) = j_ := ⟨_, rfl⟩
                                                      replace H : (if 0 ≤ (ji91) then (if (ji91) < (l0_4.length : Int) then (if (strOfNums ((rd_T59 t681 x17_6).f1)).toList = (strOfNums (rd_L1 l0_4 (ji91))).toList then (twoslotlaw09_ImageDiffs.l1 k6 t677 x11_4 x12_4 t681 t685 (wrap64 (x17_6 + 1)) a0_0 a0_1 a0_2 a0_3 l0_4 a1_0 a1_1 a1_2 a1_3 l1_4) else (none)) else (none)) else (none)) = some r := by first | (rw [hji91] at H; exact H) | (simp only [hji91] at H ⊢; exact H)
                                                      have hji91w : (IntKind.i64.wrap ((ji87) + 1)) = ji91 := (i64_w _).trans hji91
                                                      by_cases c92 : 0 ≤ (ji91)
                                                      · rw [if_pos c92] at H
                                                        have c92b0 : decide (0 ≤ (ji91)) = true := decide_eq_true c92
                                                        clear c92
                                                        by_cases c93 : (ji91) < (l0_4.length : Int)
                                                        · rw [if_pos c93] at H
                                                          have c93b0 : decide ((ji91) < (l0_4.length : Int)) = true := decide_eq_true c93
                                                          clear c93
                                                          by_cases c94 : (strOfNums ((rd_T59 t681 x17_6).f1)).toList = (strOfNums (rd_L1 l0_4 (ji91))).toList
                                                          · rw [if_pos c94] at H
                                                            have c94b0 : ((strOfNums ((rd_T59 t681 x17_6).f1)).toList == (strOfNums (rd_L1 l0_4 (ji91))).toList) = true := beq_iff_eq.mpr c94
                                                            have c94b1 : ((strOfNums ((rd_T59 t681 x17_6).f1)).toList != (strOfNums (rd_L1 l0_4 (ji91))).toList) = false := bne_eq_false_iff_eq.mpr c94
                                                            clear c94
                                                            have H' := Aside0.mk H
                                                            clear H
                                                            obtain ⟨Ao95, co95, eo95⟩ := RO_slice HO_13.out
                                                            subst eo95
                                                            have hnb96 := NB651_652.out
                                                            have hnc96 := NB652_651.out
                                                            have hnb97 := NB651_674.out
                                                            have hnc97 := NB674_651.out
                                                            obtain ⟨hcz98_0, hcz98_1, hcz98_2, hcz98_3, hcz98_4, hfz98_0, hfz98_1, hfz98_2, hfz98_3, hfz98_4⟩ := cs5 BK651.out
                                                            have p689 : 0 ≤ (x17_6 : Int) := of_decide_eq_true (by first | (with_reducible assumption) | assumption)
                                                            have q689 : x17_6 < (t681.length : Int) := of_decide_eq_true (by first | (with_reducible assumption) | assumption)
                                                            obtain ⟨ad689, A689_0, c689_0, A689_1, c689_1, e689, hx689_0, hx689_1, hl689_0, hi689_0, hl689_1, hi689_1⟩ := at_T59 (RO_reads' HO_13.out).2.2 x17_6 p689 q689
                                                            cases e689
                                                            have HR689_0 := Aside0.mk hi689_0
                                                            have HC689_0 := Aside0.mk hl689_0
                                                            clear hi689_0 hl689_0
                                                            have HR689_1 := Aside0.mk hi689_1
                                                            have HC689_1 := Aside0.mk hl689_1
                                                            clear hi689_1 hl689_1
                                                            replace p689 := eq_true p689
                                                            replace q689 := eq_true q689
                                                            have hcv99 := Kd.C_string (P := Try.prog) (A := A689_0) (c := c689_0) Try.underlying33 Try.underlying5 Try.underlying9 (by repeat (first | (with_reducible exact HR689_0.out) | (with_reducible refine Kd.C_alloc ?_ _) | (with_reducible refine Kd.C_drewN ?_ _) | (with_reducible refine Kd.C_drew ?_) | exact HR689_0.out))
                                                            have hq99 := fun n => Kd.C_string (P := Try.prog) (A := A689_0) (c := c689_0) Try.underlying33 Try.underlying5 Try.underlying9 (Kd.C_drewN (HR689_0.out) n)
                                                            have p690 : 0 ≤ ((ji87) : Int) := of_decide_eq_true (by first | (with_reducible assumption) | assumption)
                                                            have q690 : (ji87) < (l0_4.length : Int) := of_decide_eq_true (by first | (with_reducible assumption) | assumption)
                                                            obtain ⟨ad690, A690_0, c690_0, e690, hx690_0, hl690_0, hi690_0⟩ := at_L1 HR0_4.out (ji87) p690 q690
                                                            cases e690
                                                            replace hx690_0 := (HB.out.cell (World.block_lt_of_cell? w _ hx690_0)).trans hx690_0
                                                            have HR690_0 := Aside0.mk hi690_0
                                                            have HC690_0 := Aside0.mk hl690_0
                                                            clear hi690_0 hl690_0
                                                            replace p690 := eq_true p690
                                                            replace q690 := eq_true q690
                                                            have hcv100 := Kd.C_string (P := Try.prog) (A := A690_0) (c := c690_0) Try.underlying33 Try.underlying5 Try.underlying9 (Kd.C_below HR690_0.out HB.out)
                                                            have hq100 := fun n => Kd.C_string (P := Try.prog) (A := A690_0) (c := c690_0) Try.underlying33 Try.underlying5 Try.underlying9 (Kd.C_drewN (Kd.C_below HR690_0.out HB.out) n)
                                                            have p691 : 0 ≤ (x17_6 : Int) := of_decide_eq_true (by first | (with_reducible assumption) | assumption)
                                                            have q691 : x17_6 < (t681.length : Int) := of_decide_eq_true (by first | (with_reducible assumption) | assumption)
                                                            obtain ⟨ad691, A691_0, c691_0, A691_1, c691_1, e691, hx691_0, hx691_1, hl691_0, hi691_0, hl691_1, hi691_1⟩ := at_T59 (RO_reads' HO_13.out).2.2 x17_6 p691 q691
                                                            obtain rfl : ad689 = ad691 := (by injection e691)
                                                            have HR691_0 := Aside0.mk hi691_0
                                                            have HC691_0 := Aside0.mk hl691_0
                                                            clear hi691_0 hl691_0
                                                            have HR691_1 := Aside0.mk hi691_1
                                                            have HC691_1 := Aside0.mk hl691_1
                                                            clear hi691_1 hl691_1
                                                            replace p691 := eq_true p691
                                                            replace q691 := eq_true q691
                                                            have ea_ := Option.some.inj (hx689_0.symm.trans hx691_0)
                                                            injection ea_ with ea_ en_ ec_
                                                            subst ea_
                                                            subst ec_
                                                            clear en_
                                                            have ea_ := Option.some.inj (hx689_1.symm.trans hx691_1)
                                                            injection ea_ with ea_ en_ ec_
                                                            subst ea_
                                                            subst ec_
                                                            clear en_
                                                            have hcv101 := Kd.C_string (P := Try.prog) (A := A689_1) (c := c689_1) Try.underlying33 Try.underlying5 Try.underlying9 (by repeat (first | (with_reducible exact HR691_1.out) | (with_reducible refine Kd.C_alloc ?_ _) | (with_reducible refine Kd.C_drewN ?_ _) | (with_reducible refine Kd.C_drew ?_) | exact HR691_1.out))
                                                            have hq101 := fun n => Kd.C_string (P := Try.prog) (A := A689_1) (c := c689_1) Try.underlying33 Try.underlying5 Try.underlying9 (Kd.C_drewN (HR691_1.out) n)
                                                            have p692 : 0 ≤ ((ji91) : Int) := of_decide_eq_true (by first | (with_reducible assumption) | assumption)
                                                            have q692 : (ji91) < (l0_4.length : Int) := of_decide_eq_true (by first | (with_reducible assumption) | assumption)
                                                            obtain ⟨ad692, A692_0, c692_0, e692, hx692_0, hl692_0, hi692_0⟩ := at_L1 HR0_4.out (ji91) p692 q692
                                                            obtain rfl : ad690 = ad692 := (by injection e692)
                                                            replace hx692_0 := (HB.out.cell (World.block_lt_of_cell? w _ hx692_0)).trans hx692_0
                                                            have HR692_0 := Aside0.mk hi692_0
                                                            have HC692_0 := Aside0.mk hl692_0
                                                            clear hi692_0 hl692_0
                                                            replace p692 := eq_true p692
                                                            replace q692 := eq_true q692
                                                            have hcv102 := Kd.C_string (P := Try.prog) (A := A692_0) (c := c692_0) Try.underlying33 Try.underlying5 Try.underlying9 (Kd.C_below HR692_0.out HB.out)
                                                            have hq102 := fun n => Kd.C_string (P := Try.prog) (A := A692_0) (c := c692_0) Try.underlying33 Try.underlying5 Try.underlying9 (Kd.C_drewN (Kd.C_below HR692_0.out HB.out) n)
                                                            go_wp2
                                                            repeat (go_quiet ((first | (rintro ⟨n_, rfl⟩; exact hq99 n_) | (rintro ⟨n_, rfl⟩; exact hq100 n_) | (rintro ⟨n_, rfl⟩; exact hq101 n_) | (rintro ⟨n_, rfl⟩; exact hq102 n_) | (intro hS_; obtain ⟨n_, rfl⟩ := hS_; exact hq99 n_) | (intro hS_; obtain ⟨n_, rfl⟩ := hS_; exact hq100 n_) | (intro hS_; obtain ⟨n_, rfl⟩ := hS_; exact hq101 n_) | (intro hS_; obtain ⟨n_, rfl⟩ := hS_; exact hq102 n_))); try go_wp2)
                                                            go_roundg k6
                                                            case measure => have := HJ4.out; have := HJ22.out; have := HJ36.out; have := HK4.out; have := HJ69.out; have := HK6.out; omega
                                                            case rel => exact ⟨(wrap64 (x17_6 + 1)), (by first | rfl | (simp; done) | (simp [*]; done)), H', ⟨by have := HJ4.out; have := HJ22.out; have := HJ36.out; have := HK4.out; have := HJ69.out; have := HK6.out; omega⟩, ⟨by (with_reducible repeat (first | apply Kd.R_alloc | apply Kd.R_drewN | apply Kd.R_drew)); exact HO_10.out⟩, ⟨by (with_reducible repeat (first | apply RO_alloc | apply RO_drewN | apply RO_drew)); exact HO_13.out⟩, ⟨by (with_reducible repeat (first | apply RO_alloc | apply RO_drewN | apply RO_drew)); exact HO_15.out⟩, ⟨by (with_reducible repeat (first | apply RO_alloc | apply RO_drewN | apply RO_drew)); exact HO_675004.out⟩, ⟨by (try refine sO ?_); exact BK651.out⟩, ⟨by (try refine sO ?_); exact BK652.out⟩, ⟨by (try refine sO ?_); exact BK674.out⟩, ⟨by repeat (first | exact sH HB.out | refine sN (w := w) ?_ | with_reducible refine sG (w := w) ?_ (by assumption))⟩⟩
                                                          · rw [if_neg c94] at H
                                                            exact absurd H (by simp)
                                                        · rw [if_neg c93] at H
                                                          exact absurd H (by simp)
                                                      · rw [if_neg c92] at H
                                                        exact absurd H (by simp)
                                                    · rw [if_neg c90] at H
                                                      exact absurd H (by simp)
                                                  · rw [if_neg c89] at H
                                                    exact absurd H (by simp)
                                                · rw [if_neg c88] at H
                                                  exact absurd H (by simp)
                                              · rw [if_neg c86] at H
                                                exact absurd H (by simp)
                                            · rw [if_neg c85] at H
                                              have c85b0 : decide (x17_6 < (t681.length : Int)) = false := decide_eq_false c85
                                              clear c85
                                              replace H := Option.bind_eq_some_iff.mp H
                                              obtain ⟨t693, A1030, H⟩ := H
                                              try dsimp only at H
                                              have A103 := Aside0.mk A1030
                                              clear A1030
                                              by_cases c104 : t693 = true
                                              · subst c104
                                                have H1 : (twoslotlaw09_ImageDiffs.l0 k6 t677 x11_4 (wrap64 (x12_4 + 1)) a0_0 a0_1 a0_2 a0_3 l0_4 a1_0 a1_1 a1_2 a1_3 l1_4) = some r := by rw [if_pos rfl] at H; exact H
                                                clear H
                                                have H := H1
                                                clear H1
                                                have H' := Aside0.mk H
                                                clear H
                                                obtain ⟨Ao105, co105, eo105⟩ := RO_slice HO_13.out
                                                subst eo105
                                                obtain ⟨Ao106, co106, eo106⟩ := RO_slice HO_15.out
                                                subst eo106
                                                go_wp2_with (first | (go_at_call 33; (with_reducible refine (twoslotref09_SamePairs.calls k6 _ _ t681 _ _ t685 true _ ?side1 ?side2 ?side3 ?side4 A103.out).mono ?_); (case side1 => repeat (first | exact (RO_reads' HO_13.out).2.2 | (with_reducible refine Kd.C_alloc ?_ _) | (with_reducible refine Kd.C_drewN ?_ _) | (with_reducible refine Kd.C_drew ?_))); (case side2 => exact (RO_reads' HO_13.out).2.1); (case side3 => repeat (first | exact (RO_reads' HO_15.out).2.2 | (with_reducible refine Kd.C_alloc ?_ _) | (with_reducible refine Kd.C_drewN ?_ _) | (with_reducible refine Kd.C_drew ?_))); (case side4 => exact (RO_reads' HO_15.out).2.1); rintro e w' ⟨rfl, ⟨nd, rfl⟩⟩; (try first | exact ⟨rfl, _, World.drewN_drewN _ _ _⟩ | exact ⟨rfl, _, Eq.trans (World.drewN_drewN _ _ _) (congrArg (World.drewN _) (Nat.add_assoc _ _ _))⟩)))
                                                repeat (go_quiet (first | (go_at_call 33; (with_reducible refine (twoslotref09_SamePairs.calls k6 _ _ t681 _ _ t685 true _ ?side1 ?side2 ?side3 ?side4 A103.out).mono ?_); (case side1 => repeat (first | exact (RO_reads' HO_13.out).2.2 | (with_reducible refine Kd.C_alloc ?_ _) | (with_reducible refine Kd.C_drewN ?_ _) | (with_reducible refine Kd.C_drew ?_))); (case side2 => exact (RO_reads' HO_13.out).2.1); (case side3 => repeat (first | exact (RO_reads' HO_15.out).2.2 | (with_reducible refine Kd.C_alloc ?_ _) | (with_reducible refine Kd.C_drewN ?_ _) | (with_reducible refine Kd.C_drew ?_))); (case side4 => exact (RO_reads' HO_15.out).2.1); rintro e w' ⟨rfl, ⟨nd, rfl⟩⟩; (try first | exact ⟨rfl, _, World.drewN_drewN _ _ _⟩ | exact ⟨rfl, _, Eq.trans (World.drewN_drewN _ _ _) (congrArg (World.drewN _) (Nat.add_assoc _ _ _))⟩))); try go_wp2_with (first | (go_at_call 33; (with_reducible refine (twoslotref09_SamePairs.calls k6 _ _ t681 _ _ t685 true _ ?side1 ?side2 ?side3 ?side4 A103.out).mono ?_); (case side1 => repeat (first | exact (RO_reads' HO_13.out).2.2 | (with_reducible refine Kd.C_alloc ?_ _) | (with_reducible refine Kd.C_drewN ?_ _) | (with_reducible refine Kd.C_drew ?_))); (case side2 => exact (RO_reads' HO_13.out).2.1); (case side3 => repeat (first | exact (RO_reads' HO_15.out).2.2 | (with_reducible refine Kd.C_alloc ?_ _) | (with_reducible refine Kd.C_drewN ?_ _) | (with_reducible refine Kd.C_drew ?_))); (case side4 => exact (RO_reads' HO_15.out).2.1); rintro e w' ⟨rfl, ⟨nd, rfl⟩⟩; (try first | exact ⟨rfl, _, World.drewN_drewN _ _ _⟩ | exact ⟨rfl, _, Eq.trans (World.drewN_drewN _ _ _) (congrArg (World.drewN _) (Nat.add_assoc _ _ _))⟩))))
                                                go_roundg k6
                                                case measure => have := HJ4.out; have := HJ22.out; have := HJ36.out; have := HK4.out; have := HJ69.out; have := HK6.out; omega
                                                case rel => exact ⟨(x11_4), (wrap64 (x12_4 + 1)), (by first | rfl | (simp; done) | (simp [*]; done)), (by first | rfl | (simp; done) | (simp [*]; done)), H', ⟨by have := HJ4.out; have := HJ22.out; have := HJ36.out; have := HK4.out; have := HJ69.out; have := HK6.out; omega⟩, ⟨by (with_reducible repeat (first | apply Kd.R_alloc | apply Kd.R_drewN | apply Kd.R_drew)); exact HO_10.out⟩, ⟨by (with_reducible repeat (first | apply RO_alloc | apply RO_drewN | apply RO_drew)); exact HO_675004.out⟩, ⟨by (try refine sO ?_); exact BK651.out⟩, ⟨by (try refine sO ?_); exact BK652.out⟩, ⟨by (try refine sO ?_); exact BK674.out⟩, ⟨by repeat (first | exact sH HB.out | refine sN (w := w) ?_ | with_reducible refine sG (w := w) ?_ (by assumption))⟩⟩
                                              · replace c104 := Bool.eq_false_iff.mpr c104
                                                subst c104
                                                have H1 : (if x11_4 ≥ (t677.length : Int) then (none) else (if 0 ≤ x11_4 then (if x11_4 < (t677.length : Int) then (if (rd t677 x11_4) = x12_4 then (twoslotlaw09_ImageDiffs.l0 k6 t677 (wrap64 (x11_4 + 1)) (wrap64 (x12_4 + 1)) a0_0 a0_1 a0_2 a0_3 l0_4 a1_0 a1_1 a1_2 a1_3 l1_4) else (none)) else (none)) else (none))) = some r := by rw [if_neg (show ¬ (false = true) by decide)] at H; exact H
                                                clear H
                                                have H := H1
                                                clear H1
                                                by_cases c107 : x11_4 ≥ (t677.length : Int)
                                                · rw [if_pos c107] at H
                                                  exact absurd H (by simp)
                                                · rw [if_neg c107] at H
                                                  have c107b0 : decide ((t677.length : Int) ≤ x11_4) = false := decide_eq_false c107
                                                  clear c107
                                                  by_cases c108 : 0 ≤ x11_4
                                                  · rw [if_pos c108] at H
                                                    have c108b0 : decide (0 ≤ x11_4) = true := decide_eq_true c108
                                                    clear c108
                                                    by_cases c109 : x11_4 < (t677.length : Int)
                                                    · rw [if_pos c109] at H
                                                      have c109b0 : decide (x11_4 < (t677.length : Int)) = true := decide_eq_true c109
                                                      clear c109
                                                      by_cases c110 : (rd t677 x11_4) = x12_4
                                                      · rw [if_pos c110] at H
                                                        have c110b0 : ((rd t677 x11_4) == x12_4) = true := beq_iff_eq.mpr c110
                                                        have c110b1 : ((rd t677 x11_4) != x12_4) = false := bne_eq_false_iff_eq.mpr c110
                                                        clear c110
                                                        have H' := Aside0.mk H
                                                        clear H
                                                        obtain ⟨Ao111, co111, eo111⟩ := RO_slice HO_13.out
                                                        subst eo111
                                                        obtain ⟨Ao112, co112, eo112⟩ := RO_slice HO_15.out
                                                        subst eo112
                                                        go_wp2_with (first | (go_at_call 33; (with_reducible refine (twoslotref09_SamePairs.calls k6 _ _ t681 _ _ t685 false _ ?side1 ?side2 ?side3 ?side4 A103.out).mono ?_); (case side1 => repeat (first | exact (RO_reads' HO_13.out).2.2 | (with_reducible refine Kd.C_alloc ?_ _) | (with_reducible refine Kd.C_drewN ?_ _) | (with_reducible refine Kd.C_drew ?_))); (case side2 => exact (RO_reads' HO_13.out).2.1); (case side3 => repeat (first | exact (RO_reads' HO_15.out).2.2 | (with_reducible refine Kd.C_alloc ?_ _) | (with_reducible refine Kd.C_drewN ?_ _) | (with_reducible refine Kd.C_drew ?_))); (case side4 => exact (RO_reads' HO_15.out).2.1); rintro e w' ⟨rfl, ⟨nd, rfl⟩⟩; (try first | exact ⟨rfl, _, World.drewN_drewN _ _ _⟩ | exact ⟨rfl, _, Eq.trans (World.drewN_drewN _ _ _) (congrArg (World.drewN _) (Nat.add_assoc _ _ _))⟩); obtain ⟨Ao113, co113, eo113⟩ := Kd.R_slice HO_10.out; subst eo113; have p694 : 0 ≤ (x11_4 : Int) := of_decide_eq_true (by first | (with_reducible assumption) | assumption); have q694 : x11_4 < (t677.length : Int) := of_decide_eq_true (by first | (with_reducible assumption) | assumption); obtain ⟨ad694, e694, hx694_0⟩ := Kd.at_int (Kd.R_reads' HO_10.out).2.2 x11_4 p694 q694; cases e694; replace p694 := eq_true p694; replace q694 := eq_true q694))
                                                        repeat (go_quiet (first | (go_at_call 33; (with_reducible refine (twoslotref09_SamePairs.calls k6 _ _ t681 _ _ t685 false _ ?side1 ?side2 ?side3 ?side4 A103.out).mono ?_); (case side1 => repeat (first | exact (RO_reads' HO_13.out).2.2 | (with_reducible refine Kd.C_alloc ?_ _) | (with_reducible refine Kd.C_drewN ?_ _) | (with_reducible refine Kd.C_drew ?_))); (case side2 => exact (RO_reads' HO_13.out).2.1); (case side3 => repeat (first | exact (RO_reads' HO_15.out).2.2 | (with_reducible refine Kd.C_alloc ?_ _) | (with_reducible refine Kd.C_drewN ?_ _) | (with_reducible refine Kd.C_drew ?_))); (case side4 => exact (RO_reads' HO_15.out).2.1); rintro e w' ⟨rfl, ⟨nd, rfl⟩⟩; (try first | exact ⟨rfl, _, World.drewN_drewN _ _ _⟩ | exact ⟨rfl, _, Eq.trans (World.drewN_drewN _ _ _) (congrArg (World.drewN _) (Nat.add_assoc _ _ _))⟩); obtain ⟨Ao113, co113, eo113⟩ := Kd.R_slice HO_10.out; subst eo113; have p694 : 0 ≤ (x11_4 : Int) := of_decide_eq_true (by first | (with_reducible assumption) | assumption); have q694 : x11_4 < (t677.length : Int) := of_decide_eq_true (by first | (with_reducible assumption) | assumption); obtain ⟨ad694, e694, hx694_0⟩ := Kd.at_int (Kd.R_reads' HO_10.out).2.2 x11_4 p694 q694; cases e694; replace p694 := eq_true p694; replace q694 := eq_true q694)); try go_wp2_with (first | (go_at_call 33; (with_reducible refine (twoslotref09_SamePairs.calls k6 _ _ t681 _ _ t685 false _ ?side1 ?side2 ?side3 ?side4 A103.out).mono ?_); (case side1 => repeat (first | exact (RO_reads' HO_13.out).2.2 | (with_reducible refine Kd.C_alloc ?_ _) | (with_reducible refine Kd.C_drewN ?_ _) | (with_reducible refine Kd.C_drew ?_))); (case side2 => exact (RO_reads' HO_13.out).2.1); (case side3 => repeat (first | exact (RO_reads' HO_15.out).2.2 | (with_reducible refine Kd.C_alloc ?_ _) | (with_reducible refine Kd.C_drewN ?_ _) | (with_reducible refine Kd.C_drew ?_))); (case side4 => exact (RO_reads' HO_15.out).2.1); rintro e w' ⟨rfl, ⟨nd, rfl⟩⟩; (try first | exact ⟨rfl, _, World.drewN_drewN _ _ _⟩ | exact ⟨rfl, _, Eq.trans (World.drewN_drewN _ _ _) (congrArg (World.drewN _) (Nat.add_assoc _ _ _))⟩); obtain ⟨Ao113, co113, eo113⟩ := Kd.R_slice HO_10.out; subst eo113; have p694 : 0 ≤ (x11_4 : Int) := of_decide_eq_true (by first | (with_reducible assumption) | assumption); have q694 : x11_4 < (t677.length : Int) := of_decide_eq_true (by first | (with_reducible assumption) | assumption); obtain ⟨ad694, e694, hx694_0⟩ := Kd.at_int (Kd.R_reads' HO_10.out).2.2 x11_4 p694 q694; cases e694; replace p694 := eq_true p694; replace q694 := eq_true q694)))
                                                        go_roundg k6
                                                        case measure => have := HJ4.out; have := HJ22.out; have := HJ36.out; have := HK4.out; have := HJ69.out; have := HK6.out; omega
                                                        case rel => exact ⟨(wrap64 (x11_4 + 1)), (wrap64 (x12_4 + 1)), (by first | rfl | (simp; done) | (simp [*]; done)), (by first | rfl | (simp; done) | (simp [*]; done)), H', ⟨by have := HJ4.out; have := HJ22.out; have := HJ36.out; have := HK4.out; have := HJ69.out; have := HK6.out; omega⟩, ⟨by (with_reducible repeat (first | apply Kd.R_alloc | apply Kd.R_drewN | apply Kd.R_drew)); exact HO_10.out⟩, ⟨by (with_reducible repeat (first | apply RO_alloc | apply RO_drewN | apply RO_drew)); exact HO_675004.out⟩, ⟨by (try refine sO ?_); exact BK651.out⟩, ⟨by (try refine sO ?_); exact BK652.out⟩, ⟨by (try refine sO ?_); exact BK674.out⟩, ⟨by repeat (first | exact sH HB.out | refine sN (w := w) ?_ | with_reducible refine sG (w := w) ?_ (by assumption))⟩⟩
                                                      · rw [if_neg c110] at H
                                                        exact absurd H (by simp)
                                                    · rw [if_neg c109] at H
                                                      exact absurd H (by simp)
                                                  · rw [if_neg c108] at H
                                                    exact absurd H (by simp)
                                · rw [if_neg c67] at H
                                  have c67b0 : decide (x12_4 < a0_3) = false := decide_eq_false c67
                                  clear c67
                                  obtain rfl := Option.some.inj H
                                  have hnb114 := NB651_652.out
                                  have hnc114 := NB652_651.out
                                  have hnb115 := NB651_674.out
                                  have hnc115 := NB674_651.out
                                  obtain ⟨hcz116_0, hcz116_1, hcz116_2, hcz116_3, hcz116_4, hfz116_0, hfz116_1, hfz116_2, hfz116_3, hfz116_4⟩ := cs5 BK651.out
                                  obtain ⟨Ao117, co117, eo117⟩ := Kd.R_slice HO_10.out
                                  subst eo117
                                  go_wp2
                                  repeat (go_quiet (fail); try go_wp2)
                                  go_ret
                                  exact ⟨by first | rfl | (simp [errW_none, errW_some] <;> rfl) | (simp [*, errW_none, errW_some] <;> rfl), by repeat (first | exact sH HB.out | refine sN (w := w) ?_ | with_reducible refine sG (w := w) ?_ (by assumption))⟩
                          · rw [if_neg c65] at H
                            exact absurd H (by simp)
                  · rw [if_neg c35] at H
                    have c35b0 : (t665 == 0) = false := beq_eq_false_iff_ne.mpr c35
                    have c35b1 : (t665 != 0) = true := bne_iff_ne.mpr c35
                    obtain rfl := Option.some.inj H
                    have hnb118 := NB651_652.out
                    have hnc118 := NB652_651.out
                    obtain ⟨hcz119_0, hcz119_1, hcz119_2, hcz119_3, hcz119_4, hfz119_0, hfz119_1, hfz119_2, hfz119_3, hfz119_4⟩ := cs5 BK651.out; obtain ⟨hcz120_0, hcz120_1, hcz120_2, hcz120_3, hcz120_4, hfz120_0, hfz120_1, hfz120_2, hfz120_3, hfz120_4⟩ := cs5 BK652.out
                    go_wp2_with (first | (go_at_call 14; (with_reducible refine (image_Diff.calls kj22 a0_0 a0_1 a0_2 a0_3 _ _ l0_4 a1_0 a1_1 a1_2 a1_3 _ _ l1_4 t662 t665 _ ?side1 ?side2 ?side3 ?side4 A34.out).mono ?_); (case side1 => exact sC (Kd.C_below HR0_4.out HB.out)); (case side2 => exact HC0_4.out); (case side3 => exact sC (Kd.C_below HR1_4.out HB.out)); (case side4 => exact HC1_4.out); rintro e w121 ⟨v663, rfl, ho0, hb⟩; have HO664 := Aside0.mk (RO_lower ho0 (below_size (by repeat (first | exact sH HB.out | refine sN (w := w) ?_ | with_reducible refine sG (w := w) ?_ (by assumption))))); replace BK651 := kB BK651 hb; replace BK652 := kB BK652 hb; replace HB := Aside0.mk (below_step (by repeat (first | exact sH HB.out | refine sN (w := w) ?_ | with_reducible refine sG (w := w) ?_ (by assumption))) hb); (try clear hb); (try clear hb2); (try clear hk); (try clear hi); (try clear ho0); obtain ⟨Ao122, co122, eo122⟩ := RO_slice HO664.out; subst eo122))
                    repeat (go_quiet (first | (go_at_call 14; (with_reducible refine (image_Diff.calls kj22 a0_0 a0_1 a0_2 a0_3 _ _ l0_4 a1_0 a1_1 a1_2 a1_3 _ _ l1_4 t662 t665 _ ?side1 ?side2 ?side3 ?side4 A34.out).mono ?_); (case side1 => exact sC (Kd.C_below HR0_4.out HB.out)); (case side2 => exact HC0_4.out); (case side3 => exact sC (Kd.C_below HR1_4.out HB.out)); (case side4 => exact HC1_4.out); rintro e w121 ⟨v663, rfl, ho0, hb⟩; have HO664 := Aside0.mk (RO_lower ho0 (below_size (by repeat (first | exact sH HB.out | refine sN (w := w) ?_ | with_reducible refine sG (w := w) ?_ (by assumption))))); replace BK651 := kB BK651 hb; replace BK652 := kB BK652 hb; replace HB := Aside0.mk (below_step (by repeat (first | exact sH HB.out | refine sN (w := w) ?_ | with_reducible refine sG (w := w) ?_ (by assumption))) hb); (try clear hb); (try clear hb2); (try clear hk); (try clear hi); (try clear ho0); obtain ⟨Ao122, co122, eo122⟩ := RO_slice HO664.out; subst eo122)); try go_wp2_with (first | (go_at_call 14; (with_reducible refine (image_Diff.calls kj22 a0_0 a0_1 a0_2 a0_3 _ _ l0_4 a1_0 a1_1 a1_2 a1_3 _ _ l1_4 t662 t665 _ ?side1 ?side2 ?side3 ?side4 A34.out).mono ?_); (case side1 => exact sC (Kd.C_below HR0_4.out HB.out)); (case side2 => exact HC0_4.out); (case side3 => exact sC (Kd.C_below HR1_4.out HB.out)); (case side4 => exact HC1_4.out); rintro e w121 ⟨v663, rfl, ho0, hb⟩; have HO664 := Aside0.mk (RO_lower ho0 (below_size (by repeat (first | exact sH HB.out | refine sN (w := w) ?_ | with_reducible refine sG (w := w) ?_ (by assumption))))); replace BK651 := kB BK651 hb; replace BK652 := kB BK652 hb; replace HB := Aside0.mk (below_step (by repeat (first | exact sH HB.out | refine sN (w := w) ?_ | with_reducible refine sG (w := w) ?_ (by assumption))) hb); (try clear hb); (try clear hb2); (try clear hk); (try clear hi); (try clear ho0); obtain ⟨Ao122, co122, eo122⟩ := RO_slice HO664.out; subst eo122)))
                    go_ret
                    exact ⟨by first | rfl | (simp [errW_none, errW_some] <;> rfl) | (simp [*, errW_none, errW_some] <;> rfl), by repeat (first | exact sH HB.out | refine sN (w := w) ?_ | with_reducible refine sG (w := w) ?_ (by assumption))⟩
          · rw [if_neg c22] at H
            have c22b0 : (t659 == 0) = false := beq_eq_false_iff_ne.mpr c22
            have c22b1 : (t659 != 0) = true := bne_iff_ne.mpr c22
            by_cases c123 : (t656.length : Int) = 0
            · rw [if_pos c123] at H
              have c123b0 : ((t656.length : Int) == 0) = true := beq_iff_eq.mpr c123
              have c123b1 : ((t656.length : Int) != 0) = false := bne_eq_false_iff_eq.mpr c123
              clear c123
              replace H := Option.bind_eq_some_iff.mp H
              obtain ⟨t660, A1240, H⟩ := H
              try dsimp only at H
              have A124 := Aside0.mk A1240
              clear A1240
              obtain rfl := Option.some.inj H
              have hnb125 := NB651_652.out
              have hnc125 := NB652_651.out
              obtain ⟨hcz126_0, hcz126_1, hcz126_2, hcz126_3, hcz126_4, hfz126_0, hfz126_1, hfz126_2, hfz126_3, hfz126_4⟩ := cs5 BK651.out
              go_wp2_with (first | (go_at_call 14; (with_reducible refine (image_Diff.calls kj4 a0_0 a0_1 a0_2 a0_3 _ _ l0_4 a0_0 a0_1 a0_2 a0_3 _ _ l0_4 t656 t659 _ ?side1 ?side2 ?side3 ?side4 A21.out).mono ?_); (case side1 => exact sC (Kd.C_below HR0_4.out HB.out)); (case side2 => exact HC0_4.out); (case side3 => exact sC (Kd.C_below HR0_4.out HB.out)); (case side4 => exact HC0_4.out); rintro e w127 ⟨v657, rfl, ho0, hb⟩; have HO658 := Aside0.mk (RO_lower ho0 (below_size (by repeat (first | exact sH HB.out | refine sN (w := w) ?_ | with_reducible refine sG (w := w) ?_ (by assumption))))); replace BK651 := kB BK651 hb; replace BK652 := kB BK652 hb; replace HB := Aside0.mk (below_step (by repeat (first | exact sH HB.out | refine sN (w := w) ?_ | with_reducible refine sG (w := w) ?_ (by assumption))) hb); (try clear hb); (try clear hb2); (try clear hk); (try clear hi); (try clear ho0); obtain ⟨Ao128, co128, eo128⟩ := RO_slice HO658.out; subst eo128; obtain ⟨hcz129_0, hcz129_1, hcz129_2, hcz129_3, hcz129_4, hfz129_0, hfz129_1, hfz129_2, hfz129_3, hfz129_4⟩ := cs5 BK651.out) | (go_at_call 17; (with_reducible refine (image_Check.calls kj4 a0_0 a0_1 a0_2 a0_3 _ _ l0_4 t660 _ ?side1 ?side2 A124.out).mono ?_); (case side1 => exact sC (Kd.C_below HR0_4.out HB.out)); (case side2 => exact HC0_4.out); rintro e w130 ⟨rfl, hb⟩; replace HO658 := Aside0.mk (RO_below (by (with_reducible repeat (first | apply RO_alloc | apply RO_drewN | apply RO_drew)); exact HO658.out) hb); replace BK651 := kB BK651 hb; replace BK652 := kB BK652 hb; replace HB := Aside0.mk (below_step (by repeat (first | exact sH HB.out | refine sN (w := w) ?_ | with_reducible refine sG (w := w) ?_ (by assumption))) hb); (try clear hb); (try clear hb2); (try clear hk); (try clear hi)))
              repeat (go_quiet (first | (go_at_call 14; (with_reducible refine (image_Diff.calls kj4 a0_0 a0_1 a0_2 a0_3 _ _ l0_4 a0_0 a0_1 a0_2 a0_3 _ _ l0_4 t656 t659 _ ?side1 ?side2 ?side3 ?side4 A21.out).mono ?_); (case side1 => exact sC (Kd.C_below HR0_4.out HB.out)); (case side2 => exact HC0_4.out); (case side3 => exact sC (Kd.C_below HR0_4.out HB.out)); (case side4 => exact HC0_4.out); rintro e w127 ⟨v657, rfl, ho0, hb⟩; have HO658 := Aside0.mk (RO_lower ho0 (below_size (by repeat (first | exact sH HB.out | refine sN (w := w) ?_ | with_reducible refine sG (w := w) ?_ (by assumption))))); replace BK651 := kB BK651 hb; replace BK652 := kB BK652 hb; replace HB := Aside0.mk (below_step (by repeat (first | exact sH HB.out | refine sN (w := w) ?_ | with_reducible refine sG (w := w) ?_ (by assumption))) hb); (try clear hb); (try clear hb2); (try clear hk); (try clear hi); (try clear ho0); obtain ⟨Ao128, co128, eo128⟩ := RO_slice HO658.out; subst eo128; obtain ⟨hcz129_0, hcz129_1, hcz129_2, hcz129_3, hcz129_4, hfz129_0, hfz129_1, hfz129_2, hfz129_3, hfz129_4⟩ := cs5 BK651.out) | (go_at_call 17; (with_reducible refine (image_Check.calls kj4 a0_0 a0_1 a0_2 a0_3 _ _ l0_4 t660 _ ?side1 ?side2 A124.out).mono ?_); (case side1 => exact sC (Kd.C_below HR0_4.out HB.out)); (case side2 => exact HC0_4.out); rintro e w130 ⟨rfl, hb⟩; replace HO658 := Aside0.mk (RO_below (by (with_reducible repeat (first | apply RO_alloc | apply RO_drewN | apply RO_drew)); exact HO658.out) hb); replace BK651 := kB BK651 hb; replace BK652 := kB BK652 hb; replace HB := Aside0.mk (below_step (by repeat (first | exact sH HB.out | refine sN (w := w) ?_ | with_reducible refine sG (w := w) ?_ (by assumption))) hb); (try clear hb); (try clear hb2); (try clear hk); (try clear hi))); try go_wp2_with (first | (go_at_call 14; (with_reducible refine (image_Diff.calls kj4 a0_0 a0_1 a0_2 a0_3 _ _ l0_4 a0_0 a0_1 a0_2 a0_3 _ _ l0_4 t656 t659 _ ?side1 ?side2 ?side3 ?side4 A21.out).mono ?_); (case side1 => exact sC (Kd.C_below HR0_4.out HB.out)); (case side2 => exact HC0_4.out); (case side3 => exact sC (Kd.C_below HR0_4.out HB.out)); (case side4 => exact HC0_4.out); rintro e w127 ⟨v657, rfl, ho0, hb⟩; have HO658 := Aside0.mk (RO_lower ho0 (below_size (by repeat (first | exact sH HB.out | refine sN (w := w) ?_ | with_reducible refine sG (w := w) ?_ (by assumption))))); replace BK651 := kB BK651 hb; replace BK652 := kB BK652 hb; replace HB := Aside0.mk (below_step (by repeat (first | exact sH HB.out | refine sN (w := w) ?_ | with_reducible refine sG (w := w) ?_ (by assumption))) hb); (try clear hb); (try clear hb2); (try clear hk); (try clear hi); (try clear ho0); obtain ⟨Ao128, co128, eo128⟩ := RO_slice HO658.out; subst eo128; obtain ⟨hcz129_0, hcz129_1, hcz129_2, hcz129_3, hcz129_4, hfz129_0, hfz129_1, hfz129_2, hfz129_3, hfz129_4⟩ := cs5 BK651.out) | (go_at_call 17; (with_reducible refine (image_Check.calls kj4 a0_0 a0_1 a0_2 a0_3 _ _ l0_4 t660 _ ?side1 ?side2 A124.out).mono ?_); (case side1 => exact sC (Kd.C_below HR0_4.out HB.out)); (case side2 => exact HC0_4.out); rintro e w130 ⟨rfl, hb⟩; replace HO658 := Aside0.mk (RO_below (by (with_reducible repeat (first | apply RO_alloc | apply RO_drewN | apply RO_drew)); exact HO658.out) hb); replace BK651 := kB BK651 hb; replace BK652 := kB BK652 hb; replace HB := Aside0.mk (below_step (by repeat (first | exact sH HB.out | refine sN (w := w) ?_ | with_reducible refine sG (w := w) ?_ (by assumption))) hb); (try clear hb); (try clear hb2); (try clear hk); (try clear hi))))
              go_ret
              exact ⟨by first | rfl | (simp [errW_none, errW_some] <;> rfl) | (simp [*, errW_none, errW_some] <;> rfl), by repeat (first | exact sH HB.out | refine sN (w := w) ?_ | with_reducible refine sG (w := w) ?_ (by assumption))⟩
            · rw [if_neg c123] at H
              exact absurd H (by simp)
  · replace c4 := Bool.eq_false_iff.mpr c4
    subst c4
    have H1 : (none) = some r := by rw [if_neg (show ¬ (false = true) by decide)] at H; exact H
    clear H
    have H := H1
    clear H1
    exact absurd H (by simp)

end Go.Proofs.Ytcnmocbiekfpbaa.P

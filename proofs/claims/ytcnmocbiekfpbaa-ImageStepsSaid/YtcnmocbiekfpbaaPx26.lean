-- Written by a program of this session, after the kit's print.
import Derived.Test.YtcnmocbiekfpbaaP0RO
import Derived.Test.YtcnmocbiekfpbaaP0Short
import Derived.Test.YtcnmocbiekfpbaaPx0
import Derived.Test.YtcnmocbiekfpbaaPx1
import Derived.Test.YtcnmocbiekfpbaaPx4
import Derived.Test.YtcnmocbiekfpbaaPx5
import Derived.Test.YtcnmocbiekfpbaaPx6
import Derived.Test.YtcnmocbiekfpbaaPx7
import Derived.Test.YtcnmocbiekfpbaaPx8
import Derived.Test.YtcnmocbiekfpbaaPx16
import Derived.Test.YtcnmocbiekfpbaaPx17
namespace Go.Proofs.Ytcnmocbiekfpbaa.P
open Go.RowKit Go.Proofs.YtcnmocbiekfpbaaW.PrintWords Go.Proofs.YtcnmocbiekfpbaaW.PrintLast Go.Proofs.YtcnmocbiekfpbaaW.PrintMore
attribute [local go_sem] max2_int min2_int max_two min_two max_three min_three max_four min_four   -- for this text's walks alone
set_option linter.unusedVariables false
set_option linter.unusedSimpArgs false

attribute [local go_sem high] eqA24
mutual
def twoslotlaw09_ImageSteps.j0 : Nat → List (S35) → Int → Int → Bool → Int → Int → Int → Int → List (List Int) → Option (Bool)
  | 0, _, _, _, _, _, _, _, _, _ => none
  | k + 1, x1, x2, x3, x35, x527000, x527001, x527002, x527003, x527004 => if x35 = true then (some true) else ((image_After.f k x527000 x527001 x527002 x527003 x527004 x1 x2).bind fun bt530 => (if bt530.2.2.2.2.2 = 0 then (twoslotlaw09_ImageSteps.l0 k x1 x2 x3 0 x527000 x527001 x527002 x527003 x527004 bt530.1 bt530.2.1 bt530.2.2.1 bt530.2.2.2.1 bt530.2.2.2.2.1 x527000 x527001 x527002 x527003 x527004) else (if (bt530.2.2.2.2.1.length : Int) = 0 then (some (bt530.1 == 0 && (bt530.2.1 == 0 && (bt530.2.2.1 == 0 && (bt530.2.2.2.1 == 0))))) else (none))))
def twoslotlaw09_ImageSteps.l0 : Nat → List (S35) → Int → Int → Int → Int → Int → Int → Int → List (List Int) → Int → Int → Int → Int → List (List Int) → Int → Int → Int → Int → List (List Int) → Option (Bool)
  | 0, _, _, _, _, _, _, _, _, _, _, _, _, _, _, _, _, _, _, _ => none
  | k + 1, x1, x2, x3, x13, x527000, x527001, x527002, x527003, x527004, x539000, x539001, x539002, x539003, x539004, x540000, x540001, x540002, x540003, x540004 => if x13 < x2 then (if 0 ≤ x13 then (if x13 < (x1.length : Int) then ((image_Put.f k x540000 x540001 x540002 x540003 x540004 ((rd_T35 x1 x13).f0) ((rd_T35 x1 x13).f1) ((rd_T35 x1 x13).f2) ((rd_T35 x1 x13).f3)).bind fun bt541 => (if bt541.2.2.2.2.2 = 0 then (twoslotlaw09_ImageSteps.j2 k x1 x2 x3 x13 ((bt541.2.2.2.2.1.length : Int) != (x527004.length : Int)) x527000 x527001 x527002 x527003 x527004 x539000 x539001 x539002 x539003 x539004 x540000 x540001 x540002 x540003 x540004 bt541.1 bt541.2.1 bt541.2.2.1 bt541.2.2.2.1 bt541.2.2.2.2.1) else (none))) else (none)) else (none)) else ((image_Same.f k x540000 x540001 x540002 x540003 x540004 x539000 x539001 x539002 x539003 x539004).bind fun t557 => (if t557 = true then ((image_Wiped.f k x539000 x539001 x539002 x539003 x539004 x3).bind fun bt558 => (if bt558.2.2.2.2.2 = 0 then (twoslotlaw09_ImageSteps.l2 k x3 0 x527000 x527001 x527002 x527003 x527004 x539000 x539001 x539002 x539003 x539004 bt558.1 bt558.2.1 bt558.2.2.1 bt558.2.2.2.1 bt558.2.2.2.2.1) else (if x3 < 0 then (some true) else (some (decide (x3 ≥ (wrap64 (x527000 + x527001)))))))) else (none)))
def twoslotlaw09_ImageSteps.j2 : Nat → List (S35) → Int → Int → Int → Bool → Int → Int → Int → Int → List (List Int) → Int → Int → Int → Int → List (List Int) → Int → Int → Int → Int → List (List Int) → Int → Int → Int → Int → List (List Int) → Option (Bool)
  | 0, _, _, _, _, _, _, _, _, _, _, _, _, _, _, _, _, _, _, _, _, _, _, _, _, _ => none
  | k + 1, x1, x2, x3, x13, x80, x527000, x527001, x527002, x527003, x527004, x539000, x539001, x539002, x539003, x539004, x540000, x540001, x540002, x540003, x540004, x550000, x550001, x550002, x550003, x550004 => if x80 = true then (none) else (if 0 ≤ x13 then (if x13 < (x1.length : Int) then (twoslotlaw09_ImageSteps.l1 k x1 x2 x3 x13 (wrap64 ((wrap64 ((wrap64 ((wrap64 (((rd_T35 x1 x13).f0) * x527003)) + ((rd_T35 x1 x13).f1))) * 2)) + ((rd_T35 x1 x13).f2))) 0 x527000 x527001 x527002 x527003 x527004 x539000 x539001 x539002 x539003 x539004 x540000 x540001 x540002 x540003 x540004 x550000 x550001 x550002 x550003 x550004) else (none)) else (none))
def twoslotlaw09_ImageSteps.l1 : Nat → List (S35) → Int → Int → Int → Int → Int → Int → Int → Int → Int → List (List Int) → Int → Int → Int → Int → List (List Int) → Int → Int → Int → Int → List (List Int) → Int → Int → Int → Int → List (List Int) → Option (Bool)
  | 0, _, _, _, _, _, _, _, _, _, _, _, _, _, _, _, _, _, _, _, _, _, _, _, _, _, _ => none
  | k + 1, x1, x2, x3, x13, x16, x17, x527000, x527001, x527002, x527003, x527004, x539000, x539001, x539002, x539003, x539004, x540000, x540001, x540002, x540003, x540004, x550000, x550001, x550002, x550003, x550004 => if x17 < (x527004.length : Int) then (if 0 ≤ x17 then (if x17 < (x540004.length : Int) then (if x17 = x16 then (if 0 ≤ x13 then (if x13 < (x1.length : Int) then (if x17 < (x550004.length : Int) then (if (strOfNums (rd_L1 x550004 x17)).toList = (strOfNums ((rd_T35 x1 x13).f3)).toList then (twoslotlaw09_ImageSteps.l1 k x1 x2 x3 x13 x16 (wrap64 (x17 + 1)) x527000 x527001 x527002 x527003 x527004 x539000 x539001 x539002 x539003 x539004 x540000 x540001 x540002 x540003 x540004 x550000 x550001 x550002 x550003 x550004) else (none)) else (none)) else (none)) else (none)) else (if x17 < (x550004.length : Int) then (if (strOfNums (rd_L1 x550004 x17)).toList = (strOfNums (rd_L1 x540004 x17)).toList then (twoslotlaw09_ImageSteps.l1 k x1 x2 x3 x13 x16 (wrap64 (x17 + 1)) x527000 x527001 x527002 x527003 x527004 x539000 x539001 x539002 x539003 x539004 x540000 x540001 x540002 x540003 x540004 x550000 x550001 x550002 x550003 x550004) else (none)) else (none))) else (none)) else (none)) else (twoslotlaw09_ImageSteps.l0 k x1 x2 x3 (wrap64 (x13 + 1)) x527000 x527001 x527002 x527003 x527004 x539000 x539001 x539002 x539003 x539004 x550000 x550001 x550002 x550003 x550004)
def twoslotlaw09_ImageSteps.l2 : Nat → Int → Int → Int → Int → Int → Int → List (List Int) → Int → Int → Int → Int → List (List Int) → Int → Int → Int → Int → List (List Int) → Option (Bool)
  | 0, _, _, _, _, _, _, _, _, _, _, _, _, _, _, _, _, _ => none
  | k + 1, x3, x20, x527000, x527001, x527002, x527003, x527004, x539000, x539001, x539002, x539003, x539004, x567000, x567001, x567002, x567003, x567004 => if x20 < (x539004.length : Int) then (if 0 ≤ x20 then (if x527003 = 0 then (none) else (if (wrap64 (Int.tdiv (wrap64 (Int.tdiv x20 2)) x527003)) = x3 then (if x20 < (x567004.length : Int) then (if (strOfNums (rd_L1 x567004 x20)).toList = ([] : List UInt8) then (twoslotlaw09_ImageSteps.l2 k x3 (wrap64 (x20 + 1)) x527000 x527001 x527002 x527003 x527004 x539000 x539001 x539002 x539003 x539004 x567000 x567001 x567002 x567003 x567004) else (none)) else (none)) else (if x20 < (x567004.length : Int) then (if (strOfNums (rd_L1 x567004 x20)).toList = (strOfNums (rd_L1 x539004 x20)).toList then (twoslotlaw09_ImageSteps.l2 k x3 (wrap64 (x20 + 1)) x527000 x527001 x527002 x527003 x527004 x539000 x539001 x539002 x539003 x539004 x567000 x567001 x567002 x567003 x567004) else (none)) else (none)))) else (none)) else ((image_Check.f k x567000 x567001 x567002 x567003 x567004).bind fun t567 => (if t567 = 0 then ((image_Check.f k x539000 x539001 x539002 x539003 x539004).bind fun t568 => (some (t568 == 0))) else (none)))
end
def twoslotlaw09_ImageSteps.f (k : Nat) (a0_0 : Int) (a0_1 : Int) (a0_2 : Int) (a0_3 : Int) (l0_4 : List (List Int)) (l1 : List (S35)) (a2 : Int) (a3 : Int) : Option (Bool) := (twoslotlaw09_alive.f).bind fun t527 => (if t527 = true then ((twoslotlaw09_much.f a0_0 a0_1 a0_2 a0_3 l0_4).bind fun t528 => (if t528 = true then (twoslotlaw09_ImageSteps.j0 k l1 a2 a3 true a0_0 a0_1 a0_2 a0_3 l0_4) else ((twoslotlaw09_heavy.f k l1).bind fun t529 => (if t529 = true then (twoslotlaw09_ImageSteps.j0 k l1 a2 a3 true a0_0 a0_1 a0_2 a0_3 l0_4) else (twoslotlaw09_ImageSteps.j0 k l1 a2 a3 (decide ((l1.length : Int) > 40)) a0_0 a0_1 a0_2 a0_3 l0_4))))) else (none))
def twoslotlaw09_ImageSteps.T13 : Bool × List (List Nat × List Nat) := (true, [([], []), ([], []), ([], []), ([1, 2], [1, 2]), ([3], [3]), ([0, 4], [0, 4]), ([5], [5]), ([6], [6]), ([6], [6]), ([], []), ([9, 7, 5, 0, 1, 2, 3, 4, 5, 6, 7, 9], [7, 9]), ([8, 10, 0, 1, 2, 3, 4, 5, 6, 7, 8, 9, 10], [8])])
def twoslotlaw09_ImageSteps.B13 : List Nat := [0, 0, 0, 6, 14, 31, 63, 127, 127, 0, 767, 2047]
theorem twoslotlaw09_ImageSteps.tab13 : rtab .any (opsOf Try.f7 13) = twoslotlaw09_ImageSteps.T13 := by kernel_rfl
theorem twoslotlaw09_ImageSteps.bits13 : waitsOk twoslotlaw09_ImageSteps.T13.2 twoslotlaw09_ImageSteps.B13 = true := by kernel_rfl
def twoslotlaw09_ImageSteps.T16 : Bool × List (List Nat × List Nat) := (true, [([], []), ([], []), ([0, 1], [0, 1]), ([2], [2]), ([3], [3]), ([], []), ([5], [5]), ([6], [6]), ([4, 7], [4, 7]), ([], []), ([], []), ([9, 10], [9, 10]), ([11], [11]), ([12], [12]), ([8, 13], [8, 13]), ([14], [14]), ([], []), ([], []), ([16, 17], [16, 17]), ([18], [18]), ([19], [19]), ([15, 20], [15, 20]), ([21, 0, 1, 2, 3, 4, 5, 6, 7, 8, 9, 10, 11, 12, 13, 14, 15, 16, 17, 18, 19, 20, 21], [21])])
def twoslotlaw09_ImageSteps.B16 : List Nat := [0, 0, 3, 7, 15, 0, 32, 96, 255, 0, 0, 1536, 3584, 7680, 16383, 32767, 0, 0, 196608, 458752, 983040, 2097151, 4194303]
theorem twoslotlaw09_ImageSteps.tab16 : rtab .any (opsOf Try.f7 16) = twoslotlaw09_ImageSteps.T16 := by kernel_rfl
theorem twoslotlaw09_ImageSteps.bits16 : waitsOk twoslotlaw09_ImageSteps.T16.2 twoslotlaw09_ImageSteps.B16 = true := by kernel_rfl
set_option maxHeartbeats 8000000 in
set_option maxRecDepth 100000 in
theorem twoslotlaw09_ImageSteps.calls (k : Nat) (a0_0 : Int) (a0_1 : Int) (a0_2 : Int) (a0_3 : Int) (P0_4_ : Nat → Prop) (u9000_ : Value) (l0_4 : List (List Int)) (A1 : Option Addr) (c1 : Nat) (l1 : List (S35)) (a2 : Int) (a3 : Int) (r : Bool) (w : World) (ho0_4 : RO (Kd.slice 5 (Kd.int .u8)) 33 w w.heap.size (fun _ => True) u9000_ l0_4) (hr1 : Kd.C k35 w A1 l1.length l1) (hc1 : l1.length ≤ c1) (h : twoslotlaw09_ImageSteps.f k a0_0 a0_1 a0_2 a0_3 l0_4 l1 a2 a3 = some r) :
    Calls Try.prog 7 #[.agg #[.int .i64 a0_0, .int .i64 a0_1, .int .i64 a0_2, .int .i64 a0_3, u9000_], .slice A1 l1.length c1, .int .i64 a2, .int .i64 a3] w fun e w' => e = .returned (.bool r) ∧ Below w.heap.size w w' := by
  have hu27 := Try.underlying27
  have hu24 := Try.underlying24
  have hu35 := Try.underlying35
  have HO0_4 := Aside0.mk ho0_4
  clear ho0_4
  have HR1 := Aside0.mk hr1
  have HC1 := Aside0.mk hc1
  clear hr1 hc1
  have HB := Aside0.mk (Below.refl w.heap.size w)
  have H : ((twoslotlaw09_alive.f).bind fun t527 => (if t527 = true then ((twoslotlaw09_much.f a0_0 a0_1 a0_2 a0_3 l0_4).bind fun t528 => (if t528 = true then (twoslotlaw09_ImageSteps.j0 k l1 a2 a3 true a0_0 a0_1 a0_2 a0_3 l0_4) else ((twoslotlaw09_heavy.f k l1).bind fun t529 => (if t529 = true then (twoslotlaw09_ImageSteps.j0 k l1 a2 a3 true a0_0 a0_1 a0_2 a0_3 l0_4) else (twoslotlaw09_ImageSteps.j0 k l1 a2 a3 (decide ((l1.length : Int) > 40)) a0_0 a0_1 a0_2 a0_3 l0_4))))) else (none))) = some r := h
  clear h
  replace H := Option.bind_eq_some_iff.mp H
  obtain ⟨t527, A50, H⟩ := H
  try dsimp only at H
  have A5 := Aside0.mk A50
  clear A50
  by_cases c6 : t527 = true
  · subst c6
    have H1 : ((twoslotlaw09_much.f a0_0 a0_1 a0_2 a0_3 l0_4).bind fun t528 => (if t528 = true then (twoslotlaw09_ImageSteps.j0 k l1 a2 a3 true a0_0 a0_1 a0_2 a0_3 l0_4) else ((twoslotlaw09_heavy.f k l1).bind fun t529 => (if t529 = true then (twoslotlaw09_ImageSteps.j0 k l1 a2 a3 true a0_0 a0_1 a0_2 a0_3 l0_4) else (twoslotlaw09_ImageSteps.j0 k l1 a2 a3 (decide ((l1.length : Int) > 40)) a0_0 a0_1 a0_2 a0_3 l0_4))))) = some r := by rw [if_pos rfl] at H; exact H
    clear H
    have H := H1
    clear H1
    have HC7 := Aside0.mk H
    clear H
    obtain ⟨Ao8, co8, eo8⟩ := RO_slice HO0_4.out
    subst eo8
    go_enter Try.func7, Try.ntmps7
    go_upto_region 4 with (first | ((with_reducible refine gate_dst (N := 4) rfl ?_); (try (refine gate_guard (by rfl) ?_; dsimp only)); refine box_event rfl (N := 4) rfl (cs := #[.int .i64 a0_0, .int .i64 a0_1, .int .i64 a0_2, .int .i64 a0_3, .slice Ao8 l0_4.length co8]) (t := 27) (by go_simp; try rfl) ?_; intro gb526 hg w9 hbox hb; replace HO0_4 := Aside0.mk (RO_below (by (with_reducible repeat (first | apply RO_alloc | apply RO_drewN | apply RO_drew)); exact HO0_4.out) hb); have BK526 := Aside0.mk (hbox); have GW526 := Aside0.mk ((by rw [hg]; exact (sZ HB) : w.heap.size ≤ gb526)); have GE526 := Aside0.mk ((by rw [hg]; exact (sZ HB) : w.heap.size ≤ gb526)); replace HB := kH HB hb; clear hb hbox hg) | ((with_reducible refine gate_callee (f := 9) rfl ?_); refine goesL_ (some 22) rfl rfl Try.func9 (by kernel_rfl) rfl #[] rfl (by (try simp only [sM]); first | done | rfl | (simp only [sT]; rfl)) ?_; (with_reducible refine (twoslotlaw09_alive.calls  true _ A5.out).mono ?_); rintro e w10 ⟨rfl, hb⟩; refine ⟨_, rfl, ?_⟩; replace HO0_4 := Aside0.mk (RO_below (by (with_reducible repeat (first | apply RO_alloc | apply RO_drewN | apply RO_drew)); exact HO0_4.out) hb); replace BK526 := kB BK526 hb; replace HB := Aside0.mk (below_step (by repeat (first | exact sH HB.out | refine sN (w := w) ?_ | with_reducible refine sG (w := w) ?_ (by assumption))) hb); (try clear hb); (try clear hb2); (try clear hk); (try clear hi)))
    (try simp only [Act.put, List.setIfInBounds_toArray, List.set_cons_zero, List.set_cons_succ])
    go_cut [35] (fun v35 wc => ∃ (kq : Nat) (x35_6 : Bool), v35 = .bool x35_6 ∧ Aside0 (twoslotlaw09_ImageSteps.j0 kq l1 a2 a3 x35_6 a0_0 a0_1 a0_2 a0_3 l0_4 = some r) ∧ Aside0 (kq ≤ k) ∧ Aside0 (RO (Kd.slice 5 (Kd.int .u8)) 33 wc w.heap.size (fun _ => True) (.slice Ao8 l0_4.length co8) l0_4) ∧ Aside0 (wc.heap[gb526]? = some (.cells #[.int .i64 a0_0, .int .i64 a0_1, .int .i64 a0_2, .int .i64 a0_3, (.slice Ao8 l0_4.length co8)] 27 (0, 0))) ∧ Aside0 (Below w.heap.size w wc))
    case first =>
      have H := HC7.out
      clear HC7
      replace H := Option.bind_eq_some_iff.mp H
      obtain ⟨t528, A110, H⟩ := H
      try dsimp only at H
      have A11 := Aside0.mk A110
      clear A110
      by_cases c12 : t528 = true
      · subst c12
        have H1 : (twoslotlaw09_ImageSteps.j0 k l1 a2 a3 true a0_0 a0_1 a0_2 a0_3 l0_4) = some r := by rw [if_pos rfl] at H; exact H
        clear H
        have H := H1
        clear H1
        have H' := Aside0.mk H
        clear H; obtain ⟨hcz13_0, hcz13_1, hcz13_2, hcz13_3, hcz13_4, hfz13_0, hfz13_1, hfz13_2, hfz13_3, hfz13_4⟩ := cs5 BK526.out
        go_wp2_with (first | ((with_reducible refine gate_callee (f := 18) rfl ?_); refine goesL_ (some 26) rfl rfl Try.func18 (by kernel_rfl) rfl #[.agg #[.int .i64 a0_0, .int .i64 a0_1, .int .i64 a0_2, .int .i64 a0_3, .slice Ao8 l0_4.length co8]] rfl (by (try simp only [sM]); first | done | rfl | (simp only [sT]; rfl)) ?_; (with_reducible refine (twoslotlaw09_much.calls a0_0 a0_1 a0_2 a0_3 _ _ l0_4 true _ ?side1 ?side2 A11.out).mono ?_); (case side1 => repeat (first | exact (RO_reads' HO0_4.out).2.2 | (with_reducible refine Kd.C_alloc ?_ _) | (with_reducible refine Kd.C_drewN ?_ _) | (with_reducible refine Kd.C_drew ?_))); (case side2 => exact (RO_reads' HO0_4.out).2.1); rintro e w14 ⟨rfl, hb⟩; refine ⟨_, rfl, ?_⟩; replace HO0_4 := Aside0.mk (RO_below (by (with_reducible repeat (first | apply RO_alloc | apply RO_drewN | apply RO_drew)); exact HO0_4.out) hb); replace BK526 := kB BK526 hb; replace HB := Aside0.mk (below_step (by repeat (first | exact sH HB.out | refine sN (w := w) ?_ | with_reducible refine sG (w := w) ?_ (by assumption))) hb); (try clear hb); (try clear hb2); (try clear hk); (try clear hi)))
        go_meet
        case rel => exact ⟨_, (true), (by first | rfl | (simp; done) | (simp [*]; done)), H', ⟨by first | omega | exact Nat.le_refl _⟩, ⟨by (with_reducible repeat (first | apply RO_alloc | apply RO_drewN | apply RO_drew)); exact HO0_4.out⟩, ⟨by (try refine sO ?_); exact BK526.out⟩, ⟨by repeat (first | exact sH HB.out | refine sN (w := w) ?_ | with_reducible refine sG (w := w) ?_ (by assumption))⟩⟩
      · replace c12 := Bool.eq_false_iff.mpr c12
        subst c12
        have H1 : ((twoslotlaw09_heavy.f k l1).bind fun t529 => (if t529 = true then (twoslotlaw09_ImageSteps.j0 k l1 a2 a3 true a0_0 a0_1 a0_2 a0_3 l0_4) else (twoslotlaw09_ImageSteps.j0 k l1 a2 a3 (decide ((l1.length : Int) > 40)) a0_0 a0_1 a0_2 a0_3 l0_4))) = some r := by rw [if_neg (show ¬ (false = true) by decide)] at H; exact H
        clear H
        have H := H1
        clear H1
        replace H := Option.bind_eq_some_iff.mp H
        obtain ⟨t529, A150, H⟩ := H
        try dsimp only at H
        have A15 := Aside0.mk A150
        clear A150
        by_cases c16 : t529 = true
        · subst c16
          have H1 : (twoslotlaw09_ImageSteps.j0 k l1 a2 a3 true a0_0 a0_1 a0_2 a0_3 l0_4) = some r := by rw [if_pos rfl] at H; exact H
          clear H
          have H := H1
          clear H1
          have H' := Aside0.mk H
          clear H; obtain ⟨hcz17_0, hcz17_1, hcz17_2, hcz17_3, hcz17_4, hfz17_0, hfz17_1, hfz17_2, hfz17_3, hfz17_4⟩ := cs5 BK526.out
          go_wp2_with (first | ((with_reducible refine gate_callee (f := 18) rfl ?_); refine goesL_ (some 26) rfl rfl Try.func18 (by kernel_rfl) rfl #[.agg #[.int .i64 a0_0, .int .i64 a0_1, .int .i64 a0_2, .int .i64 a0_3, .slice Ao8 l0_4.length co8]] rfl (by (try simp only [sM]); first | done | rfl | (simp only [sT]; rfl)) ?_; (with_reducible refine (twoslotlaw09_much.calls a0_0 a0_1 a0_2 a0_3 _ _ l0_4 false _ ?side1 ?side2 A11.out).mono ?_); (case side1 => repeat (first | exact (RO_reads' HO0_4.out).2.2 | (with_reducible refine Kd.C_alloc ?_ _) | (with_reducible refine Kd.C_drewN ?_ _) | (with_reducible refine Kd.C_drew ?_))); (case side2 => exact (RO_reads' HO0_4.out).2.1); rintro e w18 ⟨rfl, hb⟩; refine ⟨_, rfl, ?_⟩; replace HO0_4 := Aside0.mk (RO_below (by (with_reducible repeat (first | apply RO_alloc | apply RO_drewN | apply RO_drew)); exact HO0_4.out) hb); replace BK526 := kB BK526 hb; replace HB := Aside0.mk (below_step (by repeat (first | exact sH HB.out | refine sN (w := w) ?_ | with_reducible refine sG (w := w) ?_ (by assumption))) hb); (try clear hb); (try clear hb2); (try clear hk); (try clear hi)) | (go_at_call 19; (with_reducible refine (twoslotlaw09_heavy.calls k _ _ l1 true _ ?side1 ?side2 A15.out).mono ?_); (case side1 => exact sC (Kd.C_below HR1.out HB.out)); (case side2 => exact HC1.out); rintro e w' ⟨rfl, ⟨nd, rfl⟩⟩))
          go_meet
          case rel => exact ⟨_, (true), (by first | rfl | (simp; done) | (simp [*]; done)), H', ⟨by first | omega | exact Nat.le_refl _⟩, ⟨by (with_reducible repeat (first | apply RO_alloc | apply RO_drewN | apply RO_drew)); exact HO0_4.out⟩, ⟨by (try refine sO ?_); exact BK526.out⟩, ⟨by repeat (first | exact sH HB.out | refine sN (w := w) ?_ | with_reducible refine sG (w := w) ?_ (by assumption))⟩⟩
        · replace c16 := Bool.eq_false_iff.mpr c16
          subst c16
          have H1 : (twoslotlaw09_ImageSteps.j0 k l1 a2 a3 (decide ((l1.length : Int) > 40)) a0_0 a0_1 a0_2 a0_3 l0_4) = some r := by rw [if_neg (show ¬ (false = true) by decide)] at H; exact H
          clear H
          have H := H1
          clear H1
          have H' := Aside0.mk H
          clear H; obtain ⟨hcz19_0, hcz19_1, hcz19_2, hcz19_3, hcz19_4, hfz19_0, hfz19_1, hfz19_2, hfz19_3, hfz19_4⟩ := cs5 BK526.out
          go_wp2_with (first | ((with_reducible refine gate_callee (f := 18) rfl ?_); refine goesL_ (some 26) rfl rfl Try.func18 (by kernel_rfl) rfl #[.agg #[.int .i64 a0_0, .int .i64 a0_1, .int .i64 a0_2, .int .i64 a0_3, .slice Ao8 l0_4.length co8]] rfl (by (try simp only [sM]); first | done | rfl | (simp only [sT]; rfl)) ?_; (with_reducible refine (twoslotlaw09_much.calls a0_0 a0_1 a0_2 a0_3 _ _ l0_4 false _ ?side1 ?side2 A11.out).mono ?_); (case side1 => repeat (first | exact (RO_reads' HO0_4.out).2.2 | (with_reducible refine Kd.C_alloc ?_ _) | (with_reducible refine Kd.C_drewN ?_ _) | (with_reducible refine Kd.C_drew ?_))); (case side2 => exact (RO_reads' HO0_4.out).2.1); rintro e w20 ⟨rfl, hb⟩; refine ⟨_, rfl, ?_⟩; replace HO0_4 := Aside0.mk (RO_below (by (with_reducible repeat (first | apply RO_alloc | apply RO_drewN | apply RO_drew)); exact HO0_4.out) hb); replace BK526 := kB BK526 hb; replace HB := Aside0.mk (below_step (by repeat (first | exact sH HB.out | refine sN (w := w) ?_ | with_reducible refine sG (w := w) ?_ (by assumption))) hb); (try clear hb); (try clear hb2); (try clear hk); (try clear hi)) | (go_at_call 19; (with_reducible refine (twoslotlaw09_heavy.calls k _ _ l1 false _ ?side1 ?side2 A15.out).mono ?_); (case side1 => exact sC (Kd.C_below HR1.out HB.out)); (case side2 => exact HC1.out); rintro e w' ⟨rfl, ⟨nd, rfl⟩⟩))
          go_meet
          case rel => exact ⟨_, (decide ((l1.length : Int) > 40)), (by first | rfl | (simp; done) | (simp [*]; done)), H', ⟨by first | omega | exact Nat.le_refl _⟩, ⟨by (with_reducible repeat (first | apply RO_alloc | apply RO_drewN | apply RO_drew)); exact HO0_4.out⟩, ⟨by (try refine sO ?_); exact BK526.out⟩, ⟨by repeat (first | exact sH HB.out | refine sN (w := w) ?_ | with_reducible refine sG (w := w) ?_ (by assumption))⟩⟩
    case rest =>
      clear HC7
      try clear c1
      try clear p2
      try clear c6
      try clear c7
      try clear c9
      try clear c12
      try clear c16
      try clear c18
      try clear hcz13_0
      try clear hcz13_1
      try clear hcz13_2
      try clear hcz13_3
      try clear hcz13_4
      try clear hcz17_0
      try clear hcz17_1
      try clear hcz17_2
      try clear hcz17_3
      try clear hcz17_4
      try clear hcz19_0
      try clear hcz19_1
      try clear hcz19_2
      try clear hcz19_3
      try clear hcz19_4
      try clear hfz13_0
      try clear hfz13_1
      try clear hfz13_2
      try clear hfz13_3
      try clear hfz13_4
      try clear hfz17_0
      try clear hfz17_1
      try clear hfz17_2
      try clear hfz17_3
      try clear hfz17_4
      try clear hfz19_0
      try clear hfz19_1
      try clear hfz19_2
      try clear hfz19_3
      try clear hfz19_4
      obtain ⟨kq, x35_6, rfl, HA, HJ6, HO_527004, BK526, HB⟩ := hcut
      cases kq with
      | zero => exact absurd HA.out (by simp [twoslotlaw09_ImageSteps.j0])
      | succ kj6 =>
        have H := HA.out
        clear HA
        simp only [twoslotlaw09_ImageSteps.j0] at H
        by_cases c21 : x35_6 = true
        · subst c21
          have H1 : (some true) = some r := by rw [if_pos rfl] at H; exact H
          clear H
          have H := H1
          clear H1
          obtain rfl := Option.some.inj H
          go_wp2
          go_ret
          exact ⟨by first | rfl | (simp [errW_none, errW_some] <;> rfl) | (simp [*, errW_none, errW_some] <;> rfl), by repeat (first | exact sH HB.out | refine sN (w := w) ?_ | with_reducible refine sG (w := w) ?_ (by assumption))⟩
        · replace c21 := Bool.eq_false_iff.mpr c21
          subst c21
          have H1 : ((image_After.f kj6 a0_0 a0_1 a0_2 a0_3 l0_4 l1 a2).bind fun bt530 => (if bt530.2.2.2.2.2 = 0 then (twoslotlaw09_ImageSteps.l0 kj6 l1 a2 a3 0 a0_0 a0_1 a0_2 a0_3 l0_4 bt530.1 bt530.2.1 bt530.2.2.1 bt530.2.2.2.1 bt530.2.2.2.2.1 a0_0 a0_1 a0_2 a0_3 l0_4) else (if (bt530.2.2.2.2.1.length : Int) = 0 then (some (bt530.1 == 0 && (bt530.2.1 == 0 && (bt530.2.2.1 == 0 && (bt530.2.2.2.1 == 0))))) else (none)))) = some r := by rw [if_neg (show ¬ (false = true) by decide)] at H; exact H
          clear H
          have H := H1
          clear H1
          replace H := Option.bind_eq_some_iff.mp H
          obtain ⟨⟨t530, t531, t532, t533, t534, t537⟩, A220, H⟩ := H
          try dsimp only at H
          have A22 := Aside0.mk A220
          clear A220
          by_cases c23 : t537 = 0
          · rw [if_pos c23] at H
            have c23b0 : (t537 == 0) = true := beq_iff_eq.mpr c23
            have c23b1 : (t537 != 0) = false := bne_eq_false_iff_eq.mpr c23
            clear c23
            have H' := Aside0.mk H
            clear H; obtain ⟨hcz24_0, hcz24_1, hcz24_2, hcz24_3, hcz24_4, hfz24_0, hfz24_1, hfz24_2, hfz24_3, hfz24_4⟩ := cs5 BK526.out
            go_wp2_with (first | ((with_reducible refine gate_callee (f := 13) rfl ?_); refine goesL_ (some 40) rfl rfl Try.func13 (by kernel_rfl) rfl #[.agg #[.int .i64 a0_0, .int .i64 a0_1, .int .i64 a0_2, .int .i64 a0_3, .slice Ao8 l0_4.length co8], .slice A1 l1.length c1, .int .i64 a2] rfl (by (try simp only [sM]); first | done | rfl | (simp only [sT]; rfl)) ?_; (with_reducible refine (image_After.calls kj6 a0_0 a0_1 a0_2 a0_3 _ _ l0_4 _ _ l1 a2 t530 t531 t532 t533 t534 t537 _ ?side1 ?side2 ?side3 ?side4 A22.out).mono ?_); (case side1 => repeat (first | exact (RO_reads' HO_527004.out).2.2 | (with_reducible refine Kd.C_alloc ?_ _) | (with_reducible refine Kd.C_drewN ?_ _) | (with_reducible refine Kd.C_drew ?_))); (case side2 => exact (RO_reads' HO_527004.out).2.1); (case side3 => exact sC (Kd.C_below HR1.out HB.out)); (case side4 => exact HC1.out); rintro e w25 ⟨v535, rfl, ho0, hb⟩; refine ⟨_, rfl, ?_⟩; replace HO_527004 := Aside0.mk (RO_below (by (with_reducible repeat (first | apply RO_alloc | apply RO_drewN | apply RO_drew)); exact HO_527004.out) hb); have HO536 := Aside0.mk (RO_lowerR ho0 (below_size (by repeat (first | exact sH HB.out | refine sN (w := w) ?_ | with_reducible refine sG (w := w) ?_ (by assumption))))); replace BK526 := kB BK526 hb; replace HB := Aside0.mk (below_step (by repeat (first | exact sH HB.out | refine sN (w := w) ?_ | with_reducible refine sG (w := w) ?_ (by assumption))) hb); (try clear hb); (try clear hb2); (try clear hk); (try clear hi); (try clear ho0)) | ((with_reducible refine gate_dst (N := 10) rfl ?_); (try (refine gate_guard (by rfl) ?_; dsimp only)); refine box_event rfl (N := 10) rfl (cs := #[.int .i64 0, .int .i64 0, .int .i64 0, .int .i64 0, .slice none 0 0]) (t := 27) (by go_simp; try rfl) ?_; intro gb538 hg w26 hbox hb; replace HO_527004 := Aside0.mk (RO_below (by (with_reducible repeat (first | apply RO_alloc | apply RO_drewN | apply RO_drew)); exact HO_527004.out) hb); replace HO536 := Aside0.mk (RO_below (by (with_reducible repeat (first | apply RO_alloc | apply RO_drewN | apply RO_drew)); exact HO536.out) hb); have BK538 := Aside0.mk (hbox); have GW538 := Aside0.mk ((by rw [hg]; exact (below_size (by repeat (first | exact sH HB.out | refine sN (w := w) ?_ | with_reducible refine sG (w := w) ?_ (by assumption)))) : w.heap.size ≤ gb538)); have GE538 := Aside0.mk ((by rw [hg]; exact (below_size (by repeat (first | exact sH HB.out | refine sN (w := w) ?_ | with_reducible refine sG (w := w) ?_ (by assumption)))) : w.heap.size ≤ gb538)); replace HB := Aside0.mk (below_step (by repeat (first | exact sH HB.out | refine sN (w := w) ?_ | with_reducible refine sG (w := w) ?_ (by assumption))) hb); have NB526_538 := Aside0.mk ((by rw [hg]; exact Nat.ne_of_lt (blk_lt (g := gb526) (o := .cells #[.int .i64 a0_0, .int .i64 a0_1, .int .i64 a0_2, .int .i64 a0_3, .slice Ao8 l0_4.length co8] 27 (0, 0)) (by first | exact BK526.out | (refine sO ?_; exact BK526.out))) : gb526 ≠ gb538)); have NB538_526 := Aside0.mk ((by rw [hg]; exact Nat.ne_of_gt (blk_lt (g := gb526) (o := .cells #[.int .i64 a0_0, .int .i64 a0_1, .int .i64 a0_2, .int .i64 a0_3, .slice Ao8 l0_4.length co8] 27 (0, 0)) (by first | exact BK526.out | (refine sO ?_; exact BK526.out))) : gb538 ≠ gb526)); replace BK526 := kB BK526 hb; clear hb hbox hg; have hnb27 := NB538_526.out; have hnc27 := NB526_538.out; obtain ⟨hcz28_0, hcz28_1, hcz28_2, hcz28_3, hcz28_4, hfz28_0, hfz28_1, hfz28_2, hfz28_3, hfz28_4⟩ := cs5 BK538.out; obtain ⟨Ao29, co29, eo29⟩ := RO_slice HO536.out; subst eo29; obtain ⟨hcz30_0, hcz30_1, hcz30_2, hcz30_3, hcz30_4, hfz30_0, hfz30_1, hfz30_2, hfz30_3, hfz30_4⟩ := cs5 BK526.out) | ((with_reducible refine gate_dst (N := 12) rfl ?_); (try (refine gate_guard (by rfl) ?_; dsimp only)); refine box_event rfl (N := 12) rfl (cs := #[.int .i64 0, .int .i64 0, .int .i64 0, .int .i64 0, .slice none 0 0]) (t := 27) (by go_simp; try rfl) ?_; intro gb539 hg w31 hbox hb; replace HO_527004 := Aside0.mk (RO_below (by (with_reducible repeat (first | apply RO_alloc | apply RO_drewN | apply RO_drew)); exact (RO_mono (RO_far (p := ⟨gb538, 4, none⟩) (RO_far (p := ⟨gb538, 3, none⟩) (RO_far (p := ⟨gb538, 2, none⟩) (RO_far (p := ⟨gb538, 1, none⟩) (RO_far (p := ⟨gb538, 0, none⟩) (RO_types HO_527004.out BK538.out (by decide) GE538.out) (.int .i64 t530)) (.int .i64 t531)) (.int .i64 t532)) (.int .i64 t533)) (.slice Ao29 t534.length co29)))) hb); replace HO536 := Aside0.mk (RO_below (by (with_reducible repeat (first | apply RO_alloc | apply RO_drewN | apply RO_drew)); exact (RO_mono (RO_far (p := ⟨gb538, 4, none⟩) (RO_far (p := ⟨gb538, 3, none⟩) (RO_far (p := ⟨gb538, 2, none⟩) (RO_far (p := ⟨gb538, 1, none⟩) (RO_far (p := ⟨gb538, 0, none⟩) (RO_types HO536.out BK538.out (by decide) GE538.out) (.int .i64 t530)) (.int .i64 t531)) (.int .i64 t532)) (.int .i64 t533)) (.slice Ao29 t534.length co29)))) hb); have BK539 := Aside0.mk (hbox); have GW539 := Aside0.mk ((by rw [hg]; exact (below_size (by repeat (first | exact sH HB.out | refine sN (w := w) ?_ | with_reducible refine sG (w := w) ?_ (by assumption)))) : w.heap.size ≤ gb539)); have GE539 := Aside0.mk ((by rw [hg]; exact (below_size (by repeat (first | exact sH HB.out | refine sN (w := w) ?_ | with_reducible refine sG (w := w) ?_ (by assumption)))) : w.heap.size ≤ gb539)); replace HB := Aside0.mk (below_step (by repeat (first | exact sH HB.out | refine sN (w := w) ?_ | with_reducible refine sG (w := w) ?_ (by assumption))) hb); have NB526_539 := Aside0.mk ((by rw [hg]; exact Nat.ne_of_lt (blk_lt (g := gb526) (o := .cells #[.int .i64 a0_0, .int .i64 a0_1, .int .i64 a0_2, .int .i64 a0_3, .slice Ao8 l0_4.length co8] 27 (0, 0)) (by (try refine sO ?_); refine blk_far ?_ NB526_538.out _; (try refine sO ?_); refine blk_far ?_ NB526_538.out _; (try refine sO ?_); refine blk_far ?_ NB526_538.out _; (try refine sO ?_); refine blk_far ?_ NB526_538.out _; (try refine sO ?_); refine blk_far ?_ NB526_538.out _; first | exact BK526.out | (refine sO ?_; exact BK526.out))) : gb526 ≠ gb539)); have NB539_526 := Aside0.mk ((by rw [hg]; exact Nat.ne_of_gt (blk_lt (g := gb526) (o := .cells #[.int .i64 a0_0, .int .i64 a0_1, .int .i64 a0_2, .int .i64 a0_3, .slice Ao8 l0_4.length co8] 27 (0, 0)) (by (try refine sO ?_); refine blk_far ?_ NB526_538.out _; (try refine sO ?_); refine blk_far ?_ NB526_538.out _; (try refine sO ?_); refine blk_far ?_ NB526_538.out _; (try refine sO ?_); refine blk_far ?_ NB526_538.out _; (try refine sO ?_); refine blk_far ?_ NB526_538.out _; first | exact BK526.out | (refine sO ?_; exact BK526.out))) : gb539 ≠ gb526)); replace BK526 := Aside0.mk (blk_below (g := gb526) (o := .cells #[.int .i64 a0_0, .int .i64 a0_1, .int .i64 a0_2, .int .i64 a0_3, .slice Ao8 l0_4.length co8] 27 (0, 0)) (by (try refine sO ?_); refine blk_far ?_ NB526_538.out _; (try refine sO ?_); refine blk_far ?_ NB526_538.out _; (try refine sO ?_); refine blk_far ?_ NB526_538.out _; (try refine sO ?_); refine blk_far ?_ NB526_538.out _; (try refine sO ?_); refine blk_far ?_ NB526_538.out _; first | exact BK526.out | (refine sO ?_; exact BK526.out)) hb); have NB538_539 := Aside0.mk ((by rw [hg]; exact Nat.ne_of_lt (blk_lt (g := gb538) (o := .cells #[.int .i64 t530, .int .i64 t531, .int .i64 t532, .int .i64 t533, .slice Ao29 t534.length co29] 27 (0, 0)) (by (try refine sO ?_); refine blk_put (cs := #[.int .i64 t530, .int .i64 t531, .int .i64 t532, .int .i64 t533, .slice none 0 0]) ?_ 4 _ rfl; (try refine sO ?_); refine blk_put (cs := #[.int .i64 t530, .int .i64 t531, .int .i64 t532, .int .i64 0, .slice none 0 0]) ?_ 3 _ rfl; (try refine sO ?_); refine blk_put (cs := #[.int .i64 t530, .int .i64 t531, .int .i64 0, .int .i64 0, .slice none 0 0]) ?_ 2 _ rfl; (try refine sO ?_); refine blk_put (cs := #[.int .i64 t530, .int .i64 0, .int .i64 0, .int .i64 0, .slice none 0 0]) ?_ 1 _ rfl; (try refine sO ?_); refine blk_put (cs := #[.int .i64 0, .int .i64 0, .int .i64 0, .int .i64 0, .slice none 0 0]) ?_ 0 _ rfl; first | exact BK538.out | (refine sO ?_; exact BK538.out))) : gb538 ≠ gb539)); have NB539_538 := Aside0.mk ((by rw [hg]; exact Nat.ne_of_gt (blk_lt (g := gb538) (o := .cells #[.int .i64 t530, .int .i64 t531, .int .i64 t532, .int .i64 t533, .slice Ao29 t534.length co29] 27 (0, 0)) (by (try refine sO ?_); refine blk_put (cs := #[.int .i64 t530, .int .i64 t531, .int .i64 t532, .int .i64 t533, .slice none 0 0]) ?_ 4 _ rfl; (try refine sO ?_); refine blk_put (cs := #[.int .i64 t530, .int .i64 t531, .int .i64 t532, .int .i64 0, .slice none 0 0]) ?_ 3 _ rfl; (try refine sO ?_); refine blk_put (cs := #[.int .i64 t530, .int .i64 t531, .int .i64 0, .int .i64 0, .slice none 0 0]) ?_ 2 _ rfl; (try refine sO ?_); refine blk_put (cs := #[.int .i64 t530, .int .i64 0, .int .i64 0, .int .i64 0, .slice none 0 0]) ?_ 1 _ rfl; (try refine sO ?_); refine blk_put (cs := #[.int .i64 0, .int .i64 0, .int .i64 0, .int .i64 0, .slice none 0 0]) ?_ 0 _ rfl; first | exact BK538.out | (refine sO ?_; exact BK538.out))) : gb539 ≠ gb538)); replace BK538 := Aside0.mk (blk_below (g := gb538) (o := .cells #[.int .i64 t530, .int .i64 t531, .int .i64 t532, .int .i64 t533, .slice Ao29 t534.length co29] 27 (0, 0)) (by (try refine sO ?_); refine blk_put (cs := #[.int .i64 t530, .int .i64 t531, .int .i64 t532, .int .i64 t533, .slice none 0 0]) ?_ 4 _ rfl; (try refine sO ?_); refine blk_put (cs := #[.int .i64 t530, .int .i64 t531, .int .i64 t532, .int .i64 0, .slice none 0 0]) ?_ 3 _ rfl; (try refine sO ?_); refine blk_put (cs := #[.int .i64 t530, .int .i64 t531, .int .i64 0, .int .i64 0, .slice none 0 0]) ?_ 2 _ rfl; (try refine sO ?_); refine blk_put (cs := #[.int .i64 t530, .int .i64 0, .int .i64 0, .int .i64 0, .slice none 0 0]) ?_ 1 _ rfl; (try refine sO ?_); refine blk_put (cs := #[.int .i64 0, .int .i64 0, .int .i64 0, .int .i64 0, .slice none 0 0]) ?_ 0 _ rfl; first | exact BK538.out | (refine sO ?_; exact BK538.out)) hb); clear hb hbox hg; have hnb32 := NB539_526.out; have hnc32 := NB526_539.out; have hnb33 := NB539_538.out; have hnc33 := NB538_539.out; obtain ⟨hcz34_0, hcz34_1, hcz34_2, hcz34_3, hcz34_4, hfz34_0, hfz34_1, hfz34_2, hfz34_3, hfz34_4⟩ := cs5 BK539.out))
            go_loopg [13] kj6 (fun kq v13 w' => ∃ (x13_2 : Int) (x540000_2 : Int) (x540001_2 : Int) (x540002_2 : Int) (x540003_2 : Int) (x540004_2 : List (List Int)) (u540004 : Value), v13 = .int .i64 x13_2 ∧ Aside0 (twoslotlaw09_ImageSteps.l0 kq l1 a2 a3 x13_2 a0_0 a0_1 a0_2 a0_3 l0_4 t530 t531 t532 t533 t534 x540000_2 x540001_2 x540002_2 x540003_2 x540004_2 = some r) ∧ Aside0 (kq ≤ kj6) ∧ Aside0 (RO (Kd.slice 5 (Kd.int .u8)) 33 w' w.heap.size (fun _ => True) (.slice Ao8 l0_4.length co8) l0_4) ∧ Aside0 (RO (Kd.slice 5 (Kd.int .u8)) 33 w' w.heap.size (fun _ => True) (.slice Ao29 t534.length co29) t534) ∧ Aside0 (RO (Kd.slice 5 (Kd.int .u8)) 33 w' w.heap.size (fun _ => True) u540004 x540004_2) ∧ Aside0 (w'.heap[gb526]? = some (.cells #[.int .i64 a0_0, .int .i64 a0_1, .int .i64 a0_2, .int .i64 a0_3, (.slice Ao8 l0_4.length co8)] 27 (0, 0))) ∧ Aside0 (w'.heap[gb538]? = some (.cells #[.int .i64 t530, .int .i64 t531, .int .i64 t532, .int .i64 t533, (.slice Ao29 t534.length co29)] 27 (0, 0))) ∧ Aside0 (w'.heap[gb539]? = some (.cells #[.int .i64 x540000_2, .int .i64 x540001_2, .int .i64 x540002_2, .int .i64 x540003_2, u540004] 27 (0, 0))) ∧ Aside0 (Below w.heap.size w w'))
            case atStart => exact ⟨(0), (a0_0), (a0_1), (a0_2), (a0_3), (l0_4), (.slice Ao8 l0_4.length co8), (by first | rfl | (simp; done) | (simp [*]; done)), H', ⟨Nat.le_refl _⟩, ⟨by (with_reducible repeat (first | apply RO_alloc | apply RO_drewN | apply RO_drew)); exact RO_mono (RO_far (p := ⟨gb539, 4, none⟩) (RO_far (p := ⟨gb539, 3, none⟩) (RO_far (p := ⟨gb539, 2, none⟩) (RO_far (p := ⟨gb539, 1, none⟩) (RO_far (p := ⟨gb539, 0, none⟩) (RO_types HO_527004.out BK539.out (by decide) GE539.out) (.int .i64 a0_0)) (.int .i64 a0_1)) (.int .i64 a0_2)) (.int .i64 a0_3)) (.slice Ao8 l0_4.length co8))⟩, ⟨by (with_reducible repeat (first | apply RO_alloc | apply RO_drewN | apply RO_drew)); exact RO_mono (RO_far (p := ⟨gb539, 4, none⟩) (RO_far (p := ⟨gb539, 3, none⟩) (RO_far (p := ⟨gb539, 2, none⟩) (RO_far (p := ⟨gb539, 1, none⟩) (RO_far (p := ⟨gb539, 0, none⟩) (RO_types HO536.out BK539.out (by decide) GE539.out) (.int .i64 a0_0)) (.int .i64 a0_1)) (.int .i64 a0_2)) (.int .i64 a0_3)) (.slice Ao8 l0_4.length co8))⟩, ⟨by (with_reducible repeat (first | apply RO_alloc | apply RO_drewN | apply RO_drew)); exact RO_mono (RO_far (p := ⟨gb539, 4, none⟩) (RO_far (p := ⟨gb539, 3, none⟩) (RO_far (p := ⟨gb539, 2, none⟩) (RO_far (p := ⟨gb539, 1, none⟩) (RO_far (p := ⟨gb539, 0, none⟩) (RO_types HO_527004.out BK539.out (by decide) GE539.out) (.int .i64 a0_0)) (.int .i64 a0_1)) (.int .i64 a0_2)) (.int .i64 a0_3)) (.slice Ao8 l0_4.length co8))⟩, ⟨by (try refine sO ?_); refine blk_far ?_ NB526_539.out _; (try refine sO ?_); refine blk_far ?_ NB526_539.out _; (try refine sO ?_); refine blk_far ?_ NB526_539.out _; (try refine sO ?_); refine blk_far ?_ NB526_539.out _; (try refine sO ?_); refine blk_far ?_ NB526_539.out _; (try refine sO ?_); exact BK526.out⟩, ⟨by (try refine sO ?_); refine blk_far ?_ NB538_539.out _; (try refine sO ?_); refine blk_far ?_ NB538_539.out _; (try refine sO ?_); refine blk_far ?_ NB538_539.out _; (try refine sO ?_); refine blk_far ?_ NB538_539.out _; (try refine sO ?_); refine blk_far ?_ NB538_539.out _; (try refine sO ?_); exact BK538.out⟩, ⟨by (try refine sO ?_); refine blk_put (cs := #[.int .i64 a0_0, .int .i64 a0_1, .int .i64 a0_2, .int .i64 a0_3, .slice none 0 0]) ?_ 4 _ rfl; (try refine sO ?_); refine blk_put (cs := #[.int .i64 a0_0, .int .i64 a0_1, .int .i64 a0_2, .int .i64 0, .slice none 0 0]) ?_ 3 _ rfl; (try refine sO ?_); refine blk_put (cs := #[.int .i64 a0_0, .int .i64 a0_1, .int .i64 0, .int .i64 0, .slice none 0 0]) ?_ 2 _ rfl; (try refine sO ?_); refine blk_put (cs := #[.int .i64 a0_0, .int .i64 0, .int .i64 0, .int .i64 0, .slice none 0 0]) ?_ 1 _ rfl; (try refine sO ?_); refine blk_put (cs := #[.int .i64 0, .int .i64 0, .int .i64 0, .int .i64 0, .slice none 0 0]) ?_ 0 _ rfl; (try refine sO ?_); exact BK539.out⟩, ⟨by repeat (first | exact sH HB.out | refine sN (w := w) ?_ | with_reducible refine sG (w := w) ?_ (by assumption))⟩⟩
            case round =>
              clear H'
              try clear c1
              try clear c2
              try clear p2
              try clear c3
              try clear c6
              try clear c7
              try clear c9
              try clear c12
              try clear c13
              try clear c16
              try clear c18
              try clear c21
              try clear c23
              try clear c23b0
              try clear c23b1
              try clear c27
              try clear c32
              try clear c33
              try clear hcz13_0
              try clear hcz13_1
              try clear hcz13_2
              try clear hcz13_3
              try clear hcz13_4
              try clear hcz17_0
              try clear hcz17_1
              try clear hcz17_2
              try clear hcz17_3
              try clear hcz17_4
              try clear hcz19_0
              try clear hcz19_1
              try clear hcz19_2
              try clear hcz19_3
              try clear hcz19_4
              try clear hcz24_0
              try clear hcz24_1
              try clear hcz24_2
              try clear hcz24_3
              try clear hcz24_4
              try clear hcz28_0
              try clear hcz28_1
              try clear hcz28_2
              try clear hcz28_3
              try clear hcz28_4
              try clear hcz30_0
              try clear hcz30_1
              try clear hcz30_2
              try clear hcz30_3
              try clear hcz30_4
              try clear hcz34_0
              try clear hcz34_1
              try clear hcz34_2
              try clear hcz34_3
              try clear hcz34_4
              try clear hfz13_0
              try clear hfz13_1
              try clear hfz13_2
              try clear hfz13_3
              try clear hfz13_4
              try clear hfz17_0
              try clear hfz17_1
              try clear hfz17_2
              try clear hfz17_3
              try clear hfz17_4
              try clear hfz19_0
              try clear hfz19_1
              try clear hfz19_2
              try clear hfz19_3
              try clear hfz19_4
              try clear hfz24_0
              try clear hfz24_1
              try clear hfz24_2
              try clear hfz24_3
              try clear hfz24_4
              try clear hfz28_0
              try clear hfz28_1
              try clear hfz28_2
              try clear hfz28_3
              try clear hfz28_4
              try clear hfz30_0
              try clear hfz30_1
              try clear hfz30_2
              try clear hfz30_3
              try clear hfz30_4
              try clear hfz34_0
              try clear hfz34_1
              try clear hfz34_2
              try clear hfz34_3
              try clear hfz34_4
              try clear p2
              obtain ⟨x13_2, x540000_2, x540001_2, x540002_2, x540003_2, x540004_2, u540004, rfl, HA, HK2, HO_527004, HO_539004, HO_540004, BK526, BK538, BK539, HB⟩ := hrel
              cases gk with
              | zero => exact absurd HA.out (by simp [twoslotlaw09_ImageSteps.l0])
              | succ k2 =>
                have H := HA.out
                clear HA
                simp only [twoslotlaw09_ImageSteps.l0] at H
                by_cases c35 : x13_2 < a2
                · rw [if_pos c35] at H
                  have c35b0 : decide (x13_2 < a2) = true := decide_eq_true c35
                  clear c35
                  by_cases c36 : 0 ≤ x13_2
                  · rw [if_pos c36] at H
                    have c36b0 : decide (0 ≤ x13_2) = true := decide_eq_true c36
                    clear c36
                    by_cases c37 : x13_2 < (l1.length : Int)
                    · rw [if_pos c37] at H
                      have c37b0 : decide (x13_2 < (l1.length : Int)) = true := decide_eq_true c37
                      clear c37
                      replace H := Option.bind_eq_some_iff.mp H
                      obtain ⟨⟨t541, t542, t543, t544, t545, t548⟩, A380, H⟩ := H
                      try dsimp only at H
                      have A38 := Aside0.mk A380
                      clear A380
                      have HC39 := Aside0.mk H
                      clear H
                      obtain ⟨Ao40, co40, eo40⟩ := RO_slice HO_540004.out
                      subst eo40
                      try go_wp2
                      replace HO_527004 := Aside0.mk (RO_drew HO_527004.out); replace HO_539004 := Aside0.mk (RO_drew HO_539004.out); replace HO_540004 := Aside0.mk (RO_drew HO_540004.out); replace BK526 := Aside0.mk (blk_drew BK526.out); replace BK538 := Aside0.mk (blk_drew BK538.out); replace BK539 := Aside0.mk (blk_drew BK539.out); replace HB := Aside0.mk (below_drew1 HB.out)
                      have p540 : 0 ≤ (x13_2 : Int) := of_decide_eq_true (by first | (with_reducible assumption) | assumption)
                      have q540 : x13_2 < (l1.length : Int) := of_decide_eq_true (by first | (with_reducible assumption) | assumption)
                      obtain ⟨ad540, A540_3, c540_3, e540, hx540_0, hx540_1, hx540_2, hx540_3, hl540_3, hi540_3⟩ := at_T35 HR1.out x13_2 p540 q540
                      have hw540_3 := hx540_3
                      have hw540_2 := hx540_2
                      have hw540_1 := hx540_1
                      have hw540_0 := hx540_0
                      cases e540
                      replace hx540_0 := (HB.out.cell (World.block_lt_of_cell? w _ hx540_0)).trans hx540_0
                      replace hx540_1 := (HB.out.cell (World.block_lt_of_cell? w _ hx540_1)).trans hx540_1
                      replace hx540_2 := (HB.out.cell (World.block_lt_of_cell? w _ hx540_2)).trans hx540_2
                      replace hx540_3 := (HB.out.cell (World.block_lt_of_cell? w _ hx540_3)).trans hx540_3
                      have HR540_3 := Aside0.mk hi540_3
                      have HC540_3 := Aside0.mk hl540_3
                      clear hi540_3 hl540_3
                      replace p540 := eq_true p540
                      replace q540 := eq_true q540
                      refine start_ (n := 12) (S := fun w' => w'.cell? ⟨gb539, 0, none⟩ = some (.int .i64 x540000_2) ∧ w'.cell? ⟨gb539, 1, none⟩ = some (.int .i64 x540001_2) ∧ w'.cell? ⟨gb539, 2, none⟩ = some (.int .i64 x540002_2) ∧ w'.cell? ⟨gb539, 3, none⟩ = some (.int .i64 x540003_2) ∧ w'.cell? ⟨gb539, 4, none⟩ = some (.slice Ao40 x540004_2.length co40) ∧ w'.cell? (ad540.add ((x13_2).toNat * 4)) = some (.int .i64 ((rd_T35 l1 x13_2).f0)) ∧ w'.cell? ⟨(ad540.add ((x13_2).toNat * 4)).block, (ad540.add ((x13_2).toNat * 4)).off + 1, none⟩ = some (.int .i64 ((rd_T35 l1 x13_2).f1)) ∧ w'.cell? ⟨(ad540.add ((x13_2).toNat * 4)).block, (ad540.add ((x13_2).toNat * 4)).off + 2, none⟩ = some (.int .i64 ((rd_T35 l1 x13_2).f2)) ∧ w'.cell? ⟨(ad540.add ((x13_2).toNat * 4)).block, (ad540.add ((x13_2).toNat * 4)).off + 3, none⟩ = some (.slice A540_3 ((rd_T35 l1 x13_2).f3).length c540_3)) (ds := []) #[O, O, O, O, O, O, O, O, O, O, O, O] (by kernel_rfl) rfl rfl ⟨(blk_cell BK539.out 0).trans rfl, (blk_cell BK539.out 1).trans rfl, (blk_cell BK539.out 2).trans rfl, (blk_cell BK539.out 3).trans rfl, (blk_cell BK539.out 4).trans rfl, ((HB.out.cell (World.block_lt_of_cell? w _ hw540_0)).trans hw540_0), ((HB.out.cell (World.block_lt_of_cell? w _ hw540_1)).trans hw540_1), ((HB.out.cell (World.block_lt_of_cell? w _ hw540_2)).trans hw540_2), ((HB.out.cell (World.block_lt_of_cell? w _ hw540_3)).trans hw540_3)⟩ (fun hHeld => ?_); refine with_tabW twoslotlaw09_ImageSteps.tab13 twoslotlaw09_ImageSteps.bits13 (fun HT_ HW_ => ?_)
                      generalize wr.drew = w41 at HO_527004 HO_539004 HO_540004 BK526 BK538 BK539 HB HR540_3 hx540_0 hx540_1 hx540_2 hx540_3 hHeld ⊢
                      refine pu (i := 1) (N := some 63) (v := ?_) (a' := ?_) #[O, X, O, O, O, O, O, O, O, O, O, O] rfl rfl HT_ (by kernel_rfl) (fun _ _ _ h => h) ⟨by rfl, ?_⟩ ?_ ?_
                      rotate_left
                      · intro w'; go_simp; with_reducible rfl
                      rotate_left
                      · simp only [sP]
                        rfl
                      refine pu (i := 2) (N := some 64) (v := ?_) (a' := ?_) #[O, X, X, O, O, O, O, O, O, O, O, O] rfl rfl HT_ (by kernel_rfl) (fun _ _ _ h => h) ⟨by rfl, ?_⟩ ?_ ?_
                      rotate_left
                      · intro w'; go_simp; with_reducible rfl
                      rotate_left
                      · simp only [sP]
                        rfl
                      refine pu (i := 3) (N := some 65) (v := ?_) (a' := ?_) #[O, X, X, X, O, O, O, O, O, O, O, O] rfl rfl HT_ (by kernel_rfl) (fun _ _ _ h => h) ⟨by rfl, ?_⟩ ?_ ?_
                      rotate_left
                      · intro w'; go_simp; with_reducible rfl
                      rotate_left
                      · simp only [sP]
                        rfl
                      refine tu (i := 0) (N := some 62) (v := ?_) (a' := ?_) #[X, X, X, X, O, O, O, O, O, O, O, O] rfl rfl HT_ HW_ (by kernel_rfl) (fun _ _ _ h => h) ⟨by rfl, ?_⟩ hHeld ?_ ?_
                      rotate_left
                      · rintro w' ⟨s0, s1, s2, s3, s4, s5, s6, s7, s8⟩; go_simp; with_reducible rfl
                      rotate_left
                      · simp only [sP]
                        rfl
                      refine tu (i := 4) (N := some 66) (v := ?_) (a' := ?_) #[X, X, X, X, X, O, O, O, O, O, O, O] rfl rfl HT_ HW_ (by kernel_rfl) (fun _ _ _ h => h) ⟨by rfl, ?_⟩ hHeld ?_ ?_
                      rotate_left
                      · rintro w' ⟨s0, s1, s2, s3, s4, s5, s6, s7, s8⟩; go_simp; with_reducible rfl
                      rotate_left
                      · simp only [sP]
                        rfl
                      refine join_ (σ := Value × Nat) 2 #[X, X, X, X, X, X, X, X, X, X, O, O] (fun s_ => [(67, .tuple #[.agg #[.int .i64 t541, .int .i64 t542, .int .i64 t543, .int .i64 t544, s_.1], .int .i64 t548]), (14, .pointer (some ⟨s_.2, 0, none⟩)), (61, .tuple #[.agg #[.int .i64 t541, .int .i64 t542, .int .i64 t543, .int .i64 t544, s_.1], .int .i64 t548]), (68, .agg #[.int .i64 t541, .int .i64 t542, .int .i64 t543, .int .i64 t544, s_.1]), (69, .int .i64 t548)]) (fun s_ w' => (w'.cell? ⟨gb539, 0, none⟩ = some (.int .i64 x540000_2) ∧ w'.cell? ⟨gb539, 1, none⟩ = some (.int .i64 x540001_2) ∧ w'.cell? ⟨gb539, 2, none⟩ = some (.int .i64 x540002_2) ∧ w'.cell? ⟨gb539, 3, none⟩ = some (.int .i64 x540003_2) ∧ w'.cell? ⟨gb539, 4, none⟩ = some (.slice Ao40 x540004_2.length co40) ∧ w'.cell? (ad540.add ((x13_2).toNat * 4)) = some (.int .i64 ((rd_T35 l1 x13_2).f0)) ∧ w'.cell? ⟨(ad540.add ((x13_2).toNat * 4)).block, (ad540.add ((x13_2).toNat * 4)).off + 1, none⟩ = some (.int .i64 ((rd_T35 l1 x13_2).f1)) ∧ w'.cell? ⟨(ad540.add ((x13_2).toNat * 4)).block, (ad540.add ((x13_2).toNat * 4)).off + 2, none⟩ = some (.int .i64 ((rd_T35 l1 x13_2).f2)) ∧ w'.cell? ⟨(ad540.add ((x13_2).toNat * 4)).block, (ad540.add ((x13_2).toNat * 4)).off + 3, none⟩ = some (.slice A540_3 ((rd_T35 l1 x13_2).f3).length c540_3)) ∧ (RO (Kd.slice 5 (Kd.int .u8)) 33 w' w.heap.size (fun _ => True) s_.1 t545) ∧ (RO (Kd.slice 5 (Kd.int .u8)) 33 w' w.heap.size (fun _ => True) (.slice Ao8 l0_4.length co8) l0_4) ∧ (RO (Kd.slice 5 (Kd.int .u8)) 33 w' w.heap.size (fun _ => True) (.slice Ao29 t534.length co29) t534) ∧ (RO (Kd.slice 5 (Kd.int .u8)) 33 w' w.heap.size (fun _ => True) (.slice Ao40 x540004_2.length co40) x540004_2) ∧ (w'.heap[gb526]? = some (.cells #[.int .i64 a0_0, .int .i64 a0_1, .int .i64 a0_2, .int .i64 a0_3, .slice Ao8 l0_4.length co8] 27 (0, 0))) ∧ (w'.heap[gb538]? = some (.cells #[.int .i64 t530, .int .i64 t531, .int .i64 t532, .int .i64 t533, .slice Ao29 t534.length co29] 27 (0, 0))) ∧ (w'.heap[gb539]? = some (.cells #[.int .i64 x540000_2, .int .i64 x540001_2, .int .i64 x540002_2, .int .i64 x540003_2, .slice Ao40 x540004_2.length co40] 27 (0, 0))) ∧ (w'.heap[s_.2]? = some (.cells #[.int .i64 0, .int .i64 0, .int .i64 0, .int .i64 0, .slice none 0 0] 27 (0, 0))) ∧ (w.heap.size ≤ s_.2) ∧ (w.heap.size ≤ s_.2) ∧ (gb526 ≠ s_.2) ∧ (s_.2 ≠ gb526) ∧ (gb538 ≠ s_.2) ∧ (s_.2 ≠ gb538) ∧ (gb539 ≠ s_.2) ∧ (s_.2 ≠ gb539) ∧ (Below w.heap.size w w')) ?_ ?_
                      rotate_left
                      · intro hCont
                        refine two_ (i := 5) (j := 9) (Ni := some 67) (Nj := some 14) #[X, X, X, X, X, X, O, O, O, O, O, O] #[X, X, X, X, X, O, O, O, O, X, O, O] rfl rfl rfl rfl (two_of HT_.out (by kernel_rfl)) (by decide) (by decide) (fun K hK => ?_) (fun K hK => ?_)
                        · skip
                          refine goes_ Try.func22 (by kernel_rfl) rfl #[.agg #[.int .i64 x540000_2, .int .i64 x540001_2, .int .i64 x540002_2, .int .i64 x540003_2, .slice Ao40 x540004_2.length co40], .agg #[.int .i64 ((rd_T35 l1 x13_2).f0), .int .i64 ((rd_T35 l1 x13_2).f1), .int .i64 ((rd_T35 l1 x13_2).f2), .slice A540_3 ((rd_T35 l1 x13_2).f3).length c540_3]] (by rfl) rfl rfl (by (try simp only [sM]); first | done | rfl | (simp only [sT]; rfl)) ?_
                          with_reducible refine (image_Put.calls k2 x540000_2 x540001_2 x540002_2 x540003_2 _ _ x540004_2 ((rd_T35 l1 x13_2).f0) ((rd_T35 l1 x13_2).f1) ((rd_T35 l1 x13_2).f2) _ _ ((rd_T35 l1 x13_2).f3) t541 t542 t543 t544 t545 t548 _ ?side1 ?side2 ?side3 ?side4 A38.out).mono ?_
                          (case side1 => repeat (first | exact (RO_reads' HO_540004.out).2.2 | (with_reducible refine Kd.C_alloc ?_ _) | (with_reducible refine Kd.C_drewN ?_ _) | (with_reducible refine Kd.C_drew ?_)))
                          (case side2 => exact (RO_reads' HO_540004.out).2.1)
                          (case side3 => exact sC (Kd.C_below HR540_3.out HB.out))
                          (case side4 => exact HC540_3.out)
                          rintro e w42 ⟨v546, rfl, ho0, hb⟩
                          refine ⟨_, rfl, ?_⟩
                          replace HO_527004 := Aside0.mk (RO_below (by (with_reducible repeat (first | apply RO_alloc | apply RO_drewN | apply RO_drew)); exact HO_527004.out) hb); replace HO_539004 := Aside0.mk (RO_below (by (with_reducible repeat (first | apply RO_alloc | apply RO_drewN | apply RO_drew)); exact HO_539004.out) hb); replace HO_540004 := Aside0.mk (RO_below (by (with_reducible repeat (first | apply RO_alloc | apply RO_drewN | apply RO_drew)); exact HO_540004.out) hb); have HO547 := Aside0.mk (RO_lowerR ho0 (below_size (by repeat (first | exact sH HB.out | refine sN (w := w) ?_ | with_reducible refine sG (w := w) ?_ (by assumption))))); replace BK526 := kB BK526 hb; replace BK538 := kB BK538 hb; replace BK539 := kB BK539 hb; replace HB := Aside0.mk (below_step (by repeat (first | exact sH HB.out | refine sN (w := w) ?_ | with_reducible refine sG (w := w) ?_ (by assumption))) hb)
                          (try clear hb)
                          (try clear hb2)
                          (try clear hk)
                          (try clear hi)
                          (try clear ho0)
                          refine hK.out _ _ ⟨(blk_cell BK539.out 0).trans rfl, (blk_cell BK539.out 1).trans rfl, (blk_cell BK539.out 2).trans rfl, (blk_cell BK539.out 3).trans rfl, (blk_cell BK539.out 4).trans rfl, ((HB.out.cell (World.block_lt_of_cell? w _ hw540_0)).trans hw540_0), ((HB.out.cell (World.block_lt_of_cell? w _ hw540_1)).trans hw540_1), ((HB.out.cell (World.block_lt_of_cell? w _ hw540_2)).trans hw540_2), ((HB.out.cell (World.block_lt_of_cell? w _ hw540_3)).trans hw540_3)⟩ (fun hHeld => ?_)
                          clear hK K
                          refine norm_ (a' := ?_) ?_ ?_
                          rotate_left
                          · show Act.put _ (some 67) _ = _
                            simp only [sP]
                            rfl
                          refine pu (i := 6) (N := some 61) (v := ?_) (a' := ?_) #[X, X, X, X, X, X, X, O, O, O, O, O] rfl rfl HT_ (by kernel_rfl) (fun _ _ _ h => h) ⟨by rfl, ?_⟩ ?_ ?_
                          rotate_left
                          · intro w'; go_simp; with_reducible rfl
                          rotate_left
                          · simp only [sP]
                            rfl
                          refine pu (i := 7) (N := some 68) (v := ?_) (a' := ?_) #[X, X, X, X, X, X, X, X, O, O, O, O] rfl rfl HT_ (by kernel_rfl) (fun _ _ _ h => h) ⟨by rfl, ?_⟩ ?_ ?_
                          rotate_left
                          · intro w'; go_simp; with_reducible rfl
                          rotate_left
                          · simp only [sP]
                            rfl
                          refine pu (i := 8) (N := some 69) (v := ?_) (a' := ?_) #[X, X, X, X, X, X, X, X, X, O, O, O] rfl rfl HT_ (by kernel_rfl) (fun _ _ _ h => h) ⟨by rfl, ?_⟩ ?_ ?_
                          rotate_left
                          · intro w'; go_simp; with_reducible rfl
                          rotate_left
                          · simp only [sP]
                            rfl
                          refine one_ (i := 9) (N := some 14) #[X, X, X, X, X, X, X, X, X, X, O, O] rfl rfl (one_of HT_.out (by kernel_rfl)) (by decide) (fun K hK => ?_)
                          refine box_step ?hg (N := 14) ?hd (cs := #[.int .i64 0, .int .i64 0, .int .i64 0, .int .i64 0, .slice none 0 0]) (t := 27) ?hr ?_; (case hd => rfl); (case hg => rfl); (case hr => first | (go_simp; done) | (go_simp; rfl))
                          intro gb549 hg w43 hbox hb
                          replace HO_527004 := Aside0.mk (RO_below (by (with_reducible repeat (first | apply RO_alloc | apply RO_drewN | apply RO_drew)); exact HO_527004.out) hb); replace HO_539004 := Aside0.mk (RO_below (by (with_reducible repeat (first | apply RO_alloc | apply RO_drewN | apply RO_drew)); exact HO_539004.out) hb); replace HO_540004 := Aside0.mk (RO_below (by (with_reducible repeat (first | apply RO_alloc | apply RO_drewN | apply RO_drew)); exact HO_540004.out) hb); replace HO547 := Aside0.mk (RO_below (by (with_reducible repeat (first | apply RO_alloc | apply RO_drewN | apply RO_drew)); exact HO547.out) hb); have BK549 := Aside0.mk (hbox); have GW549 := Aside0.mk ((by rw [hg]; exact (below_size (by repeat (first | exact sH HB.out | refine sN (w := w) ?_ | with_reducible refine sG (w := w) ?_ (by assumption)))) : w.heap.size ≤ gb549)); have GE549 := Aside0.mk ((by rw [hg]; exact (below_size (by repeat (first | exact sH HB.out | refine sN (w := w) ?_ | with_reducible refine sG (w := w) ?_ (by assumption)))) : w.heap.size ≤ gb549)); replace HB := Aside0.mk (below_step (by repeat (first | exact sH HB.out | refine sN (w := w) ?_ | with_reducible refine sG (w := w) ?_ (by assumption))) hb); have NB526_549 := Aside0.mk ((by rw [hg]; exact Nat.ne_of_lt (blk_lt (g := gb526) (o := .cells #[.int .i64 a0_0, .int .i64 a0_1, .int .i64 a0_2, .int .i64 a0_3, .slice Ao8 l0_4.length co8] 27 (0, 0)) (by first | exact BK526.out | (refine sO ?_; exact BK526.out))) : gb526 ≠ gb549)); have NB549_526 := Aside0.mk ((by rw [hg]; exact Nat.ne_of_gt (blk_lt (g := gb526) (o := .cells #[.int .i64 a0_0, .int .i64 a0_1, .int .i64 a0_2, .int .i64 a0_3, .slice Ao8 l0_4.length co8] 27 (0, 0)) (by first | exact BK526.out | (refine sO ?_; exact BK526.out))) : gb549 ≠ gb526)); replace BK526 := kB BK526 hb; have NB538_549 := Aside0.mk ((by rw [hg]; exact Nat.ne_of_lt (blk_lt (g := gb538) (o := .cells #[.int .i64 t530, .int .i64 t531, .int .i64 t532, .int .i64 t533, .slice Ao29 t534.length co29] 27 (0, 0)) (by first | exact BK538.out | (refine sO ?_; exact BK538.out))) : gb538 ≠ gb549)); have NB549_538 := Aside0.mk ((by rw [hg]; exact Nat.ne_of_gt (blk_lt (g := gb538) (o := .cells #[.int .i64 t530, .int .i64 t531, .int .i64 t532, .int .i64 t533, .slice Ao29 t534.length co29] 27 (0, 0)) (by first | exact BK538.out | (refine sO ?_; exact BK538.out))) : gb549 ≠ gb538)); replace BK538 := kB BK538 hb; have NB539_549 := Aside0.mk ((by rw [hg]; exact Nat.ne_of_lt (blk_lt (g := gb539) (o := .cells #[.int .i64 x540000_2, .int .i64 x540001_2, .int .i64 x540002_2, .int .i64 x540003_2, .slice Ao40 x540004_2.length co40] 27 (0, 0)) (by first | exact BK539.out | (refine sO ?_; exact BK539.out))) : gb539 ≠ gb549)); have NB549_539 := Aside0.mk ((by rw [hg]; exact Nat.ne_of_gt (blk_lt (g := gb539) (o := .cells #[.int .i64 x540000_2, .int .i64 x540001_2, .int .i64 x540002_2, .int .i64 x540003_2, .slice Ao40 x540004_2.length co40] 27 (0, 0)) (by first | exact BK539.out | (refine sO ?_; exact BK539.out))) : gb549 ≠ gb539)); replace BK539 := kB BK539 hb
                          clear hb hbox hg
                          refine hK.out _ _ ⟨(blk_cell BK539.out 0).trans rfl, (blk_cell BK539.out 1).trans rfl, (blk_cell BK539.out 2).trans rfl, (blk_cell BK539.out 3).trans rfl, (blk_cell BK539.out 4).trans rfl, ((HB.out.cell (World.block_lt_of_cell? w _ hw540_0)).trans hw540_0), ((HB.out.cell (World.block_lt_of_cell? w _ hw540_1)).trans hw540_1), ((HB.out.cell (World.block_lt_of_cell? w _ hw540_2)).trans hw540_2), ((HB.out.cell (World.block_lt_of_cell? w _ hw540_3)).trans hw540_3)⟩ (fun hHeld => ?_)
                          clear hK K
                          refine norm_ (a' := ?_) ?_ ?_
                          rotate_left
                          · show Act.put _ (some 14) _ = _
                            simp only [sP]
                            rfl
                          exact norm_ (by simp only [putAll, Act.put, List.setIfInBounds_toArray, List.set_cons_zero, List.set_cons_succ]) (hCont (v546, gb549) _ ⟨hHeld, (by (with_reducible repeat (first | apply RO_alloc | apply RO_drewN | apply RO_drew)); exact HO547.out), (by (with_reducible repeat (first | apply RO_alloc | apply RO_drewN | apply RO_drew)); exact HO_527004.out), (by (with_reducible repeat (first | apply RO_alloc | apply RO_drewN | apply RO_drew)); exact HO_539004.out), (by (with_reducible repeat (first | apply RO_alloc | apply RO_drewN | apply RO_drew)); exact HO_540004.out), (by first | exact BK526.out | (refine sO ?_; exact BK526.out)), (by first | exact BK538.out | (refine sO ?_; exact BK538.out)), (by first | exact BK539.out | (refine sO ?_; exact BK539.out)), (by first | exact BK549.out | (refine sO ?_; exact BK549.out)), GW549.out, GE549.out, NB526_549.out, NB549_526.out, NB538_549.out, NB549_538.out, NB539_549.out, NB549_539.out, (by repeat (first | exact sH HB.out | refine sN (w := w) ?_ | with_reducible refine sG (w := w) ?_ (by assumption)))⟩)
                        · skip
                          refine box_step ?hg (N := 14) ?hd (cs := #[.int .i64 0, .int .i64 0, .int .i64 0, .int .i64 0, .slice none 0 0]) (t := 27) ?hr ?_; (case hd => rfl); (case hg => rfl); (case hr => first | (go_simp; done) | (go_simp; rfl))
                          intro gb549 hg w42 hbox hb
                          replace HO_527004 := Aside0.mk (RO_below (by (with_reducible repeat (first | apply RO_alloc | apply RO_drewN | apply RO_drew)); exact HO_527004.out) hb); replace HO_539004 := Aside0.mk (RO_below (by (with_reducible repeat (first | apply RO_alloc | apply RO_drewN | apply RO_drew)); exact HO_539004.out) hb); replace HO_540004 := Aside0.mk (RO_below (by (with_reducible repeat (first | apply RO_alloc | apply RO_drewN | apply RO_drew)); exact HO_540004.out) hb); have BK549 := Aside0.mk (hbox); have GW549 := Aside0.mk ((by rw [hg]; exact (below_size (by repeat (first | exact sH HB.out | refine sN (w := w) ?_ | with_reducible refine sG (w := w) ?_ (by assumption)))) : w.heap.size ≤ gb549)); have GE549 := Aside0.mk ((by rw [hg]; exact (below_size (by repeat (first | exact sH HB.out | refine sN (w := w) ?_ | with_reducible refine sG (w := w) ?_ (by assumption)))) : w.heap.size ≤ gb549)); replace HB := Aside0.mk (below_step (by repeat (first | exact sH HB.out | refine sN (w := w) ?_ | with_reducible refine sG (w := w) ?_ (by assumption))) hb); have NB526_549 := Aside0.mk ((by rw [hg]; exact Nat.ne_of_lt (blk_lt (g := gb526) (o := .cells #[.int .i64 a0_0, .int .i64 a0_1, .int .i64 a0_2, .int .i64 a0_3, .slice Ao8 l0_4.length co8] 27 (0, 0)) (by first | exact BK526.out | (refine sO ?_; exact BK526.out))) : gb526 ≠ gb549)); have NB549_526 := Aside0.mk ((by rw [hg]; exact Nat.ne_of_gt (blk_lt (g := gb526) (o := .cells #[.int .i64 a0_0, .int .i64 a0_1, .int .i64 a0_2, .int .i64 a0_3, .slice Ao8 l0_4.length co8] 27 (0, 0)) (by first | exact BK526.out | (refine sO ?_; exact BK526.out))) : gb549 ≠ gb526)); replace BK526 := kB BK526 hb; have NB538_549 := Aside0.mk ((by rw [hg]; exact Nat.ne_of_lt (blk_lt (g := gb538) (o := .cells #[.int .i64 t530, .int .i64 t531, .int .i64 t532, .int .i64 t533, .slice Ao29 t534.length co29] 27 (0, 0)) (by first | exact BK538.out | (refine sO ?_; exact BK538.out))) : gb538 ≠ gb549)); have NB549_538 := Aside0.mk ((by rw [hg]; exact Nat.ne_of_gt (blk_lt (g := gb538) (o := .cells #[.int .i64 t530, .int .i64 t531, .int .i64 t532, .int .i64 t533, .slice Ao29 t534.length co29] 27 (0, 0)) (by first | exact BK538.out | (refine sO ?_; exact BK538.out))) : gb549 ≠ gb538)); replace BK538 := kB BK538 hb; have NB539_549 := Aside0.mk ((by rw [hg]; exact Nat.ne_of_lt (blk_lt (g := gb539) (o := .cells #[.int .i64 x540000_2, .int .i64 x540001_2, .int .i64 x540002_2, .int .i64 x540003_2, .slice Ao40 x540004_2.length co40] 27 (0, 0)) (by first | exact BK539.out | (refine sO ?_; exact BK539.out))) : gb539 ≠ gb549)); have NB549_539 := Aside0.mk ((by rw [hg]; exact Nat.ne_of_gt (blk_lt (g := gb539) (o := .cells #[.int .i64 x540000_2, .int .i64 x540001_2, .int .i64 x540002_2, .int .i64 x540003_2, .slice Ao40 x540004_2.length co40] 27 (0, 0)) (by first | exact BK539.out | (refine sO ?_; exact BK539.out))) : gb549 ≠ gb539)); replace BK539 := kB BK539 hb
                          clear hb hbox hg
                          refine hK.out _ _ ⟨(blk_cell BK539.out 0).trans rfl, (blk_cell BK539.out 1).trans rfl, (blk_cell BK539.out 2).trans rfl, (blk_cell BK539.out 3).trans rfl, (blk_cell BK539.out 4).trans rfl, ((HB.out.cell (World.block_lt_of_cell? w _ hw540_0)).trans hw540_0), ((HB.out.cell (World.block_lt_of_cell? w _ hw540_1)).trans hw540_1), ((HB.out.cell (World.block_lt_of_cell? w _ hw540_2)).trans hw540_2), ((HB.out.cell (World.block_lt_of_cell? w _ hw540_3)).trans hw540_3)⟩ (fun hHeld => ?_)
                          clear hK K
                          refine norm_ (a' := ?_) ?_ ?_
                          rotate_left
                          · show Act.put _ (some 14) _ = _
                            simp only [sP]
                            rfl
                          refine one_ (i := 5) (N := some 67) #[X, X, X, X, X, X, O, O, O, X, O, O] rfl rfl (one_of HT_.out (by kernel_rfl)) (by decide) (fun K hK => ?_)
                          refine goes_ Try.func22 (by kernel_rfl) rfl #[.agg #[.int .i64 x540000_2, .int .i64 x540001_2, .int .i64 x540002_2, .int .i64 x540003_2, .slice Ao40 x540004_2.length co40], .agg #[.int .i64 ((rd_T35 l1 x13_2).f0), .int .i64 ((rd_T35 l1 x13_2).f1), .int .i64 ((rd_T35 l1 x13_2).f2), .slice A540_3 ((rd_T35 l1 x13_2).f3).length c540_3]] (by rfl) rfl rfl (by (try simp only [sM]); first | done | rfl | (simp only [sT]; rfl)) ?_
                          with_reducible refine (image_Put.calls k2 x540000_2 x540001_2 x540002_2 x540003_2 _ _ x540004_2 ((rd_T35 l1 x13_2).f0) ((rd_T35 l1 x13_2).f1) ((rd_T35 l1 x13_2).f2) _ _ ((rd_T35 l1 x13_2).f3) t541 t542 t543 t544 t545 t548 _ ?side1 ?side2 ?side3 ?side4 A38.out).mono ?_
                          (case side1 => repeat (first | exact (RO_reads' HO_540004.out).2.2 | (with_reducible refine Kd.C_alloc ?_ _) | (with_reducible refine Kd.C_drewN ?_ _) | (with_reducible refine Kd.C_drew ?_)))
                          (case side2 => exact (RO_reads' HO_540004.out).2.1)
                          (case side3 => exact sC (Kd.C_below HR540_3.out HB.out))
                          (case side4 => exact HC540_3.out)
                          rintro e w43 ⟨v546, rfl, ho0, hb⟩
                          refine ⟨_, rfl, ?_⟩
                          replace HO_527004 := Aside0.mk (RO_below (by (with_reducible repeat (first | apply RO_alloc | apply RO_drewN | apply RO_drew)); exact HO_527004.out) hb); replace HO_539004 := Aside0.mk (RO_below (by (with_reducible repeat (first | apply RO_alloc | apply RO_drewN | apply RO_drew)); exact HO_539004.out) hb); replace HO_540004 := Aside0.mk (RO_below (by (with_reducible repeat (first | apply RO_alloc | apply RO_drewN | apply RO_drew)); exact HO_540004.out) hb); have HO547 := Aside0.mk (RO_lowerR ho0 (below_size (by repeat (first | exact sH HB.out | refine sN (w := w) ?_ | with_reducible refine sG (w := w) ?_ (by assumption))))); replace BK526 := kB BK526 hb; replace BK538 := kB BK538 hb; replace BK539 := kB BK539 hb; replace BK549 := kB BK549 hb; replace HB := Aside0.mk (below_step (by repeat (first | exact sH HB.out | refine sN (w := w) ?_ | with_reducible refine sG (w := w) ?_ (by assumption))) hb)
                          (try clear hb)
                          (try clear hb2)
                          (try clear hk)
                          (try clear hi)
                          (try clear ho0)
                          refine hK.out _ _ ⟨(blk_cell BK539.out 0).trans rfl, (blk_cell BK539.out 1).trans rfl, (blk_cell BK539.out 2).trans rfl, (blk_cell BK539.out 3).trans rfl, (blk_cell BK539.out 4).trans rfl, ((HB.out.cell (World.block_lt_of_cell? w _ hw540_0)).trans hw540_0), ((HB.out.cell (World.block_lt_of_cell? w _ hw540_1)).trans hw540_1), ((HB.out.cell (World.block_lt_of_cell? w _ hw540_2)).trans hw540_2), ((HB.out.cell (World.block_lt_of_cell? w _ hw540_3)).trans hw540_3)⟩ (fun hHeld => ?_)
                          clear hK K
                          refine norm_ (a' := ?_) ?_ ?_
                          rotate_left
                          · show Act.put _ (some 67) _ = _
                            simp only [sP]
                            rfl
                          refine pu (i := 6) (N := some 61) (v := ?_) (a' := ?_) #[X, X, X, X, X, X, X, O, O, X, O, O] rfl rfl HT_ (by kernel_rfl) (fun _ _ _ h => h) ⟨by rfl, ?_⟩ ?_ ?_
                          rotate_left
                          · intro w'; go_simp; with_reducible rfl
                          rotate_left
                          · simp only [sP]
                            rfl
                          refine pu (i := 7) (N := some 68) (v := ?_) (a' := ?_) #[X, X, X, X, X, X, X, X, O, X, O, O] rfl rfl HT_ (by kernel_rfl) (fun _ _ _ h => h) ⟨by rfl, ?_⟩ ?_ ?_
                          rotate_left
                          · intro w'; go_simp; with_reducible rfl
                          rotate_left
                          · simp only [sP]
                            rfl
                          refine pu (i := 8) (N := some 69) (v := ?_) (a' := ?_) #[X, X, X, X, X, X, X, X, X, X, O, O] rfl rfl HT_ (by kernel_rfl) (fun _ _ _ h => h) ⟨by rfl, ?_⟩ ?_ ?_
                          rotate_left
                          · intro w'; go_simp; with_reducible rfl
                          rotate_left
                          · simp only [sP]
                            rfl
                          exact norm_ (by simp only [putAll, Act.put, List.setIfInBounds_toArray, List.set_cons_zero, List.set_cons_succ]) (hCont (v546, gb549) _ ⟨hHeld, (by (with_reducible repeat (first | apply RO_alloc | apply RO_drewN | apply RO_drew)); exact HO547.out), (by (with_reducible repeat (first | apply RO_alloc | apply RO_drewN | apply RO_drew)); exact HO_527004.out), (by (with_reducible repeat (first | apply RO_alloc | apply RO_drewN | apply RO_drew)); exact HO_539004.out), (by (with_reducible repeat (first | apply RO_alloc | apply RO_drewN | apply RO_drew)); exact HO_540004.out), (by first | exact BK526.out | (refine sO ?_; exact BK526.out)), (by first | exact BK538.out | (refine sO ?_; exact BK538.out)), (by first | exact BK539.out | (refine sO ?_; exact BK539.out)), (by first | exact BK549.out | (refine sO ?_; exact BK549.out)), GW549.out, GE549.out, NB526_549.out, NB549_526.out, NB538_549.out, NB549_538.out, NB539_549.out, NB549_539.out, (by repeat (first | exact sH HB.out | refine sN (w := w) ?_ | with_reducible refine sG (w := w) ?_ (by assumption)))⟩)
                      rintro ⟨v546, gb549⟩ w44 ⟨hS_, h0_, h1_, h2_, h3_, h4_, h5_, h6_, h7_, h8_, h9_, h10_, h11_, h12_, h13_, h14_, h15_, h16_⟩
                      have n0_ : Aside0 (RO (Kd.slice 5 (Kd.int .u8)) 33 w44 w.heap.size (fun _ => True) v546 t545) := ⟨h0_⟩
                      have n1_ : Aside0 (RO (Kd.slice 5 (Kd.int .u8)) 33 w44 w.heap.size (fun _ => True) (.slice Ao8 l0_4.length co8) l0_4) := ⟨h1_⟩
                      have n2_ : Aside0 (RO (Kd.slice 5 (Kd.int .u8)) 33 w44 w.heap.size (fun _ => True) (.slice Ao29 t534.length co29) t534) := ⟨h2_⟩
                      have n3_ : Aside0 (RO (Kd.slice 5 (Kd.int .u8)) 33 w44 w.heap.size (fun _ => True) (.slice Ao40 x540004_2.length co40) x540004_2) := ⟨h3_⟩
                      have n4_ : Aside0 (w44.heap[gb526]? = some (.cells #[.int .i64 a0_0, .int .i64 a0_1, .int .i64 a0_2, .int .i64 a0_3, .slice Ao8 l0_4.length co8] 27 (0, 0))) := ⟨h4_⟩
                      have n5_ : Aside0 (w44.heap[gb538]? = some (.cells #[.int .i64 t530, .int .i64 t531, .int .i64 t532, .int .i64 t533, .slice Ao29 t534.length co29] 27 (0, 0))) := ⟨h5_⟩
                      have n6_ : Aside0 (w44.heap[gb539]? = some (.cells #[.int .i64 x540000_2, .int .i64 x540001_2, .int .i64 x540002_2, .int .i64 x540003_2, .slice Ao40 x540004_2.length co40] 27 (0, 0))) := ⟨h6_⟩
                      have n7_ : Aside0 (w44.heap[gb549]? = some (.cells #[.int .i64 0, .int .i64 0, .int .i64 0, .int .i64 0, .slice none 0 0] 27 (0, 0))) := ⟨h7_⟩
                      have n8_ : Aside0 (w.heap.size ≤ gb549) := ⟨h8_⟩
                      have n9_ : Aside0 (w.heap.size ≤ gb549) := ⟨h9_⟩
                      have n10_ : Aside0 (gb526 ≠ gb549) := ⟨h10_⟩
                      have n11_ : Aside0 (gb549 ≠ gb526) := ⟨h11_⟩
                      have n12_ : Aside0 (gb538 ≠ gb549) := ⟨h12_⟩
                      have n13_ : Aside0 (gb549 ≠ gb538) := ⟨h13_⟩
                      have n14_ : Aside0 (gb539 ≠ gb549) := ⟨h14_⟩
                      have n15_ : Aside0 (gb549 ≠ gb539) := ⟨h15_⟩
                      have n16_ : Aside0 (Below w.heap.size w w44) := ⟨h16_⟩
                      clear HO_527004; clear HO_539004; clear HO_540004; clear BK526; clear BK538; clear BK539; clear HB
                      clear h0_ h1_ h2_ h3_ h4_ h5_ h6_ h7_ h8_ h9_ h10_ h11_ h12_ h13_ h14_ h15_ h16_
                      have HO547 := n0_; have HO_527004 := n1_; have HO_539004 := n2_; have HO_540004 := n3_; have BK526 := n4_; have BK538 := n5_; have BK539 := n6_; have BK549 := n7_; have GW549 := n8_; have GE549 := n9_; have NB526_549 := n10_; have NB549_526 := n11_; have NB538_549 := n12_; have NB549_538 := n13_; have NB539_549 := n14_; have NB549_539 := n15_; have HB := n16_; clear n0_ n1_ n2_ n3_ n4_ n5_ n6_ n7_ n8_ n9_ n10_ n11_ n12_ n13_ n14_ n15_ n16_
                      have hHeld : w44.cell? ⟨gb539, 0, none⟩ = some (.int .i64 x540000_2) ∧ w44.cell? ⟨gb539, 1, none⟩ = some (.int .i64 x540001_2) ∧ w44.cell? ⟨gb539, 2, none⟩ = some (.int .i64 x540002_2) ∧ w44.cell? ⟨gb539, 3, none⟩ = some (.int .i64 x540003_2) ∧ w44.cell? ⟨gb539, 4, none⟩ = some (.slice Ao40 x540004_2.length co40) ∧ w44.cell? (ad540.add ((x13_2).toNat * 4)) = some (.int .i64 ((rd_T35 l1 x13_2).f0)) ∧ w44.cell? ⟨(ad540.add ((x13_2).toNat * 4)).block, (ad540.add ((x13_2).toNat * 4)).off + 1, none⟩ = some (.int .i64 ((rd_T35 l1 x13_2).f1)) ∧ w44.cell? ⟨(ad540.add ((x13_2).toNat * 4)).block, (ad540.add ((x13_2).toNat * 4)).off + 2, none⟩ = some (.int .i64 ((rd_T35 l1 x13_2).f2)) ∧ w44.cell? ⟨(ad540.add ((x13_2).toNat * 4)).block, (ad540.add ((x13_2).toNat * 4)).off + 3, none⟩ = some (.slice A540_3 ((rd_T35 l1 x13_2).f3).length c540_3) := hS_
                      obtain ⟨Ao49, co49, eo49⟩ := RO_slice HO547.out
                      (first | subst eo49 | (injection eo49 with f1_ f2_ f3_; have f4_ := f1_.symm; have f5_ := f3_.symm; clear f1_ f2_ f3_; subst f4_; subst f5_))
                      refine norm_ (a' := ?_) ?_ ?_
                      rotate_left
                      · simp only [putAll, Act.put, List.setIfInBounds_toArray, List.set_cons_zero, List.set_cons_succ]
                        rfl
                      refine one_ (i := 10) (N := none) #[X, X, X, X, X, X, X, X, X, X, X, O] rfl rfl (one_of HT_.out (by kernel_rfl)) (by decide) (fun K hK => ?_)
                      have hs45 : w44.cell? ⟨gb549, 0, none⟩ = some (.int .i64 0) := (blk_cell BK549.out 0).trans rfl
                      have hfs45 := blk_frozen BK549.out 0
                      have hns45_0 := NB526_549.out
                      have hns45_1 := NB538_549.out
                      have hns45_2 := NB539_549.out
                      have hms45_0 := NB549_526.out
                      have hms45_1 := NB549_538.out
                      have hms45_2 := NB549_539.out
                      have hs46 : w44.cell? ⟨gb549, 1, none⟩ = some (.int .i64 0) := (blk_cell BK549.out 1).trans rfl
                      have hfs46 := blk_frozen BK549.out 1
                      have hns46_0 := NB526_549.out
                      have hns46_1 := NB538_549.out
                      have hns46_2 := NB539_549.out
                      have hms46_0 := NB549_526.out
                      have hms46_1 := NB549_538.out
                      have hms46_2 := NB549_539.out
                      have hs47 : w44.cell? ⟨gb549, 2, none⟩ = some (.int .i64 0) := (blk_cell BK549.out 2).trans rfl
                      have hfs47 := blk_frozen BK549.out 2
                      have hns47_0 := NB526_549.out
                      have hns47_1 := NB538_549.out
                      have hns47_2 := NB539_549.out
                      have hms47_0 := NB549_526.out
                      have hms47_1 := NB549_538.out
                      have hms47_2 := NB549_539.out
                      have hs48 : w44.cell? ⟨gb549, 3, none⟩ = some (.int .i64 0) := (blk_cell BK549.out 3).trans rfl
                      have hfs48 := blk_frozen BK549.out 3
                      have hns48_0 := NB526_549.out
                      have hns48_1 := NB538_549.out
                      have hns48_2 := NB539_549.out
                      have hms48_0 := NB549_526.out
                      have hms48_1 := NB549_538.out
                      have hms48_2 := NB549_539.out
                      have hs50 : w44.cell? ⟨gb549, 4, none⟩ = some (.slice none 0 0) := (blk_cell BK549.out 4).trans rfl
                      have hfs50 := blk_frozen BK549.out 4
                      have hns50_0 := NB526_549.out
                      have hns50_1 := NB538_549.out
                      have hns50_2 := NB539_549.out
                      have hms50_0 := NB549_526.out
                      have hms50_1 := NB549_538.out
                      have hms50_2 := NB549_539.out
                      refine skip_ (w1 := ?_) (by rfl) rfl ?_ ?_
                      rotate_left
                      · go_simp
                        rfl
                      refine hK.out _ _ ⟨((cell_far (p := ⟨gb549, _, none⟩) NB539_549.out _).trans (((cell_far (p := ⟨gb549, _, none⟩) NB539_549.out _).trans (((cell_far (p := ⟨gb549, _, none⟩) NB539_549.out _).trans (((cell_far (p := ⟨gb549, _, none⟩) NB539_549.out _).trans (((cell_far (p := ⟨gb549, _, none⟩) NB539_549.out _).trans (hHeld.1)))))))))), ((cell_far (p := ⟨gb549, _, none⟩) NB539_549.out _).trans (((cell_far (p := ⟨gb549, _, none⟩) NB539_549.out _).trans (((cell_far (p := ⟨gb549, _, none⟩) NB539_549.out _).trans (((cell_far (p := ⟨gb549, _, none⟩) NB539_549.out _).trans (((cell_far (p := ⟨gb549, _, none⟩) NB539_549.out _).trans (hHeld.2.1)))))))))), ((cell_far (p := ⟨gb549, _, none⟩) NB539_549.out _).trans (((cell_far (p := ⟨gb549, _, none⟩) NB539_549.out _).trans (((cell_far (p := ⟨gb549, _, none⟩) NB539_549.out _).trans (((cell_far (p := ⟨gb549, _, none⟩) NB539_549.out _).trans (((cell_far (p := ⟨gb549, _, none⟩) NB539_549.out _).trans (hHeld.2.2.1)))))))))), ((cell_far (p := ⟨gb549, _, none⟩) NB539_549.out _).trans (((cell_far (p := ⟨gb549, _, none⟩) NB539_549.out _).trans (((cell_far (p := ⟨gb549, _, none⟩) NB539_549.out _).trans (((cell_far (p := ⟨gb549, _, none⟩) NB539_549.out _).trans (((cell_far (p := ⟨gb549, _, none⟩) NB539_549.out _).trans (hHeld.2.2.2.1)))))))))), ((cell_far (p := ⟨gb549, _, none⟩) NB539_549.out _).trans (((cell_far (p := ⟨gb549, _, none⟩) NB539_549.out _).trans (((cell_far (p := ⟨gb549, _, none⟩) NB539_549.out _).trans (((cell_far (p := ⟨gb549, _, none⟩) NB539_549.out _).trans (((cell_far (p := ⟨gb549, _, none⟩) NB539_549.out _).trans (hHeld.2.2.2.2.1)))))))))), ((cell_far (p := ⟨gb549, _, none⟩) (by first | exact Nat.ne_of_lt (Nat.lt_of_lt_of_le (by have := World.block_lt_of_cell? _ _ hw540_0; first | rwa [add_block] at this | exact this) GW549.out) | (rw [add_block]; exact Nat.ne_of_lt (Nat.lt_of_lt_of_le (by have := World.block_lt_of_cell? _ _ hw540_0; first | rwa [add_block] at this | exact this) GW549.out)) | (show (Addr.add _ _).block ≠ _; rw [add_block]; exact Nat.ne_of_lt (Nat.lt_of_lt_of_le (by have := World.block_lt_of_cell? _ _ hw540_0; first | rwa [add_block] at this | exact this) GW549.out)) | (dsimp only; exact Nat.ne_of_lt (Nat.lt_of_lt_of_le (by have := World.block_lt_of_cell? _ _ hw540_0; first | rwa [add_block] at this | exact this) GW549.out))) _).trans (((cell_far (p := ⟨gb549, _, none⟩) (by first | exact Nat.ne_of_lt (Nat.lt_of_lt_of_le (by have := World.block_lt_of_cell? _ _ hw540_0; first | rwa [add_block] at this | exact this) GW549.out) | (rw [add_block]; exact Nat.ne_of_lt (Nat.lt_of_lt_of_le (by have := World.block_lt_of_cell? _ _ hw540_0; first | rwa [add_block] at this | exact this) GW549.out)) | (show (Addr.add _ _).block ≠ _; rw [add_block]; exact Nat.ne_of_lt (Nat.lt_of_lt_of_le (by have := World.block_lt_of_cell? _ _ hw540_0; first | rwa [add_block] at this | exact this) GW549.out)) | (dsimp only; exact Nat.ne_of_lt (Nat.lt_of_lt_of_le (by have := World.block_lt_of_cell? _ _ hw540_0; first | rwa [add_block] at this | exact this) GW549.out))) _).trans (((cell_far (p := ⟨gb549, _, none⟩) (by first | exact Nat.ne_of_lt (Nat.lt_of_lt_of_le (by have := World.block_lt_of_cell? _ _ hw540_0; first | rwa [add_block] at this | exact this) GW549.out) | (rw [add_block]; exact Nat.ne_of_lt (Nat.lt_of_lt_of_le (by have := World.block_lt_of_cell? _ _ hw540_0; first | rwa [add_block] at this | exact this) GW549.out)) | (show (Addr.add _ _).block ≠ _; rw [add_block]; exact Nat.ne_of_lt (Nat.lt_of_lt_of_le (by have := World.block_lt_of_cell? _ _ hw540_0; first | rwa [add_block] at this | exact this) GW549.out)) | (dsimp only; exact Nat.ne_of_lt (Nat.lt_of_lt_of_le (by have := World.block_lt_of_cell? _ _ hw540_0; first | rwa [add_block] at this | exact this) GW549.out))) _).trans (((cell_far (p := ⟨gb549, _, none⟩) (by first | exact Nat.ne_of_lt (Nat.lt_of_lt_of_le (by have := World.block_lt_of_cell? _ _ hw540_0; first | rwa [add_block] at this | exact this) GW549.out) | (rw [add_block]; exact Nat.ne_of_lt (Nat.lt_of_lt_of_le (by have := World.block_lt_of_cell? _ _ hw540_0; first | rwa [add_block] at this | exact this) GW549.out)) | (show (Addr.add _ _).block ≠ _; rw [add_block]; exact Nat.ne_of_lt (Nat.lt_of_lt_of_le (by have := World.block_lt_of_cell? _ _ hw540_0; first | rwa [add_block] at this | exact this) GW549.out)) | (dsimp only; exact Nat.ne_of_lt (Nat.lt_of_lt_of_le (by have := World.block_lt_of_cell? _ _ hw540_0; first | rwa [add_block] at this | exact this) GW549.out))) _).trans (((cell_far (p := ⟨gb549, _, none⟩) (by first | exact Nat.ne_of_lt (Nat.lt_of_lt_of_le (by have := World.block_lt_of_cell? _ _ hw540_0; first | rwa [add_block] at this | exact this) GW549.out) | (rw [add_block]; exact Nat.ne_of_lt (Nat.lt_of_lt_of_le (by have := World.block_lt_of_cell? _ _ hw540_0; first | rwa [add_block] at this | exact this) GW549.out)) | (show (Addr.add _ _).block ≠ _; rw [add_block]; exact Nat.ne_of_lt (Nat.lt_of_lt_of_le (by have := World.block_lt_of_cell? _ _ hw540_0; first | rwa [add_block] at this | exact this) GW549.out)) | (dsimp only; exact Nat.ne_of_lt (Nat.lt_of_lt_of_le (by have := World.block_lt_of_cell? _ _ hw540_0; first | rwa [add_block] at this | exact this) GW549.out))) _).trans (hHeld.2.2.2.2.2.1)))))))))), ((cell_far (p := ⟨gb549, _, none⟩) (by first | exact Nat.ne_of_lt (Nat.lt_of_lt_of_le (by have := World.block_lt_of_cell? _ _ hw540_1; first | rwa [add_block] at this | exact this) GW549.out) | (rw [add_block]; exact Nat.ne_of_lt (Nat.lt_of_lt_of_le (by have := World.block_lt_of_cell? _ _ hw540_1; first | rwa [add_block] at this | exact this) GW549.out)) | (show (Addr.add _ _).block ≠ _; rw [add_block]; exact Nat.ne_of_lt (Nat.lt_of_lt_of_le (by have := World.block_lt_of_cell? _ _ hw540_1; first | rwa [add_block] at this | exact this) GW549.out)) | (dsimp only; exact Nat.ne_of_lt (Nat.lt_of_lt_of_le (by have := World.block_lt_of_cell? _ _ hw540_1; first | rwa [add_block] at this | exact this) GW549.out))) _).trans (((cell_far (p := ⟨gb549, _, none⟩) (by first | exact Nat.ne_of_lt (Nat.lt_of_lt_of_le (by have := World.block_lt_of_cell? _ _ hw540_1; first | rwa [add_block] at this | exact this) GW549.out) | (rw [add_block]; exact Nat.ne_of_lt (Nat.lt_of_lt_of_le (by have := World.block_lt_of_cell? _ _ hw540_1; first | rwa [add_block] at this | exact this) GW549.out)) | (show (Addr.add _ _).block ≠ _; rw [add_block]; exact Nat.ne_of_lt (Nat.lt_of_lt_of_le (by have := World.block_lt_of_cell? _ _ hw540_1; first | rwa [add_block] at this | exact this) GW549.out)) | (dsimp only; exact Nat.ne_of_lt (Nat.lt_of_lt_of_le (by have := World.block_lt_of_cell? _ _ hw540_1; first | rwa [add_block] at this | exact this) GW549.out))) _).trans (((cell_far (p := ⟨gb549, _, none⟩) (by first | exact Nat.ne_of_lt (Nat.lt_of_lt_of_le (by have := World.block_lt_of_cell? _ _ hw540_1; first | rwa [add_block] at this | exact this) GW549.out) | (rw [add_block]; exact Nat.ne_of_lt (Nat.lt_of_lt_of_le (by have := World.block_lt_of_cell? _ _ hw540_1; first | rwa [add_block] at this | exact this) GW549.out)) | (show (Addr.add _ _).block ≠ _; rw [add_block]; exact Nat.ne_of_lt (Nat.lt_of_lt_of_le (by have := World.block_lt_of_cell? _ _ hw540_1; first | rwa [add_block] at this | exact this) GW549.out)) | (dsimp only; exact Nat.ne_of_lt (Nat.lt_of_lt_of_le (by have := World.block_lt_of_cell? _ _ hw540_1; first | rwa [add_block] at this | exact this) GW549.out))) _).trans (((cell_far (p := ⟨gb549, _, none⟩) (by first | exact Nat.ne_of_lt (Nat.lt_of_lt_of_le (by have := World.block_lt_of_cell? _ _ hw540_1; first | rwa [add_block] at this | exact this) GW549.out) | (rw [add_block]; exact Nat.ne_of_lt (Nat.lt_of_lt_of_le (by have := World.block_lt_of_cell? _ _ hw540_1; first | rwa [add_block] at this | exact this) GW549.out)) | (show (Addr.add _ _).block ≠ _; rw [add_block]; exact Nat.ne_of_lt (Nat.lt_of_lt_of_le (by have := World.block_lt_of_cell? _ _ hw540_1; first | rwa [add_block] at this | exact this) GW549.out)) | (dsimp only; exact Nat.ne_of_lt (Nat.lt_of_lt_of_le (by have := World.block_lt_of_cell? _ _ hw540_1; first | rwa [add_block] at this | exact this) GW549.out))) _).trans (((cell_far (p := ⟨gb549, _, none⟩) (by first | exact Nat.ne_of_lt (Nat.lt_of_lt_of_le (by have := World.block_lt_of_cell? _ _ hw540_1; first | rwa [add_block] at this | exact this) GW549.out) | (rw [add_block]; exact Nat.ne_of_lt (Nat.lt_of_lt_of_le (by have := World.block_lt_of_cell? _ _ hw540_1; first | rwa [add_block] at this | exact this) GW549.out)) | (show (Addr.add _ _).block ≠ _; rw [add_block]; exact Nat.ne_of_lt (Nat.lt_of_lt_of_le (by have := World.block_lt_of_cell? _ _ hw540_1; first | rwa [add_block] at this | exact this) GW549.out)) | (dsimp only; exact Nat.ne_of_lt (Nat.lt_of_lt_of_le (by have := World.block_lt_of_cell? _ _ hw540_1; first | rwa [add_block] at this | exact this) GW549.out))) _).trans (hHeld.2.2.2.2.2.2.1)))))))))), ((cell_far (p := ⟨gb549, _, none⟩) (by first | exact Nat.ne_of_lt (Nat.lt_of_lt_of_le (by have := World.block_lt_of_cell? _ _ hw540_2; first | rwa [add_block] at this | exact this) GW549.out) | (rw [add_block]; exact Nat.ne_of_lt (Nat.lt_of_lt_of_le (by have := World.block_lt_of_cell? _ _ hw540_2; first | rwa [add_block] at this | exact this) GW549.out)) | (show (Addr.add _ _).block ≠ _; rw [add_block]; exact Nat.ne_of_lt (Nat.lt_of_lt_of_le (by have := World.block_lt_of_cell? _ _ hw540_2; first | rwa [add_block] at this | exact this) GW549.out)) | (dsimp only; exact Nat.ne_of_lt (Nat.lt_of_lt_of_le (by have := World.block_lt_of_cell? _ _ hw540_2; first | rwa [add_block] at this | exact this) GW549.out))) _).trans (((cell_far (p := ⟨gb549, _, none⟩) (by first | exact Nat.ne_of_lt (Nat.lt_of_lt_of_le (by have := World.block_lt_of_cell? _ _ hw540_2; first | rwa [add_block] at this | exact this) GW549.out) | (rw [add_block]; exact Nat.ne_of_lt (Nat.lt_of_lt_of_le (by have := World.block_lt_of_cell? _ _ hw540_2; first | rwa [add_block] at this | exact this) GW549.out)) | (show (Addr.add _ _).block ≠ _; rw [add_block]; exact Nat.ne_of_lt (Nat.lt_of_lt_of_le (by have := World.block_lt_of_cell? _ _ hw540_2; first | rwa [add_block] at this | exact this) GW549.out)) | (dsimp only; exact Nat.ne_of_lt (Nat.lt_of_lt_of_le (by have := World.block_lt_of_cell? _ _ hw540_2; first | rwa [add_block] at this | exact this) GW549.out))) _).trans (((cell_far (p := ⟨gb549, _, none⟩) (by first | exact Nat.ne_of_lt (Nat.lt_of_lt_of_le (by have := World.block_lt_of_cell? _ _ hw540_2; first | rwa [add_block] at this | exact this) GW549.out) | (rw [add_block]; exact Nat.ne_of_lt (Nat.lt_of_lt_of_le (by have := World.block_lt_of_cell? _ _ hw540_2; first | rwa [add_block] at this | exact this) GW549.out)) | (show (Addr.add _ _).block ≠ _; rw [add_block]; exact Nat.ne_of_lt (Nat.lt_of_lt_of_le (by have := World.block_lt_of_cell? _ _ hw540_2; first | rwa [add_block] at this | exact this) GW549.out)) | (dsimp only; exact Nat.ne_of_lt (Nat.lt_of_lt_of_le (by have := World.block_lt_of_cell? _ _ hw540_2; first | rwa [add_block] at this | exact this) GW549.out))) _).trans (((cell_far (p := ⟨gb549, _, none⟩) (by first | exact Nat.ne_of_lt (Nat.lt_of_lt_of_le (by have := World.block_lt_of_cell? _ _ hw540_2; first | rwa [add_block] at this | exact this) GW549.out) | (rw [add_block]; exact Nat.ne_of_lt (Nat.lt_of_lt_of_le (by have := World.block_lt_of_cell? _ _ hw540_2; first | rwa [add_block] at this | exact this) GW549.out)) | (show (Addr.add _ _).block ≠ _; rw [add_block]; exact Nat.ne_of_lt (Nat.lt_of_lt_of_le (by have := World.block_lt_of_cell? _ _ hw540_2; first | rwa [add_block] at this | exact this) GW549.out)) | (dsimp only; exact Nat.ne_of_lt (Nat.lt_of_lt_of_le (by have := World.block_lt_of_cell? _ _ hw540_2; first | rwa [add_block] at this | exact this) GW549.out))) _).trans (((cell_far (p := ⟨gb549, _, none⟩) (by first | exact Nat.ne_of_lt (Nat.lt_of_lt_of_le (by have := World.block_lt_of_cell? _ _ hw540_2; first | rwa [add_block] at this | exact this) GW549.out) | (rw [add_block]; exact Nat.ne_of_lt (Nat.lt_of_lt_of_le (by have := World.block_lt_of_cell? _ _ hw540_2; first | rwa [add_block] at this | exact this) GW549.out)) | (show (Addr.add _ _).block ≠ _; rw [add_block]; exact Nat.ne_of_lt (Nat.lt_of_lt_of_le (by have := World.block_lt_of_cell? _ _ hw540_2; first | rwa [add_block] at this | exact this) GW549.out)) | (dsimp only; exact Nat.ne_of_lt (Nat.lt_of_lt_of_le (by have := World.block_lt_of_cell? _ _ hw540_2; first | rwa [add_block] at this | exact this) GW549.out))) _).trans (hHeld.2.2.2.2.2.2.2.1)))))))))), ((cell_far (p := ⟨gb549, _, none⟩) (by first | exact Nat.ne_of_lt (Nat.lt_of_lt_of_le (by have := World.block_lt_of_cell? _ _ hw540_3; first | rwa [add_block] at this | exact this) GW549.out) | (rw [add_block]; exact Nat.ne_of_lt (Nat.lt_of_lt_of_le (by have := World.block_lt_of_cell? _ _ hw540_3; first | rwa [add_block] at this | exact this) GW549.out)) | (show (Addr.add _ _).block ≠ _; rw [add_block]; exact Nat.ne_of_lt (Nat.lt_of_lt_of_le (by have := World.block_lt_of_cell? _ _ hw540_3; first | rwa [add_block] at this | exact this) GW549.out)) | (dsimp only; exact Nat.ne_of_lt (Nat.lt_of_lt_of_le (by have := World.block_lt_of_cell? _ _ hw540_3; first | rwa [add_block] at this | exact this) GW549.out))) _).trans (((cell_far (p := ⟨gb549, _, none⟩) (by first | exact Nat.ne_of_lt (Nat.lt_of_lt_of_le (by have := World.block_lt_of_cell? _ _ hw540_3; first | rwa [add_block] at this | exact this) GW549.out) | (rw [add_block]; exact Nat.ne_of_lt (Nat.lt_of_lt_of_le (by have := World.block_lt_of_cell? _ _ hw540_3; first | rwa [add_block] at this | exact this) GW549.out)) | (show (Addr.add _ _).block ≠ _; rw [add_block]; exact Nat.ne_of_lt (Nat.lt_of_lt_of_le (by have := World.block_lt_of_cell? _ _ hw540_3; first | rwa [add_block] at this | exact this) GW549.out)) | (dsimp only; exact Nat.ne_of_lt (Nat.lt_of_lt_of_le (by have := World.block_lt_of_cell? _ _ hw540_3; first | rwa [add_block] at this | exact this) GW549.out))) _).trans (((cell_far (p := ⟨gb549, _, none⟩) (by first | exact Nat.ne_of_lt (Nat.lt_of_lt_of_le (by have := World.block_lt_of_cell? _ _ hw540_3; first | rwa [add_block] at this | exact this) GW549.out) | (rw [add_block]; exact Nat.ne_of_lt (Nat.lt_of_lt_of_le (by have := World.block_lt_of_cell? _ _ hw540_3; first | rwa [add_block] at this | exact this) GW549.out)) | (show (Addr.add _ _).block ≠ _; rw [add_block]; exact Nat.ne_of_lt (Nat.lt_of_lt_of_le (by have := World.block_lt_of_cell? _ _ hw540_3; first | rwa [add_block] at this | exact this) GW549.out)) | (dsimp only; exact Nat.ne_of_lt (Nat.lt_of_lt_of_le (by have := World.block_lt_of_cell? _ _ hw540_3; first | rwa [add_block] at this | exact this) GW549.out))) _).trans (((cell_far (p := ⟨gb549, _, none⟩) (by first | exact Nat.ne_of_lt (Nat.lt_of_lt_of_le (by have := World.block_lt_of_cell? _ _ hw540_3; first | rwa [add_block] at this | exact this) GW549.out) | (rw [add_block]; exact Nat.ne_of_lt (Nat.lt_of_lt_of_le (by have := World.block_lt_of_cell? _ _ hw540_3; first | rwa [add_block] at this | exact this) GW549.out)) | (show (Addr.add _ _).block ≠ _; rw [add_block]; exact Nat.ne_of_lt (Nat.lt_of_lt_of_le (by have := World.block_lt_of_cell? _ _ hw540_3; first | rwa [add_block] at this | exact this) GW549.out)) | (dsimp only; exact Nat.ne_of_lt (Nat.lt_of_lt_of_le (by have := World.block_lt_of_cell? _ _ hw540_3; first | rwa [add_block] at this | exact this) GW549.out))) _).trans (((cell_far (p := ⟨gb549, _, none⟩) (by first | exact Nat.ne_of_lt (Nat.lt_of_lt_of_le (by have := World.block_lt_of_cell? _ _ hw540_3; first | rwa [add_block] at this | exact this) GW549.out) | (rw [add_block]; exact Nat.ne_of_lt (Nat.lt_of_lt_of_le (by have := World.block_lt_of_cell? _ _ hw540_3; first | rwa [add_block] at this | exact this) GW549.out)) | (show (Addr.add _ _).block ≠ _; rw [add_block]; exact Nat.ne_of_lt (Nat.lt_of_lt_of_le (by have := World.block_lt_of_cell? _ _ hw540_3; first | rwa [add_block] at this | exact this) GW549.out)) | (dsimp only; exact Nat.ne_of_lt (Nat.lt_of_lt_of_le (by have := World.block_lt_of_cell? _ _ hw540_3; first | rwa [add_block] at this | exact this) GW549.out))) _).trans (hHeld.2.2.2.2.2.2.2.2))))))))))⟩ (fun hHeld => ?_)
                      clear hK K
                      refine pu (i := 11) (N := some 15) (v := ?_) (a' := ?_) #[X, X, X, X, X, X, X, X, X, X, X, X] rfl rfl HT_ (by kernel_rfl) (fun _ _ _ h => h) ⟨by rfl, ?_⟩ ?_ ?_
                      rotate_left
                      · intro w'; go_simp; with_reducible rfl
                      rotate_left
                      · simp only [sP]
                        rfl
                      refine done_ (done_of HT_.out (by kernel_rfl)) ?_
                      go_upto_region 14 with (fail)
                      go_cut [80] (fun v80 wc => ∃ (kq : Nat) (x80_38 : Bool), v80 = .bool x80_38 ∧ Aside0 (twoslotlaw09_ImageSteps.j2 kq l1 a2 a3 x13_2 x80_38 a0_0 a0_1 a0_2 a0_3 l0_4 t530 t531 t532 t533 t534 x540000_2 x540001_2 x540002_2 x540003_2 x540004_2 t541 t542 t543 t544 t545 = some r) ∧ Aside0 (kq ≤ k2) ∧ Aside0 (RO (Kd.slice 5 (Kd.int .u8)) 33 wc w.heap.size (fun _ => True) (.slice Ao8 l0_4.length co8) l0_4) ∧ Aside0 (RO (Kd.slice 5 (Kd.int .u8)) 33 wc w.heap.size (fun _ => True) (.slice Ao29 t534.length co29) t534) ∧ Aside0 (RO (Kd.slice 5 (Kd.int .u8)) 33 wc w.heap.size (fun _ => True) (.slice Ao40 x540004_2.length co40) x540004_2) ∧ Aside0 (RO (Kd.slice 5 (Kd.int .u8)) 33 wc w.heap.size (fun _ => True) (.slice Ao49 t545.length co49) t545) ∧ Aside0 (wc.heap[gb526]? = some (.cells #[.int .i64 a0_0, .int .i64 a0_1, .int .i64 a0_2, .int .i64 a0_3, (.slice Ao8 l0_4.length co8)] 27 (0, 0))) ∧ Aside0 (wc.heap[gb538]? = some (.cells #[.int .i64 t530, .int .i64 t531, .int .i64 t532, .int .i64 t533, (.slice Ao29 t534.length co29)] 27 (0, 0))) ∧ Aside0 (wc.heap[gb539]? = some (.cells #[.int .i64 x540000_2, .int .i64 x540001_2, .int .i64 x540002_2, .int .i64 x540003_2, (.slice Ao40 x540004_2.length co40)] 27 (0, 0))) ∧ Aside0 (wc.heap[gb549]? = some (.cells #[.int .i64 t541, .int .i64 t542, .int .i64 t543, .int .i64 t544, (.slice Ao49 t545.length co49)] 27 (0, 0))) ∧ Aside0 (Below w.heap.size w wc))
                      case first =>
                        have H := HC39.out
                        clear HC39
                        by_cases c51 : t548 = 0
                        · rw [if_pos c51] at H
                          have c51b0 : (t548 == 0) = true := beq_iff_eq.mpr c51
                          have c51b1 : (t548 != 0) = false := bne_eq_false_iff_eq.mpr c51
                          clear c51
                          (first | rw [c51b0] | (simp only [i64_w, i32_w]; rw [c51b0]) | skip)
                          have H' := Aside0.mk H
                          clear H
                          have hnb52 := NB549_526.out
                          have hnc52 := NB526_549.out
                          have hnb53 := NB549_538.out
                          have hnc53 := NB538_549.out
                          have hnb54 := NB549_539.out
                          have hnc54 := NB539_549.out
                          obtain ⟨hcz55_0, hcz55_1, hcz55_2, hcz55_3, hcz55_4, hfz55_0, hfz55_1, hfz55_2, hfz55_3, hfz55_4⟩ := cs5 BK549.out
                          have hnb56 := NB526_538.out
                          have hnc56 := NB538_526.out
                          have hnb57 := NB526_539.out
                          have hnc57 := NB539_526.out
                          obtain ⟨hcz58_0, hcz58_1, hcz58_2, hcz58_3, hcz58_4, hfz58_0, hfz58_1, hfz58_2, hfz58_3, hfz58_4⟩ := cs5 BK526.out
                          go_wp2
                          go_meet
                          case rel => exact ⟨_, (((t545.length : Int) != (l0_4.length : Int))), (by first | rfl | (simp; done) | (simp [*]; done)), H', ⟨by have := HJ6.out; have := HK2.out; first | omega | exact Nat.le_refl _⟩, ⟨by (with_reducible repeat (first | apply RO_alloc | apply RO_drewN | apply RO_drew)); exact RO_mono (RO_far (p := ⟨gb549, 4, none⟩) (RO_far (p := ⟨gb549, 3, none⟩) (RO_far (p := ⟨gb549, 2, none⟩) (RO_far (p := ⟨gb549, 1, none⟩) (RO_far (p := ⟨gb549, 0, none⟩) (RO_types HO_527004.out BK549.out (by decide) GE549.out) (.int .i64 t541)) (.int .i64 t542)) (.int .i64 t543)) (.int .i64 t544)) (.slice Ao49 t545.length co49))⟩, ⟨by (with_reducible repeat (first | apply RO_alloc | apply RO_drewN | apply RO_drew)); exact RO_mono (RO_far (p := ⟨gb549, 4, none⟩) (RO_far (p := ⟨gb549, 3, none⟩) (RO_far (p := ⟨gb549, 2, none⟩) (RO_far (p := ⟨gb549, 1, none⟩) (RO_far (p := ⟨gb549, 0, none⟩) (RO_types HO_539004.out BK549.out (by decide) GE549.out) (.int .i64 t541)) (.int .i64 t542)) (.int .i64 t543)) (.int .i64 t544)) (.slice Ao49 t545.length co49))⟩, ⟨by (with_reducible repeat (first | apply RO_alloc | apply RO_drewN | apply RO_drew)); exact RO_mono (RO_far (p := ⟨gb549, 4, none⟩) (RO_far (p := ⟨gb549, 3, none⟩) (RO_far (p := ⟨gb549, 2, none⟩) (RO_far (p := ⟨gb549, 1, none⟩) (RO_far (p := ⟨gb549, 0, none⟩) (RO_types HO_540004.out BK549.out (by decide) GE549.out) (.int .i64 t541)) (.int .i64 t542)) (.int .i64 t543)) (.int .i64 t544)) (.slice Ao49 t545.length co49))⟩, ⟨by (with_reducible repeat (first | apply RO_alloc | apply RO_drewN | apply RO_drew)); exact RO_mono (RO_far (p := ⟨gb549, 4, none⟩) (RO_far (p := ⟨gb549, 3, none⟩) (RO_far (p := ⟨gb549, 2, none⟩) (RO_far (p := ⟨gb549, 1, none⟩) (RO_far (p := ⟨gb549, 0, none⟩) (RO_types HO547.out BK549.out (by decide) GE549.out) (.int .i64 t541)) (.int .i64 t542)) (.int .i64 t543)) (.int .i64 t544)) (.slice Ao49 t545.length co49))⟩, ⟨by (try refine sO ?_); refine blk_far ?_ NB526_549.out _; (try refine sO ?_); refine blk_far ?_ NB526_549.out _; (try refine sO ?_); refine blk_far ?_ NB526_549.out _; (try refine sO ?_); refine blk_far ?_ NB526_549.out _; (try refine sO ?_); refine blk_far ?_ NB526_549.out _; (try refine sO ?_); exact BK526.out⟩, ⟨by (try refine sO ?_); refine blk_far ?_ NB538_549.out _; (try refine sO ?_); refine blk_far ?_ NB538_549.out _; (try refine sO ?_); refine blk_far ?_ NB538_549.out _; (try refine sO ?_); refine blk_far ?_ NB538_549.out _; (try refine sO ?_); refine blk_far ?_ NB538_549.out _; (try refine sO ?_); exact BK538.out⟩, ⟨by (try refine sO ?_); refine blk_far ?_ NB539_549.out _; (try refine sO ?_); refine blk_far ?_ NB539_549.out _; (try refine sO ?_); refine blk_far ?_ NB539_549.out _; (try refine sO ?_); refine blk_far ?_ NB539_549.out _; (try refine sO ?_); refine blk_far ?_ NB539_549.out _; (try refine sO ?_); exact BK539.out⟩, ⟨by (try refine sO ?_); refine blk_put (cs := #[.int .i64 t541, .int .i64 t542, .int .i64 t543, .int .i64 t544, .slice none 0 0]) ?_ 4 _ rfl; (try refine sO ?_); refine blk_put (cs := #[.int .i64 t541, .int .i64 t542, .int .i64 t543, .int .i64 0, .slice none 0 0]) ?_ 3 _ rfl; (try refine sO ?_); refine blk_put (cs := #[.int .i64 t541, .int .i64 t542, .int .i64 0, .int .i64 0, .slice none 0 0]) ?_ 2 _ rfl; (try refine sO ?_); refine blk_put (cs := #[.int .i64 t541, .int .i64 0, .int .i64 0, .int .i64 0, .slice none 0 0]) ?_ 1 _ rfl; (try refine sO ?_); refine blk_put (cs := #[.int .i64 0, .int .i64 0, .int .i64 0, .int .i64 0, .slice none 0 0]) ?_ 0 _ rfl; (try refine sO ?_); exact BK549.out⟩, ⟨by repeat (first | exact sH HB.out | refine sN (w := w) ?_ | with_reducible refine sG (w := w) ?_ (by assumption))⟩⟩
                        · rw [if_neg c51] at H
                          exact absurd H (by simp)
                      case rest =>
                        clear HC39
                        try clear c1
                        try clear c2
                        try clear p2
                        try clear c3
                        try clear c5
                        try clear p5
                        try clear q5
                        try clear hx5
                        try clear c13
                        try clear c16
                        try clear c18
                        try clear c21
                        try clear c22
                        try clear c23
                        try clear c23b0
                        try clear c23b1
                        try clear c27
                        try clear c32
                        try clear c33
                        try clear c35
                        try clear c35b0
                        try clear c36
                        try clear c36b0
                        try clear c37
                        try clear c37b0
                        try clear c51
                        try clear c51b0
                        try clear c51b1
                        try clear c52
                        try clear c53
                        try clear c54
                        try clear p54
                        try clear q54
                        try clear hx54
                        try clear c56
                        try clear c57
                        try clear hcz13_0
                        try clear hcz13_1
                        try clear hcz13_2
                        try clear hcz13_3
                        try clear hcz13_4
                        try clear hcz17_0
                        try clear hcz17_1
                        try clear hcz17_2
                        try clear hcz17_3
                        try clear hcz17_4
                        try clear hcz19_0
                        try clear hcz19_1
                        try clear hcz19_2
                        try clear hcz19_3
                        try clear hcz19_4
                        try clear hcz24_0
                        try clear hcz24_1
                        try clear hcz24_2
                        try clear hcz24_3
                        try clear hcz24_4
                        try clear hcz28_0
                        try clear hcz28_1
                        try clear hcz28_2
                        try clear hcz28_3
                        try clear hcz28_4
                        try clear hcz30_0
                        try clear hcz30_1
                        try clear hcz30_2
                        try clear hcz30_3
                        try clear hcz30_4
                        try clear hcz34_0
                        try clear hcz34_1
                        try clear hcz34_2
                        try clear hcz34_3
                        try clear hcz34_4
                        try clear hcz55_0
                        try clear hcz55_1
                        try clear hcz55_2
                        try clear hcz55_3
                        try clear hcz55_4
                        try clear hcz58_0
                        try clear hcz58_1
                        try clear hcz58_2
                        try clear hcz58_3
                        try clear hcz58_4
                        try clear hfz13_0
                        try clear hfz13_1
                        try clear hfz13_2
                        try clear hfz13_3
                        try clear hfz13_4
                        try clear hfz17_0
                        try clear hfz17_1
                        try clear hfz17_2
                        try clear hfz17_3
                        try clear hfz17_4
                        try clear hfz19_0
                        try clear hfz19_1
                        try clear hfz19_2
                        try clear hfz19_3
                        try clear hfz19_4
                        try clear hfz24_0
                        try clear hfz24_1
                        try clear hfz24_2
                        try clear hfz24_3
                        try clear hfz24_4
                        try clear hfz28_0
                        try clear hfz28_1
                        try clear hfz28_2
                        try clear hfz28_3
                        try clear hfz28_4
                        try clear hfz30_0
                        try clear hfz30_1
                        try clear hfz30_2
                        try clear hfz30_3
                        try clear hfz30_4
                        try clear hfz34_0
                        try clear hfz34_1
                        try clear hfz34_2
                        try clear hfz34_3
                        try clear hfz34_4
                        try clear hfz55_0
                        try clear hfz55_1
                        try clear hfz55_2
                        try clear hfz55_3
                        try clear hfz55_4
                        try clear hfz58_0
                        try clear hfz58_1
                        try clear hfz58_2
                        try clear hfz58_3
                        try clear hfz58_4
                        try clear hx540_0
                        try clear hx540_1
                        try clear hx540_2
                        try clear hx540_3
                        try clear p2
                        try clear p540
                        try clear q540
                        obtain ⟨kq, x80_38, rfl, HA, HJ38, HO_527004, HO_539004, HO_540004, HO_550004, BK526, BK538, BK539, BK549, HB⟩ := hcut
                        cases kq with
                        | zero => exact absurd HA.out (by simp [twoslotlaw09_ImageSteps.j2])
                        | succ kj38 =>
                          have H := HA.out
                          clear HA
                          simp only [twoslotlaw09_ImageSteps.j2] at H
                          by_cases c59 : x80_38 = true
                          · subst c59
                            have H1 : (none) = some r := by rw [if_pos rfl] at H; exact H
                            clear H
                            have H := H1
                            clear H1
                            exact absurd H (by simp)
                          · replace c59 := Bool.eq_false_iff.mpr c59
                            subst c59
                            have H1 : (if 0 ≤ x13_2 then (if x13_2 < (l1.length : Int) then (twoslotlaw09_ImageSteps.l1 kj38 l1 a2 a3 x13_2 (wrap64 ((wrap64 ((wrap64 ((wrap64 (((rd_T35 l1 x13_2).f0) * a0_3)) + ((rd_T35 l1 x13_2).f1))) * 2)) + ((rd_T35 l1 x13_2).f2))) 0 a0_0 a0_1 a0_2 a0_3 l0_4 t530 t531 t532 t533 t534 x540000_2 x540001_2 x540002_2 x540003_2 x540004_2 t541 t542 t543 t544 t545) else (none)) else (none)) = some r := by rw [if_neg (show ¬ (false = true) by decide)] at H; exact H
                            clear H
                            have H := H1
                            clear H1
                            by_cases c60 : 0 ≤ x13_2
                            · rw [if_pos c60] at H
                              have c60b0 : decide (0 ≤ x13_2) = true := decide_eq_true c60
                              clear c60
                              by_cases c61 : x13_2 < (l1.length : Int)
                              · rw [if_pos c61] at H
                                have c61b0 : decide (x13_2 < (l1.length : Int)) = true := decide_eq_true c61
                                clear c61
                                have H' := Aside0.mk H
                                clear H
                                try go_wp2
                                replace HO_527004 := Aside0.mk (RO_drew HO_527004.out); replace HO_539004 := Aside0.mk (RO_drew HO_539004.out); replace HO_540004 := Aside0.mk (RO_drew HO_540004.out); replace HO_550004 := Aside0.mk (RO_drew HO_550004.out); replace BK526 := Aside0.mk (blk_drew BK526.out); replace BK538 := Aside0.mk (blk_drew BK538.out); replace BK539 := Aside0.mk (blk_drew BK539.out); replace BK549 := Aside0.mk (blk_drew BK549.out); replace HB := Aside0.mk (below_drew1 HB.out)
                                have p550 : 0 ≤ (x13_2 : Int) := of_decide_eq_true (by first | (with_reducible assumption) | assumption)
                                have q550 : x13_2 < (l1.length : Int) := of_decide_eq_true (by first | (with_reducible assumption) | assumption)
                                obtain ⟨ad550, A550_3, c550_3, e550, hx550_0, hx550_1, hx550_2, hx550_3, hl550_3, hi550_3⟩ := at_T35 HR1.out x13_2 p550 q550
                                have hw550_3 := hx550_3
                                have hw550_2 := hx550_2
                                have hw550_1 := hx550_1
                                have hw550_0 := hx550_0
                                obtain rfl : ad540 = ad550 := (by injection e550)
                                replace hx550_0 := (HB.out.cell (World.block_lt_of_cell? w _ hx550_0)).trans hx550_0
                                replace hx550_1 := (HB.out.cell (World.block_lt_of_cell? w _ hx550_1)).trans hx550_1
                                replace hx550_2 := (HB.out.cell (World.block_lt_of_cell? w _ hx550_2)).trans hx550_2
                                replace hx550_3 := (HB.out.cell (World.block_lt_of_cell? w _ hx550_3)).trans hx550_3
                                have HR550_3 := Aside0.mk hi550_3
                                have HC550_3 := Aside0.mk hl550_3
                                clear hi550_3 hl550_3
                                replace p550 := eq_true p550
                                replace q550 := eq_true q550
                                have p551 : 0 ≤ (x13_2 : Int) := of_decide_eq_true (by first | (with_reducible assumption) | assumption)
                                have q551 : x13_2 < (l1.length : Int) := of_decide_eq_true (by first | (with_reducible assumption) | assumption)
                                obtain ⟨ad551, A551_3, c551_3, e551, hx551_0, hx551_1, hx551_2, hx551_3, hl551_3, hi551_3⟩ := at_T35 HR1.out x13_2 p551 q551
                                have hw551_3 := hx551_3
                                have hw551_2 := hx551_2
                                have hw551_1 := hx551_1
                                have hw551_0 := hx551_0
                                obtain rfl : ad540 = ad551 := (by injection e551)
                                replace hx551_0 := (HB.out.cell (World.block_lt_of_cell? w _ hx551_0)).trans hx551_0
                                replace hx551_1 := (HB.out.cell (World.block_lt_of_cell? w _ hx551_1)).trans hx551_1
                                replace hx551_2 := (HB.out.cell (World.block_lt_of_cell? w _ hx551_2)).trans hx551_2
                                replace hx551_3 := (HB.out.cell (World.block_lt_of_cell? w _ hx551_3)).trans hx551_3
                                have HR551_3 := Aside0.mk hi551_3
                                have HC551_3 := Aside0.mk hl551_3
                                clear hi551_3 hl551_3
                                replace p551 := eq_true p551
                                replace q551 := eq_true q551
                                have ea_ := Option.some.inj (hx550_3.symm.trans hx551_3)
                                injection ea_ with ea_ en_ ec_
                                subst ea_
                                subst ec_
                                clear en_
                                have p552 : 0 ≤ (x13_2 : Int) := of_decide_eq_true (by first | (with_reducible assumption) | assumption)
                                have q552 : x13_2 < (l1.length : Int) := of_decide_eq_true (by first | (with_reducible assumption) | assumption)
                                obtain ⟨ad552, A552_3, c552_3, e552, hx552_0, hx552_1, hx552_2, hx552_3, hl552_3, hi552_3⟩ := at_T35 HR1.out x13_2 p552 q552
                                have hw552_3 := hx552_3
                                have hw552_2 := hx552_2
                                have hw552_1 := hx552_1
                                have hw552_0 := hx552_0
                                obtain rfl : ad540 = ad552 := (by injection e552)
                                replace hx552_0 := (HB.out.cell (World.block_lt_of_cell? w _ hx552_0)).trans hx552_0
                                replace hx552_1 := (HB.out.cell (World.block_lt_of_cell? w _ hx552_1)).trans hx552_1
                                replace hx552_2 := (HB.out.cell (World.block_lt_of_cell? w _ hx552_2)).trans hx552_2
                                replace hx552_3 := (HB.out.cell (World.block_lt_of_cell? w _ hx552_3)).trans hx552_3
                                have HR552_3 := Aside0.mk hi552_3
                                have HC552_3 := Aside0.mk hl552_3
                                clear hi552_3 hl552_3
                                replace p552 := eq_true p552
                                replace q552 := eq_true q552
                                have ea_ := Option.some.inj (hx550_3.symm.trans hx552_3)
                                injection ea_ with ea_ en_ ec_
                                subst ea_
                                subst ec_
                                clear en_
                                refine start_ (n := 23) (S := fun w' => w'.cell? ⟨gb526, 0, none⟩ = some (.int .i64 a0_0) ∧ w'.cell? ⟨gb526, 1, none⟩ = some (.int .i64 a0_1) ∧ w'.cell? ⟨gb526, 2, none⟩ = some (.int .i64 a0_2) ∧ w'.cell? ⟨gb526, 3, none⟩ = some (.int .i64 a0_3) ∧ w'.cell? ⟨gb526, 4, none⟩ = some (.slice Ao8 l0_4.length co8) ∧ w'.cell? (ad540.add ((x13_2).toNat * 4)) = some (.int .i64 ((rd_T35 l1 x13_2).f0)) ∧ w'.cell? ⟨(ad540.add ((x13_2).toNat * 4)).block, (ad540.add ((x13_2).toNat * 4)).off + 1, none⟩ = some (.int .i64 ((rd_T35 l1 x13_2).f1)) ∧ w'.cell? ⟨(ad540.add ((x13_2).toNat * 4)).block, (ad540.add ((x13_2).toNat * 4)).off + 2, none⟩ = some (.int .i64 ((rd_T35 l1 x13_2).f2)) ∧ w'.cell? ⟨(ad540.add ((x13_2).toNat * 4)).block, (ad540.add ((x13_2).toNat * 4)).off + 3, none⟩ = some (.slice A550_3 ((rd_T35 l1 x13_2).f3).length c550_3) ∧ w'.cell? (ad540.add ((x13_2).toNat * 4)) = some (.int .i64 ((rd_T35 l1 x13_2).f0)) ∧ w'.cell? ⟨(ad540.add ((x13_2).toNat * 4)).block, (ad540.add ((x13_2).toNat * 4)).off + 1, none⟩ = some (.int .i64 ((rd_T35 l1 x13_2).f1)) ∧ w'.cell? ⟨(ad540.add ((x13_2).toNat * 4)).block, (ad540.add ((x13_2).toNat * 4)).off + 2, none⟩ = some (.int .i64 ((rd_T35 l1 x13_2).f2)) ∧ w'.cell? ⟨(ad540.add ((x13_2).toNat * 4)).block, (ad540.add ((x13_2).toNat * 4)).off + 3, none⟩ = some (.slice A550_3 ((rd_T35 l1 x13_2).f3).length c550_3) ∧ w'.cell? (ad540.add ((x13_2).toNat * 4)) = some (.int .i64 ((rd_T35 l1 x13_2).f0)) ∧ w'.cell? ⟨(ad540.add ((x13_2).toNat * 4)).block, (ad540.add ((x13_2).toNat * 4)).off + 1, none⟩ = some (.int .i64 ((rd_T35 l1 x13_2).f1)) ∧ w'.cell? ⟨(ad540.add ((x13_2).toNat * 4)).block, (ad540.add ((x13_2).toNat * 4)).off + 2, none⟩ = some (.int .i64 ((rd_T35 l1 x13_2).f2)) ∧ w'.cell? ⟨(ad540.add ((x13_2).toNat * 4)).block, (ad540.add ((x13_2).toNat * 4)).off + 3, none⟩ = some (.slice A550_3 ((rd_T35 l1 x13_2).f3).length c550_3)) (ds := []) #[O, O, O, O, O, O, O, O, O, O, O, O, O, O, O, O, O, O, O, O, O, O, O] (by kernel_rfl) rfl rfl ⟨(blk_cell BK526.out 0).trans rfl, (blk_cell BK526.out 1).trans rfl, (blk_cell BK526.out 2).trans rfl, (blk_cell BK526.out 3).trans rfl, (blk_cell BK526.out 4).trans rfl, ((HB.out.cell (World.block_lt_of_cell? w _ hw550_0)).trans hw550_0), ((HB.out.cell (World.block_lt_of_cell? w _ hw550_1)).trans hw550_1), ((HB.out.cell (World.block_lt_of_cell? w _ hw550_2)).trans hw550_2), ((HB.out.cell (World.block_lt_of_cell? w _ hw550_3)).trans hw550_3), ((HB.out.cell (World.block_lt_of_cell? w _ hw551_0)).trans hw551_0), ((HB.out.cell (World.block_lt_of_cell? w _ hw551_1)).trans hw551_1), ((HB.out.cell (World.block_lt_of_cell? w _ hw551_2)).trans hw551_2), ((HB.out.cell (World.block_lt_of_cell? w _ hw551_3)).trans hw551_3), ((HB.out.cell (World.block_lt_of_cell? w _ hw552_0)).trans hw552_0), ((HB.out.cell (World.block_lt_of_cell? w _ hw552_1)).trans hw552_1), ((HB.out.cell (World.block_lt_of_cell? w _ hw552_2)).trans hw552_2), ((HB.out.cell (World.block_lt_of_cell? w _ hw552_3)).trans hw552_3)⟩ (fun hHeld => ?_); refine with_tabW twoslotlaw09_ImageSteps.tab16 twoslotlaw09_ImageSteps.bits16 (fun HT_ HW_ => ?_)
                                generalize wc.drew = w62 at HO_527004 HO_539004 HO_540004 HO_550004 BK526 BK538 BK539 BK549 HB HR550_3 HR551_3 HR552_3 hx550_0 hx550_1 hx550_2 hx550_3 hx551_0 hx551_1 hx551_2 hx551_3 hx552_0 hx552_1 hx552_2 hx552_3 hHeld ⊢
                                refine pu (i := 0) (N := some 81) (v := ?_) (a' := ?_) #[X, O, O, O, O, O, O, O, O, O, O, O, O, O, O, O, O, O, O, O, O, O, O] rfl rfl HT_ (by kernel_rfl) (fun _ _ _ h => h) ⟨by rfl, ?_⟩ ?_ ?_
                                rotate_left
                                · intro w'; go_simp; with_reducible rfl
                                rotate_left
                                · simp only [sP]
                                  rfl
                                refine pu (i := 1) (N := some 82) (v := ?_) (a' := ?_) #[X, X, O, O, O, O, O, O, O, O, O, O, O, O, O, O, O, O, O, O, O, O, O] rfl rfl HT_ (by kernel_rfl) (fun _ _ _ h => h) ⟨by rfl, ?_⟩ ?_ ?_
                                rotate_left
                                · intro w'; go_simp; with_reducible rfl
                                rotate_left
                                · simp only [sP]
                                  rfl
                                refine pu (i := 2) (N := some 83) (v := ?_) (a' := ?_) #[X, X, X, O, O, O, O, O, O, O, O, O, O, O, O, O, O, O, O, O, O, O, O] rfl rfl HT_ (by kernel_rfl) (fun _ _ _ h => h) ⟨by rfl, ?_⟩ ?_ ?_
                                rotate_left
                                · intro w'; go_simp; with_reducible rfl
                                rotate_left
                                · simp only [sP]
                                  rfl
                                refine pu (i := 3) (N := some 84) (v := ?_) (a' := ?_) #[X, X, X, X, O, O, O, O, O, O, O, O, O, O, O, O, O, O, O, O, O, O, O] rfl rfl HT_ (by kernel_rfl) (fun _ _ _ h => h) ⟨by rfl, ?_⟩ ?_ ?_
                                rotate_left
                                · intro w'; go_simp; with_reducible rfl
                                rotate_left
                                · simp only [sP]
                                  rfl
                                refine pu (i := 5) (N := some 86) (v := ?_) (a' := ?_) #[X, X, X, X, O, X, O, O, O, O, O, O, O, O, O, O, O, O, O, O, O, O, O] rfl rfl HT_ (by kernel_rfl) (fun _ _ _ h => h) ⟨by rfl, ?_⟩ ?_ ?_
                                rotate_left
                                · intro w'; go_simp; with_reducible rfl
                                rotate_left
                                · simp only [sP]
                                  rfl
                                refine pu (i := 6) (N := some 87) (v := ?_) (a' := ?_) #[X, X, X, X, O, X, X, O, O, O, O, O, O, O, O, O, O, O, O, O, O, O, O] rfl rfl HT_ (by kernel_rfl) (fun _ _ _ h => h) ⟨by rfl, ?_⟩ ?_ ?_
                                rotate_left
                                · intro w'; go_simp; with_reducible rfl
                                rotate_left
                                · simp only [sP]
                                  rfl
                                refine pu (i := 9) (N := some 90) (v := ?_) (a' := ?_) #[X, X, X, X, O, X, X, O, O, X, O, O, O, O, O, O, O, O, O, O, O, O, O] rfl rfl HT_ (by kernel_rfl) (fun _ _ _ h => h) ⟨by rfl, ?_⟩ ?_ ?_
                                rotate_left
                                · intro w'; go_simp; with_reducible rfl
                                rotate_left
                                · simp only [sP]
                                  rfl
                                refine pu (i := 10) (N := some 91) (v := ?_) (a' := ?_) #[X, X, X, X, O, X, X, O, O, X, X, O, O, O, O, O, O, O, O, O, O, O, O] rfl rfl HT_ (by kernel_rfl) (fun _ _ _ h => h) ⟨by rfl, ?_⟩ ?_ ?_
                                rotate_left
                                · intro w'; go_simp; with_reducible rfl
                                rotate_left
                                · simp only [sP]
                                  rfl
                                refine pu (i := 11) (N := some 92) (v := ?_) (a' := ?_) #[X, X, X, X, O, X, X, O, O, X, X, X, O, O, O, O, O, O, O, O, O, O, O] rfl rfl HT_ (by kernel_rfl) (fun _ _ _ h => h) ⟨by rfl, ?_⟩ ?_ ?_
                                rotate_left
                                · intro w'; go_simp; with_reducible rfl
                                rotate_left
                                · simp only [sP]
                                  rfl
                                refine pu (i := 12) (N := some 93) (v := ?_) (a' := ?_) #[X, X, X, X, O, X, X, O, O, X, X, X, X, O, O, O, O, O, O, O, O, O, O] rfl rfl HT_ (by kernel_rfl) (fun _ _ _ h => h) ⟨by rfl, ?_⟩ ?_ ?_
                                rotate_left
                                · intro w'; go_simp; with_reducible rfl
                                rotate_left
                                · simp only [sP]
                                  rfl
                                refine pu (i := 16) (N := some 97) (v := ?_) (a' := ?_) #[X, X, X, X, O, X, X, O, O, X, X, X, X, O, O, O, X, O, O, O, O, O, O] rfl rfl HT_ (by kernel_rfl) (fun _ _ _ h => h) ⟨by rfl, ?_⟩ ?_ ?_
                                rotate_left
                                · intro w'; go_simp; with_reducible rfl
                                rotate_left
                                · simp only [sP]
                                  rfl
                                refine pu (i := 17) (N := some 98) (v := ?_) (a' := ?_) #[X, X, X, X, O, X, X, O, O, X, X, X, X, O, O, O, X, X, O, O, O, O, O] rfl rfl HT_ (by kernel_rfl) (fun _ _ _ h => h) ⟨by rfl, ?_⟩ ?_ ?_
                                rotate_left
                                · intro w'; go_simp; with_reducible rfl
                                rotate_left
                                · simp only [sP]
                                  rfl
                                refine pu (i := 18) (N := some 99) (v := ?_) (a' := ?_) #[X, X, X, X, O, X, X, O, O, X, X, X, X, O, O, O, X, X, X, O, O, O, O] rfl rfl HT_ (by kernel_rfl) (fun _ _ _ h => h) ⟨by rfl, ?_⟩ ?_ ?_
                                rotate_left
                                · intro w'; go_simp; with_reducible rfl
                                rotate_left
                                · simp only [sP]
                                  rfl
                                refine pu (i := 19) (N := some 100) (v := ?_) (a' := ?_) #[X, X, X, X, O, X, X, O, O, X, X, X, X, O, O, O, X, X, X, X, O, O, O] rfl rfl HT_ (by kernel_rfl) (fun _ _ _ h => h) ⟨by rfl, ?_⟩ ?_ ?_
                                rotate_left
                                · intro w'; go_simp; with_reducible rfl
                                rotate_left
                                · simp only [sP]
                                  rfl
                                refine tu (i := 4) (N := some 85) (v := ?_) (a' := ?_) #[X, X, X, X, X, X, X, O, O, X, X, X, X, O, O, O, X, X, X, X, O, O, O] rfl rfl HT_ HW_ (by kernel_rfl) (fun _ _ _ h => h) ⟨by rfl, ?_⟩ hHeld ?_ ?_
                                rotate_left
                                · rintro w' ⟨s0, s1, s2, s3, s4, s5, s6, s7, s8, s9, s10, s11, s12, s13, s14, s15, s16⟩; go_simp; with_reducible rfl
                                rotate_left
                                · simp only [sP]
                                  rfl
                                refine tu (i := 7) (N := some 88) (v := ?_) (a' := ?_) #[X, X, X, X, X, X, X, X, O, X, X, X, X, O, O, O, X, X, X, X, O, O, O] rfl rfl HT_ HW_ (by kernel_rfl) (fun _ _ _ h => h) ⟨by rfl, ?_⟩ hHeld ?_ ?_
                                rotate_left
                                · rintro w' ⟨s0, s1, s2, s3, s4, s5, s6, s7, s8, s9, s10, s11, s12, s13, s14, s15, s16⟩; go_simp; with_reducible rfl
                                rotate_left
                                · simp only [sP]
                                  rfl
                                refine pu (i := 8) (N := some 89) (v := ?_) (a' := ?_) #[X, X, X, X, X, X, X, X, X, X, X, X, X, O, O, O, X, X, X, X, O, O, O] rfl rfl HT_ (by kernel_rfl) (fun _ _ _ h => h) ⟨by rfl, ?_⟩ ?_ ?_
                                rotate_left
                                · intro w'; go_simp; with_reducible rfl
                                rotate_left
                                · simp only [sP]
                                  rfl
                                refine tu (i := 13) (N := some 94) (v := ?_) (a' := ?_) #[X, X, X, X, X, X, X, X, X, X, X, X, X, X, O, O, X, X, X, X, O, O, O] rfl rfl HT_ HW_ (by kernel_rfl) (fun _ _ _ h => h) ⟨by rfl, ?_⟩ hHeld ?_ ?_
                                rotate_left
                                · rintro w' ⟨s0, s1, s2, s3, s4, s5, s6, s7, s8, s9, s10, s11, s12, s13, s14, s15, s16⟩; go_simp; with_reducible rfl
                                rotate_left
                                · simp only [sP]
                                  rfl
                                refine pu (i := 14) (N := some 95) (v := ?_) (a' := ?_) #[X, X, X, X, X, X, X, X, X, X, X, X, X, X, X, O, X, X, X, X, O, O, O] rfl rfl HT_ (by kernel_rfl) (fun _ _ _ h => h) ⟨by rfl, ?_⟩ ?_ ?_
                                rotate_left
                                · intro w'; go_simp; with_reducible rfl
                                rotate_left
                                · simp only [sP]
                                  rfl
                                refine pu (i := 15) (N := some 96) (v := ?_) (a' := ?_) #[X, X, X, X, X, X, X, X, X, X, X, X, X, X, X, X, X, X, X, X, O, O, O] rfl rfl HT_ (by kernel_rfl) (fun _ _ _ h => h) ⟨by rfl, ?_⟩ ?_ ?_
                                rotate_left
                                · intro w'; go_simp; with_reducible rfl
                                rotate_left
                                · simp only [sP]
                                  rfl
                                refine tu (i := 20) (N := some 101) (v := ?_) (a' := ?_) #[X, X, X, X, X, X, X, X, X, X, X, X, X, X, X, X, X, X, X, X, X, O, O] rfl rfl HT_ HW_ (by kernel_rfl) (fun _ _ _ h => h) ⟨by rfl, ?_⟩ hHeld ?_ ?_
                                rotate_left
                                · rintro w' ⟨s0, s1, s2, s3, s4, s5, s6, s7, s8, s9, s10, s11, s12, s13, s14, s15, s16⟩; go_simp; with_reducible rfl
                                rotate_left
                                · simp only [sP]
                                  rfl
                                refine pu (i := 21) (N := some 102) (v := ?_) (a' := ?_) #[X, X, X, X, X, X, X, X, X, X, X, X, X, X, X, X, X, X, X, X, X, X, O] rfl rfl HT_ (by kernel_rfl) (fun _ _ _ h => h) ⟨by rfl, ?_⟩ ?_ ?_
                                rotate_left
                                · intro w'; go_simp; with_reducible rfl
                                rotate_left
                                · simp only [sP]
                                  rfl
                                refine pu (i := 22) (N := some 16) (v := ?_) (a' := ?_) #[X, X, X, X, X, X, X, X, X, X, X, X, X, X, X, X, X, X, X, X, X, X, X] rfl rfl HT_ (by kernel_rfl) (fun _ _ _ h => h) ⟨by rfl, ?_⟩ ?_ ?_
                                rotate_left
                                · intro w'; go_simp; with_reducible rfl
                                rotate_left
                                · simp only [sP]
                                  rfl
                                refine done_ (done_of HT_.out (by kernel_rfl)) ?_
                                try go_wp2
                                go_loopg [17] kj38 (fun kq v17 w' => ∃ (x17_4 : Int), v17 = .int .i64 x17_4 ∧ Aside0 (twoslotlaw09_ImageSteps.l1 kq l1 a2 a3 x13_2 (wrap64 ((wrap64 ((wrap64 ((wrap64 (((rd_T35 l1 x13_2).f0) * a0_3)) + ((rd_T35 l1 x13_2).f1))) * 2)) + ((rd_T35 l1 x13_2).f2))) x17_4 a0_0 a0_1 a0_2 a0_3 l0_4 t530 t531 t532 t533 t534 x540000_2 x540001_2 x540002_2 x540003_2 x540004_2 t541 t542 t543 t544 t545 = some r) ∧ Aside0 (kq ≤ kj38) ∧ Aside0 (RO (Kd.slice 5 (Kd.int .u8)) 33 w' w.heap.size (fun _ => True) (.slice Ao8 l0_4.length co8) l0_4) ∧ Aside0 (RO (Kd.slice 5 (Kd.int .u8)) 33 w' w.heap.size (fun _ => True) (.slice Ao29 t534.length co29) t534) ∧ Aside0 (RO (Kd.slice 5 (Kd.int .u8)) 33 w' w.heap.size (fun _ => True) (.slice Ao40 x540004_2.length co40) x540004_2) ∧ Aside0 (RO (Kd.slice 5 (Kd.int .u8)) 33 w' w.heap.size (fun _ => True) (.slice Ao49 t545.length co49) t545) ∧ Aside0 (w'.heap[gb526]? = some (.cells #[.int .i64 a0_0, .int .i64 a0_1, .int .i64 a0_2, .int .i64 a0_3, (.slice Ao8 l0_4.length co8)] 27 (0, 0))) ∧ Aside0 (w'.heap[gb538]? = some (.cells #[.int .i64 t530, .int .i64 t531, .int .i64 t532, .int .i64 t533, (.slice Ao29 t534.length co29)] 27 (0, 0))) ∧ Aside0 (w'.heap[gb539]? = some (.cells #[.int .i64 x540000_2, .int .i64 x540001_2, .int .i64 x540002_2, .int .i64 x540003_2, (.slice Ao40 x540004_2.length co40)] 27 (0, 0))) ∧ Aside0 (w'.heap[gb549]? = some (.cells #[.int .i64 t541, .int .i64 t542, .int .i64 t543, .int .i64 t544, (.slice Ao49 t545.length co49)] 27 (0, 0))) ∧ Aside0 (Below w.heap.size w w'))
                                case atStart => exact ⟨(0), (by first | rfl | (simp; done) | (simp [*]; done)), H', ⟨Nat.le_refl _⟩, ⟨by (with_reducible repeat (first | apply RO_alloc | apply RO_drewN | apply RO_drew)); exact HO_527004.out⟩, ⟨by (with_reducible repeat (first | apply RO_alloc | apply RO_drewN | apply RO_drew)); exact HO_539004.out⟩, ⟨by (with_reducible repeat (first | apply RO_alloc | apply RO_drewN | apply RO_drew)); exact HO_540004.out⟩, ⟨by (with_reducible repeat (first | apply RO_alloc | apply RO_drewN | apply RO_drew)); exact HO_550004.out⟩, ⟨by (try refine sO ?_); exact BK526.out⟩, ⟨by (try refine sO ?_); exact BK538.out⟩, ⟨by (try refine sO ?_); exact BK539.out⟩, ⟨by (try refine sO ?_); exact BK549.out⟩, ⟨by repeat (first | exact sH HB.out | refine sN (w := w) ?_ | with_reducible refine sG (w := w) ?_ (by assumption))⟩⟩
                                case round =>
                                  clear H'
                                  try clear c1
                                  try clear c2
                                  try clear p2
                                  try clear c3
                                  try clear c5
                                  try clear p5
                                  try clear q5
                                  try clear hx5
                                  try clear c6
                                  try clear p6
                                  try clear c13
                                  try clear c16
                                  try clear c18
                                  try clear c21
                                  try clear c22
                                  try clear c23
                                  try clear c23b0
                                  try clear c23b1
                                  try clear c27
                                  try clear c32
                                  try clear c33
                                  try clear c35
                                  try clear c35b0
                                  try clear c36
                                  try clear c36b0
                                  try clear c37
                                  try clear c37b0
                                  try clear c51
                                  try clear c51b0
                                  try clear c51b1
                                  try clear c52
                                  try clear c53
                                  try clear c54
                                  try clear p54
                                  try clear q54
                                  try clear hx54
                                  try clear c55
                                  try clear p55
                                  try clear q55
                                  try clear hx55
                                  try clear c56
                                  try clear c57
                                  try clear c59
                                  try clear c60
                                  try clear c60b0
                                  try clear c61
                                  try clear c61b0
                                  try clear hcz13_0
                                  try clear hcz13_1
                                  try clear hcz13_2
                                  try clear hcz13_3
                                  try clear hcz13_4
                                  try clear hcz17_0
                                  try clear hcz17_1
                                  try clear hcz17_2
                                  try clear hcz17_3
                                  try clear hcz17_4
                                  try clear hcz19_0
                                  try clear hcz19_1
                                  try clear hcz19_2
                                  try clear hcz19_3
                                  try clear hcz19_4
                                  try clear hcz24_0
                                  try clear hcz24_1
                                  try clear hcz24_2
                                  try clear hcz24_3
                                  try clear hcz24_4
                                  try clear hcz28_0
                                  try clear hcz28_1
                                  try clear hcz28_2
                                  try clear hcz28_3
                                  try clear hcz28_4
                                  try clear hcz30_0
                                  try clear hcz30_1
                                  try clear hcz30_2
                                  try clear hcz30_3
                                  try clear hcz30_4
                                  try clear hcz34_0
                                  try clear hcz34_1
                                  try clear hcz34_2
                                  try clear hcz34_3
                                  try clear hcz34_4
                                  try clear hcz55_0
                                  try clear hcz55_1
                                  try clear hcz55_2
                                  try clear hcz55_3
                                  try clear hcz55_4
                                  try clear hcz58_0
                                  try clear hcz58_1
                                  try clear hcz58_2
                                  try clear hcz58_3
                                  try clear hcz58_4
                                  try clear hfz13_0
                                  try clear hfz13_1
                                  try clear hfz13_2
                                  try clear hfz13_3
                                  try clear hfz13_4
                                  try clear hfz17_0
                                  try clear hfz17_1
                                  try clear hfz17_2
                                  try clear hfz17_3
                                  try clear hfz17_4
                                  try clear hfz19_0
                                  try clear hfz19_1
                                  try clear hfz19_2
                                  try clear hfz19_3
                                  try clear hfz19_4
                                  try clear hfz24_0
                                  try clear hfz24_1
                                  try clear hfz24_2
                                  try clear hfz24_3
                                  try clear hfz24_4
                                  try clear hfz28_0
                                  try clear hfz28_1
                                  try clear hfz28_2
                                  try clear hfz28_3
                                  try clear hfz28_4
                                  try clear hfz30_0
                                  try clear hfz30_1
                                  try clear hfz30_2
                                  try clear hfz30_3
                                  try clear hfz30_4
                                  try clear hfz34_0
                                  try clear hfz34_1
                                  try clear hfz34_2
                                  try clear hfz34_3
                                  try clear hfz34_4
                                  try clear hfz55_0
                                  try clear hfz55_1
                                  try clear hfz55_2
                                  try clear hfz55_3
                                  try clear hfz55_4
                                  try clear hfz58_0
                                  try clear hfz58_1
                                  try clear hfz58_2
                                  try clear hfz58_3
                                  try clear hfz58_4
                                  try clear hx540_0
                                  try clear hx540_1
                                  try clear hx540_2
                                  try clear hx540_3
                                  try clear hx550_0
                                  try clear hx550_1
                                  try clear hx550_2
                                  try clear hx550_3
                                  try clear hx551_0
                                  try clear hx551_1
                                  try clear hx551_2
                                  try clear hx551_3
                                  try clear hx552_0
                                  try clear hx552_1
                                  try clear hx552_2
                                  try clear hx552_3
                                  try clear p2
                                  try clear p5
                                  try clear p54
                                  try clear p540
                                  try clear p550
                                  try clear p551
                                  try clear p552
                                  try clear q5
                                  try clear q54
                                  try clear q540
                                  try clear q550
                                  try clear q551
                                  try clear q552
                                  obtain ⟨x17_4, rfl, HA, HK4, HO_527004, HO_539004, HO_540004, HO_550004, BK526, BK538, BK539, BK549, HB⟩ := hrel
                                  cases gk with
                                  | zero => exact absurd HA.out (by simp [twoslotlaw09_ImageSteps.l1])
                                  | succ k4 =>
                                    have H := HA.out
                                    clear HA
                                    simp only [twoslotlaw09_ImageSteps.l1] at H
                                    by_cases c63 : x17_4 < (l0_4.length : Int)
                                    · rw [if_pos c63] at H
                                      have c63b0 : decide (x17_4 < (l0_4.length : Int)) = true := decide_eq_true c63
                                      clear c63
                                      by_cases c64 : 0 ≤ x17_4
                                      · rw [if_pos c64] at H
                                        have c64b0 : decide (0 ≤ x17_4) = true := decide_eq_true c64
                                        clear c64
                                        by_cases c65 : x17_4 < (x540004_2.length : Int)
                                        · rw [if_pos c65] at H
                                          have c65b0 : decide (x17_4 < (x540004_2.length : Int)) = true := decide_eq_true c65
                                          clear c65
                                          by_cases c66 : x17_4 = (wrap64 ((wrap64 ((wrap64 ((wrap64 (((rd_T35 l1 x13_2).f0) * a0_3)) + ((rd_T35 l1 x13_2).f1))) * 2)) + ((rd_T35 l1 x13_2).f2)))
                                          · rw [if_pos c66] at H
                                            have c66b0 : (x17_4 == (wrap64 ((wrap64 ((wrap64 ((wrap64 (((rd_T35 l1 x13_2).f0) * a0_3)) + ((rd_T35 l1 x13_2).f1))) * 2)) + ((rd_T35 l1 x13_2).f2)))) = true := beq_iff_eq.mpr c66
                                            have c66b1 : (x17_4 != (wrap64 ((wrap64 ((wrap64 ((wrap64 (((rd_T35 l1 x13_2).f0) * a0_3)) + ((rd_T35 l1 x13_2).f1))) * 2)) + ((rd_T35 l1 x13_2).f2)))) = false := bne_eq_false_iff_eq.mpr c66
                                            clear c66
                                            by_cases c67 : 0 ≤ x13_2
                                            · rw [if_pos c67] at H
                                              have c67b0 : decide (0 ≤ x13_2) = true := decide_eq_true c67
                                              clear c67
                                              by_cases c68 : x13_2 < (l1.length : Int)
                                              · rw [if_pos c68] at H
                                                have c68b0 : decide (x13_2 < (l1.length : Int)) = true := decide_eq_true c68
                                                clear c68
                                                by_cases c69 : x17_4 < (t545.length : Int)
                                                · rw [if_pos c69] at H
                                                  have c69b0 : decide (x17_4 < (t545.length : Int)) = true := decide_eq_true c69
                                                  clear c69
                                                  by_cases c70 : (strOfNums (rd_L1 t545 x17_4)).toList = (strOfNums ((rd_T35 l1 x13_2).f3)).toList
                                                  · rw [if_pos c70] at H
                                                    have c70b0 : ((strOfNums (rd_L1 t545 x17_4)).toList == (strOfNums ((rd_T35 l1 x13_2).f3)).toList) = true := beq_iff_eq.mpr c70
                                                    have c70b1 : ((strOfNums (rd_L1 t545 x17_4)).toList != (strOfNums ((rd_T35 l1 x13_2).f3)).toList) = false := bne_eq_false_iff_eq.mpr c70
                                                    clear c70
                                                    have H' := Aside0.mk H
                                                    clear H
                                                    have hnb71 := NB526_538.out
                                                    have hnc71 := NB538_526.out
                                                    have hnb72 := NB526_539.out
                                                    have hnc72 := NB539_526.out
                                                    have hnb73 := NB526_549.out
                                                    have hnc73 := NB549_526.out
                                                    obtain ⟨hcz74_0, hcz74_1, hcz74_2, hcz74_3, hcz74_4, hfz74_0, hfz74_1, hfz74_2, hfz74_3, hfz74_4⟩ := cs5 BK526.out
                                                    have hnb75 := NB539_538.out
                                                    have hnc75 := NB538_539.out
                                                    have hnb76 := NB539_549.out
                                                    have hnc76 := NB549_539.out
                                                    obtain ⟨hcz77_0, hcz77_1, hcz77_2, hcz77_3, hcz77_4, hfz77_0, hfz77_1, hfz77_2, hfz77_3, hfz77_4⟩ := cs5 BK539.out
                                                    have p553 : 0 ≤ (x17_4 : Int) := of_decide_eq_true (by first | (with_reducible assumption) | assumption)
                                                    have q553 : x17_4 < (x540004_2.length : Int) := of_decide_eq_true (by first | (with_reducible assumption) | assumption)
                                                    obtain ⟨ad553, A553_0, c553_0, e553, hx553_0, hl553_0, hi553_0⟩ := at_L1 (RO_reads' HO_540004.out).2.2 x17_4 p553 q553
                                                    cases e553
                                                    have HR553_0 := Aside0.mk hi553_0
                                                    have HC553_0 := Aside0.mk hl553_0
                                                    clear hi553_0 hl553_0
                                                    replace p553 := eq_true p553
                                                    replace q553 := eq_true q553
                                                    have hcv78 := Kd.C_string (P := Try.prog) (A := A553_0) (c := c553_0) Try.underlying33 Try.underlying5 Try.underlying9 (by repeat (first | (with_reducible exact HR553_0.out) | (with_reducible refine Kd.C_alloc ?_ _) | (with_reducible refine Kd.C_drewN ?_ _) | (with_reducible refine Kd.C_drew ?_) | exact HR553_0.out))
                                                    have p554 : 0 ≤ (x13_2 : Int) := of_decide_eq_true (by first | (with_reducible assumption) | assumption)
                                                    have q554 : x13_2 < (l1.length : Int) := of_decide_eq_true (by first | (with_reducible assumption) | assumption)
                                                    obtain ⟨ad554, A554_3, c554_3, e554, hx554_0, hx554_1, hx554_2, hx554_3, hl554_3, hi554_3⟩ := at_T35 HR1.out x13_2 p554 q554
                                                    obtain rfl : ad540 = ad554 := (by injection e554)
                                                    replace hx554_0 := (HB.out.cell (World.block_lt_of_cell? w _ hx554_0)).trans hx554_0
                                                    replace hx554_1 := (HB.out.cell (World.block_lt_of_cell? w _ hx554_1)).trans hx554_1
                                                    replace hx554_2 := (HB.out.cell (World.block_lt_of_cell? w _ hx554_2)).trans hx554_2
                                                    replace hx554_3 := (HB.out.cell (World.block_lt_of_cell? w _ hx554_3)).trans hx554_3
                                                    have HR554_3 := Aside0.mk hi554_3
                                                    have HC554_3 := Aside0.mk hl554_3
                                                    clear hi554_3 hl554_3
                                                    replace p554 := eq_true p554
                                                    replace q554 := eq_true q554
                                                    have hcv79 := Kd.C_string (P := Try.prog) (A := A554_3) (c := c554_3) Try.underlying33 Try.underlying5 Try.underlying9 (Kd.C_below HR554_3.out HB.out)
                                                    have hnb80 := NB549_538.out
                                                    have hnc80 := NB538_549.out
                                                    obtain ⟨hcz81_0, hcz81_1, hcz81_2, hcz81_3, hcz81_4, hfz81_0, hfz81_1, hfz81_2, hfz81_3, hfz81_4⟩ := cs5 BK549.out
                                                    have p555 : 0 ≤ (x17_4 : Int) := of_decide_eq_true (by first | (with_reducible assumption) | assumption)
                                                    have q555 : x17_4 < (t545.length : Int) := of_decide_eq_true (by first | (with_reducible assumption) | assumption)
                                                    obtain ⟨ad555, A555_0, c555_0, e555, hx555_0, hl555_0, hi555_0⟩ := at_L1 (RO_reads' HO_550004.out).2.2 x17_4 p555 q555
                                                    cases e555
                                                    have HR555_0 := Aside0.mk hi555_0
                                                    have HC555_0 := Aside0.mk hl555_0
                                                    clear hi555_0 hl555_0
                                                    replace p555 := eq_true p555
                                                    replace q555 := eq_true q555
                                                    have hcv82 := Kd.C_string (P := Try.prog) (A := A555_0) (c := c555_0) Try.underlying33 Try.underlying5 Try.underlying9 (by repeat (first | (with_reducible exact HR555_0.out) | (with_reducible refine Kd.C_alloc ?_ _) | (with_reducible refine Kd.C_drewN ?_ _) | (with_reducible refine Kd.C_drew ?_) | exact HR555_0.out))
                                                    go_wp2
                                                    go_roundg k4
                                                    case measure => have := HJ6.out; have := HK2.out; have := HJ38.out; have := HK4.out; omega
                                                    case rel => exact ⟨(wrap64 (x17_4 + 1)), (by first | rfl | (simp; done) | (simp [*]; done)), H', ⟨by have := HJ6.out; have := HK2.out; have := HJ38.out; have := HK4.out; omega⟩, ⟨by (with_reducible repeat (first | apply RO_alloc | apply RO_drewN | apply RO_drew)); exact HO_527004.out⟩, ⟨by (with_reducible repeat (first | apply RO_alloc | apply RO_drewN | apply RO_drew)); exact HO_539004.out⟩, ⟨by (with_reducible repeat (first | apply RO_alloc | apply RO_drewN | apply RO_drew)); exact HO_540004.out⟩, ⟨by (with_reducible repeat (first | apply RO_alloc | apply RO_drewN | apply RO_drew)); exact HO_550004.out⟩, ⟨by (try refine sO ?_); exact BK526.out⟩, ⟨by (try refine sO ?_); exact BK538.out⟩, ⟨by (try refine sO ?_); exact BK539.out⟩, ⟨by (try refine sO ?_); exact BK549.out⟩, ⟨by repeat (first | exact sH HB.out | refine sN (w := w) ?_ | with_reducible refine sG (w := w) ?_ (by assumption))⟩⟩
                                                  · rw [if_neg c70] at H
                                                    exact absurd H (by simp)
                                                · rw [if_neg c69] at H
                                                  exact absurd H (by simp)
                                              · rw [if_neg c68] at H
                                                exact absurd H (by simp)
                                            · rw [if_neg c67] at H
                                              exact absurd H (by simp)
                                          · rw [if_neg c66] at H
                                            have c66b0 : (x17_4 == (wrap64 ((wrap64 ((wrap64 ((wrap64 (((rd_T35 l1 x13_2).f0) * a0_3)) + ((rd_T35 l1 x13_2).f1))) * 2)) + ((rd_T35 l1 x13_2).f2)))) = false := beq_eq_false_iff_ne.mpr c66
                                            have c66b1 : (x17_4 != (wrap64 ((wrap64 ((wrap64 ((wrap64 (((rd_T35 l1 x13_2).f0) * a0_3)) + ((rd_T35 l1 x13_2).f1))) * 2)) + ((rd_T35 l1 x13_2).f2)))) = true := bne_iff_ne.mpr c66
                                            by_cases c83 : x17_4 < (t545.length : Int)
                                            · rw [if_pos c83] at H
                                              have c83b0 : decide (x17_4 < (t545.length : Int)) = true := decide_eq_true c83
                                              clear c83
                                              by_cases c84 : (strOfNums (rd_L1 t545 x17_4)).toList = (strOfNums (rd_L1 x540004_2 x17_4)).toList
                                              · rw [if_pos c84] at H
                                                have c84b0 : ((strOfNums (rd_L1 t545 x17_4)).toList == (strOfNums (rd_L1 x540004_2 x17_4)).toList) = true := beq_iff_eq.mpr c84
                                                have c84b1 : ((strOfNums (rd_L1 t545 x17_4)).toList != (strOfNums (rd_L1 x540004_2 x17_4)).toList) = false := bne_eq_false_iff_eq.mpr c84
                                                clear c84
                                                have H' := Aside0.mk H
                                                clear H
                                                have hnb85 := NB526_538.out
                                                have hnc85 := NB538_526.out
                                                have hnb86 := NB526_539.out
                                                have hnc86 := NB539_526.out
                                                have hnb87 := NB526_549.out
                                                have hnc87 := NB549_526.out
                                                obtain ⟨hcz88_0, hcz88_1, hcz88_2, hcz88_3, hcz88_4, hfz88_0, hfz88_1, hfz88_2, hfz88_3, hfz88_4⟩ := cs5 BK526.out
                                                have hnb89 := NB539_538.out
                                                have hnc89 := NB538_539.out
                                                have hnb90 := NB539_549.out
                                                have hnc90 := NB549_539.out
                                                obtain ⟨hcz91_0, hcz91_1, hcz91_2, hcz91_3, hcz91_4, hfz91_0, hfz91_1, hfz91_2, hfz91_3, hfz91_4⟩ := cs5 BK539.out
                                                have p553 : 0 ≤ (x17_4 : Int) := of_decide_eq_true (by first | (with_reducible assumption) | assumption)
                                                have q553 : x17_4 < (x540004_2.length : Int) := of_decide_eq_true (by first | (with_reducible assumption) | assumption)
                                                obtain ⟨ad553, A553_0, c553_0, e553, hx553_0, hl553_0, hi553_0⟩ := at_L1 (RO_reads' HO_540004.out).2.2 x17_4 p553 q553
                                                cases e553
                                                have HR553_0 := Aside0.mk hi553_0
                                                have HC553_0 := Aside0.mk hl553_0
                                                clear hi553_0 hl553_0
                                                replace p553 := eq_true p553
                                                replace q553 := eq_true q553
                                                have hcv92 := Kd.C_string (P := Try.prog) (A := A553_0) (c := c553_0) Try.underlying33 Try.underlying5 Try.underlying9 (by repeat (first | (with_reducible exact HR553_0.out) | (with_reducible refine Kd.C_alloc ?_ _) | (with_reducible refine Kd.C_drewN ?_ _) | (with_reducible refine Kd.C_drew ?_) | exact HR553_0.out))
                                                have hnb93 := NB549_538.out
                                                have hnc93 := NB538_549.out
                                                obtain ⟨hcz94_0, hcz94_1, hcz94_2, hcz94_3, hcz94_4, hfz94_0, hfz94_1, hfz94_2, hfz94_3, hfz94_4⟩ := cs5 BK549.out
                                                have p556 : 0 ≤ (x17_4 : Int) := of_decide_eq_true (by first | (with_reducible assumption) | assumption)
                                                have q556 : x17_4 < (t545.length : Int) := of_decide_eq_true (by first | (with_reducible assumption) | assumption)
                                                obtain ⟨ad556, A556_0, c556_0, e556, hx556_0, hl556_0, hi556_0⟩ := at_L1 (RO_reads' HO_550004.out).2.2 x17_4 p556 q556
                                                cases e556
                                                have HR556_0 := Aside0.mk hi556_0
                                                have HC556_0 := Aside0.mk hl556_0
                                                clear hi556_0 hl556_0
                                                replace p556 := eq_true p556
                                                replace q556 := eq_true q556
                                                have hcv95 := Kd.C_string (P := Try.prog) (A := A556_0) (c := c556_0) Try.underlying33 Try.underlying5 Try.underlying9 (by repeat (first | (with_reducible exact HR556_0.out) | (with_reducible refine Kd.C_alloc ?_ _) | (with_reducible refine Kd.C_drewN ?_ _) | (with_reducible refine Kd.C_drew ?_) | exact HR556_0.out))
                                                go_wp2
                                                go_roundg k4
                                                case measure => have := HJ6.out; have := HK2.out; have := HJ38.out; have := HK4.out; omega
                                                case rel => exact ⟨(wrap64 (x17_4 + 1)), (by first | rfl | (simp; done) | (simp [*]; done)), H', ⟨by have := HJ6.out; have := HK2.out; have := HJ38.out; have := HK4.out; omega⟩, ⟨by (with_reducible repeat (first | apply RO_alloc | apply RO_drewN | apply RO_drew)); exact HO_527004.out⟩, ⟨by (with_reducible repeat (first | apply RO_alloc | apply RO_drewN | apply RO_drew)); exact HO_539004.out⟩, ⟨by (with_reducible repeat (first | apply RO_alloc | apply RO_drewN | apply RO_drew)); exact HO_540004.out⟩, ⟨by (with_reducible repeat (first | apply RO_alloc | apply RO_drewN | apply RO_drew)); exact HO_550004.out⟩, ⟨by (try refine sO ?_); exact BK526.out⟩, ⟨by (try refine sO ?_); exact BK538.out⟩, ⟨by (try refine sO ?_); exact BK539.out⟩, ⟨by (try refine sO ?_); exact BK549.out⟩, ⟨by repeat (first | exact sH HB.out | refine sN (w := w) ?_ | with_reducible refine sG (w := w) ?_ (by assumption))⟩⟩
                                              · rw [if_neg c84] at H
                                                exact absurd H (by simp)
                                            · rw [if_neg c83] at H
                                              exact absurd H (by simp)
                                        · rw [if_neg c65] at H
                                          exact absurd H (by simp)
                                      · rw [if_neg c64] at H
                                        exact absurd H (by simp)
                                    · rw [if_neg c63] at H
                                      have c63b0 : decide (x17_4 < (l0_4.length : Int)) = false := decide_eq_false c63
                                      clear c63
                                      have H' := Aside0.mk H
                                      clear H
                                      have hnb96 := NB526_538.out
                                      have hnc96 := NB538_526.out
                                      have hnb97 := NB526_539.out
                                      have hnc97 := NB539_526.out
                                      have hnb98 := NB526_549.out
                                      have hnc98 := NB549_526.out
                                      obtain ⟨hcz99_0, hcz99_1, hcz99_2, hcz99_3, hcz99_4, hfz99_0, hfz99_1, hfz99_2, hfz99_3, hfz99_4⟩ := cs5 BK526.out
                                      have hnb100 := NB549_538.out
                                      have hnc100 := NB538_549.out
                                      have hnb101 := NB549_539.out
                                      have hnc101 := NB539_549.out
                                      obtain ⟨hcz102_0, hcz102_1, hcz102_2, hcz102_3, hcz102_4, hfz102_0, hfz102_1, hfz102_2, hfz102_3, hfz102_4⟩ := cs5 BK549.out
                                      have hnb103 := NB539_538.out
                                      have hnc103 := NB538_539.out
                                      obtain ⟨hcz104_0, hcz104_1, hcz104_2, hcz104_3, hcz104_4, hfz104_0, hfz104_1, hfz104_2, hfz104_3, hfz104_4⟩ := cs5 BK539.out
                                      go_wp2
                                      go_roundg k4
                                      case measure => have := HJ6.out; have := HK2.out; have := HJ38.out; have := HK4.out; omega
                                      case rel => exact ⟨(wrap64 (x13_2 + 1)), (t541), (t542), (t543), (t544), (t545), (.slice Ao49 t545.length co49), (by first | rfl | (simp; done) | (simp [*]; done)), H', ⟨by have := HJ6.out; have := HK2.out; have := HJ38.out; have := HK4.out; omega⟩, ⟨by (with_reducible repeat (first | apply RO_alloc | apply RO_drewN | apply RO_drew)); exact RO_mono (RO_far (p := ⟨gb539, 4, none⟩) (RO_far (p := ⟨gb539, 3, none⟩) (RO_far (p := ⟨gb539, 2, none⟩) (RO_far (p := ⟨gb539, 1, none⟩) (RO_far (p := ⟨gb539, 0, none⟩) (RO_types HO_527004.out BK539.out (by decide) GE539.out) (.int .i64 t541)) (.int .i64 t542)) (.int .i64 t543)) (.int .i64 t544)) (.slice Ao49 t545.length co49))⟩, ⟨by (with_reducible repeat (first | apply RO_alloc | apply RO_drewN | apply RO_drew)); exact RO_mono (RO_far (p := ⟨gb539, 4, none⟩) (RO_far (p := ⟨gb539, 3, none⟩) (RO_far (p := ⟨gb539, 2, none⟩) (RO_far (p := ⟨gb539, 1, none⟩) (RO_far (p := ⟨gb539, 0, none⟩) (RO_types HO_539004.out BK539.out (by decide) GE539.out) (.int .i64 t541)) (.int .i64 t542)) (.int .i64 t543)) (.int .i64 t544)) (.slice Ao49 t545.length co49))⟩, ⟨by (with_reducible repeat (first | apply RO_alloc | apply RO_drewN | apply RO_drew)); exact RO_mono (RO_far (p := ⟨gb539, 4, none⟩) (RO_far (p := ⟨gb539, 3, none⟩) (RO_far (p := ⟨gb539, 2, none⟩) (RO_far (p := ⟨gb539, 1, none⟩) (RO_far (p := ⟨gb539, 0, none⟩) (RO_types HO_550004.out BK539.out (by decide) GE539.out) (.int .i64 t541)) (.int .i64 t542)) (.int .i64 t543)) (.int .i64 t544)) (.slice Ao49 t545.length co49))⟩, ⟨by (try refine sO ?_); refine blk_far ?_ NB526_539.out _; (try refine sO ?_); refine blk_far ?_ NB526_539.out _; (try refine sO ?_); refine blk_far ?_ NB526_539.out _; (try refine sO ?_); refine blk_far ?_ NB526_539.out _; (try refine sO ?_); refine blk_far ?_ NB526_539.out _; (try refine sO ?_); exact BK526.out⟩, ⟨by (try refine sO ?_); refine blk_far ?_ NB538_539.out _; (try refine sO ?_); refine blk_far ?_ NB538_539.out _; (try refine sO ?_); refine blk_far ?_ NB538_539.out _; (try refine sO ?_); refine blk_far ?_ NB538_539.out _; (try refine sO ?_); refine blk_far ?_ NB538_539.out _; (try refine sO ?_); exact BK538.out⟩, ⟨by (try refine sO ?_); refine blk_put (cs := #[.int .i64 t541, .int .i64 t542, .int .i64 t543, .int .i64 t544, .slice Ao40 x540004_2.length co40]) ?_ 4 _ rfl; (try refine sO ?_); refine blk_put (cs := #[.int .i64 t541, .int .i64 t542, .int .i64 t543, .int .i64 x540003_2, .slice Ao40 x540004_2.length co40]) ?_ 3 _ rfl; (try refine sO ?_); refine blk_put (cs := #[.int .i64 t541, .int .i64 t542, .int .i64 x540002_2, .int .i64 x540003_2, .slice Ao40 x540004_2.length co40]) ?_ 2 _ rfl; (try refine sO ?_); refine blk_put (cs := #[.int .i64 t541, .int .i64 x540001_2, .int .i64 x540002_2, .int .i64 x540003_2, .slice Ao40 x540004_2.length co40]) ?_ 1 _ rfl; (try refine sO ?_); refine blk_put (cs := #[.int .i64 x540000_2, .int .i64 x540001_2, .int .i64 x540002_2, .int .i64 x540003_2, .slice Ao40 x540004_2.length co40]) ?_ 0 _ rfl; (try refine sO ?_); exact BK539.out⟩, ⟨by repeat (first | exact sH HB.out | refine sN (w := w) ?_ | with_reducible refine sG (w := w) ?_ (by assumption))⟩⟩
                              · rw [if_neg c61] at H
                                exact absurd H (by simp)
                            · rw [if_neg c60] at H
                              exact absurd H (by simp)
                    · rw [if_neg c37] at H
                      exact absurd H (by simp)
                  · rw [if_neg c36] at H
                    exact absurd H (by simp)
                · rw [if_neg c35] at H
                  have c35b0 : decide (x13_2 < a2) = false := decide_eq_false c35
                  clear c35
                  replace H := Option.bind_eq_some_iff.mp H
                  obtain ⟨t557, A1050, H⟩ := H
                  try dsimp only at H
                  have A105 := Aside0.mk A1050
                  clear A1050
                  by_cases c106 : t557 = true
                  · subst c106
                    have H1 : ((image_Wiped.f k2 t530 t531 t532 t533 t534 a3).bind fun bt558 => (if bt558.2.2.2.2.2 = 0 then (twoslotlaw09_ImageSteps.l2 k2 a3 0 a0_0 a0_1 a0_2 a0_3 l0_4 t530 t531 t532 t533 t534 bt558.1 bt558.2.1 bt558.2.2.1 bt558.2.2.2.1 bt558.2.2.2.2.1) else (if a3 < 0 then (some true) else (some (decide (a3 ≥ (wrap64 (a0_0 + a0_1)))))))) = some r := by rw [if_pos rfl] at H; exact H
                    clear H
                    have H := H1
                    clear H1
                    replace H := Option.bind_eq_some_iff.mp H
                    obtain ⟨⟨t558, t559, t560, t561, t562, t565⟩, A1070, H⟩ := H
                    try dsimp only at H
                    have A107 := Aside0.mk A1070
                    clear A1070
                    by_cases c108 : t565 = 0
                    · rw [if_pos c108] at H
                      have c108b0 : (t565 == 0) = true := beq_iff_eq.mpr c108
                      have c108b1 : (t565 != 0) = false := bne_eq_false_iff_eq.mpr c108
                      clear c108
                      have H' := Aside0.mk H
                      clear H
                      have hnb109 := NB539_526.out
                      have hnc109 := NB526_539.out
                      have hnb110 := NB539_538.out
                      have hnc110 := NB538_539.out
                      obtain ⟨hcz111_0, hcz111_1, hcz111_2, hcz111_3, hcz111_4, hfz111_0, hfz111_1, hfz111_2, hfz111_3, hfz111_4⟩ := cs5 BK539.out
                      have hnb112 := NB538_526.out
                      have hnc112 := NB526_538.out
                      obtain ⟨hcz113_0, hcz113_1, hcz113_2, hcz113_3, hcz113_4, hfz113_0, hfz113_1, hfz113_2, hfz113_3, hfz113_4⟩ := cs5 BK538.out
                      obtain ⟨Ao114, co114, eo114⟩ := RO_slice HO_540004.out
                      subst eo114
                      go_wp2_with (first | ((with_reducible refine gate_callee (f := 34) rfl ?_); refine goesL_ (some 136) rfl rfl Try.func34 (by kernel_rfl) rfl #[.agg #[.int .i64 x540000_2, .int .i64 x540001_2, .int .i64 x540002_2, .int .i64 x540003_2, .slice Ao114 x540004_2.length co114], .agg #[.int .i64 t530, .int .i64 t531, .int .i64 t532, .int .i64 t533, .slice Ao29 t534.length co29]] rfl (by (try simp only [sM]); first | done | rfl | (simp only [sT]; rfl)) ?_; (with_reducible refine (image_Same.calls k2 x540000_2 x540001_2 x540002_2 x540003_2 _ _ x540004_2 t530 t531 t532 t533 _ _ t534 true _ ?side1 ?side2 ?side3 ?side4 A105.out).mono ?_); (case side1 => repeat (first | exact (RO_reads' HO_540004.out).2.2 | (with_reducible refine Kd.C_alloc ?_ _) | (with_reducible refine Kd.C_drewN ?_ _) | (with_reducible refine Kd.C_drew ?_))); (case side2 => exact (RO_reads' HO_540004.out).2.1); (case side3 => repeat (first | exact (RO_reads' HO_539004.out).2.2 | (with_reducible refine Kd.C_alloc ?_ _) | (with_reducible refine Kd.C_drewN ?_ _) | (with_reducible refine Kd.C_drew ?_))); (case side4 => exact (RO_reads' HO_539004.out).2.1); rintro e w115 ⟨rfl, hb⟩; refine ⟨_, rfl, ?_⟩; replace HO_527004 := Aside0.mk (RO_below (by (with_reducible repeat (first | apply RO_alloc | apply RO_drewN | apply RO_drew)); exact HO_527004.out) hb); replace HO_539004 := Aside0.mk (RO_below (by (with_reducible repeat (first | apply RO_alloc | apply RO_drewN | apply RO_drew)); exact HO_539004.out) hb); replace HO_540004 := Aside0.mk (RO_below (by (with_reducible repeat (first | apply RO_alloc | apply RO_drewN | apply RO_drew)); exact HO_540004.out) hb); replace BK526 := kB BK526 hb; replace BK538 := kB BK538 hb; replace BK539 := kB BK539 hb; replace HB := Aside0.mk (below_step (by repeat (first | exact sH HB.out | refine sN (w := w) ?_ | with_reducible refine sG (w := w) ?_ (by assumption))) hb); (try clear hb); (try clear hb2); (try clear hk); (try clear hi); obtain ⟨hcz116_0, hcz116_1, hcz116_2, hcz116_3, hcz116_4, hfz116_0, hfz116_1, hfz116_2, hfz116_3, hfz116_4⟩ := cs5 BK538.out) | ((with_reducible refine gate_callee (f := 16) rfl ?_); refine goesL_ (some 141) rfl rfl Try.func16 (by kernel_rfl) rfl #[.agg #[.int .i64 t530, .int .i64 t531, .int .i64 t532, .int .i64 t533, .slice Ao29 t534.length co29], .int .i64 a3] rfl (by (try simp only [sM]); first | done | rfl | (simp only [sT]; rfl)) ?_; (with_reducible refine (image_Wiped.calls k2 t530 t531 t532 t533 _ _ t534 a3 t558 t559 t560 t561 t562 t565 _ ?side1 ?side2 A107.out).mono ?_); (case side1 => repeat (first | exact (RO_reads' HO_539004.out).2.2 | (with_reducible refine Kd.C_alloc ?_ _) | (with_reducible refine Kd.C_drewN ?_ _) | (with_reducible refine Kd.C_drew ?_))); (case side2 => exact (RO_reads' HO_539004.out).2.1); rintro e w117 ⟨v563, rfl, ho0, hb⟩; refine ⟨_, rfl, ?_⟩; replace HO_527004 := Aside0.mk (RO_below (by (with_reducible repeat (first | apply RO_alloc | apply RO_drewN | apply RO_drew)); exact HO_527004.out) hb); replace HO_539004 := Aside0.mk (RO_below (by (with_reducible repeat (first | apply RO_alloc | apply RO_drewN | apply RO_drew)); exact HO_539004.out) hb); replace HO_540004 := Aside0.mk (RO_below (by (with_reducible repeat (first | apply RO_alloc | apply RO_drewN | apply RO_drew)); exact HO_540004.out) hb); have HO564 := Aside0.mk (RO_lowerR ho0 (below_size (by repeat (first | exact sH HB.out | refine sN (w := w) ?_ | with_reducible refine sG (w := w) ?_ (by assumption))))); replace BK526 := kB BK526 hb; replace BK538 := kB BK538 hb; replace BK539 := kB BK539 hb; replace HB := Aside0.mk (below_step (by repeat (first | exact sH HB.out | refine sN (w := w) ?_ | with_reducible refine sG (w := w) ?_ (by assumption))) hb); (try clear hb); (try clear hb2); (try clear hk); (try clear hi); (try clear ho0)) | ((with_reducible refine gate_dst (N := 19) rfl ?_); (try (refine gate_guard (by rfl) ?_; dsimp only)); refine box_event rfl (N := 19) rfl (cs := #[.int .i64 0, .int .i64 0, .int .i64 0, .int .i64 0, .slice none 0 0]) (t := 27) (by go_simp; try rfl) ?_; intro gb566 hg w118 hbox hb; replace HO_527004 := Aside0.mk (RO_below (by (with_reducible repeat (first | apply RO_alloc | apply RO_drewN | apply RO_drew)); exact HO_527004.out) hb); replace HO_539004 := Aside0.mk (RO_below (by (with_reducible repeat (first | apply RO_alloc | apply RO_drewN | apply RO_drew)); exact HO_539004.out) hb); replace HO_540004 := Aside0.mk (RO_below (by (with_reducible repeat (first | apply RO_alloc | apply RO_drewN | apply RO_drew)); exact HO_540004.out) hb); replace HO564 := Aside0.mk (RO_below (by (with_reducible repeat (first | apply RO_alloc | apply RO_drewN | apply RO_drew)); exact HO564.out) hb); have BK566 := Aside0.mk (hbox); have GW566 := Aside0.mk ((by rw [hg]; exact (below_size (by repeat (first | exact sH HB.out | refine sN (w := w) ?_ | with_reducible refine sG (w := w) ?_ (by assumption)))) : w.heap.size ≤ gb566)); have GE566 := Aside0.mk ((by rw [hg]; exact (below_size (by repeat (first | exact sH HB.out | refine sN (w := w) ?_ | with_reducible refine sG (w := w) ?_ (by assumption)))) : w.heap.size ≤ gb566)); replace HB := Aside0.mk (below_step (by repeat (first | exact sH HB.out | refine sN (w := w) ?_ | with_reducible refine sG (w := w) ?_ (by assumption))) hb); have NB526_566 := Aside0.mk ((by rw [hg]; exact Nat.ne_of_lt (blk_lt (g := gb526) (o := .cells #[.int .i64 a0_0, .int .i64 a0_1, .int .i64 a0_2, .int .i64 a0_3, .slice Ao8 l0_4.length co8] 27 (0, 0)) (by first | exact BK526.out | (refine sO ?_; exact BK526.out))) : gb526 ≠ gb566)); have NB566_526 := Aside0.mk ((by rw [hg]; exact Nat.ne_of_gt (blk_lt (g := gb526) (o := .cells #[.int .i64 a0_0, .int .i64 a0_1, .int .i64 a0_2, .int .i64 a0_3, .slice Ao8 l0_4.length co8] 27 (0, 0)) (by first | exact BK526.out | (refine sO ?_; exact BK526.out))) : gb566 ≠ gb526)); replace BK526 := kB BK526 hb; have NB538_566 := Aside0.mk ((by rw [hg]; exact Nat.ne_of_lt (blk_lt (g := gb538) (o := .cells #[.int .i64 t530, .int .i64 t531, .int .i64 t532, .int .i64 t533, .slice Ao29 t534.length co29] 27 (0, 0)) (by first | exact BK538.out | (refine sO ?_; exact BK538.out))) : gb538 ≠ gb566)); have NB566_538 := Aside0.mk ((by rw [hg]; exact Nat.ne_of_gt (blk_lt (g := gb538) (o := .cells #[.int .i64 t530, .int .i64 t531, .int .i64 t532, .int .i64 t533, .slice Ao29 t534.length co29] 27 (0, 0)) (by first | exact BK538.out | (refine sO ?_; exact BK538.out))) : gb566 ≠ gb538)); replace BK538 := kB BK538 hb; have NB539_566 := Aside0.mk ((by rw [hg]; exact Nat.ne_of_lt (blk_lt (g := gb539) (o := .cells #[.int .i64 x540000_2, .int .i64 x540001_2, .int .i64 x540002_2, .int .i64 x540003_2, .slice Ao114 x540004_2.length co114] 27 (0, 0)) (by first | exact BK539.out | (refine sO ?_; exact BK539.out))) : gb539 ≠ gb566)); have NB566_539 := Aside0.mk ((by rw [hg]; exact Nat.ne_of_gt (blk_lt (g := gb539) (o := .cells #[.int .i64 x540000_2, .int .i64 x540001_2, .int .i64 x540002_2, .int .i64 x540003_2, .slice Ao114 x540004_2.length co114] 27 (0, 0)) (by first | exact BK539.out | (refine sO ?_; exact BK539.out))) : gb566 ≠ gb539)); replace BK539 := kB BK539 hb; clear hb hbox hg; have hnb119 := NB566_526.out; have hnc119 := NB526_566.out; have hnb120 := NB566_538.out; have hnc120 := NB538_566.out; have hnb121 := NB566_539.out; have hnc121 := NB539_566.out; obtain ⟨hcz122_0, hcz122_1, hcz122_2, hcz122_3, hcz122_4, hfz122_0, hfz122_1, hfz122_2, hfz122_3, hfz122_4⟩ := cs5 BK566.out; obtain ⟨Ao123, co123, eo123⟩ := RO_slice HO564.out; subst eo123))
                      go_loopg [20] k2 (fun kq v20 w' => ∃ (x20_3 : Int), v20 = .int .i64 x20_3 ∧ Aside0 (twoslotlaw09_ImageSteps.l2 kq a3 x20_3 a0_0 a0_1 a0_2 a0_3 l0_4 t530 t531 t532 t533 t534 t558 t559 t560 t561 t562 = some r) ∧ Aside0 (kq ≤ k2) ∧ Aside0 (RO (Kd.slice 5 (Kd.int .u8)) 33 w' w.heap.size (fun _ => True) (.slice Ao8 l0_4.length co8) l0_4) ∧ Aside0 (RO (Kd.slice 5 (Kd.int .u8)) 33 w' w.heap.size (fun _ => True) (.slice Ao29 t534.length co29) t534) ∧ Aside0 (RO (Kd.slice 5 (Kd.int .u8)) 33 w' w.heap.size (fun _ => True) (.slice Ao114 x540004_2.length co114) x540004_2) ∧ Aside0 (RO (Kd.slice 5 (Kd.int .u8)) 33 w' w.heap.size (fun _ => True) (.slice Ao123 t562.length co123) t562) ∧ Aside0 (w'.heap[gb526]? = some (.cells #[.int .i64 a0_0, .int .i64 a0_1, .int .i64 a0_2, .int .i64 a0_3, (.slice Ao8 l0_4.length co8)] 27 (0, 0))) ∧ Aside0 (w'.heap[gb538]? = some (.cells #[.int .i64 t530, .int .i64 t531, .int .i64 t532, .int .i64 t533, (.slice Ao29 t534.length co29)] 27 (0, 0))) ∧ Aside0 (w'.heap[gb539]? = some (.cells #[.int .i64 x540000_2, .int .i64 x540001_2, .int .i64 x540002_2, .int .i64 x540003_2, (.slice Ao114 x540004_2.length co114)] 27 (0, 0))) ∧ Aside0 (w'.heap[gb566]? = some (.cells #[.int .i64 t558, .int .i64 t559, .int .i64 t560, .int .i64 t561, (.slice Ao123 t562.length co123)] 27 (0, 0))) ∧ Aside0 (Below w.heap.size w w'))
                      case atStart => exact ⟨(0), (by first | rfl | (simp; done) | (simp [*]; done)), H', ⟨Nat.le_refl _⟩, ⟨by (with_reducible repeat (first | apply RO_alloc | apply RO_drewN | apply RO_drew)); exact RO_mono (RO_far (p := ⟨gb566, 4, none⟩) (RO_far (p := ⟨gb566, 3, none⟩) (RO_far (p := ⟨gb566, 2, none⟩) (RO_far (p := ⟨gb566, 1, none⟩) (RO_far (p := ⟨gb566, 0, none⟩) (RO_types HO_527004.out BK566.out (by decide) GE566.out) (.int .i64 t558)) (.int .i64 t559)) (.int .i64 t560)) (.int .i64 t561)) (.slice Ao123 t562.length co123))⟩, ⟨by (with_reducible repeat (first | apply RO_alloc | apply RO_drewN | apply RO_drew)); exact RO_mono (RO_far (p := ⟨gb566, 4, none⟩) (RO_far (p := ⟨gb566, 3, none⟩) (RO_far (p := ⟨gb566, 2, none⟩) (RO_far (p := ⟨gb566, 1, none⟩) (RO_far (p := ⟨gb566, 0, none⟩) (RO_types HO_539004.out BK566.out (by decide) GE566.out) (.int .i64 t558)) (.int .i64 t559)) (.int .i64 t560)) (.int .i64 t561)) (.slice Ao123 t562.length co123))⟩, ⟨by (with_reducible repeat (first | apply RO_alloc | apply RO_drewN | apply RO_drew)); exact RO_mono (RO_far (p := ⟨gb566, 4, none⟩) (RO_far (p := ⟨gb566, 3, none⟩) (RO_far (p := ⟨gb566, 2, none⟩) (RO_far (p := ⟨gb566, 1, none⟩) (RO_far (p := ⟨gb566, 0, none⟩) (RO_types HO_540004.out BK566.out (by decide) GE566.out) (.int .i64 t558)) (.int .i64 t559)) (.int .i64 t560)) (.int .i64 t561)) (.slice Ao123 t562.length co123))⟩, ⟨by (with_reducible repeat (first | apply RO_alloc | apply RO_drewN | apply RO_drew)); exact RO_mono (RO_far (p := ⟨gb566, 4, none⟩) (RO_far (p := ⟨gb566, 3, none⟩) (RO_far (p := ⟨gb566, 2, none⟩) (RO_far (p := ⟨gb566, 1, none⟩) (RO_far (p := ⟨gb566, 0, none⟩) (RO_types HO564.out BK566.out (by decide) GE566.out) (.int .i64 t558)) (.int .i64 t559)) (.int .i64 t560)) (.int .i64 t561)) (.slice Ao123 t562.length co123))⟩, ⟨by (try refine sO ?_); refine blk_far ?_ NB526_566.out _; (try refine sO ?_); refine blk_far ?_ NB526_566.out _; (try refine sO ?_); refine blk_far ?_ NB526_566.out _; (try refine sO ?_); refine blk_far ?_ NB526_566.out _; (try refine sO ?_); refine blk_far ?_ NB526_566.out _; (try refine sO ?_); exact BK526.out⟩, ⟨by (try refine sO ?_); refine blk_far ?_ NB538_566.out _; (try refine sO ?_); refine blk_far ?_ NB538_566.out _; (try refine sO ?_); refine blk_far ?_ NB538_566.out _; (try refine sO ?_); refine blk_far ?_ NB538_566.out _; (try refine sO ?_); refine blk_far ?_ NB538_566.out _; (try refine sO ?_); exact BK538.out⟩, ⟨by (try refine sO ?_); refine blk_far ?_ NB539_566.out _; (try refine sO ?_); refine blk_far ?_ NB539_566.out _; (try refine sO ?_); refine blk_far ?_ NB539_566.out _; (try refine sO ?_); refine blk_far ?_ NB539_566.out _; (try refine sO ?_); refine blk_far ?_ NB539_566.out _; (try refine sO ?_); exact BK539.out⟩, ⟨by (try refine sO ?_); refine blk_put (cs := #[.int .i64 t558, .int .i64 t559, .int .i64 t560, .int .i64 t561, .slice none 0 0]) ?_ 4 _ rfl; (try refine sO ?_); refine blk_put (cs := #[.int .i64 t558, .int .i64 t559, .int .i64 t560, .int .i64 0, .slice none 0 0]) ?_ 3 _ rfl; (try refine sO ?_); refine blk_put (cs := #[.int .i64 t558, .int .i64 t559, .int .i64 0, .int .i64 0, .slice none 0 0]) ?_ 2 _ rfl; (try refine sO ?_); refine blk_put (cs := #[.int .i64 t558, .int .i64 0, .int .i64 0, .int .i64 0, .slice none 0 0]) ?_ 1 _ rfl; (try refine sO ?_); refine blk_put (cs := #[.int .i64 0, .int .i64 0, .int .i64 0, .int .i64 0, .slice none 0 0]) ?_ 0 _ rfl; (try refine sO ?_); exact BK566.out⟩, ⟨by repeat (first | exact sH HB.out | refine sN (w := w) ?_ | with_reducible refine sG (w := w) ?_ (by assumption))⟩⟩
                      case round =>
                        clear H'
                        try clear c1
                        try clear c2
                        try clear p2
                        try clear c3
                        try clear c5
                        try clear p5
                        try clear q5
                        try clear hx5
                        try clear c6
                        try clear p6
                        try clear c7
                        try clear hcv7
                        try clear c8
                        try clear hcv8
                        try clear c9
                        try clear hcv9
                        try clear c10
                        try clear c11
                        try clear c12
                        try clear c13
                        try clear c16
                        try clear c18
                        try clear c21
                        try clear c22
                        try clear c23
                        try clear c23b0
                        try clear c23b1
                        try clear c27
                        try clear c32
                        try clear c33
                        try clear c34
                        try clear c35
                        try clear c35b0
                        try clear c36
                        try clear c36b0
                        try clear c37
                        try clear c37b0
                        try clear c51
                        try clear c51b0
                        try clear c51b1
                        try clear c52
                        try clear c53
                        try clear c54
                        try clear p54
                        try clear q54
                        try clear hx54
                        try clear c55
                        try clear p55
                        try clear q55
                        try clear hx55
                        try clear c56
                        try clear c57
                        try clear c59
                        try clear c60
                        try clear c60b0
                        try clear c61
                        try clear c61b0
                        try clear c63
                        try clear c63b0
                        try clear c64
                        try clear c64b0
                        try clear p64
                        try clear c65
                        try clear c65b0
                        try clear c66
                        try clear c66b0
                        try clear c66b1
                        try clear c67
                        try clear c67b0
                        try clear c68
                        try clear c68b0
                        try clear c69
                        try clear c69b0
                        try clear c70
                        try clear c70b0
                        try clear c70b1
                        try clear c71
                        try clear c72
                        try clear c73
                        try clear c75
                        try clear c76
                        try clear hcv78
                        try clear hcv79
                        try clear c80
                        try clear hcv82
                        try clear c83
                        try clear c83b0
                        try clear c84
                        try clear c84b0
                        try clear c84b1
                        try clear c85
                        try clear c86
                        try clear c87
                        try clear c89
                        try clear c90
                        try clear hcv92
                        try clear c93
                        try clear hcv95
                        try clear c96
                        try clear c97
                        try clear c98
                        try clear c100
                        try clear c101
                        try clear c103
                        try clear c106
                        try clear c108
                        try clear c108b0
                        try clear c108b1
                        try clear c109
                        try clear c110
                        try clear c112
                        try clear c119
                        try clear c120
                        try clear c121
                        try clear hcz102_0
                        try clear hcz102_1
                        try clear hcz102_2
                        try clear hcz102_3
                        try clear hcz102_4
                        try clear hcz104_0
                        try clear hcz104_1
                        try clear hcz104_2
                        try clear hcz104_3
                        try clear hcz104_4
                        try clear hcz111_0
                        try clear hcz111_1
                        try clear hcz111_2
                        try clear hcz111_3
                        try clear hcz111_4
                        try clear hcz113_0
                        try clear hcz113_1
                        try clear hcz113_2
                        try clear hcz113_3
                        try clear hcz113_4
                        try clear hcz116_0
                        try clear hcz116_1
                        try clear hcz116_2
                        try clear hcz116_3
                        try clear hcz116_4
                        try clear hcz122_0
                        try clear hcz122_1
                        try clear hcz122_2
                        try clear hcz122_3
                        try clear hcz122_4
                        try clear hcz13_0
                        try clear hcz13_1
                        try clear hcz13_2
                        try clear hcz13_3
                        try clear hcz13_4
                        try clear hcz17_0
                        try clear hcz17_1
                        try clear hcz17_2
                        try clear hcz17_3
                        try clear hcz17_4
                        try clear hcz19_0
                        try clear hcz19_1
                        try clear hcz19_2
                        try clear hcz19_3
                        try clear hcz19_4
                        try clear hcz24_0
                        try clear hcz24_1
                        try clear hcz24_2
                        try clear hcz24_3
                        try clear hcz24_4
                        try clear hcz28_0
                        try clear hcz28_1
                        try clear hcz28_2
                        try clear hcz28_3
                        try clear hcz28_4
                        try clear hcz30_0
                        try clear hcz30_1
                        try clear hcz30_2
                        try clear hcz30_3
                        try clear hcz30_4
                        try clear hcz34_0
                        try clear hcz34_1
                        try clear hcz34_2
                        try clear hcz34_3
                        try clear hcz34_4
                        try clear hcz55_0
                        try clear hcz55_1
                        try clear hcz55_2
                        try clear hcz55_3
                        try clear hcz55_4
                        try clear hcz58_0
                        try clear hcz58_1
                        try clear hcz58_2
                        try clear hcz58_3
                        try clear hcz58_4
                        try clear hcz74_0
                        try clear hcz74_1
                        try clear hcz74_2
                        try clear hcz74_3
                        try clear hcz74_4
                        try clear hcz77_0
                        try clear hcz77_1
                        try clear hcz77_2
                        try clear hcz77_3
                        try clear hcz77_4
                        try clear hcz81_0
                        try clear hcz81_1
                        try clear hcz81_2
                        try clear hcz81_3
                        try clear hcz81_4
                        try clear hcz88_0
                        try clear hcz88_1
                        try clear hcz88_2
                        try clear hcz88_3
                        try clear hcz88_4
                        try clear hcz91_0
                        try clear hcz91_1
                        try clear hcz91_2
                        try clear hcz91_3
                        try clear hcz91_4
                        try clear hcz94_0
                        try clear hcz94_1
                        try clear hcz94_2
                        try clear hcz94_3
                        try clear hcz94_4
                        try clear hcz99_0
                        try clear hcz99_1
                        try clear hcz99_2
                        try clear hcz99_3
                        try clear hcz99_4
                        try clear hfz102_0
                        try clear hfz102_1
                        try clear hfz102_2
                        try clear hfz102_3
                        try clear hfz102_4
                        try clear hfz104_0
                        try clear hfz104_1
                        try clear hfz104_2
                        try clear hfz104_3
                        try clear hfz104_4
                        try clear hfz111_0
                        try clear hfz111_1
                        try clear hfz111_2
                        try clear hfz111_3
                        try clear hfz111_4
                        try clear hfz113_0
                        try clear hfz113_1
                        try clear hfz113_2
                        try clear hfz113_3
                        try clear hfz113_4
                        try clear hfz116_0
                        try clear hfz116_1
                        try clear hfz116_2
                        try clear hfz116_3
                        try clear hfz116_4
                        try clear hfz122_0
                        try clear hfz122_1
                        try clear hfz122_2
                        try clear hfz122_3
                        try clear hfz122_4
                        try clear hfz13_0
                        try clear hfz13_1
                        try clear hfz13_2
                        try clear hfz13_3
                        try clear hfz13_4
                        try clear hfz17_0
                        try clear hfz17_1
                        try clear hfz17_2
                        try clear hfz17_3
                        try clear hfz17_4
                        try clear hfz19_0
                        try clear hfz19_1
                        try clear hfz19_2
                        try clear hfz19_3
                        try clear hfz19_4
                        try clear hfz24_0
                        try clear hfz24_1
                        try clear hfz24_2
                        try clear hfz24_3
                        try clear hfz24_4
                        try clear hfz28_0
                        try clear hfz28_1
                        try clear hfz28_2
                        try clear hfz28_3
                        try clear hfz28_4
                        try clear hfz30_0
                        try clear hfz30_1
                        try clear hfz30_2
                        try clear hfz30_3
                        try clear hfz30_4
                        try clear hfz34_0
                        try clear hfz34_1
                        try clear hfz34_2
                        try clear hfz34_3
                        try clear hfz34_4
                        try clear hfz55_0
                        try clear hfz55_1
                        try clear hfz55_2
                        try clear hfz55_3
                        try clear hfz55_4
                        try clear hfz58_0
                        try clear hfz58_1
                        try clear hfz58_2
                        try clear hfz58_3
                        try clear hfz58_4
                        try clear hfz74_0
                        try clear hfz74_1
                        try clear hfz74_2
                        try clear hfz74_3
                        try clear hfz74_4
                        try clear hfz77_0
                        try clear hfz77_1
                        try clear hfz77_2
                        try clear hfz77_3
                        try clear hfz77_4
                        try clear hfz81_0
                        try clear hfz81_1
                        try clear hfz81_2
                        try clear hfz81_3
                        try clear hfz81_4
                        try clear hfz88_0
                        try clear hfz88_1
                        try clear hfz88_2
                        try clear hfz88_3
                        try clear hfz88_4
                        try clear hfz91_0
                        try clear hfz91_1
                        try clear hfz91_2
                        try clear hfz91_3
                        try clear hfz91_4
                        try clear hfz94_0
                        try clear hfz94_1
                        try clear hfz94_2
                        try clear hfz94_3
                        try clear hfz94_4
                        try clear hfz99_0
                        try clear hfz99_1
                        try clear hfz99_2
                        try clear hfz99_3
                        try clear hfz99_4
                        try clear hx540_0
                        try clear hx540_1
                        try clear hx540_2
                        try clear hx540_3
                        try clear hx550_0
                        try clear hx550_1
                        try clear hx550_2
                        try clear hx550_3
                        try clear hx551_0
                        try clear hx551_1
                        try clear hx551_2
                        try clear hx551_3
                        try clear hx552_0
                        try clear hx552_1
                        try clear hx552_2
                        try clear hx552_3
                        try clear hx553_0
                        try clear hx554_0
                        try clear hx554_1
                        try clear hx554_2
                        try clear hx554_3
                        try clear hx555_0
                        try clear hx556_0
                        try clear p2
                        try clear p5
                        try clear p54
                        try clear p540
                        try clear p55
                        try clear p550
                        try clear p551
                        try clear p552
                        try clear p553
                        try clear p554
                        try clear p555
                        try clear p556
                        try clear p6
                        try clear q5
                        try clear q54
                        try clear q540
                        try clear q55
                        try clear q550
                        try clear q551
                        try clear q552
                        try clear q553
                        try clear q554
                        try clear q555
                        try clear q556
                        obtain ⟨x20_3, rfl, HA, HK3, HO_527004, HO_539004, HO_540004, HO_567004, BK526, BK538, BK539, BK566, HB⟩ := hrel
                        cases gk with
                        | zero => exact absurd HA.out (by simp [twoslotlaw09_ImageSteps.l2])
                        | succ k3 =>
                          have H := HA.out
                          clear HA
                          simp only [twoslotlaw09_ImageSteps.l2] at H
                          by_cases c124 : x20_3 < (t534.length : Int)
                          · rw [if_pos c124] at H
                            have c124b0 : decide (x20_3 < (t534.length : Int)) = true := decide_eq_true c124
                            clear c124
                            by_cases c125 : 0 ≤ x20_3
                            · rw [if_pos c125] at H
                              have c125b0 : decide (0 ≤ x20_3) = true := decide_eq_true c125
                              clear c125
                              by_cases c126 : a0_3 = 0
                              · rw [if_pos c126] at H
                                exact absurd H (by simp)
                              · rw [if_neg c126] at H
                                have c126b0 : (a0_3 == 0) = false := beq_eq_false_iff_ne.mpr c126
                                have c126b1 : (a0_3 != 0) = true := bne_iff_ne.mpr c126
                                by_cases c127 : (wrap64 (Int.tdiv (wrap64 (Int.tdiv x20_3 2)) a0_3)) = a3
                                · rw [if_pos c127] at H
                                  have c127b0 : ((wrap64 (Int.tdiv (wrap64 (Int.tdiv x20_3 2)) a0_3)) == a3) = true := beq_iff_eq.mpr c127
                                  have c127b1 : ((wrap64 (Int.tdiv (wrap64 (Int.tdiv x20_3 2)) a0_3)) != a3) = false := bne_eq_false_iff_eq.mpr c127
                                  clear c127
                                  by_cases c128 : x20_3 < (t562.length : Int)
                                  · rw [if_pos c128] at H
                                    have c128b0 : decide (x20_3 < (t562.length : Int)) = true := decide_eq_true c128
                                    clear c128
                                    by_cases c129 : (strOfNums (rd_L1 t562 x20_3)).toList = ([] : List UInt8)
                                    · rw [if_pos c129] at H
                                      have c129b0 : ((strOfNums (rd_L1 t562 x20_3)).toList == ([] : List UInt8)) = true := beq_iff_eq.mpr c129
                                      have c129b1 : ((strOfNums (rd_L1 t562 x20_3)).toList != ([] : List UInt8)) = false := bne_eq_false_iff_eq.mpr c129
                                      clear c129
                                      have H' := Aside0.mk H
                                      clear H
                                      have hnb130 := NB538_526.out
                                      have hnc130 := NB526_538.out
                                      have hnb131 := NB538_539.out
                                      have hnc131 := NB539_538.out
                                      have hnb132 := NB538_566.out
                                      have hnc132 := NB566_538.out
                                      obtain ⟨hcz133_0, hcz133_1, hcz133_2, hcz133_3, hcz133_4, hfz133_0, hfz133_1, hfz133_2, hfz133_3, hfz133_4⟩ := cs5 BK538.out
                                      have p569 : 0 ≤ (x20_3 : Int) := of_decide_eq_true (by first | (with_reducible assumption) | assumption)
                                      have q569 : x20_3 < (t534.length : Int) := of_decide_eq_true (by first | (with_reducible assumption) | assumption)
                                      obtain ⟨ad569, A569_0, c569_0, e569, hx569_0, hl569_0, hi569_0⟩ := at_L1 (RO_reads' HO_539004.out).2.2 x20_3 p569 q569
                                      cases e569
                                      have HR569_0 := Aside0.mk hi569_0
                                      have HC569_0 := Aside0.mk hl569_0
                                      clear hi569_0 hl569_0
                                      replace p569 := eq_true p569
                                      replace q569 := eq_true q569
                                      have hcv134 := Kd.C_string (P := Try.prog) (A := A569_0) (c := c569_0) Try.underlying33 Try.underlying5 Try.underlying9 (by repeat (first | (with_reducible exact HR569_0.out) | (with_reducible refine Kd.C_alloc ?_ _) | (with_reducible refine Kd.C_drewN ?_ _) | (with_reducible refine Kd.C_drew ?_) | exact HR569_0.out))
                                      have hnb135 := NB526_539.out
                                      have hnc135 := NB539_526.out
                                      have hnb136 := NB526_566.out
                                      have hnc136 := NB566_526.out
                                      obtain ⟨hcz137_0, hcz137_1, hcz137_2, hcz137_3, hcz137_4, hfz137_0, hfz137_1, hfz137_2, hfz137_3, hfz137_4⟩ := cs5 BK526.out
                                      have hnb138 := NB566_539.out
                                      have hnc138 := NB539_566.out
                                      obtain ⟨hcz139_0, hcz139_1, hcz139_2, hcz139_3, hcz139_4, hfz139_0, hfz139_1, hfz139_2, hfz139_3, hfz139_4⟩ := cs5 BK566.out
                                      have p570 : 0 ≤ (x20_3 : Int) := of_decide_eq_true (by first | (with_reducible assumption) | assumption)
                                      have q570 : x20_3 < (t562.length : Int) := of_decide_eq_true (by first | (with_reducible assumption) | assumption)
                                      obtain ⟨ad570, A570_0, c570_0, e570, hx570_0, hl570_0, hi570_0⟩ := at_L1 (RO_reads' HO_567004.out).2.2 x20_3 p570 q570
                                      cases e570
                                      have HR570_0 := Aside0.mk hi570_0
                                      have HC570_0 := Aside0.mk hl570_0
                                      clear hi570_0 hl570_0
                                      replace p570 := eq_true p570
                                      replace q570 := eq_true q570
                                      have hcv140 := Kd.C_string (P := Try.prog) (A := A570_0) (c := c570_0) Try.underlying33 Try.underlying5 Try.underlying9 (by repeat (first | (with_reducible exact HR570_0.out) | (with_reducible refine Kd.C_alloc ?_ _) | (with_reducible refine Kd.C_drewN ?_ _) | (with_reducible refine Kd.C_drew ?_) | exact HR570_0.out))
                                      go_wp2
                                      go_roundg k3
                                      case measure => have := HJ6.out; have := HK2.out; have := HK3.out; omega
                                      case rel => exact ⟨(wrap64 (x20_3 + 1)), (by first | rfl | (simp; done) | (simp [*]; done)), H', ⟨by have := HJ6.out; have := HK2.out; have := HK3.out; omega⟩, ⟨by (with_reducible repeat (first | apply RO_alloc | apply RO_drewN | apply RO_drew)); exact HO_527004.out⟩, ⟨by (with_reducible repeat (first | apply RO_alloc | apply RO_drewN | apply RO_drew)); exact HO_539004.out⟩, ⟨by (with_reducible repeat (first | apply RO_alloc | apply RO_drewN | apply RO_drew)); exact HO_540004.out⟩, ⟨by (with_reducible repeat (first | apply RO_alloc | apply RO_drewN | apply RO_drew)); exact HO_567004.out⟩, ⟨by (try refine sO ?_); exact BK526.out⟩, ⟨by (try refine sO ?_); exact BK538.out⟩, ⟨by (try refine sO ?_); exact BK539.out⟩, ⟨by (try refine sO ?_); exact BK566.out⟩, ⟨by repeat (first | exact sH HB.out | refine sN (w := w) ?_ | with_reducible refine sG (w := w) ?_ (by assumption))⟩⟩
                                    · rw [if_neg c129] at H
                                      exact absurd H (by simp)
                                  · rw [if_neg c128] at H
                                    exact absurd H (by simp)
                                · rw [if_neg c127] at H
                                  have c127b0 : ((wrap64 (Int.tdiv (wrap64 (Int.tdiv x20_3 2)) a0_3)) == a3) = false := beq_eq_false_iff_ne.mpr c127
                                  have c127b1 : ((wrap64 (Int.tdiv (wrap64 (Int.tdiv x20_3 2)) a0_3)) != a3) = true := bne_iff_ne.mpr c127
                                  by_cases c141 : x20_3 < (t562.length : Int)
                                  · rw [if_pos c141] at H
                                    have c141b0 : decide (x20_3 < (t562.length : Int)) = true := decide_eq_true c141
                                    clear c141
                                    by_cases c142 : (strOfNums (rd_L1 t562 x20_3)).toList = (strOfNums (rd_L1 t534 x20_3)).toList
                                    · rw [if_pos c142] at H
                                      have c142b0 : ((strOfNums (rd_L1 t562 x20_3)).toList == (strOfNums (rd_L1 t534 x20_3)).toList) = true := beq_iff_eq.mpr c142
                                      have c142b1 : ((strOfNums (rd_L1 t562 x20_3)).toList != (strOfNums (rd_L1 t534 x20_3)).toList) = false := bne_eq_false_iff_eq.mpr c142
                                      clear c142
                                      have H' := Aside0.mk H
                                      clear H
                                      have hnb143 := NB538_526.out
                                      have hnc143 := NB526_538.out
                                      have hnb144 := NB538_539.out
                                      have hnc144 := NB539_538.out
                                      have hnb145 := NB538_566.out
                                      have hnc145 := NB566_538.out
                                      obtain ⟨hcz146_0, hcz146_1, hcz146_2, hcz146_3, hcz146_4, hfz146_0, hfz146_1, hfz146_2, hfz146_3, hfz146_4⟩ := cs5 BK538.out
                                      have p569 : 0 ≤ (x20_3 : Int) := of_decide_eq_true (by first | (with_reducible assumption) | assumption)
                                      have q569 : x20_3 < (t534.length : Int) := of_decide_eq_true (by first | (with_reducible assumption) | assumption)
                                      obtain ⟨ad569, A569_0, c569_0, e569, hx569_0, hl569_0, hi569_0⟩ := at_L1 (RO_reads' HO_539004.out).2.2 x20_3 p569 q569
                                      cases e569
                                      have HR569_0 := Aside0.mk hi569_0
                                      have HC569_0 := Aside0.mk hl569_0
                                      clear hi569_0 hl569_0
                                      replace p569 := eq_true p569
                                      replace q569 := eq_true q569
                                      have hcv147 := Kd.C_string (P := Try.prog) (A := A569_0) (c := c569_0) Try.underlying33 Try.underlying5 Try.underlying9 (by repeat (first | (with_reducible exact HR569_0.out) | (with_reducible refine Kd.C_alloc ?_ _) | (with_reducible refine Kd.C_drewN ?_ _) | (with_reducible refine Kd.C_drew ?_) | exact HR569_0.out))
                                      have hnb148 := NB526_539.out
                                      have hnc148 := NB539_526.out
                                      have hnb149 := NB526_566.out
                                      have hnc149 := NB566_526.out
                                      obtain ⟨hcz150_0, hcz150_1, hcz150_2, hcz150_3, hcz150_4, hfz150_0, hfz150_1, hfz150_2, hfz150_3, hfz150_4⟩ := cs5 BK526.out
                                      have hnb151 := NB566_539.out
                                      have hnc151 := NB539_566.out
                                      obtain ⟨hcz152_0, hcz152_1, hcz152_2, hcz152_3, hcz152_4, hfz152_0, hfz152_1, hfz152_2, hfz152_3, hfz152_4⟩ := cs5 BK566.out
                                      have p571 : 0 ≤ (x20_3 : Int) := of_decide_eq_true (by first | (with_reducible assumption) | assumption)
                                      have q571 : x20_3 < (t562.length : Int) := of_decide_eq_true (by first | (with_reducible assumption) | assumption)
                                      obtain ⟨ad571, A571_0, c571_0, e571, hx571_0, hl571_0, hi571_0⟩ := at_L1 (RO_reads' HO_567004.out).2.2 x20_3 p571 q571
                                      cases e571
                                      have HR571_0 := Aside0.mk hi571_0
                                      have HC571_0 := Aside0.mk hl571_0
                                      clear hi571_0 hl571_0
                                      replace p571 := eq_true p571
                                      replace q571 := eq_true q571
                                      have hcv153 := Kd.C_string (P := Try.prog) (A := A571_0) (c := c571_0) Try.underlying33 Try.underlying5 Try.underlying9 (by repeat (first | (with_reducible exact HR571_0.out) | (with_reducible refine Kd.C_alloc ?_ _) | (with_reducible refine Kd.C_drewN ?_ _) | (with_reducible refine Kd.C_drew ?_) | exact HR571_0.out))
                                      go_wp2
                                      go_roundg k3
                                      case measure => have := HJ6.out; have := HK2.out; have := HK3.out; omega
                                      case rel => exact ⟨(wrap64 (x20_3 + 1)), (by first | rfl | (simp; done) | (simp [*]; done)), H', ⟨by have := HJ6.out; have := HK2.out; have := HK3.out; omega⟩, ⟨by (with_reducible repeat (first | apply RO_alloc | apply RO_drewN | apply RO_drew)); exact HO_527004.out⟩, ⟨by (with_reducible repeat (first | apply RO_alloc | apply RO_drewN | apply RO_drew)); exact HO_539004.out⟩, ⟨by (with_reducible repeat (first | apply RO_alloc | apply RO_drewN | apply RO_drew)); exact HO_540004.out⟩, ⟨by (with_reducible repeat (first | apply RO_alloc | apply RO_drewN | apply RO_drew)); exact HO_567004.out⟩, ⟨by (try refine sO ?_); exact BK526.out⟩, ⟨by (try refine sO ?_); exact BK538.out⟩, ⟨by (try refine sO ?_); exact BK539.out⟩, ⟨by (try refine sO ?_); exact BK566.out⟩, ⟨by repeat (first | exact sH HB.out | refine sN (w := w) ?_ | with_reducible refine sG (w := w) ?_ (by assumption))⟩⟩
                                    · rw [if_neg c142] at H
                                      exact absurd H (by simp)
                                  · rw [if_neg c141] at H
                                    exact absurd H (by simp)
                            · rw [if_neg c125] at H
                              exact absurd H (by simp)
                          · rw [if_neg c124] at H
                            have c124b0 : decide (x20_3 < (t534.length : Int)) = false := decide_eq_false c124
                            clear c124
                            replace H := Option.bind_eq_some_iff.mp H
                            obtain ⟨t567, A1540, H⟩ := H
                            try dsimp only at H
                            have A154 := Aside0.mk A1540
                            clear A1540
                            by_cases c155 : t567 = 0
                            · rw [if_pos c155] at H
                              have c155b0 : (t567 == 0) = true := beq_iff_eq.mpr c155
                              have c155b1 : (t567 != 0) = false := bne_eq_false_iff_eq.mpr c155
                              clear c155
                              replace H := Option.bind_eq_some_iff.mp H
                              obtain ⟨t568, A1560, H⟩ := H
                              try dsimp only at H
                              have A156 := Aside0.mk A1560
                              clear A1560
                              obtain rfl := Option.some.inj H
                              have hnb157 := NB538_526.out
                              have hnc157 := NB526_538.out
                              have hnb158 := NB538_539.out
                              have hnc158 := NB539_538.out
                              have hnb159 := NB538_566.out
                              have hnc159 := NB566_538.out
                              obtain ⟨hcz160_0, hcz160_1, hcz160_2, hcz160_3, hcz160_4, hfz160_0, hfz160_1, hfz160_2, hfz160_3, hfz160_4⟩ := cs5 BK538.out
                              have hnb161 := NB566_526.out
                              have hnc161 := NB526_566.out
                              have hnb162 := NB566_539.out
                              have hnc162 := NB539_566.out
                              obtain ⟨hcz163_0, hcz163_1, hcz163_2, hcz163_3, hcz163_4, hfz163_0, hfz163_1, hfz163_2, hfz163_3, hfz163_4⟩ := cs5 BK566.out
                              go_wp2_with (first | ((with_reducible refine gate_callee (f := 17) rfl ?_); refine goesL_ (some 189) rfl rfl Try.func17 (by kernel_rfl) rfl #[.agg #[.int .i64 t558, .int .i64 t559, .int .i64 t560, .int .i64 t561, .slice Ao123 t562.length co123]] rfl (by (try simp only [sM]); first | done | rfl | (simp only [sT]; rfl)) ?_; (with_reducible refine (image_Check.calls k3 t558 t559 t560 t561 _ _ t562 t567 _ ?side1 ?side2 A154.out).mono ?_); (case side1 => repeat (first | exact (RO_reads' HO_567004.out).2.2 | (with_reducible refine Kd.C_alloc ?_ _) | (with_reducible refine Kd.C_drewN ?_ _) | (with_reducible refine Kd.C_drew ?_))); (case side2 => exact (RO_reads' HO_567004.out).2.1); rintro e w164 ⟨rfl, hb⟩; refine ⟨_, rfl, ?_⟩; replace HO_527004 := Aside0.mk (RO_below (by (with_reducible repeat (first | apply RO_alloc | apply RO_drewN | apply RO_drew)); exact HO_527004.out) hb); replace HO_539004 := Aside0.mk (RO_below (by (with_reducible repeat (first | apply RO_alloc | apply RO_drewN | apply RO_drew)); exact HO_539004.out) hb); replace HO_540004 := Aside0.mk (RO_below (by (with_reducible repeat (first | apply RO_alloc | apply RO_drewN | apply RO_drew)); exact HO_540004.out) hb); replace HO_567004 := Aside0.mk (RO_below (by (with_reducible repeat (first | apply RO_alloc | apply RO_drewN | apply RO_drew)); exact HO_567004.out) hb); replace BK526 := kB BK526 hb; replace BK538 := kB BK538 hb; replace BK539 := kB BK539 hb; replace BK566 := kB BK566 hb; replace HB := Aside0.mk (below_step (by repeat (first | exact sH HB.out | refine sN (w := w) ?_ | with_reducible refine sG (w := w) ?_ (by assumption))) hb); (try clear hb); (try clear hb2); (try clear hk); (try clear hi); obtain ⟨hcz165_0, hcz165_1, hcz165_2, hcz165_3, hcz165_4, hfz165_0, hfz165_1, hfz165_2, hfz165_3, hfz165_4⟩ := cs5 BK538.out) | (go_at_call 17; (with_reducible refine (image_Check.calls k3 t530 t531 t532 t533 _ _ t534 t568 _ ?side1 ?side2 A156.out).mono ?_); (case side1 => repeat (first | exact (RO_reads' HO_539004.out).2.2 | (with_reducible refine Kd.C_alloc ?_ _) | (with_reducible refine Kd.C_drewN ?_ _) | (with_reducible refine Kd.C_drew ?_))); (case side2 => exact (RO_reads' HO_539004.out).2.1); rintro e w166 ⟨rfl, hb⟩; clear A156; replace HO_527004 := Aside0.mk (RO_below (by (with_reducible repeat (first | apply RO_alloc | apply RO_drewN | apply RO_drew)); exact HO_527004.out) hb); replace HO_539004 := Aside0.mk (RO_below (by (with_reducible repeat (first | apply RO_alloc | apply RO_drewN | apply RO_drew)); exact HO_539004.out) hb); replace HO_540004 := Aside0.mk (RO_below (by (with_reducible repeat (first | apply RO_alloc | apply RO_drewN | apply RO_drew)); exact HO_540004.out) hb); replace HO_567004 := Aside0.mk (RO_below (by (with_reducible repeat (first | apply RO_alloc | apply RO_drewN | apply RO_drew)); exact HO_567004.out) hb); replace BK526 := kB BK526 hb; replace BK538 := kB BK538 hb; replace BK539 := kB BK539 hb; replace BK566 := kB BK566 hb; replace HB := Aside0.mk (below_step (by repeat (first | exact sH HB.out | refine sN (w := w) ?_ | with_reducible refine sG (w := w) ?_ (by assumption))) hb); (try clear hb); (try clear hb2); (try clear hk); (try clear hi)))
                              go_ret
                              exact ⟨by first | rfl | (simp [errW_none, errW_some] <;> rfl) | (simp [*, errW_none, errW_some] <;> rfl), by repeat (first | exact sH HB.out | refine sN (w := w) ?_ | with_reducible refine sG (w := w) ?_ (by assumption))⟩
                            · rw [if_neg c155] at H
                              exact absurd H (by simp)
                    · rw [if_neg c108] at H
                      have c108b0 : (t565 == 0) = false := beq_eq_false_iff_ne.mpr c108
                      have c108b1 : (t565 != 0) = true := bne_iff_ne.mpr c108
                      by_cases c167 : a3 < 0
                      · rw [if_pos c167] at H
                        have c167b0 : decide (a3 < 0) = true := decide_eq_true c167
                        clear c167
                        obtain rfl := Option.some.inj H
                        have hnb168 := NB539_526.out
                        have hnc168 := NB526_539.out
                        have hnb169 := NB539_538.out
                        have hnc169 := NB538_539.out
                        obtain ⟨hcz170_0, hcz170_1, hcz170_2, hcz170_3, hcz170_4, hfz170_0, hfz170_1, hfz170_2, hfz170_3, hfz170_4⟩ := cs5 BK539.out
                        have hnb171 := NB538_526.out
                        have hnc171 := NB526_538.out
                        obtain ⟨hcz172_0, hcz172_1, hcz172_2, hcz172_3, hcz172_4, hfz172_0, hfz172_1, hfz172_2, hfz172_3, hfz172_4⟩ := cs5 BK538.out
                        obtain ⟨Ao173, co173, eo173⟩ := RO_slice HO_540004.out
                        subst eo173
                        go_wp2_with (first | ((with_reducible refine gate_callee (f := 34) rfl ?_); refine goesL_ (some 136) rfl rfl Try.func34 (by kernel_rfl) rfl #[.agg #[.int .i64 x540000_2, .int .i64 x540001_2, .int .i64 x540002_2, .int .i64 x540003_2, .slice Ao173 x540004_2.length co173], .agg #[.int .i64 t530, .int .i64 t531, .int .i64 t532, .int .i64 t533, .slice Ao29 t534.length co29]] rfl (by (try simp only [sM]); first | done | rfl | (simp only [sT]; rfl)) ?_; (with_reducible refine (image_Same.calls k2 x540000_2 x540001_2 x540002_2 x540003_2 _ _ x540004_2 t530 t531 t532 t533 _ _ t534 true _ ?side1 ?side2 ?side3 ?side4 A105.out).mono ?_); (case side1 => repeat (first | exact (RO_reads' HO_540004.out).2.2 | (with_reducible refine Kd.C_alloc ?_ _) | (with_reducible refine Kd.C_drewN ?_ _) | (with_reducible refine Kd.C_drew ?_))); (case side2 => exact (RO_reads' HO_540004.out).2.1); (case side3 => repeat (first | exact (RO_reads' HO_539004.out).2.2 | (with_reducible refine Kd.C_alloc ?_ _) | (with_reducible refine Kd.C_drewN ?_ _) | (with_reducible refine Kd.C_drew ?_))); (case side4 => exact (RO_reads' HO_539004.out).2.1); rintro e w174 ⟨rfl, hb⟩; refine ⟨_, rfl, ?_⟩; replace HO_527004 := Aside0.mk (RO_below (by (with_reducible repeat (first | apply RO_alloc | apply RO_drewN | apply RO_drew)); exact HO_527004.out) hb); replace HO_539004 := Aside0.mk (RO_below (by (with_reducible repeat (first | apply RO_alloc | apply RO_drewN | apply RO_drew)); exact HO_539004.out) hb); replace HO_540004 := Aside0.mk (RO_below (by (with_reducible repeat (first | apply RO_alloc | apply RO_drewN | apply RO_drew)); exact HO_540004.out) hb); replace BK526 := kB BK526 hb; replace BK538 := kB BK538 hb; replace BK539 := kB BK539 hb; replace HB := Aside0.mk (below_step (by repeat (first | exact sH HB.out | refine sN (w := w) ?_ | with_reducible refine sG (w := w) ?_ (by assumption))) hb); (try clear hb); (try clear hb2); (try clear hk); (try clear hi); obtain ⟨hcz175_0, hcz175_1, hcz175_2, hcz175_3, hcz175_4, hfz175_0, hfz175_1, hfz175_2, hfz175_3, hfz175_4⟩ := cs5 BK538.out) | ((with_reducible refine gate_callee (f := 16) rfl ?_); refine goesL_ (some 141) rfl rfl Try.func16 (by kernel_rfl) rfl #[.agg #[.int .i64 t530, .int .i64 t531, .int .i64 t532, .int .i64 t533, .slice Ao29 t534.length co29], .int .i64 a3] rfl (by (try simp only [sM]); first | done | rfl | (simp only [sT]; rfl)) ?_; (with_reducible refine (image_Wiped.calls k2 t530 t531 t532 t533 _ _ t534 a3 t558 t559 t560 t561 t562 t565 _ ?side1 ?side2 A107.out).mono ?_); (case side1 => repeat (first | exact (RO_reads' HO_539004.out).2.2 | (with_reducible refine Kd.C_alloc ?_ _) | (with_reducible refine Kd.C_drewN ?_ _) | (with_reducible refine Kd.C_drew ?_))); (case side2 => exact (RO_reads' HO_539004.out).2.1); rintro e w176 ⟨v563, rfl, ho0, hb⟩; refine ⟨_, rfl, ?_⟩; replace HO_527004 := Aside0.mk (RO_below (by (with_reducible repeat (first | apply RO_alloc | apply RO_drewN | apply RO_drew)); exact HO_527004.out) hb); replace HO_539004 := Aside0.mk (RO_below (by (with_reducible repeat (first | apply RO_alloc | apply RO_drewN | apply RO_drew)); exact HO_539004.out) hb); replace HO_540004 := Aside0.mk (RO_below (by (with_reducible repeat (first | apply RO_alloc | apply RO_drewN | apply RO_drew)); exact HO_540004.out) hb); have HO564 := Aside0.mk (RO_lowerR ho0 (below_size (by repeat (first | exact sH HB.out | refine sN (w := w) ?_ | with_reducible refine sG (w := w) ?_ (by assumption))))); replace BK526 := kB BK526 hb; replace BK538 := kB BK538 hb; replace BK539 := kB BK539 hb; replace HB := Aside0.mk (below_step (by repeat (first | exact sH HB.out | refine sN (w := w) ?_ | with_reducible refine sG (w := w) ?_ (by assumption))) hb); (try clear hb); (try clear hb2); (try clear hk); (try clear hi); (try clear ho0)) | ((with_reducible refine gate_dst (N := 19) rfl ?_); (try (refine gate_guard (by rfl) ?_; dsimp only)); refine box_event rfl (N := 19) rfl (cs := #[.int .i64 0, .int .i64 0, .int .i64 0, .int .i64 0, .slice none 0 0]) (t := 27) (by go_simp; try rfl) ?_; intro gb566 hg w177 hbox hb; replace HO_527004 := Aside0.mk (RO_below (by (with_reducible repeat (first | apply RO_alloc | apply RO_drewN | apply RO_drew)); exact HO_527004.out) hb); replace HO_539004 := Aside0.mk (RO_below (by (with_reducible repeat (first | apply RO_alloc | apply RO_drewN | apply RO_drew)); exact HO_539004.out) hb); replace HO_540004 := Aside0.mk (RO_below (by (with_reducible repeat (first | apply RO_alloc | apply RO_drewN | apply RO_drew)); exact HO_540004.out) hb); replace HO564 := Aside0.mk (RO_below (by (with_reducible repeat (first | apply RO_alloc | apply RO_drewN | apply RO_drew)); exact HO564.out) hb); have BK566 := Aside0.mk (hbox); have GW566 := Aside0.mk ((by rw [hg]; exact (below_size (by repeat (first | exact sH HB.out | refine sN (w := w) ?_ | with_reducible refine sG (w := w) ?_ (by assumption)))) : w.heap.size ≤ gb566)); have GE566 := Aside0.mk ((by rw [hg]; exact (below_size (by repeat (first | exact sH HB.out | refine sN (w := w) ?_ | with_reducible refine sG (w := w) ?_ (by assumption)))) : w.heap.size ≤ gb566)); replace HB := Aside0.mk (below_step (by repeat (first | exact sH HB.out | refine sN (w := w) ?_ | with_reducible refine sG (w := w) ?_ (by assumption))) hb); have NB526_566 := Aside0.mk ((by rw [hg]; exact Nat.ne_of_lt (blk_lt (g := gb526) (o := .cells #[.int .i64 a0_0, .int .i64 a0_1, .int .i64 a0_2, .int .i64 a0_3, .slice Ao8 l0_4.length co8] 27 (0, 0)) (by first | exact BK526.out | (refine sO ?_; exact BK526.out))) : gb526 ≠ gb566)); have NB566_526 := Aside0.mk ((by rw [hg]; exact Nat.ne_of_gt (blk_lt (g := gb526) (o := .cells #[.int .i64 a0_0, .int .i64 a0_1, .int .i64 a0_2, .int .i64 a0_3, .slice Ao8 l0_4.length co8] 27 (0, 0)) (by first | exact BK526.out | (refine sO ?_; exact BK526.out))) : gb566 ≠ gb526)); replace BK526 := kB BK526 hb; have NB538_566 := Aside0.mk ((by rw [hg]; exact Nat.ne_of_lt (blk_lt (g := gb538) (o := .cells #[.int .i64 t530, .int .i64 t531, .int .i64 t532, .int .i64 t533, .slice Ao29 t534.length co29] 27 (0, 0)) (by first | exact BK538.out | (refine sO ?_; exact BK538.out))) : gb538 ≠ gb566)); have NB566_538 := Aside0.mk ((by rw [hg]; exact Nat.ne_of_gt (blk_lt (g := gb538) (o := .cells #[.int .i64 t530, .int .i64 t531, .int .i64 t532, .int .i64 t533, .slice Ao29 t534.length co29] 27 (0, 0)) (by first | exact BK538.out | (refine sO ?_; exact BK538.out))) : gb566 ≠ gb538)); replace BK538 := kB BK538 hb; have NB539_566 := Aside0.mk ((by rw [hg]; exact Nat.ne_of_lt (blk_lt (g := gb539) (o := .cells #[.int .i64 x540000_2, .int .i64 x540001_2, .int .i64 x540002_2, .int .i64 x540003_2, .slice Ao173 x540004_2.length co173] 27 (0, 0)) (by first | exact BK539.out | (refine sO ?_; exact BK539.out))) : gb539 ≠ gb566)); have NB566_539 := Aside0.mk ((by rw [hg]; exact Nat.ne_of_gt (blk_lt (g := gb539) (o := .cells #[.int .i64 x540000_2, .int .i64 x540001_2, .int .i64 x540002_2, .int .i64 x540003_2, .slice Ao173 x540004_2.length co173] 27 (0, 0)) (by first | exact BK539.out | (refine sO ?_; exact BK539.out))) : gb566 ≠ gb539)); replace BK539 := kB BK539 hb; clear hb hbox hg; have hnb178 := NB566_526.out; have hnc178 := NB526_566.out; have hnb179 := NB566_538.out; have hnc179 := NB538_566.out; have hnb180 := NB566_539.out; have hnc180 := NB539_566.out; obtain ⟨hcz181_0, hcz181_1, hcz181_2, hcz181_3, hcz181_4, hfz181_0, hfz181_1, hfz181_2, hfz181_3, hfz181_4⟩ := cs5 BK566.out; obtain ⟨Ao182, co182, eo182⟩ := RO_slice HO564.out; subst eo182))
                        go_ret
                        exact ⟨by first | rfl | (simp [errW_none, errW_some] <;> rfl) | (simp [*, errW_none, errW_some] <;> rfl), by repeat (first | exact sH HB.out | refine sN (w := w) ?_ | with_reducible refine sG (w := w) ?_ (by assumption))⟩
                      · rw [if_neg c167] at H
                        have c167b0 : decide (a3 < 0) = false := decide_eq_false c167
                        clear c167
                        obtain rfl := Option.some.inj H
                        have hnb183 := NB539_526.out
                        have hnc183 := NB526_539.out
                        have hnb184 := NB539_538.out
                        have hnc184 := NB538_539.out
                        obtain ⟨hcz185_0, hcz185_1, hcz185_2, hcz185_3, hcz185_4, hfz185_0, hfz185_1, hfz185_2, hfz185_3, hfz185_4⟩ := cs5 BK539.out
                        have hnb186 := NB538_526.out
                        have hnc186 := NB526_538.out
                        obtain ⟨hcz187_0, hcz187_1, hcz187_2, hcz187_3, hcz187_4, hfz187_0, hfz187_1, hfz187_2, hfz187_3, hfz187_4⟩ := cs5 BK538.out
                        obtain ⟨Ao188, co188, eo188⟩ := RO_slice HO_540004.out
                        subst eo188
                        go_wp2_with (first | ((with_reducible refine gate_callee (f := 34) rfl ?_); refine goesL_ (some 136) rfl rfl Try.func34 (by kernel_rfl) rfl #[.agg #[.int .i64 x540000_2, .int .i64 x540001_2, .int .i64 x540002_2, .int .i64 x540003_2, .slice Ao188 x540004_2.length co188], .agg #[.int .i64 t530, .int .i64 t531, .int .i64 t532, .int .i64 t533, .slice Ao29 t534.length co29]] rfl (by (try simp only [sM]); first | done | rfl | (simp only [sT]; rfl)) ?_; (with_reducible refine (image_Same.calls k2 x540000_2 x540001_2 x540002_2 x540003_2 _ _ x540004_2 t530 t531 t532 t533 _ _ t534 true _ ?side1 ?side2 ?side3 ?side4 A105.out).mono ?_); (case side1 => repeat (first | exact (RO_reads' HO_540004.out).2.2 | (with_reducible refine Kd.C_alloc ?_ _) | (with_reducible refine Kd.C_drewN ?_ _) | (with_reducible refine Kd.C_drew ?_))); (case side2 => exact (RO_reads' HO_540004.out).2.1); (case side3 => repeat (first | exact (RO_reads' HO_539004.out).2.2 | (with_reducible refine Kd.C_alloc ?_ _) | (with_reducible refine Kd.C_drewN ?_ _) | (with_reducible refine Kd.C_drew ?_))); (case side4 => exact (RO_reads' HO_539004.out).2.1); rintro e w189 ⟨rfl, hb⟩; refine ⟨_, rfl, ?_⟩; replace HO_527004 := Aside0.mk (RO_below (by (with_reducible repeat (first | apply RO_alloc | apply RO_drewN | apply RO_drew)); exact HO_527004.out) hb); replace HO_539004 := Aside0.mk (RO_below (by (with_reducible repeat (first | apply RO_alloc | apply RO_drewN | apply RO_drew)); exact HO_539004.out) hb); replace HO_540004 := Aside0.mk (RO_below (by (with_reducible repeat (first | apply RO_alloc | apply RO_drewN | apply RO_drew)); exact HO_540004.out) hb); replace BK526 := kB BK526 hb; replace BK538 := kB BK538 hb; replace BK539 := kB BK539 hb; replace HB := Aside0.mk (below_step (by repeat (first | exact sH HB.out | refine sN (w := w) ?_ | with_reducible refine sG (w := w) ?_ (by assumption))) hb); (try clear hb); (try clear hb2); (try clear hk); (try clear hi); obtain ⟨hcz190_0, hcz190_1, hcz190_2, hcz190_3, hcz190_4, hfz190_0, hfz190_1, hfz190_2, hfz190_3, hfz190_4⟩ := cs5 BK538.out) | ((with_reducible refine gate_callee (f := 16) rfl ?_); refine goesL_ (some 141) rfl rfl Try.func16 (by kernel_rfl) rfl #[.agg #[.int .i64 t530, .int .i64 t531, .int .i64 t532, .int .i64 t533, .slice Ao29 t534.length co29], .int .i64 a3] rfl (by (try simp only [sM]); first | done | rfl | (simp only [sT]; rfl)) ?_; (with_reducible refine (image_Wiped.calls k2 t530 t531 t532 t533 _ _ t534 a3 t558 t559 t560 t561 t562 t565 _ ?side1 ?side2 A107.out).mono ?_); (case side1 => repeat (first | exact (RO_reads' HO_539004.out).2.2 | (with_reducible refine Kd.C_alloc ?_ _) | (with_reducible refine Kd.C_drewN ?_ _) | (with_reducible refine Kd.C_drew ?_))); (case side2 => exact (RO_reads' HO_539004.out).2.1); rintro e w191 ⟨v563, rfl, ho0, hb⟩; refine ⟨_, rfl, ?_⟩; replace HO_527004 := Aside0.mk (RO_below (by (with_reducible repeat (first | apply RO_alloc | apply RO_drewN | apply RO_drew)); exact HO_527004.out) hb); replace HO_539004 := Aside0.mk (RO_below (by (with_reducible repeat (first | apply RO_alloc | apply RO_drewN | apply RO_drew)); exact HO_539004.out) hb); replace HO_540004 := Aside0.mk (RO_below (by (with_reducible repeat (first | apply RO_alloc | apply RO_drewN | apply RO_drew)); exact HO_540004.out) hb); have HO564 := Aside0.mk (RO_lowerR ho0 (below_size (by repeat (first | exact sH HB.out | refine sN (w := w) ?_ | with_reducible refine sG (w := w) ?_ (by assumption))))); replace BK526 := kB BK526 hb; replace BK538 := kB BK538 hb; replace BK539 := kB BK539 hb; replace HB := Aside0.mk (below_step (by repeat (first | exact sH HB.out | refine sN (w := w) ?_ | with_reducible refine sG (w := w) ?_ (by assumption))) hb); (try clear hb); (try clear hb2); (try clear hk); (try clear hi); (try clear ho0)) | ((with_reducible refine gate_dst (N := 19) rfl ?_); (try (refine gate_guard (by rfl) ?_; dsimp only)); refine box_event rfl (N := 19) rfl (cs := #[.int .i64 0, .int .i64 0, .int .i64 0, .int .i64 0, .slice none 0 0]) (t := 27) (by go_simp; try rfl) ?_; intro gb566 hg w192 hbox hb; replace HO_527004 := Aside0.mk (RO_below (by (with_reducible repeat (first | apply RO_alloc | apply RO_drewN | apply RO_drew)); exact HO_527004.out) hb); replace HO_539004 := Aside0.mk (RO_below (by (with_reducible repeat (first | apply RO_alloc | apply RO_drewN | apply RO_drew)); exact HO_539004.out) hb); replace HO_540004 := Aside0.mk (RO_below (by (with_reducible repeat (first | apply RO_alloc | apply RO_drewN | apply RO_drew)); exact HO_540004.out) hb); replace HO564 := Aside0.mk (RO_below (by (with_reducible repeat (first | apply RO_alloc | apply RO_drewN | apply RO_drew)); exact HO564.out) hb); have BK566 := Aside0.mk (hbox); have GW566 := Aside0.mk ((by rw [hg]; exact (below_size (by repeat (first | exact sH HB.out | refine sN (w := w) ?_ | with_reducible refine sG (w := w) ?_ (by assumption)))) : w.heap.size ≤ gb566)); have GE566 := Aside0.mk ((by rw [hg]; exact (below_size (by repeat (first | exact sH HB.out | refine sN (w := w) ?_ | with_reducible refine sG (w := w) ?_ (by assumption)))) : w.heap.size ≤ gb566)); replace HB := Aside0.mk (below_step (by repeat (first | exact sH HB.out | refine sN (w := w) ?_ | with_reducible refine sG (w := w) ?_ (by assumption))) hb); have NB526_566 := Aside0.mk ((by rw [hg]; exact Nat.ne_of_lt (blk_lt (g := gb526) (o := .cells #[.int .i64 a0_0, .int .i64 a0_1, .int .i64 a0_2, .int .i64 a0_3, .slice Ao8 l0_4.length co8] 27 (0, 0)) (by first | exact BK526.out | (refine sO ?_; exact BK526.out))) : gb526 ≠ gb566)); have NB566_526 := Aside0.mk ((by rw [hg]; exact Nat.ne_of_gt (blk_lt (g := gb526) (o := .cells #[.int .i64 a0_0, .int .i64 a0_1, .int .i64 a0_2, .int .i64 a0_3, .slice Ao8 l0_4.length co8] 27 (0, 0)) (by first | exact BK526.out | (refine sO ?_; exact BK526.out))) : gb566 ≠ gb526)); replace BK526 := kB BK526 hb; have NB538_566 := Aside0.mk ((by rw [hg]; exact Nat.ne_of_lt (blk_lt (g := gb538) (o := .cells #[.int .i64 t530, .int .i64 t531, .int .i64 t532, .int .i64 t533, .slice Ao29 t534.length co29] 27 (0, 0)) (by first | exact BK538.out | (refine sO ?_; exact BK538.out))) : gb538 ≠ gb566)); have NB566_538 := Aside0.mk ((by rw [hg]; exact Nat.ne_of_gt (blk_lt (g := gb538) (o := .cells #[.int .i64 t530, .int .i64 t531, .int .i64 t532, .int .i64 t533, .slice Ao29 t534.length co29] 27 (0, 0)) (by first | exact BK538.out | (refine sO ?_; exact BK538.out))) : gb566 ≠ gb538)); replace BK538 := kB BK538 hb; have NB539_566 := Aside0.mk ((by rw [hg]; exact Nat.ne_of_lt (blk_lt (g := gb539) (o := .cells #[.int .i64 x540000_2, .int .i64 x540001_2, .int .i64 x540002_2, .int .i64 x540003_2, .slice Ao188 x540004_2.length co188] 27 (0, 0)) (by first | exact BK539.out | (refine sO ?_; exact BK539.out))) : gb539 ≠ gb566)); have NB566_539 := Aside0.mk ((by rw [hg]; exact Nat.ne_of_gt (blk_lt (g := gb539) (o := .cells #[.int .i64 x540000_2, .int .i64 x540001_2, .int .i64 x540002_2, .int .i64 x540003_2, .slice Ao188 x540004_2.length co188] 27 (0, 0)) (by first | exact BK539.out | (refine sO ?_; exact BK539.out))) : gb566 ≠ gb539)); replace BK539 := kB BK539 hb; clear hb hbox hg; have hnb193 := NB566_526.out; have hnc193 := NB526_566.out; have hnb194 := NB566_538.out; have hnc194 := NB538_566.out; have hnb195 := NB566_539.out; have hnc195 := NB539_566.out; obtain ⟨hcz196_0, hcz196_1, hcz196_2, hcz196_3, hcz196_4, hfz196_0, hfz196_1, hfz196_2, hfz196_3, hfz196_4⟩ := cs5 BK566.out; obtain ⟨Ao197, co197, eo197⟩ := RO_slice HO564.out; subst eo197; obtain ⟨hcz198_0, hcz198_1, hcz198_2, hcz198_3, hcz198_4, hfz198_0, hfz198_1, hfz198_2, hfz198_3, hfz198_4⟩ := cs5 BK526.out))
                        go_ret
                        exact ⟨by first | rfl | (simp [errW_none, errW_some] <;> rfl) | (simp [*, errW_none, errW_some] <;> rfl), by repeat (first | exact sH HB.out | refine sN (w := w) ?_ | with_reducible refine sG (w := w) ?_ (by assumption))⟩
                  · replace c106 := Bool.eq_false_iff.mpr c106
                    subst c106
                    have H1 : (none) = some r := by rw [if_neg (show ¬ (false = true) by decide)] at H; exact H
                    clear H
                    have H := H1
                    clear H1
                    exact absurd H (by simp)
          · rw [if_neg c23] at H
            have c23b0 : (t537 == 0) = false := beq_eq_false_iff_ne.mpr c23
            have c23b1 : (t537 != 0) = true := bne_iff_ne.mpr c23
            by_cases c199 : (t534.length : Int) = 0
            · rw [if_pos c199] at H
              have c199b0 : ((t534.length : Int) == 0) = true := beq_iff_eq.mpr c199
              have c199b1 : ((t534.length : Int) != 0) = false := bne_eq_false_iff_eq.mpr c199
              clear c199
              obtain rfl := Option.some.inj H
              obtain ⟨hcz200_0, hcz200_1, hcz200_2, hcz200_3, hcz200_4, hfz200_0, hfz200_1, hfz200_2, hfz200_3, hfz200_4⟩ := cs5 BK526.out
              go_wp2_with (first | ((with_reducible refine gate_callee (f := 13) rfl ?_); refine goesL_ (some 40) rfl rfl Try.func13 (by kernel_rfl) rfl #[.agg #[.int .i64 a0_0, .int .i64 a0_1, .int .i64 a0_2, .int .i64 a0_3, .slice Ao8 l0_4.length co8], .slice A1 l1.length c1, .int .i64 a2] rfl (by (try simp only [sM]); first | done | rfl | (simp only [sT]; rfl)) ?_; (with_reducible refine (image_After.calls kj6 a0_0 a0_1 a0_2 a0_3 _ _ l0_4 _ _ l1 a2 t530 t531 t532 t533 t534 t537 _ ?side1 ?side2 ?side3 ?side4 A22.out).mono ?_); (case side1 => repeat (first | exact (RO_reads' HO_527004.out).2.2 | (with_reducible refine Kd.C_alloc ?_ _) | (with_reducible refine Kd.C_drewN ?_ _) | (with_reducible refine Kd.C_drew ?_))); (case side2 => exact (RO_reads' HO_527004.out).2.1); (case side3 => exact sC (Kd.C_below HR1.out HB.out)); (case side4 => exact HC1.out); rintro e w201 ⟨v535, rfl, ho0, hb⟩; refine ⟨_, rfl, ?_⟩; replace HO_527004 := Aside0.mk (RO_below (by (with_reducible repeat (first | apply RO_alloc | apply RO_drewN | apply RO_drew)); exact HO_527004.out) hb); have HO536 := Aside0.mk (RO_lowerR ho0 (below_size (by repeat (first | exact sH HB.out | refine sN (w := w) ?_ | with_reducible refine sG (w := w) ?_ (by assumption))))); replace BK526 := kB BK526 hb; replace HB := Aside0.mk (below_step (by repeat (first | exact sH HB.out | refine sN (w := w) ?_ | with_reducible refine sG (w := w) ?_ (by assumption))) hb); (try clear hb); (try clear hb2); (try clear hk); (try clear hi); (try clear ho0)) | ((with_reducible refine gate_dst (N := 10) rfl ?_); (try (refine gate_guard (by rfl) ?_; dsimp only)); refine box_event rfl (N := 10) rfl (cs := #[.int .i64 0, .int .i64 0, .int .i64 0, .int .i64 0, .slice none 0 0]) (t := 27) (by go_simp; try rfl) ?_; intro gb538 hg w202 hbox hb; replace HO_527004 := Aside0.mk (RO_below (by (with_reducible repeat (first | apply RO_alloc | apply RO_drewN | apply RO_drew)); exact HO_527004.out) hb); replace HO536 := Aside0.mk (RO_below (by (with_reducible repeat (first | apply RO_alloc | apply RO_drewN | apply RO_drew)); exact HO536.out) hb); have BK538 := Aside0.mk (hbox); have GW538 := Aside0.mk ((by rw [hg]; exact (below_size (by repeat (first | exact sH HB.out | refine sN (w := w) ?_ | with_reducible refine sG (w := w) ?_ (by assumption)))) : w.heap.size ≤ gb538)); have GE538 := Aside0.mk ((by rw [hg]; exact (below_size (by repeat (first | exact sH HB.out | refine sN (w := w) ?_ | with_reducible refine sG (w := w) ?_ (by assumption)))) : w.heap.size ≤ gb538)); replace HB := Aside0.mk (below_step (by repeat (first | exact sH HB.out | refine sN (w := w) ?_ | with_reducible refine sG (w := w) ?_ (by assumption))) hb); have NB526_538 := Aside0.mk ((by rw [hg]; exact Nat.ne_of_lt (blk_lt (g := gb526) (o := .cells #[.int .i64 a0_0, .int .i64 a0_1, .int .i64 a0_2, .int .i64 a0_3, .slice Ao8 l0_4.length co8] 27 (0, 0)) (by first | exact BK526.out | (refine sO ?_; exact BK526.out))) : gb526 ≠ gb538)); have NB538_526 := Aside0.mk ((by rw [hg]; exact Nat.ne_of_gt (blk_lt (g := gb526) (o := .cells #[.int .i64 a0_0, .int .i64 a0_1, .int .i64 a0_2, .int .i64 a0_3, .slice Ao8 l0_4.length co8] 27 (0, 0)) (by first | exact BK526.out | (refine sO ?_; exact BK526.out))) : gb538 ≠ gb526)); replace BK526 := kB BK526 hb; clear hb hbox hg; have hnb203 := NB538_526.out; have hnc203 := NB526_538.out; obtain ⟨hcz204_0, hcz204_1, hcz204_2, hcz204_3, hcz204_4, hfz204_0, hfz204_1, hfz204_2, hfz204_3, hfz204_4⟩ := cs5 BK538.out; obtain ⟨Ao205, co205, eo205⟩ := RO_slice HO536.out; subst eo205))
              go_ret
              exact ⟨by first | rfl | (simp [errW_none, errW_some] <;> rfl) | (simp [*, errW_none, errW_some] <;> rfl), by repeat (first | exact sH HB.out | refine sN (w := w) ?_ | with_reducible refine sG (w := w) ?_ (by assumption))⟩
            · rw [if_neg c199] at H
              exact absurd H (by simp)
  · replace c6 := Bool.eq_false_iff.mpr c6
    subst c6
    have H1 : (none) = some r := by rw [if_neg (show ¬ (false = true) by decide)] at H; exact H
    clear H
    have H := H1
    clear H1
    exact absurd H (by simp)

end Go.Proofs.Ytcnmocbiekfpbaa.P

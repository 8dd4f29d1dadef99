-- Written by a program of this session, after the kit's print.
import Derived.Test.YtcnmocbiekfpbaaPx0
import Derived.Test.YtcnmocbiekfpbaaP0Short
import Derived.Test.YtcnmocbiekfpbaaPx1
import Derived.Test.YtcnmocbiekfpbaaPx20
namespace Go.Proofs.Ytcnmocbiekfpbaa.P
open Go.RowKit Go.Proofs.YtcnmocbiekfpbaaW.PrintWords Go.Proofs.YtcnmocbiekfpbaaW.PrintLast Go.Proofs.YtcnmocbiekfpbaaW.PrintMore
attribute [local go_sem] max2_int min2_int max_two min_two max_three min_three max_four min_four   -- for this text's walks alone
set_option linter.unusedVariables false
set_option linter.unusedSimpArgs false

attribute [local go_sem high] eqA24
def twoslotref09_Diff.l0 : Nat → List (S35) → Int → Int → Int → Int → Int → List (List Int) → Int → Int → Int → Int → List (List Int) → Option ((List (S35)) × Int)
 | 0, _, _, _, _, _, _, _, _, _, _, _, _ => none
 | k + 1, x7, x8, x507000, x507001, x507002, x507003, x507004, x508000, x508001, x508002, x508003, x508004 => if x8 < (x507004.length : Int) then (if 0 ≤ x8 then (if x8 < (x508004.length : Int) then (if (strOfNums (rd_L1 x507004 x8)).toList = (strOfNums (rd_L1 x508004 x8)).toList then (twoslotref09_Diff.l0 k x7 (wrap64 (x8 + 1)) x507000 x507001 x507002 x507003 x507004 x508000 x508001 x508002 x508003 x508004) else (if ((rd_L1 x508004 x8).length : Int) = 0 then (some (([] : List (S35)), 90)) else (if x507003 = 0 then (none) else (if ([] : List Int).length + (rd_L1 x508004 x8).length < 140737488355328 then (if x7.length < 2932031007402 then (twoslotref09_Diff.l0 k (x7 ++ [(⟨wrap64 (Int.tdiv (wrap64 (Int.tdiv x8 2)) x507003), Int.tmod (wrap64 (Int.tdiv x8 2)) x507003, Int.tmod x8 2, (([] : List Int) ++ (rd_L1 x508004 x8))⟩ : S35)]) (wrap64 (x8 + 1)) x507000 x507001 x507002 x507003 x507004 x508000 x508001 x508002 x508003 x508004) else (none)) else (none))))) else (none)) else (none)) else (some (x7, 0))
def twoslotref09_Diff.f (k : Nat) (a0_0 : Int) (a0_1 : Int) (a0_2 : Int) (a0_3 : Int) (l0_4 : List (List Int)) (a1_0 : Int) (a1_1 : Int) (a1_2 : Int) (a1_3 : Int) (l1_4 : List (List Int)) : Option ((List (S35)) × Int) := (twoslotref09_Check.f k a0_0 a0_1 a0_2 a0_3 l0_4).bind fun t508 => (if t508 = 0 then ((twoslotref09_Check.f k a1_0 a1_1 a1_2 a1_3 l1_4).bind fun t509 => (if t509 = 0 then (if (!(a0_0 == a1_0) || (!(a0_1 == a1_1) || (!(a0_2 == a1_2) || (!(a0_3 == a1_3))))) = true then (some (([] : List (S35)), 90)) else (twoslotref09_Diff.l0 k ([] : List (S35)) 0 a0_0 a0_1 a0_2 a0_3 l0_4 a1_0 a1_1 a1_2 a1_3 l1_4)) else (some (([] : List (S35)), t509)))) else (some (([] : List (S35)), t508)))
def twoslotref09_Diff.T13 : Bool × List (List Nat × List Nat) := (true, [([], []), ([0], [0]), ([], []), ([1, 2], [1, 2]), ([3], [3]), ([4], [4]), ([], []), ([6], [6]), ([], []), ([7, 8], [7, 8]), ([9], [9]), ([10], [10]), ([5, 11], [5, 11])])
def twoslotref09_Diff.B13 : List Nat := [0, 1, 0, 7, 15, 31, 0, 64, 0, 448, 960, 1984, 4095]
theorem twoslotref09_Diff.tab13 : rtab .any (opsOf Try.f31 13) = twoslotref09_Diff.T13 := by kernel_rfl
theorem twoslotref09_Diff.bits13 : waitsOk twoslotref09_Diff.T13.2 twoslotref09_Diff.B13 = true := by kernel_rfl
def twoslotref09_Diff.T17 : Bool × List (List Nat × List Nat) := (true, [([], []), ([], []), ([1], [1]), ([], []), ([3], [3]), ([4], [4]), ([2, 5], [2, 5]), ([], []), ([7], [7]), ([], []), ([9], [9]), ([10], [10]), ([8, 11], [8, 11]), ([], []), ([13], [13]), ([], []), ([], []), ([16], [16]), ([], []), ([17, 18], [17, 18]), ([19], [19]), ([15, 20], [15, 20]), ([6, 12, 14, 21], [6, 12, 14, 21]), ([22], [22]), ([0, 23, 21], [0, 23]), ([24, 24, 0, 1, 2, 3, 4, 5, 6, 7, 8, 9, 10, 11, 12, 13, 14, 15, 16, 17, 18, 19, 20, 21, 22, 23, 24], [0, 24])])
def twoslotref09_Diff.B17 : List Nat := [0, 0, 2, 0, 8, 24, 62, 0, 128, 0, 512, 1536, 3968, 0, 8192, 0, 0, 65536, 0, 458752, 983040, 2064384, 4194302, 8388606, 16777215, 33554431]
theorem twoslotref09_Diff.tab17 : rtab .any (opsOf Try.f31 17) = twoslotref09_Diff.T17 := by kernel_rfl
theorem twoslotref09_Diff.bits17 : waitsOk twoslotref09_Diff.T17.2 twoslotref09_Diff.B17 = true := by kernel_rfl
set_option maxHeartbeats 8000000 in
set_option maxRecDepth 100000 in
theorem twoslotref09_Diff.calls (k : Nat) (a0_0 : Int) (a0_1 : Int) (a0_2 : Int) (a0_3 : Int) (A0_4 : Option Addr) (c0_4 : Nat) (l0_4 : List (List Int)) (a1_0 : Int) (a1_1 : Int) (a1_2 : Int) (a1_3 : Int) (A1_4 : Option Addr) (c1_4 : Nat) (l1_4 : List (List Int)) (r1 : List (S35)) (r2 : Int) (w : World) (hr0_4 : Kd.C (Kd.slice 5 (Kd.int .u8)) w A0_4 l0_4.length l0_4) (hc0_4 : l0_4.length ≤ c0_4) (hr1_4 : Kd.C (Kd.slice 5 (Kd.int .u8)) w A1_4 l1_4.length l1_4) (hc1_4 : l1_4.length ≤ c1_4) (h : twoslotref09_Diff.f k a0_0 a0_1 a0_2 a0_3 l0_4 a1_0 a1_1 a1_2 a1_3 l1_4 = some (r1, r2)) :
  Calls Try.prog 31 #[.agg #[.int .i64 a0_0, .int .i64 a0_1, .int .i64 a0_2, .int .i64 a0_3, .slice A0_4 l0_4.length c0_4], .agg #[.int .i64 a1_0, .int .i64 a1_1, .int .i64 a1_2, .int .i64 a1_3, .slice A1_4 l1_4.length c1_4]] w fun e w' => ∃ v0_ : Value, e = .returned (.tuple #[v0_, .int .i64 r2]) ∧ Kd.S k35 35 w' w.heap.size (fun _ => True) v0_ r1 ∧ Below w.heap.size w w' := by
 have hu27 := Try.underlying27
 have hu24 := Try.underlying24
 have hu35 := Try.underlying35
 have HR0_4 := Aside0.mk hr0_4
 have HC0_4 := Aside0.mk hc0_4
 clear hr0_4 hc0_4
 have HR1_4 := Aside0.mk hr1_4
 have HC1_4 := Aside0.mk hc1_4
 clear hr1_4 hc1_4
 have HB := Aside0.mk (Below.refl w.heap.size w)
 have H : ((twoslotref09_Check.f k a0_0 a0_1 a0_2 a0_3 l0_4).bind fun t508 => (if t508 = 0 then ((twoslotref09_Check.f k a1_0 a1_1 a1_2 a1_3 l1_4).bind fun t509 => (if t509 = 0 then (if (!(a0_0 == a1_0) || (!(a0_1 == a1_1) || (!(a0_2 == a1_2) || (!(a0_3 == a1_3))))) = true then (some (([] : List (S35)), 90)) else (twoslotref09_Diff.l0 k ([] : List (S35)) 0 a0_0 a0_1 a0_2 a0_3 l0_4 a1_0 a1_1 a1_2 a1_3 l1_4)) else (some (([] : List (S35)), t509)))) else (some (([] : List (S35)), t508)))) = some (r1, r2) := h
 clear h
 replace H := Option.bind_eq_some_iff.mp H
 obtain ⟨t508, A30, H⟩ := H
 try dsimp only at H
 have A3 := Aside0.mk A30
 clear A30
 by_cases c4 : t508 = 0
 ·
  rw [if_pos c4] at H
  have c4b0 : (t508 == 0) = true := beq_iff_eq.mpr c4
  have c4b1 : (t508 != 0) = false := bne_eq_false_iff_eq.mpr c4
  clear c4
  replace H := Option.bind_eq_some_iff.mp H
  obtain ⟨t509, A50, H⟩ := H
  try dsimp only at H
  have A5 := Aside0.mk A50
  clear A50
  by_cases c6 : t509 = 0
  ·
   rw [if_pos c6] at H
   have c6b0 : (t509 == 0) = true := beq_iff_eq.mpr c6
   have c6b1 : (t509 != 0) = false := bne_eq_false_iff_eq.mpr c6
   clear c6
   by_cases c7 : (!(a0_0 == a1_0) || (!(a0_1 == a1_1) || (!(a0_2 == a1_2) || (!(a0_3 == a1_3))))) = true
   ·
    rw [if_pos c7] at H
    have c7b0 : (!(a0_0 == a1_0) || (!(a0_1 == a1_1) || (!(a0_2 == a1_2) || (!(a0_3 == a1_3))))) = true := c7
    clear c7
    simp only [Option.some.injEq, Prod.mk.injEq] at H
    obtain ⟨rfl, rfl⟩ := H
    go_enter Try.func31, Try.ntmps31
    go_wp2_with (first | ((with_reducible refine gate_dst (N := 2) rfl ?_); refine box_event rfl (N := 2) rfl (cs := #[.int .i64 a0_0, .int .i64 a0_1, .int .i64 a0_2, .int .i64 a0_3, .slice A0_4 l0_4.length c0_4]) (t := 27) (by go_simp; try rfl) ?_; intro gb506 hg w8 hbox hb; have BK506 := Aside0.mk (hbox); have GW506 := Aside0.mk ((by rw [hg]; exact (sZ HB) : w.heap.size ≤ gb506)); have GE506 := Aside0.mk ((by rw [hg]; exact (sZ HB) : w.heap.size ≤ gb506)); replace HB := kH HB hb; clear hb hbox hg) | ((with_reducible refine gate_dst (N := 3) rfl ?_); refine box_event rfl (N := 3) rfl (cs := #[.int .i64 a1_0, .int .i64 a1_1, .int .i64 a1_2, .int .i64 a1_3, .slice A1_4 l1_4.length c1_4]) (t := 27) (by go_simp; try rfl) ?_; intro gb507 hg w9 hbox hb; have BK507 := Aside0.mk (hbox); have GW507 := Aside0.mk ((by rw [hg]; exact (below_size (by repeat (first | exact sH HB.out | refine sN (w := w) ?_ | with_reducible refine sG (w := w) ?_ (by assumption)))) : w.heap.size ≤ gb507)); have GE507 := Aside0.mk ((by rw [hg]; exact (below_size (by repeat (first | exact sH HB.out | refine sN (w := w) ?_ | with_reducible refine sG (w := w) ?_ (by assumption)))) : w.heap.size ≤ gb507)); replace HB := Aside0.mk (below_step (by repeat (first | exact sH HB.out | refine sN (w := w) ?_ | with_reducible refine sG (w := w) ?_ (by assumption))) hb); have NB506_507 := Aside0.mk ((by rw [hg]; exact Nat.ne_of_lt (blk_lt (g := gb506) (o := .cells #[.int .i64 a0_0, .int .i64 a0_1, .int .i64 a0_2, .int .i64 a0_3, .slice A0_4 l0_4.length c0_4] 27 (0, 0)) (by first | exact BK506.out | (refine sO ?_; exact BK506.out))) : gb506 ≠ gb507)); have NB507_506 := Aside0.mk ((by rw [hg]; exact Nat.ne_of_gt (blk_lt (g := gb506) (o := .cells #[.int .i64 a0_0, .int .i64 a0_1, .int .i64 a0_2, .int .i64 a0_3, .slice A0_4 l0_4.length c0_4] 27 (0, 0)) (by first | exact BK506.out | (refine sO ?_; exact BK506.out))) : gb507 ≠ gb506)); replace BK506 := kB BK506 hb; clear hb hbox hg; have hnb10 := NB506_507.out; have hnc10 := NB507_506.out; obtain ⟨hcz11_0, hcz11_1, hcz11_2, hcz11_3, hcz11_4, hfz11_0, hfz11_1, hfz11_2, hfz11_3, hfz11_4⟩ := cs5 BK506.out) | ((with_reducible refine gate_callee (f := 27) rfl ?_); refine goesL_ (some 11) rfl rfl Try.func27 (by kernel_rfl) rfl #[.agg #[.int .i64 a0_0, .int .i64 a0_1, .int .i64 a0_2, .int .i64 a0_3, .slice A0_4 l0_4.length c0_4]] rfl (by (try simp only [sM]); first | done | rfl | (simp only [sT]; rfl)) ?_; (with_reducible refine (twoslotref09_Check.calls k a0_0 a0_1 a0_2 a0_3 _ _ l0_4 t508 _ ?side1 ?side2 A3.out).mono ?_); (case side1 => exact sC (Kd.C_below HR0_4.out HB.out)); (case side2 => exact HC0_4.out); rintro e w12 ⟨rfl, hb⟩; refine ⟨_, rfl, ?_⟩; replace BK506 := kB BK506 hb; replace BK507 := kB BK507 hb; replace HB := Aside0.mk (below_step (by repeat (first | exact sH HB.out | refine sN (w := w) ?_ | with_reducible refine sG (w := w) ?_ (by assumption))) hb); (try clear hb); (try clear hb2); (try clear hk); (try clear hi); obtain ⟨hcz13_0, hcz13_1, hcz13_2, hcz13_3, hcz13_4, hfz13_0, hfz13_1, hfz13_2, hfz13_3, hfz13_4⟩ := cs5 BK507.out) | ((with_reducible refine gate_callee (f := 27) rfl ?_); refine goesL_ (some 16) rfl rfl Try.func27 (by kernel_rfl) rfl #[.agg #[.int .i64 a1_0, .int .i64 a1_1, .int .i64 a1_2, .int .i64 a1_3, .slice A1_4 l1_4.length c1_4]] rfl (by (try simp only [sM]); first | done | rfl | (simp only [sT]; rfl)) ?_; (with_reducible refine (twoslotref09_Check.calls k a1_0 a1_1 a1_2 a1_3 _ _ l1_4 t509 _ ?side1 ?side2 A5.out).mono ?_); (case side1 => exact sC (Kd.C_below HR1_4.out HB.out)); (case side2 => exact HC1_4.out); rintro e w14 ⟨rfl, hb⟩; refine ⟨_, rfl, ?_⟩; replace BK506 := kB BK506 hb; replace BK507 := kB BK507 hb; replace HB := Aside0.mk (below_step (by repeat (first | exact sH HB.out | refine sN (w := w) ?_ | with_reducible refine sG (w := w) ?_ (by assumption))) hb); (try clear hb); (try clear hb2); (try clear hk); (try clear hi); obtain ⟨hcz15_0, hcz15_1, hcz15_2, hcz15_3, hcz15_4, hfz15_0, hfz15_1, hfz15_2, hfz15_3, hfz15_4⟩ := cs5 BK506.out; obtain ⟨hcz16_0, hcz16_1, hcz16_2, hcz16_3, hcz16_4, hfz16_0, hfz16_1, hfz16_2, hfz16_3, hfz16_4⟩ := cs5 BK507.out))
    go_ret2
    exact ⟨_, by first | rfl | (simp [errW_none, errW_some] <;> rfl) | (simp [*, errW_none, errW_some] <;> rfl), by first | exact Kd.S_nil _ _ _ _ _ | exact Kd.N_nil _ _ _ _ _ | exact Kd.V_nil _ _ _ _ _ | exact Kd.Q_nil _ _ _ _ _ | exact Kd.R_nil _ _ _ _ _, by repeat (first | exact sH HB.out | refine sN (w := w) ?_ | with_reducible refine sG (w := w) ?_ (by assumption))⟩
   ·
    rw [if_neg c7] at H
    have c7b0 : (!(a0_0 == a1_0) || (!(a0_1 == a1_1) || (!(a0_2 == a1_2) || (!(a0_3 == a1_3))))) = false := by simpa using c7
    clear c7
    have H' := Aside0.mk H
    clear H
    go_enter Try.func31, Try.ntmps31
    go_wp2_with (first | ((with_reducible refine gate_dst (N := 2) rfl ?_); refine box_event rfl (N := 2) rfl (cs := #[.int .i64 a0_0, .int .i64 a0_1, .int .i64 a0_2, .int .i64 a0_3, .slice A0_4 l0_4.length c0_4]) (t := 27) (by go_simp; try rfl) ?_; intro gb506 hg w17 hbox hb; have BK506 := Aside0.mk (hbox); have GW506 := Aside0.mk ((by rw [hg]; exact (sZ HB) : w.heap.size ≤ gb506)); have GE506 := Aside0.mk ((by rw [hg]; exact (sZ HB) : w.heap.size ≤ gb506)); replace HB := kH HB hb; clear hb hbox hg) | ((with_reducible refine gate_dst (N := 3) rfl ?_); refine box_event rfl (N := 3) rfl (cs := #[.int .i64 a1_0, .int .i64 a1_1, .int .i64 a1_2, .int .i64 a1_3, .slice A1_4 l1_4.length c1_4]) (t := 27) (by go_simp; try rfl) ?_; intro gb507 hg w18 hbox hb; have BK507 := Aside0.mk (hbox); have GW507 := Aside0.mk ((by rw [hg]; exact (below_size (by repeat (first | exact sH HB.out | refine sN (w := w) ?_ | with_reducible refine sG (w := w) ?_ (by assumption)))) : w.heap.size ≤ gb507)); have GE507 := Aside0.mk ((by rw [hg]; exact (below_size (by repeat (first | exact sH HB.out | refine sN (w := w) ?_ | with_reducible refine sG (w := w) ?_ (by assumption)))) : w.heap.size ≤ gb507)); replace HB := Aside0.mk (below_step (by repeat (first | exact sH HB.out | refine sN (w := w) ?_ | with_reducible refine sG (w := w) ?_ (by assumption))) hb); have NB506_507 := Aside0.mk ((by rw [hg]; exact Nat.ne_of_lt (blk_lt (g := gb506) (o := .cells #[.int .i64 a0_0, .int .i64 a0_1, .int .i64 a0_2, .int .i64 a0_3, .slice A0_4 l0_4.length c0_4] 27 (0, 0)) (by first | exact BK506.out | (refine sO ?_; exact BK506.out))) : gb506 ≠ gb507)); have NB507_506 := Aside0.mk ((by rw [hg]; exact Nat.ne_of_gt (blk_lt (g := gb506) (o := .cells #[.int .i64 a0_0, .int .i64 a0_1, .int .i64 a0_2, .int .i64 a0_3, .slice A0_4 l0_4.length c0_4] 27 (0, 0)) (by first | exact BK506.out | (refine sO ?_; exact BK506.out))) : gb507 ≠ gb506)); replace BK506 := kB BK506 hb; clear hb hbox hg; have hnb19 := NB506_507.out; have hnc19 := NB507_506.out; obtain ⟨hcz20_0, hcz20_1, hcz20_2, hcz20_3, hcz20_4, hfz20_0, hfz20_1, hfz20_2, hfz20_3, hfz20_4⟩ := cs5 BK506.out) | ((with_reducible refine gate_callee (f := 27) rfl ?_); refine goesL_ (some 11) rfl rfl Try.func27 (by kernel_rfl) rfl #[.agg #[.int .i64 a0_0, .int .i64 a0_1, .int .i64 a0_2, .int .i64 a0_3, .slice A0_4 l0_4.length c0_4]] rfl (by (try simp only [sM]); first | done | rfl | (simp only [sT]; rfl)) ?_; (with_reducible refine (twoslotref09_Check.calls k a0_0 a0_1 a0_2 a0_3 _ _ l0_4 t508 _ ?side1 ?side2 A3.out).mono ?_); (case side1 => exact sC (Kd.C_below HR0_4.out HB.out)); (case side2 => exact HC0_4.out); rintro e w21 ⟨rfl, hb⟩; refine ⟨_, rfl, ?_⟩; replace BK506 := kB BK506 hb; replace BK507 := kB BK507 hb; replace HB := Aside0.mk (below_step (by repeat (first | exact sH HB.out | refine sN (w := w) ?_ | with_reducible refine sG (w := w) ?_ (by assumption))) hb); (try clear hb); (try clear hb2); (try clear hk); (try clear hi); obtain ⟨hcz22_0, hcz22_1, hcz22_2, hcz22_3, hcz22_4, hfz22_0, hfz22_1, hfz22_2, hfz22_3, hfz22_4⟩ := cs5 BK507.out) | ((with_reducible refine gate_callee (f := 27) rfl ?_); refine goesL_ (some 16) rfl rfl Try.func27 (by kernel_rfl) rfl #[.agg #[.int .i64 a1_0, .int .i64 a1_1, .int .i64 a1_2, .int .i64 a1_3, .slice A1_4 l1_4.length c1_4]] rfl (by (try simp only [sM]); first | done | rfl | (simp only [sT]; rfl)) ?_; (with_reducible refine (twoslotref09_Check.calls k a1_0 a1_1 a1_2 a1_3 _ _ l1_4 t509 _ ?side1 ?side2 A5.out).mono ?_); (case side1 => exact sC (Kd.C_below HR1_4.out HB.out)); (case side2 => exact HC1_4.out); rintro e w23 ⟨rfl, hb⟩; refine ⟨_, rfl, ?_⟩; replace BK506 := kB BK506 hb; replace BK507 := kB BK507 hb; replace HB := Aside0.mk (below_step (by repeat (first | exact sH HB.out | refine sN (w := w) ?_ | with_reducible refine sG (w := w) ?_ (by assumption))) hb); (try clear hb); (try clear hb2); (try clear hk); (try clear hi); obtain ⟨hcz24_0, hcz24_1, hcz24_2, hcz24_3, hcz24_4, hfz24_0, hfz24_1, hfz24_2, hfz24_3, hfz24_4⟩ := cs5 BK506.out; obtain ⟨hcz25_0, hcz25_1, hcz25_2, hcz25_3, hcz25_4, hfz25_0, hfz25_1, hfz25_2, hfz25_3, hfz25_4⟩ := cs5 BK507.out))
    go_loopg [7, 8] k (fun kq v7 v8 w' => ∃ (x7_1 : List (S35)) (x8_1 : Int), v8 = .int .i64 x8_1 ∧ Aside0 (twoslotref09_Diff.l0 kq x7_1 x8_1 a0_0 a0_1 a0_2 a0_3 l0_4 a1_0 a1_1 a1_2 a1_3 l1_4 = some (r1, r2)) ∧ Aside0 (kq ≤ k) ∧ Aside0 (Kd.S k35 35 w' w.heap.size (fun _ => True) v7 x7_1) ∧ Aside0 (w'.heap[gb506]? = some (.cells #[.int .i64 a0_0, .int .i64 a0_1, .int .i64 a0_2, .int .i64 a0_3, (.slice A0_4 l0_4.length c0_4)] 27 (0, 0))) ∧ Aside0 (w'.heap[gb507]? = some (.cells #[.int .i64 a1_0, .int .i64 a1_1, .int .i64 a1_2, .int .i64 a1_3, (.slice A1_4 l1_4.length c1_4)] 27 (0, 0))) ∧ Aside0 (Below w.heap.size w w'))
    case atStart => exact ⟨(([] : List (S35))), (0), (by first | rfl | (simp; done) | (simp [*]; done)), H', ⟨Nat.le_refl _⟩, ⟨by first | exact Kd.S_nil _ _ _ _ _ | exact Kd.N_nil _ _ _ _ _ | exact Kd.V_nil _ _ _ _ _ | exact Kd.Q_nil _ _ _ _ _ | exact Kd.R_nil _ _ _ _ _⟩, ⟨by (try refine sO ?_); exact BK506.out⟩, ⟨by (try refine sO ?_); exact BK507.out⟩, ⟨by repeat (first | exact sH HB.out | refine sN (w := w) ?_ | with_reducible refine sG (w := w) ?_ (by assumption))⟩⟩
    case round =>
     clear H'
     try clear c1
     try clear c2
     try clear p2
     try clear c3
     try clear c4
     try clear c4b0
     try clear c4b1
     try clear c6
     try clear c6b0
     try clear c6b1
     try clear c7
     try clear c7b0
     try clear c10
     try clear c19
     try clear hcz11_0
     try clear hcz11_1
     try clear hcz11_2
     try clear hcz11_3
     try clear hcz11_4
     try clear hcz13_0
     try clear hcz13_1
     try clear hcz13_2
     try clear hcz13_3
     try clear hcz13_4
     try clear hcz15_0
     try clear hcz15_1
     try clear hcz15_2
     try clear hcz15_3
     try clear hcz15_4
     try clear hcz16_0
     try clear hcz16_1
     try clear hcz16_2
     try clear hcz16_3
     try clear hcz16_4
     try clear hcz20_0
     try clear hcz20_1
     try clear hcz20_2
     try clear hcz20_3
     try clear hcz20_4
     try clear hcz22_0
     try clear hcz22_1
     try clear hcz22_2
     try clear hcz22_3
     try clear hcz22_4
     try clear hcz24_0
     try clear hcz24_1
     try clear hcz24_2
     try clear hcz24_3
     try clear hcz24_4
     try clear hcz25_0
     try clear hcz25_1
     try clear hcz25_2
     try clear hcz25_3
     try clear hcz25_4
     try clear hfz11_0
     try clear hfz11_1
     try clear hfz11_2
     try clear hfz11_3
     try clear hfz11_4
     try clear hfz13_0
     try clear hfz13_1
     try clear hfz13_2
     try clear hfz13_3
     try clear hfz13_4
     try clear hfz15_0
     try clear hfz15_1
     try clear hfz15_2
     try clear hfz15_3
     try clear hfz15_4
     try clear hfz16_0
     try clear hfz16_1
     try clear hfz16_2
     try clear hfz16_3
     try clear hfz16_4
     try clear hfz20_0
     try clear hfz20_1
     try clear hfz20_2
     try clear hfz20_3
     try clear hfz20_4
     try clear hfz22_0
     try clear hfz22_1
     try clear hfz22_2
     try clear hfz22_3
     try clear hfz22_4
     try clear hfz24_0
     try clear hfz24_1
     try clear hfz24_2
     try clear hfz24_3
     try clear hfz24_4
     try clear hfz25_0
     try clear hfz25_1
     try clear hfz25_2
     try clear hfz25_3
     try clear hfz25_4
     obtain ⟨x7_1, x8_1, rfl, HA, HK1, HO_7, BK506, BK507, HB⟩ := hrel
     cases gk with
     | zero => exact absurd HA.out (by simp [twoslotref09_Diff.l0])
     | succ k1 =>
      have H := HA.out
      clear HA
      simp only [twoslotref09_Diff.l0] at H
      by_cases c26 : x8_1 < (l0_4.length : Int)
      ·
       rw [if_pos c26] at H
       have c26b0 : decide (x8_1 < (l0_4.length : Int)) = true := decide_eq_true c26
       clear c26
       by_cases c27 : 0 ≤ x8_1
       ·
        rw [if_pos c27] at H
        have c27b0 : decide (0 ≤ x8_1) = true := decide_eq_true c27
        clear c27
        by_cases c28 : x8_1 < (l1_4.length : Int)
        ·
         rw [if_pos c28] at H
         have c28b0 : decide (x8_1 < (l1_4.length : Int)) = true := decide_eq_true c28
         clear c28
         by_cases c29 : (strOfNums (rd_L1 l0_4 x8_1)).toList = (strOfNums (rd_L1 l1_4 x8_1)).toList
         ·
          rw [if_pos c29] at H
          have c29b0 : ((strOfNums (rd_L1 l0_4 x8_1)).toList == (strOfNums (rd_L1 l1_4 x8_1)).toList) = true := beq_iff_eq.mpr c29
          have c29b1 : ((strOfNums (rd_L1 l0_4 x8_1)).toList != (strOfNums (rd_L1 l1_4 x8_1)).toList) = false := bne_eq_false_iff_eq.mpr c29
          clear c29
          have H' := Aside0.mk H
          clear H
          have hnb30 := NB506_507.out
          have hnc30 := NB507_506.out
          obtain ⟨hcz31_0, hcz31_1, hcz31_2, hcz31_3, hcz31_4, hfz31_0, hfz31_1, hfz31_2, hfz31_3, hfz31_4⟩ := cs5 BK506.out
          try go_wp2
          replace HO_7 := Aside0.mk (Kd.S_drew HO_7.out); replace BK506 := Aside0.mk (blk_drew BK506.out); replace BK507 := Aside0.mk (blk_drew BK507.out); replace HB := Aside0.mk (below_drew1 HB.out)
          have p510 : 0 ≤ (x8_1 : Int) := of_decide_eq_true (by first | (with_reducible assumption) | assumption)
          have q510 : x8_1 < (l0_4.length : Int) := of_decide_eq_true (by first | (with_reducible assumption) | assumption)
          obtain ⟨ad510, A510_0, c510_0, e510, hx510_0, hl510_0, hi510_0⟩ := at_L1 HR0_4.out x8_1 p510 q510
          have hw510_0 := hx510_0
          cases e510
          replace hx510_0 := (HB.out.cell (World.block_lt_of_cell? w _ hx510_0)).trans hx510_0
          have HR510_0 := Aside0.mk hi510_0
          have HC510_0 := Aside0.mk hl510_0
          clear hi510_0 hl510_0
          replace p510 := eq_true p510
          replace q510 := eq_true q510
          have p511 : 0 ≤ (x8_1 : Int) := of_decide_eq_true (by first | (with_reducible assumption) | assumption)
          have q511 : x8_1 < (l1_4.length : Int) := of_decide_eq_true (by first | (with_reducible assumption) | assumption)
          obtain ⟨ad511, A511_0, c511_0, e511, hx511_0, hl511_0, hi511_0⟩ := at_L1 HR1_4.out x8_1 p511 q511
          have hw511_0 := hx511_0
          cases e511
          replace hx511_0 := (HB.out.cell (World.block_lt_of_cell? w _ hx511_0)).trans hx511_0
          have HR511_0 := Aside0.mk hi511_0
          have HC511_0 := Aside0.mk hl511_0
          clear hi511_0 hl511_0
          replace p511 := eq_true p511
          replace q511 := eq_true q511
          refine start_ (n := 13) (S := fun w' => w'.cell? ⟨gb506, 0, none⟩ = some (.int .i64 a0_0) ∧ w'.cell? ⟨gb506, 1, none⟩ = some (.int .i64 a0_1) ∧ w'.cell? ⟨gb506, 2, none⟩ = some (.int .i64 a0_2) ∧ w'.cell? ⟨gb506, 3, none⟩ = some (.int .i64 a0_3) ∧ w'.cell? ⟨gb506, 4, none⟩ = some (.slice (some ad510) l0_4.length c0_4) ∧ w'.cell? ⟨gb507, 0, none⟩ = some (.int .i64 a1_0) ∧ w'.cell? ⟨gb507, 1, none⟩ = some (.int .i64 a1_1) ∧ w'.cell? ⟨gb507, 2, none⟩ = some (.int .i64 a1_2) ∧ w'.cell? ⟨gb507, 3, none⟩ = some (.int .i64 a1_3) ∧ w'.cell? ⟨gb507, 4, none⟩ = some (.slice (some ad511) l1_4.length c1_4) ∧ w'.cell? (ad510.add (x8_1).toNat) = some (.slice A510_0 (rd_L1 l0_4 x8_1).length c510_0) ∧ w'.cell? (ad511.add (x8_1).toNat) = some (.slice A511_0 (rd_L1 l1_4 x8_1).length c511_0) ∧ Sem.run Try.prog (convert 33 9 (.slice A510_0 (rd_L1 l0_4 x8_1).length c510_0)) w' = .ok (.string (strOfNums (rd_L1 l0_4 x8_1))) w' ∧ Sem.run Try.prog (convert 33 9 (.slice A511_0 (rd_L1 l1_4 x8_1).length c511_0)) w' = .ok (.string (strOfNums (rd_L1 l1_4 x8_1))) w') (ds := []) #[O,O,O,O,O,O,O,O,O,O,O,O,O] (by kernel_rfl) rfl rfl ⟨(blk_cell BK506.out 0).trans rfl, (blk_cell BK506.out 1).trans rfl, (blk_cell BK506.out 2).trans rfl, (blk_cell BK506.out 3).trans rfl, (blk_cell BK506.out 4).trans rfl, (blk_cell BK507.out 0).trans rfl, (blk_cell BK507.out 1).trans rfl, (blk_cell BK507.out 2).trans rfl, (blk_cell BK507.out 3).trans rfl, (blk_cell BK507.out 4).trans rfl, ((HB.out.cell (World.block_lt_of_cell? w _ hw510_0)).trans hw510_0), ((HB.out.cell (World.block_lt_of_cell? w _ hw511_0)).trans hw511_0), (Kd.C_string (P := Try.prog) Try.underlying33 Try.underlying5 Try.underlying9 (Kd.C_below HR510_0.out HB.out)), (Kd.C_string (P := Try.prog) Try.underlying33 Try.underlying5 Try.underlying9 (Kd.C_below HR511_0.out HB.out))⟩ (fun hHeld => ?_); refine with_tabW twoslotref09_Diff.tab13 twoslotref09_Diff.bits13 (fun HT_ HW_ => ?_)
          generalize wr.drew = w32 at HO_7 BK506 BK507 HB HR510_0 HR511_0 hx510_0 hx511_0 hHeld ⊢
          refine pu (i := 0) (N := some 32) (v := ?_) (a' := ?_) #[X,O,O,O,O,O,O,O,O,O,O,O,O] rfl rfl HT_ (by kernel_rfl) (fun _ _ _ h => h) ⟨by rfl, ?_⟩ ?_ ?_
          rotate_left; (intro w'; go_simp; with_reducible rfl); rotate_left; (simp only [sP]; rfl)
          refine pu (i := 2) (N := some 34) (v := ?_) (a' := ?_) #[X,O,X,O,O,O,O,O,O,O,O,O,O] rfl rfl HT_ (by kernel_rfl) (fun _ _ _ h => h) ⟨by rfl, ?_⟩ ?_ ?_
          rotate_left; (intro w'; go_simp; with_reducible rfl); rotate_left; (simp only [sP]; rfl)
          refine pu (i := 6) (N := some 38) (v := ?_) (a' := ?_) #[X,O,X,O,O,O,X,O,O,O,O,O,O] rfl rfl HT_ (by kernel_rfl) (fun _ _ _ h => h) ⟨by rfl, ?_⟩ ?_ ?_
          rotate_left; (intro w'; go_simp; with_reducible rfl); rotate_left; (simp only [sP]; rfl)
          refine pu (i := 8) (N := some 40) (v := ?_) (a' := ?_) #[X,O,X,O,O,O,X,O,X,O,O,O,O] rfl rfl HT_ (by kernel_rfl) (fun _ _ _ h => h) ⟨by rfl, ?_⟩ ?_ ?_
          rotate_left; (intro w'; go_simp; with_reducible rfl); rotate_left; (simp only [sP]; rfl)
          refine tu (i := 1) (N := some 33) (v := ?_) (a' := ?_) #[X,X,X,O,O,O,X,O,X,O,O,O,O] rfl rfl HT_ HW_ (by kernel_rfl) (fun _ _ _ h => h) ⟨by rfl, ?_⟩ hHeld ?_ ?_
          rotate_left; (rintro w' ⟨s0, s1, s2, s3, s4, s5, s6, s7, s8, s9, s10, s11, s12, s13⟩; go_simp; with_reducible rfl); rotate_left; (simp only [sP]; rfl)
          refine pu (i := 3) (N := some 35) (v := ?_) (a' := ?_) #[X,X,X,X,O,O,X,O,X,O,O,O,O] rfl rfl HT_ (by kernel_rfl) (fun _ _ _ h => h) ⟨by rfl, ?_⟩ ?_ ?_
          rotate_left; (intro w'; go_simp; with_reducible rfl); rotate_left; (simp only [sP]; rfl)
          refine tu (i := 4) (N := some 36) (v := ?_) (a' := ?_) #[X,X,X,X,X,O,X,O,X,O,O,O,O] rfl rfl HT_ HW_ (by kernel_rfl) (fun _ _ _ h => h) ⟨by rfl, ?_⟩ hHeld ?_ ?_
          rotate_left; (rintro w' ⟨s0, s1, s2, s3, s4, s5, s6, s7, s8, s9, s10, s11, s12, s13⟩; go_simp; with_reducible rfl); rotate_left; (simp only [sP]; rfl)
          refine tu (i := 5) (N := some 37) (v := ?_) (a' := ?_) #[X,X,X,X,X,X,X,O,X,O,O,O,O] rfl rfl HT_ HW_ (by kernel_rfl) (fun _ _ _ h => h) ⟨by rfl, ?_⟩ hHeld ?_ ?_
          rotate_left; (rintro w' ⟨s0, s1, s2, s3, s4, s5, s6, s7, s8, s9, s10, s11, s12, s13⟩; go_simp; with_reducible rfl); rotate_left; (simp only [sP]; rfl)
          refine tu (i := 7) (N := some 39) (v := ?_) (a' := ?_) #[X,X,X,X,X,X,X,X,X,O,O,O,O] rfl rfl HT_ HW_ (by kernel_rfl) (fun _ _ _ h => h) ⟨by rfl, ?_⟩ hHeld ?_ ?_
          rotate_left; (rintro w' ⟨s0, s1, s2, s3, s4, s5, s6, s7, s8, s9, s10, s11, s12, s13⟩; go_simp; with_reducible rfl); rotate_left; (simp only [sP]; rfl)
          refine pu (i := 9) (N := some 41) (v := ?_) (a' := ?_) #[X,X,X,X,X,X,X,X,X,X,O,O,O] rfl rfl HT_ (by kernel_rfl) (fun _ _ _ h => h) ⟨by rfl, ?_⟩ ?_ ?_
          rotate_left; (intro w'; go_simp; with_reducible rfl); rotate_left; (simp only [sP]; rfl)
          refine tu (i := 10) (N := some 42) (v := ?_) (a' := ?_) #[X,X,X,X,X,X,X,X,X,X,X,O,O] rfl rfl HT_ HW_ (by kernel_rfl) (fun _ _ _ h => h) ⟨by rfl, ?_⟩ hHeld ?_ ?_
          rotate_left; (rintro w' ⟨s0, s1, s2, s3, s4, s5, s6, s7, s8, s9, s10, s11, s12, s13⟩; go_simp; with_reducible rfl); rotate_left; (simp only [sP]; rfl)
          refine tu (i := 11) (N := some 43) (v := ?_) (a' := ?_) #[X,X,X,X,X,X,X,X,X,X,X,X,O] rfl rfl HT_ HW_ (by kernel_rfl) (fun _ _ _ h => h) ⟨by rfl, ?_⟩ hHeld ?_ ?_
          rotate_left; (rintro w' ⟨s0, s1, s2, s3, s4, s5, s6, s7, s8, s9, s10, s11, s12, s13⟩; go_simp; with_reducible rfl); rotate_left; (simp only [sP]; rfl)
          refine pu (i := 12) (N := some 44) (v := ?_) (a' := ?_) #[X,X,X,X,X,X,X,X,X,X,X,X,X] rfl rfl HT_ (by kernel_rfl) (fun _ _ _ h => h) ⟨by rfl, ?_⟩ ?_ ?_
          rotate_left; (intro w'; go_simp; with_reducible rfl); rotate_left; (simp only [sP]; rfl)
          refine done_ (done_of HT_.out (by kernel_rfl)) ?_
          try go_wp2
          go_roundg k1
          case measure => have := HK1.out; omega
          case rel => exact ⟨(x7_1), (wrap64 (x8_1 + 1)), (by first | rfl | (simp; done) | (simp [*]; done)), H', ⟨by have := HK1.out; omega⟩, ⟨by (with_reducible repeat (first | apply Kd.S_alloc | apply Kd.S_drewN | apply Kd.S_drew)); exact HO_7.out⟩, ⟨by (try refine sO ?_); exact BK506.out⟩, ⟨by (try refine sO ?_); exact BK507.out⟩, ⟨by repeat (first | exact sH HB.out | refine sN (w := w) ?_ | with_reducible refine sG (w := w) ?_ (by assumption))⟩⟩
         ·
          rw [if_neg c29] at H
          have c29b0 : ((strOfNums (rd_L1 l0_4 x8_1)).toList == (strOfNums (rd_L1 l1_4 x8_1)).toList) = false := beq_eq_false_iff_ne.mpr c29
          have c29b1 : ((strOfNums (rd_L1 l0_4 x8_1)).toList != (strOfNums (rd_L1 l1_4 x8_1)).toList) = true := bne_iff_ne.mpr c29
          by_cases c34 : ((rd_L1 l1_4 x8_1).length : Int) = 0
          ·
           rw [if_pos c34] at H
           have c34b0 : (((rd_L1 l1_4 x8_1).length : Int) == 0) = true := beq_iff_eq.mpr c34
           have c34b1 : (((rd_L1 l1_4 x8_1).length : Int) != 0) = false := bne_eq_false_iff_eq.mpr c34
           clear c34
           simp only [Option.some.injEq, Prod.mk.injEq] at H
           obtain ⟨rfl, rfl⟩ := H
           have hnb35 := NB506_507.out
           have hnc35 := NB507_506.out
           obtain ⟨hcz36_0, hcz36_1, hcz36_2, hcz36_3, hcz36_4, hfz36_0, hfz36_1, hfz36_2, hfz36_3, hfz36_4⟩ := cs5 BK506.out
           try go_wp2
           replace HO_7 := Aside0.mk (Kd.S_drew HO_7.out); replace BK506 := Aside0.mk (blk_drew BK506.out); replace BK507 := Aside0.mk (blk_drew BK507.out); replace HB := Aside0.mk (below_drew1 HB.out)
           have p510 : 0 ≤ (x8_1 : Int) := of_decide_eq_true (by first | (with_reducible assumption) | assumption)
           have q510 : x8_1 < (l0_4.length : Int) := of_decide_eq_true (by first | (with_reducible assumption) | assumption)
           obtain ⟨ad510, A510_0, c510_0, e510, hx510_0, hl510_0, hi510_0⟩ := at_L1 HR0_4.out x8_1 p510 q510
           have hw510_0 := hx510_0
           cases e510
           replace hx510_0 := (HB.out.cell (World.block_lt_of_cell? w _ hx510_0)).trans hx510_0
           have HR510_0 := Aside0.mk hi510_0
           have HC510_0 := Aside0.mk hl510_0
           clear hi510_0 hl510_0
           replace p510 := eq_true p510
           replace q510 := eq_true q510
           have p511 : 0 ≤ (x8_1 : Int) := of_decide_eq_true (by first | (with_reducible assumption) | assumption)
           have q511 : x8_1 < (l1_4.length : Int) := of_decide_eq_true (by first | (with_reducible assumption) | assumption)
           obtain ⟨ad511, A511_0, c511_0, e511, hx511_0, hl511_0, hi511_0⟩ := at_L1 HR1_4.out x8_1 p511 q511
           have hw511_0 := hx511_0
           cases e511
           replace hx511_0 := (HB.out.cell (World.block_lt_of_cell? w _ hx511_0)).trans hx511_0
           have HR511_0 := Aside0.mk hi511_0
           have HC511_0 := Aside0.mk hl511_0
           clear hi511_0 hl511_0
           replace p511 := eq_true p511
           replace q511 := eq_true q511
           refine start_ (n := 13) (S := fun w' => w'.cell? ⟨gb506, 0, none⟩ = some (.int .i64 a0_0) ∧ w'.cell? ⟨gb506, 1, none⟩ = some (.int .i64 a0_1) ∧ w'.cell? ⟨gb506, 2, none⟩ = some (.int .i64 a0_2) ∧ w'.cell? ⟨gb506, 3, none⟩ = some (.int .i64 a0_3) ∧ w'.cell? ⟨gb506, 4, none⟩ = some (.slice (some ad510) l0_4.length c0_4) ∧ w'.cell? ⟨gb507, 0, none⟩ = some (.int .i64 a1_0) ∧ w'.cell? ⟨gb507, 1, none⟩ = some (.int .i64 a1_1) ∧ w'.cell? ⟨gb507, 2, none⟩ = some (.int .i64 a1_2) ∧ w'.cell? ⟨gb507, 3, none⟩ = some (.int .i64 a1_3) ∧ w'.cell? ⟨gb507, 4, none⟩ = some (.slice (some ad511) l1_4.length c1_4) ∧ w'.cell? (ad510.add (x8_1).toNat) = some (.slice A510_0 (rd_L1 l0_4 x8_1).length c510_0) ∧ w'.cell? (ad511.add (x8_1).toNat) = some (.slice A511_0 (rd_L1 l1_4 x8_1).length c511_0) ∧ Sem.run Try.prog (convert 33 9 (.slice A510_0 (rd_L1 l0_4 x8_1).length c510_0)) w' = .ok (.string (strOfNums (rd_L1 l0_4 x8_1))) w' ∧ Sem.run Try.prog (convert 33 9 (.slice A511_0 (rd_L1 l1_4 x8_1).length c511_0)) w' = .ok (.string (strOfNums (rd_L1 l1_4 x8_1))) w') (ds := []) #[O,O,O,O,O,O,O,O,O,O,O,O,O] (by kernel_rfl) rfl rfl ⟨(blk_cell BK506.out 0).trans rfl, (blk_cell BK506.out 1).trans rfl, (blk_cell BK506.out 2).trans rfl, (blk_cell BK506.out 3).trans rfl, (blk_cell BK506.out 4).trans rfl, (blk_cell BK507.out 0).trans rfl, (blk_cell BK507.out 1).trans rfl, (blk_cell BK507.out 2).trans rfl, (blk_cell BK507.out 3).trans rfl, (blk_cell BK507.out 4).trans rfl, ((HB.out.cell (World.block_lt_of_cell? w _ hw510_0)).trans hw510_0), ((HB.out.cell (World.block_lt_of_cell? w _ hw511_0)).trans hw511_0), (Kd.C_string (P := Try.prog) Try.underlying33 Try.underlying5 Try.underlying9 (Kd.C_below HR510_0.out HB.out)), (Kd.C_string (P := Try.prog) Try.underlying33 Try.underlying5 Try.underlying9 (Kd.C_below HR511_0.out HB.out))⟩ (fun hHeld => ?_); refine with_tabW twoslotref09_Diff.tab13 twoslotref09_Diff.bits13 (fun HT_ HW_ => ?_)
           generalize wr.drew = w37 at HO_7 BK506 BK507 HB HR510_0 HR511_0 hx510_0 hx511_0 hHeld ⊢
           refine pu (i := 0) (N := some 32) (v := ?_) (a' := ?_) #[X,O,O,O,O,O,O,O,O,O,O,O,O] rfl rfl HT_ (by kernel_rfl) (fun _ _ _ h => h) ⟨by rfl, ?_⟩ ?_ ?_
           rotate_left; (intro w'; go_simp; with_reducible rfl); rotate_left; (simp only [sP]; rfl)
           refine pu (i := 2) (N := some 34) (v := ?_) (a' := ?_) #[X,O,X,O,O,O,O,O,O,O,O,O,O] rfl rfl HT_ (by kernel_rfl) (fun _ _ _ h => h) ⟨by rfl, ?_⟩ ?_ ?_
           rotate_left; (intro w'; go_simp; with_reducible rfl); rotate_left; (simp only [sP]; rfl)
           refine pu (i := 6) (N := some 38) (v := ?_) (a' := ?_) #[X,O,X,O,O,O,X,O,O,O,O,O,O] rfl rfl HT_ (by kernel_rfl) (fun _ _ _ h => h) ⟨by rfl, ?_⟩ ?_ ?_
           rotate_left; (intro w'; go_simp; with_reducible rfl); rotate_left; (simp only [sP]; rfl)
           refine pu (i := 8) (N := some 40) (v := ?_) (a' := ?_) #[X,O,X,O,O,O,X,O,X,O,O,O,O] rfl rfl HT_ (by kernel_rfl) (fun _ _ _ h => h) ⟨by rfl, ?_⟩ ?_ ?_
           rotate_left; (intro w'; go_simp; with_reducible rfl); rotate_left; (simp only [sP]; rfl)
           refine tu (i := 1) (N := some 33) (v := ?_) (a' := ?_) #[X,X,X,O,O,O,X,O,X,O,O,O,O] rfl rfl HT_ HW_ (by kernel_rfl) (fun _ _ _ h => h) ⟨by rfl, ?_⟩ hHeld ?_ ?_
           rotate_left; (rintro w' ⟨s0, s1, s2, s3, s4, s5, s6, s7, s8, s9, s10, s11, s12, s13⟩; go_simp; with_reducible rfl); rotate_left; (simp only [sP]; rfl)
           refine pu (i := 3) (N := some 35) (v := ?_) (a' := ?_) #[X,X,X,X,O,O,X,O,X,O,O,O,O] rfl rfl HT_ (by kernel_rfl) (fun _ _ _ h => h) ⟨by rfl, ?_⟩ ?_ ?_
           rotate_left; (intro w'; go_simp; with_reducible rfl); rotate_left; (simp only [sP]; rfl)
           refine tu (i := 4) (N := some 36) (v := ?_) (a' := ?_) #[X,X,X,X,X,O,X,O,X,O,O,O,O] rfl rfl HT_ HW_ (by kernel_rfl) (fun _ _ _ h => h) ⟨by rfl, ?_⟩ hHeld ?_ ?_
           rotate_left; (rintro w' ⟨s0, s1, s2, s3, s4, s5, s6, s7, s8, s9, s10, s11, s12, s13⟩; go_simp; with_reducible rfl); rotate_left; (simp only [sP]; rfl)
           refine tu (i := 5) (N := some 37) (v := ?_) (a' := ?_) #[X,X,X,X,X,X,X,O,X,O,O,O,O] rfl rfl HT_ HW_ (by kernel_rfl) (fun _ _ _ h => h) ⟨by rfl, ?_⟩ hHeld ?_ ?_
           rotate_left; (rintro w' ⟨s0, s1, s2, s3, s4, s5, s6, s7, s8, s9, s10, s11, s12, s13⟩; go_simp; with_reducible rfl); rotate_left; (simp only [sP]; rfl)
           refine tu (i := 7) (N := some 39) (v := ?_) (a' := ?_) #[X,X,X,X,X,X,X,X,X,O,O,O,O] rfl rfl HT_ HW_ (by kernel_rfl) (fun _ _ _ h => h) ⟨by rfl, ?_⟩ hHeld ?_ ?_
           rotate_left; (rintro w' ⟨s0, s1, s2, s3, s4, s5, s6, s7, s8, s9, s10, s11, s12, s13⟩; go_simp; with_reducible rfl); rotate_left; (simp only [sP]; rfl)
           refine pu (i := 9) (N := some 41) (v := ?_) (a' := ?_) #[X,X,X,X,X,X,X,X,X,X,O,O,O] rfl rfl HT_ (by kernel_rfl) (fun _ _ _ h => h) ⟨by rfl, ?_⟩ ?_ ?_
           rotate_left; (intro w'; go_simp; with_reducible rfl); rotate_left; (simp only [sP]; rfl)
           refine tu (i := 10) (N := some 42) (v := ?_) (a' := ?_) #[X,X,X,X,X,X,X,X,X,X,X,O,O] rfl rfl HT_ HW_ (by kernel_rfl) (fun _ _ _ h => h) ⟨by rfl, ?_⟩ hHeld ?_ ?_
           rotate_left; (rintro w' ⟨s0, s1, s2, s3, s4, s5, s6, s7, s8, s9, s10, s11, s12, s13⟩; go_simp; with_reducible rfl); rotate_left; (simp only [sP]; rfl)
           refine tu (i := 11) (N := some 43) (v := ?_) (a' := ?_) #[X,X,X,X,X,X,X,X,X,X,X,X,O] rfl rfl HT_ HW_ (by kernel_rfl) (fun _ _ _ h => h) ⟨by rfl, ?_⟩ hHeld ?_ ?_
           rotate_left; (rintro w' ⟨s0, s1, s2, s3, s4, s5, s6, s7, s8, s9, s10, s11, s12, s13⟩; go_simp; with_reducible rfl); rotate_left; (simp only [sP]; rfl)
           refine pu (i := 12) (N := some 44) (v := ?_) (a' := ?_) #[X,X,X,X,X,X,X,X,X,X,X,X,X] rfl rfl HT_ (by kernel_rfl) (fun _ _ _ h => h) ⟨by rfl, ?_⟩ ?_ ?_
           rotate_left; (intro w'; go_simp; with_reducible rfl); rotate_left; (simp only [sP]; rfl)
           refine done_ (done_of HT_.out (by kernel_rfl)) ?_
           obtain ⟨hcz39_0, hcz39_1, hcz39_2, hcz39_3, hcz39_4, hfz39_0, hfz39_1, hfz39_2, hfz39_3, hfz39_4⟩ := cs5 BK507.out
           have p512 : 0 ≤ (x8_1 : Int) := of_decide_eq_true (by first | (with_reducible assumption) | assumption)
           have q512 : x8_1 < (l1_4.length : Int) := of_decide_eq_true (by first | (with_reducible assumption) | assumption)
           obtain ⟨ad512, A512_0, c512_0, e512, hx512_0, hl512_0, hi512_0⟩ := at_L1 HR1_4.out x8_1 p512 q512
           obtain rfl : ad511 = ad512 := (by injection e512)
           replace hx512_0 := (HB.out.cell (World.block_lt_of_cell? w _ hx512_0)).trans hx512_0
           have HR512_0 := Aside0.mk hi512_0
           have HC512_0 := Aside0.mk hl512_0
           clear hi512_0 hl512_0
           replace p512 := eq_true p512
           replace q512 := eq_true q512
           try go_wp2
           go_ret2
           exact ⟨_, by first | rfl | (simp [errW_none, errW_some] <;> rfl) | (simp [*, errW_none, errW_some] <;> rfl), by first | exact Kd.S_nil _ _ _ _ _ | exact Kd.N_nil _ _ _ _ _ | exact Kd.V_nil _ _ _ _ _ | exact Kd.Q_nil _ _ _ _ _ | exact Kd.R_nil _ _ _ _ _, by repeat (first | exact sH HB.out | refine sN (w := w) ?_ | with_reducible refine sG (w := w) ?_ (by assumption))⟩
          ·
           rw [if_neg c34] at H
           have c34b0 : (((rd_L1 l1_4 x8_1).length : Int) == 0) = false := beq_eq_false_iff_ne.mpr c34
           have c34b1 : (((rd_L1 l1_4 x8_1).length : Int) != 0) = true := bne_iff_ne.mpr c34
           have c34b2 : ¬ ((rd_L1 l1_4 x8_1) = []) := fun h_ => c34 (by rw [h_]; rfl)
           by_cases c40 : a0_3 = 0
           ·
            rw [if_pos c40] at H
            exact absurd H (by simp)
           ·
            rw [if_neg c40] at H
            have c40b0 : (a0_3 == 0) = false := beq_eq_false_iff_ne.mpr c40
            have c40b1 : (a0_3 != 0) = true := bne_iff_ne.mpr c40
            by_cases c41 : ([] : List Int).length + (rd_L1 l1_4 x8_1).length < 140737488355328
            ·
             rw [if_pos c41] at H
             have LMc41 := Aside0.mk c41
             clear c41
             obtain ⟨y514, hy514⟩ : ∃ y_ : List Int, y_ = (([] : List Int) ++ (rd_L1 l1_4 x8_1)) := ⟨_, rfl⟩
             replace H : (if x7_1.length < 2932031007402 then (twoslotref09_Diff.l0 k1 (x7_1 ++ [(⟨wrap64 (Int.tdiv (wrap64 (Int.tdiv x8_1 2)) a0_3), Int.tmod (wrap64 (Int.tdiv x8_1 2)) a0_3, Int.tmod x8_1 2, y514⟩ : S35)]) (wrap64 (x8_1 + 1)) a0_0 a0_1 a0_2 a0_3 l0_4 a1_0 a1_1 a1_2 a1_3 l1_4) else (none)) = some (r1, r2) := by first | (rw [hy514]; with_reducible exact H) | (have H2_ := (Option.bind_some _ _).symm.trans H; rw [hy514]; with_reducible exact H2_) | (have H2_ := (Option.bind_some _ _).symm.trans H; with_reducible exact H2_) | with_reducible exact H | (rw [hy514]; exact H) | exact H
             have Ny514 := Aside0.mk hy514
             clear hy514
             by_cases c42 : x7_1.length < 2932031007402
             ·
              rw [if_pos c42] at H
              have LMc42 := Aside0.mk c42
              clear c42
              obtain ⟨y517, hy517⟩ : ∃ y_ : List (S35), y_ = (x7_1 ++ [(⟨wrap64 (Int.tdiv (wrap64 (Int.tdiv x8_1 2)) a0_3), Int.tmod (wrap64 (Int.tdiv x8_1 2)) a0_3, Int.tmod x8_1 2, y514⟩ : S35)]) := ⟨_, rfl⟩
              replace H : (twoslotref09_Diff.l0 k1 y517 (wrap64 (x8_1 + 1)) a0_0 a0_1 a0_2 a0_3 l0_4 a1_0 a1_1 a1_2 a1_3 l1_4) = some (r1, r2) := by first | (rw [hy517]; with_reducible exact H) | (have H2_ := (Option.bind_some _ _).symm.trans H; rw [hy517]; with_reducible exact H2_) | (have H2_ := (Option.bind_some _ _).symm.trans H; with_reducible exact H2_) | with_reducible exact H | (rw [hy517]; exact H) | exact H
              have Ny517 := Aside0.mk hy517
              clear hy517
              have H' := Aside0.mk H
              clear H
              have hnb43 := NB506_507.out
              have hnc43 := NB507_506.out
              obtain ⟨hcz44_0, hcz44_1, hcz44_2, hcz44_3, hcz44_4, hfz44_0, hfz44_1, hfz44_2, hfz44_3, hfz44_4⟩ := cs5 BK506.out
              try go_wp2
              replace HO_7 := Aside0.mk (Kd.S_drew HO_7.out); replace BK506 := Aside0.mk (blk_drew BK506.out); replace BK507 := Aside0.mk (blk_drew BK507.out); replace HB := Aside0.mk (below_drew1 HB.out)
              have p510 : 0 ≤ (x8_1 : Int) := of_decide_eq_true (by first | (with_reducible assumption) | assumption)
              have q510 : x8_1 < (l0_4.length : Int) := of_decide_eq_true (by first | (with_reducible assumption) | assumption)
              obtain ⟨ad510, A510_0, c510_0, e510, hx510_0, hl510_0, hi510_0⟩ := at_L1 HR0_4.out x8_1 p510 q510
              have hw510_0 := hx510_0
              cases e510
              replace hx510_0 := (HB.out.cell (World.block_lt_of_cell? w _ hx510_0)).trans hx510_0
              have HR510_0 := Aside0.mk hi510_0
              have HC510_0 := Aside0.mk hl510_0
              clear hi510_0 hl510_0
              replace p510 := eq_true p510
              replace q510 := eq_true q510
              have p511 : 0 ≤ (x8_1 : Int) := of_decide_eq_true (by first | (with_reducible assumption) | assumption)
              have q511 : x8_1 < (l1_4.length : Int) := of_decide_eq_true (by first | (with_reducible assumption) | assumption)
              obtain ⟨ad511, A511_0, c511_0, e511, hx511_0, hl511_0, hi511_0⟩ := at_L1 HR1_4.out x8_1 p511 q511
              have hw511_0 := hx511_0
              cases e511
              replace hx511_0 := (HB.out.cell (World.block_lt_of_cell? w _ hx511_0)).trans hx511_0
              have HR511_0 := Aside0.mk hi511_0
              have HC511_0 := Aside0.mk hl511_0
              clear hi511_0 hl511_0
              replace p511 := eq_true p511
              replace q511 := eq_true q511
              refine start_ (n := 13) (S := fun w' => w'.cell? ⟨gb506, 0, none⟩ = some (.int .i64 a0_0) ∧ w'.cell? ⟨gb506, 1, none⟩ = some (.int .i64 a0_1) ∧ w'.cell? ⟨gb506, 2, none⟩ = some (.int .i64 a0_2) ∧ w'.cell? ⟨gb506, 3, none⟩ = some (.int .i64 a0_3) ∧ w'.cell? ⟨gb506, 4, none⟩ = some (.slice (some ad510) l0_4.length c0_4) ∧ w'.cell? ⟨gb507, 0, none⟩ = some (.int .i64 a1_0) ∧ w'.cell? ⟨gb507, 1, none⟩ = some (.int .i64 a1_1) ∧ w'.cell? ⟨gb507, 2, none⟩ = some (.int .i64 a1_2) ∧ w'.cell? ⟨gb507, 3, none⟩ = some (.int .i64 a1_3) ∧ w'.cell? ⟨gb507, 4, none⟩ = some (.slice (some ad511) l1_4.length c1_4) ∧ w'.cell? (ad510.add (x8_1).toNat) = some (.slice A510_0 (rd_L1 l0_4 x8_1).length c510_0) ∧ w'.cell? (ad511.add (x8_1).toNat) = some (.slice A511_0 (rd_L1 l1_4 x8_1).length c511_0) ∧ Sem.run Try.prog (convert 33 9 (.slice A510_0 (rd_L1 l0_4 x8_1).length c510_0)) w' = .ok (.string (strOfNums (rd_L1 l0_4 x8_1))) w' ∧ Sem.run Try.prog (convert 33 9 (.slice A511_0 (rd_L1 l1_4 x8_1).length c511_0)) w' = .ok (.string (strOfNums (rd_L1 l1_4 x8_1))) w') (ds := []) #[O,O,O,O,O,O,O,O,O,O,O,O,O] (by kernel_rfl) rfl rfl ⟨(blk_cell BK506.out 0).trans rfl, (blk_cell BK506.out 1).trans rfl, (blk_cell BK506.out 2).trans rfl, (blk_cell BK506.out 3).trans rfl, (blk_cell BK506.out 4).trans rfl, (blk_cell BK507.out 0).trans rfl, (blk_cell BK507.out 1).trans rfl, (blk_cell BK507.out 2).trans rfl, (blk_cell BK507.out 3).trans rfl, (blk_cell BK507.out 4).trans rfl, ((HB.out.cell (World.block_lt_of_cell? w _ hw510_0)).trans hw510_0), ((HB.out.cell (World.block_lt_of_cell? w _ hw511_0)).trans hw511_0), (Kd.C_string (P := Try.prog) Try.underlying33 Try.underlying5 Try.underlying9 (Kd.C_below HR510_0.out HB.out)), (Kd.C_string (P := Try.prog) Try.underlying33 Try.underlying5 Try.underlying9 (Kd.C_below HR511_0.out HB.out))⟩ (fun hHeld => ?_); refine with_tabW twoslotref09_Diff.tab13 twoslotref09_Diff.bits13 (fun HT_ HW_ => ?_)
              generalize wr.drew = w45 at HO_7 BK506 BK507 HB HR510_0 HR511_0 hx510_0 hx511_0 hHeld ⊢
              refine pu (i := 0) (N := some 32) (v := ?_) (a' := ?_) #[X,O,O,O,O,O,O,O,O,O,O,O,O] rfl rfl HT_ (by kernel_rfl) (fun _ _ _ h => h) ⟨by rfl, ?_⟩ ?_ ?_
              rotate_left; (intro w'; go_simp; with_reducible rfl); rotate_left; (simp only [sP]; rfl)
              refine pu (i := 2) (N := some 34) (v := ?_) (a' := ?_) #[X,O,X,O,O,O,O,O,O,O,O,O,O] rfl rfl HT_ (by kernel_rfl) (fun _ _ _ h => h) ⟨by rfl, ?_⟩ ?_ ?_
              rotate_left; (intro w'; go_simp; with_reducible rfl); rotate_left; (simp only [sP]; rfl)
              refine pu (i := 6) (N := some 38) (v := ?_) (a' := ?_) #[X,O,X,O,O,O,X,O,O,O,O,O,O] rfl rfl HT_ (by kernel_rfl) (fun _ _ _ h => h) ⟨by rfl, ?_⟩ ?_ ?_
              rotate_left; (intro w'; go_simp; with_reducible rfl); rotate_left; (simp only [sP]; rfl)
              refine pu (i := 8) (N := some 40) (v := ?_) (a' := ?_) #[X,O,X,O,O,O,X,O,X,O,O,O,O] rfl rfl HT_ (by kernel_rfl) (fun _ _ _ h => h) ⟨by rfl, ?_⟩ ?_ ?_
              rotate_left; (intro w'; go_simp; with_reducible rfl); rotate_left; (simp only [sP]; rfl)
              refine tu (i := 1) (N := some 33) (v := ?_) (a' := ?_) #[X,X,X,O,O,O,X,O,X,O,O,O,O] rfl rfl HT_ HW_ (by kernel_rfl) (fun _ _ _ h => h) ⟨by rfl, ?_⟩ hHeld ?_ ?_
              rotate_left; (rintro w' ⟨s0, s1, s2, s3, s4, s5, s6, s7, s8, s9, s10, s11, s12, s13⟩; go_simp; with_reducible rfl); rotate_left; (simp only [sP]; rfl)
              refine pu (i := 3) (N := some 35) (v := ?_) (a' := ?_) #[X,X,X,X,O,O,X,O,X,O,O,O,O] rfl rfl HT_ (by kernel_rfl) (fun _ _ _ h => h) ⟨by rfl, ?_⟩ ?_ ?_
              rotate_left; (intro w'; go_simp; with_reducible rfl); rotate_left; (simp only [sP]; rfl)
              refine tu (i := 4) (N := some 36) (v := ?_) (a' := ?_) #[X,X,X,X,X,O,X,O,X,O,O,O,O] rfl rfl HT_ HW_ (by kernel_rfl) (fun _ _ _ h => h) ⟨by rfl, ?_⟩ hHeld ?_ ?_
              rotate_left; (rintro w' ⟨s0, s1, s2, s3, s4, s5, s6, s7, s8, s9, s10, s11, s12, s13⟩; go_simp; with_reducible rfl); rotate_left; (simp only [sP]; rfl)
              refine tu (i := 5) (N := some 37) (v := ?_) (a' := ?_) #[X,X,X,X,X,X,X,O,X,O,O,O,O] rfl rfl HT_ HW_ (by kernel_rfl) (fun _ _ _ h => h) ⟨by rfl, ?_⟩ hHeld ?_ ?_
              rotate_left; (rintro w' ⟨s0, s1, s2, s3, s4, s5, s6, s7, s8, s9, s10, s11, s12, s13⟩; go_simp; with_reducible rfl); rotate_left; (simp only [sP]; rfl)
              refine tu (i := 7) (N := some 39) (v := ?_) (a' := ?_) #[X,X,X,X,X,X,X,X,X,O,O,O,O] rfl rfl HT_ HW_ (by kernel_rfl) (fun _ _ _ h => h) ⟨by rfl, ?_⟩ hHeld ?_ ?_
              rotate_left; (rintro w' ⟨s0, s1, s2, s3, s4, s5, s6, s7, s8, s9, s10, s11, s12, s13⟩; go_simp; with_reducible rfl); rotate_left; (simp only [sP]; rfl)
              refine pu (i := 9) (N := some 41) (v := ?_) (a' := ?_) #[X,X,X,X,X,X,X,X,X,X,O,O,O] rfl rfl HT_ (by kernel_rfl) (fun _ _ _ h => h) ⟨by rfl, ?_⟩ ?_ ?_
              rotate_left; (intro w'; go_simp; with_reducible rfl); rotate_left; (simp only [sP]; rfl)
              refine tu (i := 10) (N := some 42) (v := ?_) (a' := ?_) #[X,X,X,X,X,X,X,X,X,X,X,O,O] rfl rfl HT_ HW_ (by kernel_rfl) (fun _ _ _ h => h) ⟨by rfl, ?_⟩ hHeld ?_ ?_
              rotate_left; (rintro w' ⟨s0, s1, s2, s3, s4, s5, s6, s7, s8, s9, s10, s11, s12, s13⟩; go_simp; with_reducible rfl); rotate_left; (simp only [sP]; rfl)
              refine tu (i := 11) (N := some 43) (v := ?_) (a' := ?_) #[X,X,X,X,X,X,X,X,X,X,X,X,O] rfl rfl HT_ HW_ (by kernel_rfl) (fun _ _ _ h => h) ⟨by rfl, ?_⟩ hHeld ?_ ?_
              rotate_left; (rintro w' ⟨s0, s1, s2, s3, s4, s5, s6, s7, s8, s9, s10, s11, s12, s13⟩; go_simp; with_reducible rfl); rotate_left; (simp only [sP]; rfl)
              refine pu (i := 12) (N := some 44) (v := ?_) (a' := ?_) #[X,X,X,X,X,X,X,X,X,X,X,X,X] rfl rfl HT_ (by kernel_rfl) (fun _ _ _ h => h) ⟨by rfl, ?_⟩ ?_ ?_
              rotate_left; (intro w'; go_simp; with_reducible rfl); rotate_left; (simp only [sP]; rfl)
              refine done_ (done_of HT_.out (by kernel_rfl)) ?_
              obtain ⟨hcz47_0, hcz47_1, hcz47_2, hcz47_3, hcz47_4, hfz47_0, hfz47_1, hfz47_2, hfz47_3, hfz47_4⟩ := cs5 BK507.out
              have p512 : 0 ≤ (x8_1 : Int) := of_decide_eq_true (by first | (with_reducible assumption) | assumption)
              have q512 : x8_1 < (l1_4.length : Int) := of_decide_eq_true (by first | (with_reducible assumption) | assumption)
              obtain ⟨ad512, A512_0, c512_0, e512, hx512_0, hl512_0, hi512_0⟩ := at_L1 HR1_4.out x8_1 p512 q512
              obtain rfl : ad511 = ad512 := (by injection e512)
              replace hx512_0 := (HB.out.cell (World.block_lt_of_cell? w _ hx512_0)).trans hx512_0
              have HR512_0 := Aside0.mk hi512_0
              have HC512_0 := Aside0.mk hl512_0
              clear hi512_0 hl512_0
              replace p512 := eq_true p512
              replace q512 := eq_true q512
              try go_wp2
              replace HO_7 := Aside0.mk (Kd.S_drew HO_7.out); replace BK506 := Aside0.mk (blk_drew BK506.out); replace BK507 := Aside0.mk (blk_drew BK507.out); replace HB := Aside0.mk (below_drew1 HB.out)
              have p513 : 0 ≤ (x8_1 : Int) := of_decide_eq_true (by first | (with_reducible assumption) | assumption)
              have q513 : x8_1 < (l1_4.length : Int) := of_decide_eq_true (by first | (with_reducible assumption) | assumption)
              obtain ⟨ad513, A513_0, c513_0, e513, hx513_0, hl513_0, hi513_0⟩ := at_L1 HR1_4.out x8_1 p513 q513
              have hw513_0 := hx513_0
              obtain rfl : ad511 = ad513 := (by injection e513)
              replace hx513_0 := (HB.out.cell (World.block_lt_of_cell? w _ hx513_0)).trans hx513_0
              have HR513_0 := Aside0.mk hi513_0
              have HC513_0 := Aside0.mk hl513_0
              clear hi513_0 hl513_0
              replace p513 := eq_true p513
              replace q513 := eq_true q513
              refine start_ (n := 26) (S := fun w' => w'.cell? ⟨gb506, 0, none⟩ = some (.int .i64 a0_0) ∧ w'.cell? ⟨gb506, 1, none⟩ = some (.int .i64 a0_1) ∧ w'.cell? ⟨gb506, 2, none⟩ = some (.int .i64 a0_2) ∧ w'.cell? ⟨gb506, 3, none⟩ = some (.int .i64 a0_3) ∧ w'.cell? ⟨gb506, 4, none⟩ = some (.slice (some ad510) l0_4.length c0_4) ∧ w'.cell? ⟨gb507, 0, none⟩ = some (.int .i64 a1_0) ∧ w'.cell? ⟨gb507, 1, none⟩ = some (.int .i64 a1_1) ∧ w'.cell? ⟨gb507, 2, none⟩ = some (.int .i64 a1_2) ∧ w'.cell? ⟨gb507, 3, none⟩ = some (.int .i64 a1_3) ∧ w'.cell? ⟨gb507, 4, none⟩ = some (.slice (some ad511) l1_4.length c1_4) ∧ w'.cell? (ad511.add (x8_1).toNat) = some (.slice A513_0 (rd_L1 l1_4 x8_1).length c513_0)) (ds := []) #[O,O,O,O,O,O,O,O,O,O,O,O,O,O,O,O,O,O,O,O,O,O,O,O,O,O] (by kernel_rfl) rfl rfl ⟨(blk_cell BK506.out 0).trans rfl, (blk_cell BK506.out 1).trans rfl, (blk_cell BK506.out 2).trans rfl, (blk_cell BK506.out 3).trans rfl, (blk_cell BK506.out 4).trans rfl, (blk_cell BK507.out 0).trans rfl, (blk_cell BK507.out 1).trans rfl, (blk_cell BK507.out 2).trans rfl, (blk_cell BK507.out 3).trans rfl, (blk_cell BK507.out 4).trans rfl, ((HB.out.cell (World.block_lt_of_cell? w _ hw513_0)).trans hw513_0)⟩ (fun hHeld => ?_); refine with_tabW twoslotref09_Diff.tab17 twoslotref09_Diff.bits17 (fun HT_ HW_ => ?_)
              generalize w45.drew = w48 at HO_7 BK506 BK507 HB HR513_0 hx513_0 hHeld ⊢
              refine pu (i := 0) (N := some 52) (v := ?_) (a' := ?_) #[X,O,O,O,O,O,O,O,O,O,O,O,O,O,O,O,O,O,O,O,O,O,O,O,O,O] rfl rfl HT_ (by kernel_rfl) (fun _ _ _ h => h) ⟨by rfl, ?_⟩ ?_ ?_
              rotate_left; (intro w'; go_simp; with_reducible rfl); rotate_left; (simp only [sP]; rfl)
              refine pu (i := 1) (N := some 53) (v := ?_) (a' := ?_) #[X,X,O,O,O,O,O,O,O,O,O,O,O,O,O,O,O,O,O,O,O,O,O,O,O,O] rfl rfl HT_ (by kernel_rfl) (fun _ _ _ h => h) ⟨by rfl, ?_⟩ ?_ ?_
              rotate_left; (intro w'; go_simp; with_reducible rfl); rotate_left; (simp only [sP]; rfl)
              refine pu (i := 2) (N := some 54) (v := ?_) (a' := ?_) #[X,X,X,O,O,O,O,O,O,O,O,O,O,O,O,O,O,O,O,O,O,O,O,O,O,O] rfl rfl HT_ (by kernel_rfl) (fun _ _ _ h => h) ⟨by rfl, ?_⟩ ?_ ?_
              rotate_left; (intro w'; go_simp; with_reducible rfl); rotate_left; (simp only [sP]; rfl)
              refine pu (i := 3) (N := some 55) (v := ?_) (a' := ?_) #[X,X,X,X,O,O,O,O,O,O,O,O,O,O,O,O,O,O,O,O,O,O,O,O,O,O] rfl rfl HT_ (by kernel_rfl) (fun _ _ _ h => h) ⟨by rfl, ?_⟩ ?_ ?_
              rotate_left; (intro w'; go_simp; with_reducible rfl); rotate_left; (simp only [sP]; rfl)
              refine pu (i := 4) (N := some 56) (v := ?_) (a' := ?_) #[X,X,X,X,X,O,O,O,O,O,O,O,O,O,O,O,O,O,O,O,O,O,O,O,O,O] rfl rfl HT_ (by kernel_rfl) (fun _ _ _ h => h) ⟨by rfl, ?_⟩ ?_ ?_
              rotate_left; (intro w'; go_simp; with_reducible rfl); rotate_left; (simp only [sP]; rfl)
              refine pu (i := 7) (N := some 59) (v := ?_) (a' := ?_) #[X,X,X,X,X,O,O,X,O,O,O,O,O,O,O,O,O,O,O,O,O,O,O,O,O,O] rfl rfl HT_ (by kernel_rfl) (fun _ _ _ h => h) ⟨by rfl, ?_⟩ ?_ ?_
              rotate_left; (intro w'; go_simp; with_reducible rfl); rotate_left; (simp only [sP]; rfl)
              refine pu (i := 8) (N := some 60) (v := ?_) (a' := ?_) #[X,X,X,X,X,O,O,X,X,O,O,O,O,O,O,O,O,O,O,O,O,O,O,O,O,O] rfl rfl HT_ (by kernel_rfl) (fun _ _ _ h => h) ⟨by rfl, ?_⟩ ?_ ?_
              rotate_left; (intro w'; go_simp; with_reducible rfl); rotate_left; (simp only [sP]; rfl)
              refine pu (i := 9) (N := some 61) (v := ?_) (a' := ?_) #[X,X,X,X,X,O,O,X,X,X,O,O,O,O,O,O,O,O,O,O,O,O,O,O,O,O] rfl rfl HT_ (by kernel_rfl) (fun _ _ _ h => h) ⟨by rfl, ?_⟩ ?_ ?_
              rotate_left; (intro w'; go_simp; with_reducible rfl); rotate_left; (simp only [sP]; rfl)
              refine pu (i := 10) (N := some 62) (v := ?_) (a' := ?_) #[X,X,X,X,X,O,O,X,X,X,X,O,O,O,O,O,O,O,O,O,O,O,O,O,O,O] rfl rfl HT_ (by kernel_rfl) (fun _ _ _ h => h) ⟨by rfl, ?_⟩ ?_ ?_
              rotate_left; (intro w'; go_simp; with_reducible rfl); rotate_left; (simp only [sP]; rfl)
              refine pu (i := 13) (N := some 65) (v := ?_) (a' := ?_) #[X,X,X,X,X,O,O,X,X,X,X,O,O,X,O,O,O,O,O,O,O,O,O,O,O,O] rfl rfl HT_ (by kernel_rfl) (fun _ _ _ h => h) ⟨by rfl, ?_⟩ ?_ ?_
              rotate_left; (intro w'; go_simp; with_reducible rfl); rotate_left; (simp only [sP]; rfl)
              refine pu (i := 14) (N := some 66) (v := ?_) (a' := ?_) #[X,X,X,X,X,O,O,X,X,X,X,O,O,X,X,O,O,O,O,O,O,O,O,O,O,O] rfl rfl HT_ (by kernel_rfl) (fun _ _ _ h => h) ⟨by rfl, ?_⟩ ?_ ?_
              rotate_left; (intro w'; go_simp; with_reducible rfl); rotate_left; (simp only [sP]; rfl)
              refine pu (i := 15) (N := some 67) (v := ?_) (a' := ?_) #[X,X,X,X,X,O,O,X,X,X,X,O,O,X,X,X,O,O,O,O,O,O,O,O,O,O] rfl rfl HT_ (by kernel_rfl) (fun _ _ _ h => h) ⟨by rfl, ?_⟩ ?_ ?_
              rotate_left; (intro w'; go_simp; with_reducible rfl); rotate_left; (simp only [sP]; rfl)
              refine pu (i := 16) (N := some 68) (v := ?_) (a' := ?_) #[X,X,X,X,X,O,O,X,X,X,X,O,O,X,X,X,X,O,O,O,O,O,O,O,O,O] rfl rfl HT_ (by kernel_rfl) (fun _ _ _ h => h) ⟨by rfl, ?_⟩ ?_ ?_
              rotate_left; (intro w'; go_simp; with_reducible rfl); rotate_left; (simp only [sP]; rfl)
              refine pu (i := 18) (N := some 70) (v := ?_) (a' := ?_) #[X,X,X,X,X,O,O,X,X,X,X,O,O,X,X,X,X,O,X,O,O,O,O,O,O,O] rfl rfl HT_ (by kernel_rfl) (fun _ _ _ h => h) ⟨by rfl, ?_⟩ ?_ ?_
              rotate_left; (intro w'; go_simp; with_reducible rfl); rotate_left; (simp only [sP]; rfl)
              refine tu (i := 5) (N := some 57) (v := ?_) (a' := ?_) #[X,X,X,X,X,X,O,X,X,X,X,O,O,X,X,X,X,O,X,O,O,O,O,O,O,O] rfl rfl HT_ HW_ (by kernel_rfl) (fun _ _ _ h => h) ⟨by rfl, ?_⟩ hHeld ?_ ?_
              rotate_left; (rintro w' ⟨s0, s1, s2, s3, s4, s5, s6, s7, s8, s9, s10⟩; go_simp; with_reducible rfl); rotate_left; (simp only [sP]; rfl)
              refine pu (i := 6) (N := some 58) (v := ?_) (a' := ?_) #[X,X,X,X,X,X,X,X,X,X,X,O,O,X,X,X,X,O,X,O,O,O,O,O,O,O] rfl rfl HT_ (by kernel_rfl) (fun _ _ _ h => h) ⟨by rfl, ?_⟩ ?_ ?_
              rotate_left; (intro w'; go_simp; with_reducible rfl); rotate_left; (simp only [sP]; rfl)
              refine tu (i := 11) (N := some 63) (v := ?_) (a' := ?_) #[X,X,X,X,X,X,X,X,X,X,X,X,O,X,X,X,X,O,X,O,O,O,O,O,O,O] rfl rfl HT_ HW_ (by kernel_rfl) (fun _ _ _ h => h) ⟨by rfl, ?_⟩ hHeld ?_ ?_
              rotate_left; (rintro w' ⟨s0, s1, s2, s3, s4, s5, s6, s7, s8, s9, s10⟩; go_simp; with_reducible rfl); rotate_left; (simp only [sP]; rfl)
              refine pu (i := 12) (N := some 64) (v := ?_) (a' := ?_) #[X,X,X,X,X,X,X,X,X,X,X,X,X,X,X,X,X,O,X,O,O,O,O,O,O,O] rfl rfl HT_ (by kernel_rfl) (fun _ _ _ h => h) ⟨by rfl, ?_⟩ ?_ ?_
              rotate_left; (intro w'; go_simp; with_reducible rfl); rotate_left; (simp only [sP]; rfl)
              refine tu (i := 17) (N := some 69) (v := ?_) (a' := ?_) #[X,X,X,X,X,X,X,X,X,X,X,X,X,X,X,X,X,X,X,O,O,O,O,O,O,O] rfl rfl HT_ HW_ (by kernel_rfl) (fun _ _ _ h => h) ⟨by rfl, ?_⟩ hHeld ?_ ?_
              rotate_left; (rintro w' ⟨s0, s1, s2, s3, s4, s5, s6, s7, s8, s9, s10⟩; go_simp; with_reducible rfl); rotate_left; (simp only [sP]; rfl)
              refine pu (i := 19) (N := some 71) (v := ?_) (a' := ?_) #[X,X,X,X,X,X,X,X,X,X,X,X,X,X,X,X,X,X,X,X,O,O,O,O,O,O] rfl rfl HT_ (by kernel_rfl) (fun _ _ _ h => h) ⟨by rfl, ?_⟩ ?_ ?_
              rotate_left; (intro w'; go_simp; with_reducible rfl); rotate_left; (simp only [sP]; rfl)
              refine tu (i := 20) (N := some 72) (v := ?_) (a' := ?_) #[X,X,X,X,X,X,X,X,X,X,X,X,X,X,X,X,X,X,X,X,X,O,O,O,O,O] rfl rfl HT_ HW_ (by kernel_rfl) (fun _ _ _ h => h) ⟨by rfl, ?_⟩ hHeld ?_ ?_
              rotate_left; (rintro w' ⟨s0, s1, s2, s3, s4, s5, s6, s7, s8, s9, s10⟩; go_simp; with_reducible rfl); rotate_left; (simp only [sP]; rfl)
              refine one_ (i := 21) (N := some 73) #[X,X,X,X,X,X,X,X,X,X,X,X,X,X,X,X,X,X,X,X,X,X,O,O,O,O] rfl rfl (one_of HT_.out (by kernel_rfl)) (by decide) (fun K hK => ?_)
              refine Kd.R_append_rows_step (Kd.int .u8) (w0 := w) w.heap.size (by rfl) (.tmp 67) (.tmp 72) 33 5 (.int .u8 0) 1 rfl Try.underlying33 info5 rfl (by decide) (by omega) (.slice none 0 0) ([] : List Int) (rd_L1 l1_4 x8_1) _ _ _ (fun _ => True) (fun _ => False) rfl rfl ?aO ?aR (fun _ _ h => h) (fun _ h => h.elim) ?aF ?aB ?aS ?aL ?_
              (case aR => exact sC (Kd.C_below HR513_0.out HB.out))
              (case aB => exact (by repeat (first | exact sH HB.out | refine sN (w := w) ?_ | with_reducible refine sG (w := w) ?_ (by assumption))))
              (case aF => exact (fun _ _ => trivial))
              (case aO => exact ((Kd.R_nil _ _ _ _ (fun _ => True))))
              (case aS => exact (below_size (by repeat (first | exact sH HB.out | refine sN (w := w) ?_ | with_reducible refine sG (w := w) ?_ (by assumption)))))
              (case aL => have := LMc41.out; omega)
              intro v515 w49 ho hb hg hat
              rw [← Ny514.out] at ho
              replace HO_7 := Aside0.mk (Kd.S_after (Kd.S_apart_nil (sS HO_7.out)) hg hat); replace BK506 := Aside0.mk (blk_grown (g := gb506) (o := .cells #[.int .i64 a0_0, .int .i64 a0_1, .int .i64 a0_2, .int .i64 a0_3, .slice (some ad510) l0_4.length c0_4] 27 (0, 0)) (by first | exact BK506.out | (refine sO ?_; exact BK506.out)) hg (by simp [Value.ownBlock])); replace BK507 := Aside0.mk (blk_grown (g := gb507) (o := .cells #[.int .i64 a1_0, .int .i64 a1_1, .int .i64 a1_2, .int .i64 a1_3, .slice (some ad511) l1_4.length c1_4] 27 (0, 0)) (by first | exact BK507.out | (refine sO ?_; exact BK507.out)) hg (by simp [Value.ownBlock])); replace HB := Aside0.mk (hb); have HO516 := Aside0.mk (ho)
              clear ho hb hg hat
              obtain ⟨Ao50, co50, eo50⟩ := Kd.R_slice HO516.out
              (first | subst eo50 | (injection eo50 with f1_ f2_ f3_; have f4_ := f1_.symm; have f5_ := f3_.symm; clear f1_ f2_ f3_; subst f4_; subst f5_))
              refine hK.out _ _ ⟨(blk_cell BK506.out 0).trans rfl, (blk_cell BK506.out 1).trans rfl, (blk_cell BK506.out 2).trans rfl, (blk_cell BK506.out 3).trans rfl, (blk_cell BK506.out 4).trans rfl, (blk_cell BK507.out 0).trans rfl, (blk_cell BK507.out 1).trans rfl, (blk_cell BK507.out 2).trans rfl, (blk_cell BK507.out 3).trans rfl, (blk_cell BK507.out 4).trans rfl, ((HB.out.cell (World.block_lt_of_cell? w _ hw513_0)).trans hw513_0)⟩ (fun hHeld => ?_)
              clear hK K
              refine norm_ (a' := ?_) ?_ ?_
              rotate_left
              ·
               show Act.put _ (some 73) _ = _
               simp only [sP]
               rfl
              refine pu (i := 22) (N := some 74) (v := ?_) (a' := ?_) #[X,X,X,X,X,X,X,X,X,X,X,X,X,X,X,X,X,X,X,X,X,X,X,O,O,O] rfl rfl HT_ (by kernel_rfl) (fun _ _ _ h => h) ⟨by rfl, ?_⟩ ?_ ?_
              rotate_left; (intro w'; go_simp; with_reducible rfl); rotate_left; (simp only [sP]; rfl)
              refine one_ (i := 23) (N := some 75) #[X,X,X,X,X,X,X,X,X,X,X,X,X,X,X,X,X,X,X,X,X,X,X,X,O,O] rfl rfl (one_of HT_.out (by kernel_rfl)) (by decide) (fun K hK => ?_)
              refine value_ (w1 := ?_) (v := ?_) (by rfl) rfl ?_ ?_
              rotate_left 2
              ·
               go_simp
               constructor
               ·
                rfl
               ·
                rfl
              refine hK.out _ _ ⟨(blk_cell (blk_alloc BK506.out _) 0).trans rfl, (blk_cell (blk_alloc BK506.out _) 1).trans rfl, (blk_cell (blk_alloc BK506.out _) 2).trans rfl, (blk_cell (blk_alloc BK506.out _) 3).trans rfl, (blk_cell (blk_alloc BK506.out _) 4).trans rfl, (blk_cell (blk_alloc BK507.out _) 0).trans rfl, (blk_cell (blk_alloc BK507.out _) 1).trans rfl, (blk_cell (blk_alloc BK507.out _) 2).trans rfl, (blk_cell (blk_alloc BK507.out _) 3).trans rfl, (blk_cell (blk_alloc BK507.out _) 4).trans rfl, (World.cell?_alloc_lt _ _ _ (World.block_lt_of_cell? _ _ (((HB.out.cell (World.block_lt_of_cell? w _ hw513_0)).trans hw513_0)))).trans (((HB.out.cell (World.block_lt_of_cell? w _ hw513_0)).trans hw513_0))⟩ (fun hHeld => ?_)
              clear hK K
              refine norm_ (a' := ?_) ?_ ?_
              rotate_left
              ·
               show Act.put _ (some 75) _ = _
               simp only [sP]
               rfl
              refine one_ (i := 24) (N := some 76) #[X,X,X,X,X,X,X,X,X,X,X,X,X,X,X,X,X,X,X,X,X,X,X,X,X,O] rfl rfl (one_of HT_.out (by kernel_rfl)) (by decide) (fun K hK => ?_)
              refine Kd.S_append_step k35 (w0 := w) w.heap.size (by rfl) (.tmp 52) (.tmp 75) 32 35 (.agg #[(.int .i64 0), (.int .i64 0), (.int .i64 0), (.slice none 0 0)]) 48 rfl Try.underlying32 info35 rfl (by decide) (by omega) u7 x7_1 (⟨wrap64 (Int.tdiv (wrap64 (Int.tdiv x8_1 2)) a0_3), Int.tmod (wrap64 (Int.tdiv x8_1 2)) a0_3, Int.tmod x8_1 2, y514⟩ : S35) [.int .i64 (wrap64 (Int.tdiv (wrap64 (Int.tdiv x8_1 2)) a0_3)), .int .i64 (Int.tmod (wrap64 (Int.tdiv x8_1 2)) a0_3), .int .i64 (Int.tmod x8_1 2), .slice Ao50 y514.length co50] (fun _ => True) (fun k_ => some k_ = (.slice Ao50 y514.length co50 : Value).ownBlock) rfl rfl ?aP (fun k_ hk_ => ((Kd.R_mono (ok' := fun k_ => ((fun _ => True)) k_ ∧ some k_ ≠ (u7 : Value).ownBlock) (Kd.R_apart' (HO516.out) (Kd.S_typed HO_7.out) (by decide)) (fun k_ hk => ⟨trivial, hk.2⟩))).1 k_ hk_.symm) ?aF ?aO ?aB ?aS ?aL ?_
              (case aP => exact k35_mkM _ _ _ (⟨wrap64 (Int.tdiv (wrap64 (Int.tdiv x8_1 2)) a0_3), Int.tmod (wrap64 (Int.tdiv x8_1 2)) a0_3, Int.tmod x8_1 2, y514⟩ : S35) (Kd.R_mono (Kd.R_tight rfl (Kd.R_mono (ok' := fun k_ => ((fun _ => True)) k_ ∧ some k_ ≠ (u7 : Value).ownBlock) (Kd.R_apart' (HO516.out) (Kd.S_typed HO_7.out) (by decide)) (fun k_ hk => ⟨trivial, hk.2⟩))) (fun _ h_ => h_)))
              (case aB => exact (by repeat (first | exact sH HB.out | refine sN (w := w) ?_ | with_reducible refine sG (w := w) ?_ (by assumption))))
              (case aF => exact (fun _ _ => trivial))
              (case aO => exact (by (with_reducible repeat (first | apply Kd.S_alloc | apply Kd.S_drewN | apply Kd.S_drew)); exact Kd.S_mono HO_7.out (fun k_ hk => ⟨trivial, fun e_ => hk.2 e_⟩)))
              (case aS => exact (below_size (by repeat (first | exact sH HB.out | refine sN (w := w) ?_ | with_reducible refine sG (w := w) ?_ (by assumption)))))
              (case aL => have := LMc42.out; omega)
              intro v518 w51 ho hb hg hat
              rw [← Ny517.out] at ho
              have n0_ := Aside0.mk (blk_grown (g := gb506) (o := .cells #[.int .i64 a0_0, .int .i64 a0_1, .int .i64 a0_2, .int .i64 a0_3, .slice (some ad510) l0_4.length c0_4] 27 (0, 0)) (by first | exact BK506.out | (refine sO ?_; exact BK506.out)) hg (Kd.S_ne HO_7.out BK506.out (by decide))); have n1_ := Aside0.mk (blk_grown (g := gb507) (o := .cells #[.int .i64 a1_0, .int .i64 a1_1, .int .i64 a1_2, .int .i64 a1_3, .slice (some ad511) l1_4.length c1_4] 27 (0, 0)) (by first | exact BK507.out | (refine sO ?_; exact BK507.out)) hg (Kd.S_ne HO_7.out BK507.out (by decide))); have n2_ := Aside0.mk (hb); have n3_ := Aside0.mk (ho); clear BK506; clear BK507; clear HB; clear HO_7; clear HO516; have BK506 := n0_; have BK507 := n1_; have HB := n2_; have HO519 := n3_; clear n0_ n1_ n2_ n3_
              clear ho hb hg hat
              refine hK.out _ _ ⟨(blk_cell BK506.out 0).trans rfl, (blk_cell BK506.out 1).trans rfl, (blk_cell BK506.out 2).trans rfl, (blk_cell BK506.out 3).trans rfl, (blk_cell BK506.out 4).trans rfl, (blk_cell BK507.out 0).trans rfl, (blk_cell BK507.out 1).trans rfl, (blk_cell BK507.out 2).trans rfl, (blk_cell BK507.out 3).trans rfl, (blk_cell BK507.out 4).trans rfl, ((HB.out.cell (World.block_lt_of_cell? w _ hw513_0)).trans hw513_0)⟩ (fun hHeld => ?_)
              clear hK K
              refine norm_ (a' := ?_) ?_ ?_
              rotate_left
              ·
               show Act.put _ (some 76) _ = _
               simp only [sP]
               rfl
              refine pu (i := 25) (N := some 7) (v := ?_) (a' := ?_) #[X,X,X,X,X,X,X,X,X,X,X,X,X,X,X,X,X,X,X,X,X,X,X,X,X,X] rfl rfl HT_ (by kernel_rfl) (fun _ _ _ h => h) ⟨by rfl, ?_⟩ ?_ ?_
              rotate_left; (intro w'; go_simp; with_reducible rfl); rotate_left; (simp only [sP]; rfl)
              refine done_ (done_of HT_.out (by kernel_rfl)) ?_
              try go_wp2
              go_roundg k1
              case measure => have := HK1.out; omega
              case rel => exact ⟨(y517), (wrap64 (x8_1 + 1)), (by first | rfl | (simp; done) | (simp [*]; done)), H', ⟨by have := HK1.out; omega⟩, ⟨by (with_reducible repeat (first | apply Kd.S_alloc | apply Kd.S_drewN | apply Kd.S_drew)); exact HO519.out⟩, ⟨by (try refine sO ?_); exact BK506.out⟩, ⟨by (try refine sO ?_); exact BK507.out⟩, ⟨by repeat (first | exact sH HB.out | refine sN (w := w) ?_ | with_reducible refine sG (w := w) ?_ (by assumption))⟩⟩
             ·
              rw [if_neg c42] at H
              exact absurd H (by simp)
            ·
             rw [if_neg c41] at H
             exact absurd H (by simp)
        ·
         rw [if_neg c28] at H
         exact absurd H (by simp)
       ·
        rw [if_neg c27] at H
        exact absurd H (by simp)
      ·
       rw [if_neg c26] at H
       have c26b0 : decide (x8_1 < (l0_4.length : Int)) = false := decide_eq_false c26
       clear c26
       simp only [Option.some.injEq, Prod.mk.injEq] at H
       obtain ⟨rfl, rfl⟩ := H
       have hnb52 := NB506_507.out
       have hnc52 := NB507_506.out
       obtain ⟨hcz53_0, hcz53_1, hcz53_2, hcz53_3, hcz53_4, hfz53_0, hfz53_1, hfz53_2, hfz53_3, hfz53_4⟩ := cs5 BK506.out
       go_wp2
       go_ret2
       exact ⟨_, by first | rfl | (simp [errW_none, errW_some] <;> rfl) | (simp [*, errW_none, errW_some] <;> rfl), by (with_reducible repeat (first | apply Kd.S_alloc | apply Kd.S_drewN | apply Kd.S_drew)); exact HO_7.out, by repeat (first | exact sH HB.out | refine sN (w := w) ?_ | with_reducible refine sG (w := w) ?_ (by assumption))⟩
  ·
   rw [if_neg c6] at H
   have c6b0 : (t509 == 0) = false := beq_eq_false_iff_ne.mpr c6
   have c6b1 : (t509 != 0) = true := bne_iff_ne.mpr c6
   simp only [Option.some.injEq, Prod.mk.injEq] at H
   obtain ⟨rfl, rfl⟩ := H
   go_enter Try.func31, Try.ntmps31
   go_wp2_with (first | ((with_reducible refine gate_dst (N := 2) rfl ?_); refine box_event rfl (N := 2) rfl (cs := #[.int .i64 a0_0, .int .i64 a0_1, .int .i64 a0_2, .int .i64 a0_3, .slice A0_4 l0_4.length c0_4]) (t := 27) (by go_simp; try rfl) ?_; intro gb506 hg w54 hbox hb; have BK506 := Aside0.mk (hbox); have GW506 := Aside0.mk ((by rw [hg]; exact (sZ HB) : w.heap.size ≤ gb506)); have GE506 := Aside0.mk ((by rw [hg]; exact (sZ HB) : w.heap.size ≤ gb506)); replace HB := kH HB hb; clear hb hbox hg) | ((with_reducible refine gate_dst (N := 3) rfl ?_); refine box_event rfl (N := 3) rfl (cs := #[.int .i64 a1_0, .int .i64 a1_1, .int .i64 a1_2, .int .i64 a1_3, .slice A1_4 l1_4.length c1_4]) (t := 27) (by go_simp; try rfl) ?_; intro gb507 hg w55 hbox hb; have BK507 := Aside0.mk (hbox); have GW507 := Aside0.mk ((by rw [hg]; exact (below_size (by repeat (first | exact sH HB.out | refine sN (w := w) ?_ | with_reducible refine sG (w := w) ?_ (by assumption)))) : w.heap.size ≤ gb507)); have GE507 := Aside0.mk ((by rw [hg]; exact (below_size (by repeat (first | exact sH HB.out | refine sN (w := w) ?_ | with_reducible refine sG (w := w) ?_ (by assumption)))) : w.heap.size ≤ gb507)); replace HB := Aside0.mk (below_step (by repeat (first | exact sH HB.out | refine sN (w := w) ?_ | with_reducible refine sG (w := w) ?_ (by assumption))) hb); have NB506_507 := Aside0.mk ((by rw [hg]; exact Nat.ne_of_lt (blk_lt (g := gb506) (o := .cells #[.int .i64 a0_0, .int .i64 a0_1, .int .i64 a0_2, .int .i64 a0_3, .slice A0_4 l0_4.length c0_4] 27 (0, 0)) (by first | exact BK506.out | (refine sO ?_; exact BK506.out))) : gb506 ≠ gb507)); have NB507_506 := Aside0.mk ((by rw [hg]; exact Nat.ne_of_gt (blk_lt (g := gb506) (o := .cells #[.int .i64 a0_0, .int .i64 a0_1, .int .i64 a0_2, .int .i64 a0_3, .slice A0_4 l0_4.length c0_4] 27 (0, 0)) (by first | exact BK506.out | (refine sO ?_; exact BK506.out))) : gb507 ≠ gb506)); replace BK506 := kB BK506 hb; clear hb hbox hg; have hnb56 := NB506_507.out; have hnc56 := NB507_506.out; obtain ⟨hcz57_0, hcz57_1, hcz57_2, hcz57_3, hcz57_4, hfz57_0, hfz57_1, hfz57_2, hfz57_3, hfz57_4⟩ := cs5 BK506.out) | ((with_reducible refine gate_callee (f := 27) rfl ?_); refine goesL_ (some 11) rfl rfl Try.func27 (by kernel_rfl) rfl #[.agg #[.int .i64 a0_0, .int .i64 a0_1, .int .i64 a0_2, .int .i64 a0_3, .slice A0_4 l0_4.length c0_4]] rfl (by (try simp only [sM]); first | done | rfl | (simp only [sT]; rfl)) ?_; (with_reducible refine (twoslotref09_Check.calls k a0_0 a0_1 a0_2 a0_3 _ _ l0_4 t508 _ ?side1 ?side2 A3.out).mono ?_); (case side1 => exact sC (Kd.C_below HR0_4.out HB.out)); (case side2 => exact HC0_4.out); rintro e w58 ⟨rfl, hb⟩; refine ⟨_, rfl, ?_⟩; replace BK506 := kB BK506 hb; replace BK507 := kB BK507 hb; replace HB := Aside0.mk (below_step (by repeat (first | exact sH HB.out | refine sN (w := w) ?_ | with_reducible refine sG (w := w) ?_ (by assumption))) hb); (try clear hb); (try clear hb2); (try clear hk); (try clear hi); obtain ⟨hcz59_0, hcz59_1, hcz59_2, hcz59_3, hcz59_4, hfz59_0, hfz59_1, hfz59_2, hfz59_3, hfz59_4⟩ := cs5 BK507.out) | ((with_reducible refine gate_callee (f := 27) rfl ?_); refine goesL_ (some 16) rfl rfl Try.func27 (by kernel_rfl) rfl #[.agg #[.int .i64 a1_0, .int .i64 a1_1, .int .i64 a1_2, .int .i64 a1_3, .slice A1_4 l1_4.length c1_4]] rfl (by (try simp only [sM]); first | done | rfl | (simp only [sT]; rfl)) ?_; (with_reducible refine (twoslotref09_Check.calls k a1_0 a1_1 a1_2 a1_3 _ _ l1_4 t509 _ ?side1 ?side2 A5.out).mono ?_); (case side1 => exact sC (Kd.C_below HR1_4.out HB.out)); (case side2 => exact HC1_4.out); rintro e w60 ⟨rfl, hb⟩; refine ⟨_, rfl, ?_⟩; replace BK506 := kB BK506 hb; replace BK507 := kB BK507 hb; replace HB := Aside0.mk (below_step (by repeat (first | exact sH HB.out | refine sN (w := w) ?_ | with_reducible refine sG (w := w) ?_ (by assumption))) hb); (try clear hb); (try clear hb2); (try clear hk); (try clear hi)))
   go_ret2
   exact ⟨_, by first | rfl | (simp [errW_none, errW_some] <;> rfl) | (simp [*, errW_none, errW_some] <;> rfl), by first | exact Kd.S_nil _ _ _ _ _ | exact Kd.N_nil _ _ _ _ _ | exact Kd.V_nil _ _ _ _ _ | exact Kd.Q_nil _ _ _ _ _ | exact Kd.R_nil _ _ _ _ _, by repeat (first | exact sH HB.out | refine sN (w := w) ?_ | with_reducible refine sG (w := w) ?_ (by assumption))⟩
 ·
  rw [if_neg c4] at H
  have c4b0 : (t508 == 0) = false := beq_eq_false_iff_ne.mpr c4
  have c4b1 : (t508 != 0) = true := bne_iff_ne.mpr c4
  simp only [Option.some.injEq, Prod.mk.injEq] at H
  obtain ⟨rfl, rfl⟩ := H
  go_enter Try.func31, Try.ntmps31
  go_wp2_with (first | ((with_reducible refine gate_dst (N := 2) rfl ?_); refine box_event rfl (N := 2) rfl (cs := #[.int .i64 a0_0, .int .i64 a0_1, .int .i64 a0_2, .int .i64 a0_3, .slice A0_4 l0_4.length c0_4]) (t := 27) (by go_simp; try rfl) ?_; intro gb506 hg w61 hbox hb; have BK506 := Aside0.mk (hbox); have GW506 := Aside0.mk ((by rw [hg]; exact (sZ HB) : w.heap.size ≤ gb506)); have GE506 := Aside0.mk ((by rw [hg]; exact (sZ HB) : w.heap.size ≤ gb506)); replace HB := kH HB hb; clear hb hbox hg) | ((with_reducible refine gate_dst (N := 3) rfl ?_); refine box_event rfl (N := 3) rfl (cs := #[.int .i64 a1_0, .int .i64 a1_1, .int .i64 a1_2, .int .i64 a1_3, .slice A1_4 l1_4.length c1_4]) (t := 27) (by go_simp; try rfl) ?_; intro gb507 hg w62 hbox hb; have BK507 := Aside0.mk (hbox); have GW507 := Aside0.mk ((by rw [hg]; exact (below_size (by repeat (first | exact sH HB.out | refine sN (w := w) ?_ | with_reducible refine sG (w := w) ?_ (by assumption)))) : w.heap.size ≤ gb507)); have GE507 := Aside0.mk ((by rw [hg]; exact (below_size (by repeat (first | exact sH HB.out | refine sN (w := w) ?_ | with_reducible refine sG (w := w) ?_ (by assumption)))) : w.heap.size ≤ gb507)); replace HB := Aside0.mk (below_step (by repeat (first | exact sH HB.out | refine sN (w := w) ?_ | with_reducible refine sG (w := w) ?_ (by assumption))) hb); have NB506_507 := Aside0.mk ((by rw [hg]; exact Nat.ne_of_lt (blk_lt (g := gb506) (o := .cells #[.int .i64 a0_0, .int .i64 a0_1, .int .i64 a0_2, .int .i64 a0_3, .slice A0_4 l0_4.length c0_4] 27 (0, 0)) (by first | exact BK506.out | (refine sO ?_; exact BK506.out))) : gb506 ≠ gb507)); have NB507_506 := Aside0.mk ((by rw [hg]; exact Nat.ne_of_gt (blk_lt (g := gb506) (o := .cells #[.int .i64 a0_0, .int .i64 a0_1, .int .i64 a0_2, .int .i64 a0_3, .slice A0_4 l0_4.length c0_4] 27 (0, 0)) (by first | exact BK506.out | (refine sO ?_; exact BK506.out))) : gb507 ≠ gb506)); replace BK506 := kB BK506 hb; clear hb hbox hg; have hnb63 := NB506_507.out; have hnc63 := NB507_506.out; obtain ⟨hcz64_0, hcz64_1, hcz64_2, hcz64_3, hcz64_4, hfz64_0, hfz64_1, hfz64_2, hfz64_3, hfz64_4⟩ := cs5 BK506.out) | ((with_reducible refine gate_callee (f := 27) rfl ?_); refine goesL_ (some 11) rfl rfl Try.func27 (by kernel_rfl) rfl #[.agg #[.int .i64 a0_0, .int .i64 a0_1, .int .i64 a0_2, .int .i64 a0_3, .slice A0_4 l0_4.length c0_4]] rfl (by (try simp only [sM]); first | done | rfl | (simp only [sT]; rfl)) ?_; (with_reducible refine (twoslotref09_Check.calls k a0_0 a0_1 a0_2 a0_3 _ _ l0_4 t508 _ ?side1 ?side2 A3.out).mono ?_); (case side1 => exact sC (Kd.C_below HR0_4.out HB.out)); (case side2 => exact HC0_4.out); rintro e w65 ⟨rfl, hb⟩; refine ⟨_, rfl, ?_⟩; replace BK506 := kB BK506 hb; replace BK507 := kB BK507 hb; replace HB := Aside0.mk (below_step (by repeat (first | exact sH HB.out | refine sN (w := w) ?_ | with_reducible refine sG (w := w) ?_ (by assumption))) hb); (try clear hb); (try clear hb2); (try clear hk); (try clear hi)))
  go_ret2
  exact ⟨_, by first | rfl | (simp [errW_none, errW_some] <;> rfl) | (simp [*, errW_none, errW_some] <;> rfl), by first | exact Kd.S_nil _ _ _ _ _ | exact Kd.N_nil _ _ _ _ _ | exact Kd.V_nil _ _ _ _ _ | exact Kd.Q_nil _ _ _ _ _ | exact Kd.R_nil _ _ _ _ _, by repeat (first | exact sH HB.out | refine sN (w := w) ?_ | with_reducible refine sG (w := w) ?_ (by assumption))⟩

end Go.Proofs.Ytcnmocbiekfpbaa.P

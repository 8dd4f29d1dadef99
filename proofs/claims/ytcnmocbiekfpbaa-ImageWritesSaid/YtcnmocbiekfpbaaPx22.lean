-- Written by a program of this session, after the kit's print.
import Derived.Test.YtcnmocbiekfpbaaPx0
import Derived.Test.YtcnmocbiekfpbaaP0Short
import Derived.Test.YtcnmocbiekfpbaaPx19
import Derived.Test.YtcnmocbiekfpbaaPx20
import Derived.Test.YtcnmocbiekfpbaaPx21
namespace Go.Proofs.Ytcnmocbiekfpbaa.P
open Go.RowKit Go.Proofs.YtcnmocbiekfpbaaW.PrintWords Go.Proofs.YtcnmocbiekfpbaaW.PrintLast Go.Proofs.YtcnmocbiekfpbaaW.PrintMore
attribute [local go_sem] max2_int min2_int max_two min_two max_three min_three max_four min_four   -- for this text's walks alone
set_option linter.unusedVariables false
set_option linter.unusedSimpArgs false

mutual
def twoslotref09_After.l0 : Nat → List (S35) → Int → Int → Int → Int → Int → Int → List (List Int) → Option (Int × Int × Int × Int × (List (List Int)) × Int)
 | 0, _, _, _, _, _, _, _, _ => none
 | k + 1, x1, x2, x9, x398000, x398001, x398002, x398003, x398004 => if x9 < (x1.length : Int) then (if 0 ≤ x9 then ((twoslotref09_May.f x398000 x398001 x398002 x398003 ((rd_T35 x1 x9).f0) ((rd_T35 x1 x9).f1) ((rd_T35 x1 x9).f2) ((rd_T35 x1 x9).f3)).bind fun t401 => (if t401 = true then (twoslotref09_After.l0 k x1 x2 (wrap64 (x9 + 1)) x398000 x398001 x398002 x398003 x398004) else (some (0, 0, 0, 0, ([] : List (List Int)), 80)))) else (none)) else (if x2 < 0 then (twoslotref09_After.j1 k x1 x2 true x398000 x398001 x398002 x398003 x398004) else (twoslotref09_After.j1 k x1 x2 (decide (x2 > (x1.length : Int))) x398000 x398001 x398002 x398003 x398004))
def twoslotref09_After.j1 : Nat → List (S35) → Int → Bool → Int → Int → Int → Int → List (List Int) → Option (Int × Int × Int × Int × (List (List Int)) × Int)
 | 0, _, _, _, _, _, _, _, _ => none
 | k + 1, x1, x2, x46, x398000, x398001, x398002, x398003, x398004 => if x46 = true then (some (0, 0, 0, 0, ([] : List (List Int)), 2)) else ((twoslotref09_Twin.f k x398000 x398001 x398002 x398003 x398004).bind fun bt402 => (twoslotref09_After.l1 k x1 x2 0 x398000 x398001 x398002 x398003 x398004 bt402.1 bt402.2.1 bt402.2.2.1 bt402.2.2.2.1 bt402.2.2.2.2))
def twoslotref09_After.l1 : Nat → List (S35) → Int → Int → Int → Int → Int → Int → List (List Int) → Int → Int → Int → Int → List (List Int) → Option (Int × Int × Int × Int × (List (List Int)) × Int)
 | 0, _, _, _, _, _, _, _, _, _, _, _, _, _ => none
 | k + 1, x1, x2, x11, x398000, x398001, x398002, x398003, x398004, x410000, x410001, x410002, x410003, x410004 => if x11 < x2 then (if 0 ≤ x11 then (if x11 < (x1.length : Int) then ((twoslotref09_Number.f x398000 x398001 x398002 x398003 ((rd_T35 x1 x11).f0) ((rd_T35 x1 x11).f1) ((rd_T35 x1 x11).f2)).bind fun t412 => (if ([] : List Int).length + ((rd_T35 x1 x11).f3).length < 140737488355328 then (if 0 ≤ t412 then (if t412 < (x410004.length : Int) then (twoslotref09_After.l1 k x1 x2 (wrap64 (x11 + 1)) x398000 x398001 x398002 x398003 x398004 x410000 x410001 x410002 x410003 (x410004.set (t412 : Int).toNat (([] : List Int) ++ ((rd_T35 x1 x11).f3)))) else (none)) else (none)) else (none))) else (none)) else (none)) else (some (x410000, x410001, x410002, x410003, x410004, 0))
end
def twoslotref09_After.f (k : Nat) (a0_0 : Int) (a0_1 : Int) (a0_2 : Int) (a0_3 : Int) (l0_4 : List (List Int)) (l1 : List (S35)) (a2 : Int) : Option (Int × Int × Int × Int × (List (List Int)) × Int) := (twoslotref09_Check.f k a0_0 a0_1 a0_2 a0_3 l0_4).bind fun t399 => (if t399 = 0 then (if (l1.length : Int) > 65536 then (some (0, 0, 0, 0, ([] : List (List Int)), 20)) else (twoslotref09_After.l0 k l1 a2 0 a0_0 a0_1 a0_2 a0_3 l0_4)) else (some (0, 0, 0, 0, ([] : List (List Int)), t399)))
def twoslotref09_After.T9 : Bool × List (List Nat × List Nat) := (true, [([], []), ([0], [0]), ([], []), ([], []), ([2, 3], [2, 3]), ([4], [4]), ([1, 5], [1, 5]), ([6], [6])])
def twoslotref09_After.B9 : List Nat := [0, 1, 0, 0, 12, 28, 63, 127]
theorem twoslotref09_After.tab9 : rtab .any (opsOf Try.f24 9) = twoslotref09_After.T9 := by kernel_rfl
theorem twoslotref09_After.bits9 : waitsOk twoslotref09_After.T9.2 twoslotref09_After.B9 = true := by kernel_rfl
def twoslotref09_After.T19 : Bool × List (List Nat × List Nat) := (true, [([], []), ([0], [0]), ([], []), ([2], [2]), ([], []), ([4], [4]), ([], []), ([6], [6]), ([], []), ([8], [8]), ([3, 5, 7, 9], [3, 5, 7, 9]), ([], []), ([], []), ([12], [12]), ([11, 13, 10], [11, 13]), ([1, 10, 0, 1, 2, 3, 4, 5, 6, 7, 8, 9, 10, 11, 12, 13, 14], [1, 10]), ([15, 14, 14, 0, 1, 2, 3, 4, 5, 6, 7, 8, 9, 10, 11, 12, 13, 14], [14, 15])])
def twoslotref09_After.B19 : List Nat := [0, 1, 0, 4, 0, 16, 0, 64, 0, 256, 1020, 0, 0, 4096, 16380, 32767, 65535]
theorem twoslotref09_After.tab19 : rtab .any (opsOf Try.f24 19) = twoslotref09_After.T19 := by kernel_rfl
theorem twoslotref09_After.bits19 : waitsOk twoslotref09_After.T19.2 twoslotref09_After.B19 = true := by kernel_rfl
set_option maxHeartbeats 8000000 in
set_option maxRecDepth 100000 in
theorem twoslotref09_After.calls (k : Nat) (a0_0 : Int) (a0_1 : Int) (a0_2 : Int) (a0_3 : Int) (A0_4 : Option Addr) (c0_4 : Nat) (l0_4 : List (List Int)) (A1 : Option Addr) (c1 : Nat) (l1 : List (S35)) (a2 : Int) (r1 : Int) (r2 : Int) (r3 : Int) (r4 : Int) (r5 : List (List Int)) (r6 : Int) (w : World) (hr0_4 : Kd.C (Kd.slice 5 (Kd.int .u8)) w A0_4 l0_4.length l0_4) (hc0_4 : l0_4.length ≤ c0_4) (hr1 : Kd.C k35 w A1 l1.length l1) (hc1 : l1.length ≤ c1) (h : twoslotref09_After.f k a0_0 a0_1 a0_2 a0_3 l0_4 l1 a2 = some (r1, r2, r3, r4, r5, r6)) :
  Calls Try.prog 24 #[.agg #[.int .i64 a0_0, .int .i64 a0_1, .int .i64 a0_2, .int .i64 a0_3, .slice A0_4 l0_4.length c0_4], .slice A1 l1.length c1, .int .i64 a2] w fun e w' => ∃ v4_ : Value, e = .returned (.tuple #[.agg #[.int .i64 r1, .int .i64 r2, .int .i64 r3, .int .i64 r4, v4_], .int .i64 r6]) ∧ Kd.N (Kd.slice 5 (Kd.int .u8)) 33 w' w.heap.size (fun k_ => (w.heap.size ≤ k_)) v4_ r5 ∧ Below w.heap.size w w' := by
 have hu27 := Try.underlying27
 have hu24 := Try.underlying24
 have hu35 := Try.underlying35
 have HR0_4 := Aside0.mk hr0_4
 have HC0_4 := Aside0.mk hc0_4
 clear hr0_4 hc0_4
 have HR1 := Aside0.mk hr1
 have HC1 := Aside0.mk hc1
 clear hr1 hc1
 have HB := Aside0.mk (Below.refl w.heap.size w)
 have H : ((twoslotref09_Check.f k a0_0 a0_1 a0_2 a0_3 l0_4).bind fun t399 => (if t399 = 0 then (if (l1.length : Int) > 65536 then (some (0, 0, 0, 0, ([] : List (List Int)), 20)) else (twoslotref09_After.l0 k l1 a2 0 a0_0 a0_1 a0_2 a0_3 l0_4)) else (some (0, 0, 0, 0, ([] : List (List Int)), t399)))) = some (r1, r2, r3, r4, r5, r6) := h
 clear h
 replace H := Option.bind_eq_some_iff.mp H
 obtain ⟨t399, A40, H⟩ := H
 try dsimp only at H
 have A4 := Aside0.mk A40
 clear A40
 by_cases c5 : t399 = 0
 ·
  rw [if_pos c5] at H
  have c5b0 : (t399 == 0) = true := beq_iff_eq.mpr c5
  have c5b1 : (t399 != 0) = false := bne_eq_false_iff_eq.mpr c5
  clear c5
  by_cases c6 : (l1.length : Int) > 65536
  ·
   rw [if_pos c6] at H
   have c6b0 : decide (65536 < (l1.length : Int)) = true := decide_eq_true c6
   have c6b1 : decide (65536 < l1.length) = true := decide_eq_true (by omega)
   clear c6
   simp only [Option.some.injEq, Prod.mk.injEq] at H
   obtain ⟨rfl, rfl, rfl, rfl, rfl, rfl⟩ := H
   go_enter Try.func24, Try.ntmps24
   go_wp2_with (first | ((with_reducible refine gate_dst (N := 3) rfl ?_); (try (refine gate_guard (by rfl) ?_; dsimp only)); refine box_event rfl (N := 3) rfl (cs := #[.int .i64 a0_0, .int .i64 a0_1, .int .i64 a0_2, .int .i64 a0_3, .slice A0_4 l0_4.length c0_4]) (t := 27) (by go_simp; try rfl) ?_; intro gb397 hg w7 hbox hb; have BK397 := Aside0.mk (hbox); have GW397 := Aside0.mk ((by rw [hg]; exact (sZ HB) : w.heap.size ≤ gb397)); have GE397 := Aside0.mk ((by rw [hg]; exact (sZ HB) : w.heap.size ≤ gb397)); replace HB := kH HB hb; clear hb hbox hg) | ((with_reducible refine gate_dst (N := 6) rfl ?_); (try (refine gate_guard (by rfl) ?_; dsimp only)); refine box_event rfl (N := 6) rfl (cs := #[.int .i64 0, .int .i64 0, .int .i64 0, .int .i64 0, .slice none 0 0]) (t := 27) (by go_simp; try rfl) ?_; intro gb398 hg w8 hbox hb; have BK398 := Aside0.mk (hbox); have GW398 := Aside0.mk ((by rw [hg]; exact (below_size (by repeat (first | exact sH HB.out | refine sN (w := w) ?_ | with_reducible refine sG (w := w) ?_ (by assumption)))) : w.heap.size ≤ gb398)); have GE398 := Aside0.mk ((by rw [hg]; exact (below_size (by repeat (first | exact sH HB.out | refine sN (w := w) ?_ | with_reducible refine sG (w := w) ?_ (by assumption)))) : w.heap.size ≤ gb398)); replace HB := Aside0.mk (below_step (by repeat (first | exact sH HB.out | refine sN (w := w) ?_ | with_reducible refine sG (w := w) ?_ (by assumption))) hb); have NB397_398 := Aside0.mk ((by rw [hg]; exact Nat.ne_of_lt (blk_lt (g := gb397) (o := .cells #[.int .i64 a0_0, .int .i64 a0_1, .int .i64 a0_2, .int .i64 a0_3, .slice A0_4 l0_4.length c0_4] 27 (0, 0)) (by first | exact BK397.out | (refine sO ?_; exact BK397.out))) : gb397 ≠ gb398)); have NB398_397 := Aside0.mk ((by rw [hg]; exact Nat.ne_of_gt (blk_lt (g := gb397) (o := .cells #[.int .i64 a0_0, .int .i64 a0_1, .int .i64 a0_2, .int .i64 a0_3, .slice A0_4 l0_4.length c0_4] 27 (0, 0)) (by first | exact BK397.out | (refine sO ?_; exact BK397.out))) : gb398 ≠ gb397)); replace BK397 := kB BK397 hb; clear hb hbox hg; have hnb9 := NB397_398.out; have hnc9 := NB398_397.out; obtain ⟨hcz10_0, hcz10_1, hcz10_2, hcz10_3, hcz10_4, hfz10_0, hfz10_1, hfz10_2, hfz10_3, hfz10_4⟩ := cs5 BK397.out) | ((with_reducible refine gate_callee (f := 27) rfl ?_); refine goesL_ (some 15) rfl rfl Try.func27 (by kernel_rfl) rfl #[.agg #[.int .i64 a0_0, .int .i64 a0_1, .int .i64 a0_2, .int .i64 a0_3, .slice A0_4 l0_4.length c0_4]] rfl (by (try simp only [sM]); first | done | rfl | (simp only [sT]; rfl)) ?_; (with_reducible refine (twoslotref09_Check.calls k a0_0 a0_1 a0_2 a0_3 _ _ l0_4 t399 _ ?side1 ?side2 A4.out).mono ?_); (case side1 => exact sC (Kd.C_below HR0_4.out HB.out)); (case side2 => exact HC0_4.out); rintro e w11 ⟨rfl, hb⟩; refine ⟨_, rfl, ?_⟩; replace BK397 := kB BK397 hb; replace BK398 := kB BK398 hb; replace HB := Aside0.mk (below_step (by repeat (first | exact sH HB.out | refine sN (w := w) ?_ | with_reducible refine sG (w := w) ?_ (by assumption))) hb); (try clear hb); (try clear hb2); (try clear hk); (try clear hi); obtain ⟨hcz12_0, hcz12_1, hcz12_2, hcz12_3, hcz12_4, hfz12_0, hfz12_1, hfz12_2, hfz12_3, hfz12_4⟩ := cs5 BK398.out))
   refine bodyPost_ret (results_ct rfl _ _ gb398 27 #[.int .i64 0, .int .i64 0, .int .i64 0, .int .i64 0, .slice none 0 0] (0, 0) _ rfl (by (try refine sO ?_); refine blk_put (cs := #[.int .i64 0, .int .i64 0, .int .i64 0, .int .i64 0, .slice none 0 0]) ?_ 4 _ rfl; (try refine sO ?_); refine blk_put (cs := #[.int .i64 0, .int .i64 0, .int .i64 0, .int .i64 0, .slice none 0 0]) ?_ 3 _ rfl; (try refine sO ?_); refine blk_put (cs := #[.int .i64 0, .int .i64 0, .int .i64 0, .int .i64 0, .slice none 0 0]) ?_ 2 _ rfl; (try refine sO ?_); refine blk_put (cs := #[.int .i64 0, .int .i64 0, .int .i64 0, .int .i64 0, .slice none 0 0]) ?_ 1 _ rfl; (try refine sO ?_); refine blk_put (cs := #[.int .i64 0, .int .i64 0, .int .i64 0, .int .i64 0, .slice none 0 0]) ?_ 0 _ rfl; first | exact BK398.out | (refine sO ?_; exact BK398.out)) Try.underlying27 rfl (by kernel_rfl)) rfl ?_
   exact ⟨_, by first | rfl | (simp [errW_none, errW_some] <;> rfl) | (simp [*, errW_none, errW_some] <;> rfl), by first | exact Kd.S_nil _ _ _ _ _ | exact Kd.N_nil _ _ _ _ _ | exact Kd.V_nil _ _ _ _ _ | exact Kd.Q_nil _ _ _ _ _ | exact Kd.R_nil _ _ _ _ _, by repeat (first | exact sH HB.out | refine sN (w := w) ?_ | with_reducible refine sG (w := w) ?_ (by assumption))⟩
  ·
   rw [if_neg c6] at H
   have c6b0 : decide (65536 < (l1.length : Int)) = false := decide_eq_false c6
   have c6b1 : decide (65536 < l1.length) = false := decide_eq_false (by omega)
   clear c6
   have H' := Aside0.mk H
   clear H
   go_enter Try.func24, Try.ntmps24
   go_wp2_with (first | ((with_reducible refine gate_dst (N := 3) rfl ?_); (try (refine gate_guard (by rfl) ?_; dsimp only)); refine box_event rfl (N := 3) rfl (cs := #[.int .i64 a0_0, .int .i64 a0_1, .int .i64 a0_2, .int .i64 a0_3, .slice A0_4 l0_4.length c0_4]) (t := 27) (by go_simp; try rfl) ?_; intro gb397 hg w13 hbox hb; have BK397 := Aside0.mk (hbox); have GW397 := Aside0.mk ((by rw [hg]; exact (sZ HB) : w.heap.size ≤ gb397)); have GE397 := Aside0.mk ((by rw [hg]; exact (sZ HB) : w.heap.size ≤ gb397)); replace HB := kH HB hb; clear hb hbox hg) | ((with_reducible refine gate_dst (N := 6) rfl ?_); (try (refine gate_guard (by rfl) ?_; dsimp only)); refine box_event rfl (N := 6) rfl (cs := #[.int .i64 0, .int .i64 0, .int .i64 0, .int .i64 0, .slice none 0 0]) (t := 27) (by go_simp; try rfl) ?_; intro gb398 hg w14 hbox hb; have BK398 := Aside0.mk (hbox); have GW398 := Aside0.mk ((by rw [hg]; exact (below_size (by repeat (first | exact sH HB.out | refine sN (w := w) ?_ | with_reducible refine sG (w := w) ?_ (by assumption)))) : w.heap.size ≤ gb398)); have GE398 := Aside0.mk ((by rw [hg]; exact (below_size (by repeat (first | exact sH HB.out | refine sN (w := w) ?_ | with_reducible refine sG (w := w) ?_ (by assumption)))) : w.heap.size ≤ gb398)); replace HB := Aside0.mk (below_step (by repeat (first | exact sH HB.out | refine sN (w := w) ?_ | with_reducible refine sG (w := w) ?_ (by assumption))) hb); have NB397_398 := Aside0.mk ((by rw [hg]; exact Nat.ne_of_lt (blk_lt (g := gb397) (o := .cells #[.int .i64 a0_0, .int .i64 a0_1, .int .i64 a0_2, .int .i64 a0_3, .slice A0_4 l0_4.length c0_4] 27 (0, 0)) (by first | exact BK397.out | (refine sO ?_; exact BK397.out))) : gb397 ≠ gb398)); have NB398_397 := Aside0.mk ((by rw [hg]; exact Nat.ne_of_gt (blk_lt (g := gb397) (o := .cells #[.int .i64 a0_0, .int .i64 a0_1, .int .i64 a0_2, .int .i64 a0_3, .slice A0_4 l0_4.length c0_4] 27 (0, 0)) (by first | exact BK397.out | (refine sO ?_; exact BK397.out))) : gb398 ≠ gb397)); replace BK397 := kB BK397 hb; clear hb hbox hg; have hnb15 := NB397_398.out; have hnc15 := NB398_397.out; obtain ⟨hcz16_0, hcz16_1, hcz16_2, hcz16_3, hcz16_4, hfz16_0, hfz16_1, hfz16_2, hfz16_3, hfz16_4⟩ := cs5 BK397.out) | ((with_reducible refine gate_callee (f := 27) rfl ?_); refine goesL_ (some 15) rfl rfl Try.func27 (by kernel_rfl) rfl #[.agg #[.int .i64 a0_0, .int .i64 a0_1, .int .i64 a0_2, .int .i64 a0_3, .slice A0_4 l0_4.length c0_4]] rfl (by (try simp only [sM]); first | done | rfl | (simp only [sT]; rfl)) ?_; (with_reducible refine (twoslotref09_Check.calls k a0_0 a0_1 a0_2 a0_3 _ _ l0_4 t399 _ ?side1 ?side2 A4.out).mono ?_); (case side1 => exact sC (Kd.C_below HR0_4.out HB.out)); (case side2 => exact HC0_4.out); rintro e w17 ⟨rfl, hb⟩; refine ⟨_, rfl, ?_⟩; replace BK397 := kB BK397 hb; replace BK398 := kB BK398 hb; replace HB := Aside0.mk (below_step (by repeat (first | exact sH HB.out | refine sN (w := w) ?_ | with_reducible refine sG (w := w) ?_ (by assumption))) hb); (try clear hb); (try clear hb2); (try clear hk); (try clear hi)))
   go_loopg [9] k (fun kq v9 w' => ∃ (x9_1 : Int) (x399000_1 : Int) (x399001_1 : Int) (x399002_1 : Int) (x399003_1 : Int), v9 = .int .i64 x9_1 ∧ Aside0 (twoslotref09_After.l0 kq l1 a2 x9_1 a0_0 a0_1 a0_2 a0_3 l0_4 = some (r1, r2, r3, r4, r5, r6)) ∧ Aside0 (kq ≤ k) ∧ Aside0 (w'.heap[gb397]? = some (.cells #[.int .i64 a0_0, .int .i64 a0_1, .int .i64 a0_2, .int .i64 a0_3, (.slice A0_4 l0_4.length c0_4)] 27 (0, 0))) ∧ Aside0 (w'.heap[gb398]? = some (.cells #[.int .i64 x399000_1, .int .i64 x399001_1, .int .i64 x399002_1, .int .i64 x399003_1, (.slice none 0 0)] 27 (0, 0))) ∧ Aside0 (Below w.heap.size w w'))
   case atStart => exact ⟨(0), (0), (0), (0), (0), (by first | rfl | (simp; done) | (simp [*]; done)), H', ⟨Nat.le_refl _⟩, ⟨by (try refine sO ?_); exact BK397.out⟩, ⟨by (try refine sO ?_); exact BK398.out⟩, ⟨by repeat (first | exact sH HB.out | refine sN (w := w) ?_ | with_reducible refine sG (w := w) ?_ (by assumption))⟩⟩
   case round =>
    clear H'
    try clear c1
    try clear c2
    try clear p2
    try clear c5
    try clear c5b0
    try clear c5b1
    try clear c6
    try clear c6b0
    try clear c6b1
    try clear c9
    try clear c15
    try clear hcz10_0
    try clear hcz10_1
    try clear hcz10_2
    try clear hcz10_3
    try clear hcz10_4
    try clear hcz12_0
    try clear hcz12_1
    try clear hcz12_2
    try clear hcz12_3
    try clear hcz12_4
    try clear hcz16_0
    try clear hcz16_1
    try clear hcz16_2
    try clear hcz16_3
    try clear hcz16_4
    try clear hfz10_0
    try clear hfz10_1
    try clear hfz10_2
    try clear hfz10_3
    try clear hfz10_4
    try clear hfz12_0
    try clear hfz12_1
    try clear hfz12_2
    try clear hfz12_3
    try clear hfz12_4
    try clear hfz16_0
    try clear hfz16_1
    try clear hfz16_2
    try clear hfz16_3
    try clear hfz16_4
    obtain ⟨x9_1, x399000_1, x399001_1, x399002_1, x399003_1, rfl, HA, HK1, BK397, BK398, HB⟩ := hrel
    cases gk with
    | zero => exact absurd HA.out (by simp [twoslotref09_After.l0])
    | succ k1 =>
     have H := HA.out
     clear HA
     simp only [twoslotref09_After.l0] at H
     by_cases c18 : x9_1 < (l1.length : Int)
     ·
      rw [if_pos c18] at H
      have c18b0 : decide (x9_1 < (l1.length : Int)) = true := decide_eq_true c18
      clear c18
      by_cases c19 : 0 ≤ x9_1
      ·
       rw [if_pos c19] at H
       have c19b0 : decide (0 ≤ x9_1) = true := decide_eq_true c19
       clear c19
       replace H := Option.bind_eq_some_iff.mp H
       obtain ⟨t401, A200, H⟩ := H
       try dsimp only at H
       have A20 := Aside0.mk A200
       clear A200
       by_cases c21 : t401 = true
       ·
        subst c21
        have H1 : (twoslotref09_After.l0 k1 l1 a2 (wrap64 (x9_1 + 1)) a0_0 a0_1 a0_2 a0_3 l0_4) = some (r1, r2, r3, r4, r5, r6) := by rw [if_pos rfl] at H; exact H
        clear H
        have H := H1
        clear H1
        have H' := Aside0.mk H
        clear H
        try go_wp2
        replace BK397 := Aside0.mk (blk_drew BK397.out); replace BK398 := Aside0.mk (blk_drew BK398.out); replace HB := Aside0.mk (below_drew1 HB.out)
        have p400 : 0 ≤ (x9_1 : Int) := of_decide_eq_true (by first | (with_reducible assumption) | assumption)
        have q400 : x9_1 < (l1.length : Int) := of_decide_eq_true (by first | (with_reducible assumption) | assumption)
        obtain ⟨ad400, A400_3, c400_3, e400, hx400_0, hx400_1, hx400_2, hx400_3, hl400_3, hi400_3⟩ := at_T35 HR1.out x9_1 p400 q400
        have hw400_3 := hx400_3
        have hw400_2 := hx400_2
        have hw400_1 := hx400_1
        have hw400_0 := hx400_0
        cases e400
        replace hx400_0 := (HB.out.cell (World.block_lt_of_cell? w _ hx400_0)).trans hx400_0
        replace hx400_1 := (HB.out.cell (World.block_lt_of_cell? w _ hx400_1)).trans hx400_1
        replace hx400_2 := (HB.out.cell (World.block_lt_of_cell? w _ hx400_2)).trans hx400_2
        replace hx400_3 := (HB.out.cell (World.block_lt_of_cell? w _ hx400_3)).trans hx400_3
        have HR400_3 := Aside0.mk hi400_3
        have HC400_3 := Aside0.mk hl400_3
        clear hi400_3 hl400_3
        replace p400 := eq_true p400
        replace q400 := eq_true q400
        refine start_ (n := 8) (S := fun w' => w'.cell? ⟨gb397, 0, none⟩ = some (.int .i64 a0_0) ∧ w'.cell? ⟨gb397, 1, none⟩ = some (.int .i64 a0_1) ∧ w'.cell? ⟨gb397, 2, none⟩ = some (.int .i64 a0_2) ∧ w'.cell? ⟨gb397, 3, none⟩ = some (.int .i64 a0_3) ∧ w'.cell? ⟨gb397, 4, none⟩ = some (.slice A0_4 l0_4.length c0_4) ∧ w'.cell? (ad400.add ((x9_1).toNat * 4)) = some (.int .i64 ((rd_T35 l1 x9_1).f0)) ∧ w'.cell? ⟨(ad400.add ((x9_1).toNat * 4)).block, (ad400.add ((x9_1).toNat * 4)).off + 1, none⟩ = some (.int .i64 ((rd_T35 l1 x9_1).f1)) ∧ w'.cell? ⟨(ad400.add ((x9_1).toNat * 4)).block, (ad400.add ((x9_1).toNat * 4)).off + 2, none⟩ = some (.int .i64 ((rd_T35 l1 x9_1).f2)) ∧ w'.cell? ⟨(ad400.add ((x9_1).toNat * 4)).block, (ad400.add ((x9_1).toNat * 4)).off + 3, none⟩ = some (.slice A400_3 ((rd_T35 l1 x9_1).f3).length c400_3)) (ds := []) #[O,O,O,O,O,O,O,O] (by kernel_rfl) rfl rfl ⟨(blk_cell BK397.out 0).trans rfl, (blk_cell BK397.out 1).trans rfl, (blk_cell BK397.out 2).trans rfl, (blk_cell BK397.out 3).trans rfl, (blk_cell BK397.out 4).trans rfl, ((HB.out.cell (World.block_lt_of_cell? w _ hw400_0)).trans hw400_0), ((HB.out.cell (World.block_lt_of_cell? w _ hw400_1)).trans hw400_1), ((HB.out.cell (World.block_lt_of_cell? w _ hw400_2)).trans hw400_2), ((HB.out.cell (World.block_lt_of_cell? w _ hw400_3)).trans hw400_3)⟩ (fun hHeld => ?_); refine with_tabW twoslotref09_After.tab9 twoslotref09_After.bits9 (fun HT_ HW_ => ?_)
        generalize wr.drew = w22 at BK397 BK398 HB HR400_3 hx400_0 hx400_1 hx400_2 hx400_3 hHeld ⊢
        refine pu (i := 0) (N := some 30) (v := ?_) (a' := ?_) #[X,O,O,O,O,O,O,O] rfl rfl HT_ (by kernel_rfl) (fun _ _ _ h => h) ⟨by rfl, ?_⟩ ?_ ?_
        rotate_left; (intro w'; go_simp; with_reducible rfl); rotate_left; (simp only [sP]; rfl)
        refine pu (i := 2) (N := some 32) (v := ?_) (a' := ?_) #[X,O,X,O,O,O,O,O] rfl rfl HT_ (by kernel_rfl) (fun _ _ _ h => h) ⟨by rfl, ?_⟩ ?_ ?_
        rotate_left; (intro w'; go_simp; with_reducible rfl); rotate_left; (simp only [sP]; rfl)
        refine pu (i := 3) (N := some 33) (v := ?_) (a' := ?_) #[X,O,X,X,O,O,O,O] rfl rfl HT_ (by kernel_rfl) (fun _ _ _ h => h) ⟨by rfl, ?_⟩ ?_ ?_
        rotate_left; (intro w'; go_simp; with_reducible rfl); rotate_left; (simp only [sP]; rfl)
        refine pu (i := 4) (N := some 34) (v := ?_) (a' := ?_) #[X,O,X,X,X,O,O,O] rfl rfl HT_ (by kernel_rfl) (fun _ _ _ h => h) ⟨by rfl, ?_⟩ ?_ ?_
        rotate_left; (intro w'; go_simp; with_reducible rfl); rotate_left; (simp only [sP]; rfl)
        refine tu (i := 1) (N := some 31) (v := ?_) (a' := ?_) #[X,X,X,X,X,O,O,O] rfl rfl HT_ HW_ (by kernel_rfl) (fun _ _ _ h => h) ⟨by rfl, ?_⟩ hHeld ?_ ?_
        rotate_left; (rintro w' ⟨s0, s1, s2, s3, s4, s5, s6, s7, s8⟩; go_simp; with_reducible rfl); rotate_left; (simp only [sP]; rfl)
        refine tu (i := 5) (N := some 35) (v := ?_) (a' := ?_) #[X,X,X,X,X,X,O,O] rfl rfl HT_ HW_ (by kernel_rfl) (fun _ _ _ h => h) ⟨by rfl, ?_⟩ hHeld ?_ ?_
        rotate_left; (rintro w' ⟨s0, s1, s2, s3, s4, s5, s6, s7, s8⟩; go_simp; with_reducible rfl); rotate_left; (simp only [sP]; rfl)
        refine one_ (i := 6) (N := some 36) #[X,X,X,X,X,X,X,O] rfl rfl (one_of HT_.out (by kernel_rfl)) (by decide) (fun K hK => ?_)
        refine goes_ Try.func49 (by kernel_rfl) rfl #[.agg #[.int .i64 a0_0, .int .i64 a0_1, .int .i64 a0_2, .int .i64 a0_3], .agg #[.int .i64 ((rd_T35 l1 x9_1).f0), .int .i64 ((rd_T35 l1 x9_1).f1), .int .i64 ((rd_T35 l1 x9_1).f2), .slice A400_3 ((rd_T35 l1 x9_1).f3).length c400_3]] (by rfl) rfl rfl (by (try simp only [sM]); first | done | rfl | (simp only [sT]; rfl)) ?_
        with_reducible refine (twoslotref09_May.calls a0_0 a0_1 a0_2 a0_3 ((rd_T35 l1 x9_1).f0) ((rd_T35 l1 x9_1).f1) ((rd_T35 l1 x9_1).f2) _ _ ((rd_T35 l1 x9_1).f3) true _ ?side1 ?side2 A20.out).mono ?_
        (case side1 => exact sC (Kd.C_below HR400_3.out HB.out))
        (case side2 => exact HC400_3.out)
        rintro e w23 ⟨rfl, hb⟩
        refine ⟨_, rfl, ?_⟩
        replace BK397 := kB BK397 hb; replace BK398 := kB BK398 hb; replace HB := Aside0.mk (below_step (by repeat (first | exact sH HB.out | refine sN (w := w) ?_ | with_reducible refine sG (w := w) ?_ (by assumption))) hb)
        (try clear hb)
        (try clear hb2)
        (try clear hk)
        (try clear hi)
        refine hK.out _ _ ⟨(blk_cell BK397.out 0).trans rfl, (blk_cell BK397.out 1).trans rfl, (blk_cell BK397.out 2).trans rfl, (blk_cell BK397.out 3).trans rfl, (blk_cell BK397.out 4).trans rfl, ((HB.out.cell (World.block_lt_of_cell? w _ hw400_0)).trans hw400_0), ((HB.out.cell (World.block_lt_of_cell? w _ hw400_1)).trans hw400_1), ((HB.out.cell (World.block_lt_of_cell? w _ hw400_2)).trans hw400_2), ((HB.out.cell (World.block_lt_of_cell? w _ hw400_3)).trans hw400_3)⟩ (fun hHeld => ?_)
        clear hK K
        refine norm_ (a' := ?_) ?_ ?_
        rotate_left
        ·
         show Act.put _ (some 36) _ = _
         simp only [sP]
         rfl
        refine pu (i := 7) (N := some 37) (v := ?_) (a' := ?_) #[X,X,X,X,X,X,X,X] rfl rfl HT_ (by kernel_rfl) (fun _ _ _ h => h) ⟨by rfl, ?_⟩ ?_ ?_
        rotate_left; (intro w'; go_simp; with_reducible rfl); rotate_left; (simp only [sP]; rfl)
        refine done_ (done_of HT_.out (by kernel_rfl)) ?_
        try go_wp2
        go_roundg k1
        case measure => have := HK1.out; omega
        case rel => exact ⟨(wrap64 (x9_1 + 1)), (x399000_1), (x399001_1), (x399002_1), (x399003_1), (by first | rfl | (simp; done) | (simp [*]; done)), H', ⟨by have := HK1.out; omega⟩, ⟨by (try refine sO ?_); exact BK397.out⟩, ⟨by (try refine sO ?_); exact BK398.out⟩, ⟨by repeat (first | exact sH HB.out | refine sN (w := w) ?_ | with_reducible refine sG (w := w) ?_ (by assumption))⟩⟩
       ·
        replace c21 := Bool.eq_false_iff.mpr c21
        subst c21
        have H1 : (some (0, 0, 0, 0, ([] : List (List Int)), 80)) = some (r1, r2, r3, r4, r5, r6) := by rw [if_neg (show ¬ (false = true) by decide)] at H; exact H
        clear H
        have H := H1
        clear H1
        simp only [Option.some.injEq, Prod.mk.injEq] at H
        obtain ⟨rfl, rfl, rfl, rfl, rfl, rfl⟩ := H
        try go_wp2
        replace BK397 := Aside0.mk (blk_drew BK397.out); replace BK398 := Aside0.mk (blk_drew BK398.out); replace HB := Aside0.mk (below_drew1 HB.out)
        have p400 : 0 ≤ (x9_1 : Int) := of_decide_eq_true (by first | (with_reducible assumption) | assumption)
        have q400 : x9_1 < (l1.length : Int) := of_decide_eq_true (by first | (with_reducible assumption) | assumption)
        obtain ⟨ad400, A400_3, c400_3, e400, hx400_0, hx400_1, hx400_2, hx400_3, hl400_3, hi400_3⟩ := at_T35 HR1.out x9_1 p400 q400
        have hw400_3 := hx400_3
        have hw400_2 := hx400_2
        have hw400_1 := hx400_1
        have hw400_0 := hx400_0
        cases e400
        replace hx400_0 := (HB.out.cell (World.block_lt_of_cell? w _ hx400_0)).trans hx400_0
        replace hx400_1 := (HB.out.cell (World.block_lt_of_cell? w _ hx400_1)).trans hx400_1
        replace hx400_2 := (HB.out.cell (World.block_lt_of_cell? w _ hx400_2)).trans hx400_2
        replace hx400_3 := (HB.out.cell (World.block_lt_of_cell? w _ hx400_3)).trans hx400_3
        have HR400_3 := Aside0.mk hi400_3
        have HC400_3 := Aside0.mk hl400_3
        clear hi400_3 hl400_3
        replace p400 := eq_true p400
        replace q400 := eq_true q400
        refine start_ (n := 8) (S := fun w' => w'.cell? ⟨gb397, 0, none⟩ = some (.int .i64 a0_0) ∧ w'.cell? ⟨gb397, 1, none⟩ = some (.int .i64 a0_1) ∧ w'.cell? ⟨gb397, 2, none⟩ = some (.int .i64 a0_2) ∧ w'.cell? ⟨gb397, 3, none⟩ = some (.int .i64 a0_3) ∧ w'.cell? ⟨gb397, 4, none⟩ = some (.slice A0_4 l0_4.length c0_4) ∧ w'.cell? (ad400.add ((x9_1).toNat * 4)) = some (.int .i64 ((rd_T35 l1 x9_1).f0)) ∧ w'.cell? ⟨(ad400.add ((x9_1).toNat * 4)).block, (ad400.add ((x9_1).toNat * 4)).off + 1, none⟩ = some (.int .i64 ((rd_T35 l1 x9_1).f1)) ∧ w'.cell? ⟨(ad400.add ((x9_1).toNat * 4)).block, (ad400.add ((x9_1).toNat * 4)).off + 2, none⟩ = some (.int .i64 ((rd_T35 l1 x9_1).f2)) ∧ w'.cell? ⟨(ad400.add ((x9_1).toNat * 4)).block, (ad400.add ((x9_1).toNat * 4)).off + 3, none⟩ = some (.slice A400_3 ((rd_T35 l1 x9_1).f3).length c400_3)) (ds := []) #[O,O,O,O,O,O,O,O] (by kernel_rfl) rfl rfl ⟨(blk_cell BK397.out 0).trans rfl, (blk_cell BK397.out 1).trans rfl, (blk_cell BK397.out 2).trans rfl, (blk_cell BK397.out 3).trans rfl, (blk_cell BK397.out 4).trans rfl, ((HB.out.cell (World.block_lt_of_cell? w _ hw400_0)).trans hw400_0), ((HB.out.cell (World.block_lt_of_cell? w _ hw400_1)).trans hw400_1), ((HB.out.cell (World.block_lt_of_cell? w _ hw400_2)).trans hw400_2), ((HB.out.cell (World.block_lt_of_cell? w _ hw400_3)).trans hw400_3)⟩ (fun hHeld => ?_); refine with_tabW twoslotref09_After.tab9 twoslotref09_After.bits9 (fun HT_ HW_ => ?_)
        generalize wr.drew = w24 at BK397 BK398 HB HR400_3 hx400_0 hx400_1 hx400_2 hx400_3 hHeld ⊢
        refine pu (i := 0) (N := some 30) (v := ?_) (a' := ?_) #[X,O,O,O,O,O,O,O] rfl rfl HT_ (by kernel_rfl) (fun _ _ _ h => h) ⟨by rfl, ?_⟩ ?_ ?_
        rotate_left; (intro w'; go_simp; with_reducible rfl); rotate_left; (simp only [sP]; rfl)
        refine pu (i := 2) (N := some 32) (v := ?_) (a' := ?_) #[X,O,X,O,O,O,O,O] rfl rfl HT_ (by kernel_rfl) (fun _ _ _ h => h) ⟨by rfl, ?_⟩ ?_ ?_
        rotate_left; (intro w'; go_simp; with_reducible rfl); rotate_left; (simp only [sP]; rfl)
        refine pu (i := 3) (N := some 33) (v := ?_) (a' := ?_) #[X,O,X,X,O,O,O,O] rfl rfl HT_ (by kernel_rfl) (fun _ _ _ h => h) ⟨by rfl, ?_⟩ ?_ ?_
        rotate_left; (intro w'; go_simp; with_reducible rfl); rotate_left; (simp only [sP]; rfl)
        refine pu (i := 4) (N := some 34) (v := ?_) (a' := ?_) #[X,O,X,X,X,O,O,O] rfl rfl HT_ (by kernel_rfl) (fun _ _ _ h => h) ⟨by rfl, ?_⟩ ?_ ?_
        rotate_left; (intro w'; go_simp; with_reducible rfl); rotate_left; (simp only [sP]; rfl)
        refine tu (i := 1) (N := some 31) (v := ?_) (a' := ?_) #[X,X,X,X,X,O,O,O] rfl rfl HT_ HW_ (by kernel_rfl) (fun _ _ _ h => h) ⟨by rfl, ?_⟩ hHeld ?_ ?_
        rotate_left; (rintro w' ⟨s0, s1, s2, s3, s4, s5, s6, s7, s8⟩; go_simp; with_reducible rfl); rotate_left; (simp only [sP]; rfl)
        refine tu (i := 5) (N := some 35) (v := ?_) (a' := ?_) #[X,X,X,X,X,X,O,O] rfl rfl HT_ HW_ (by kernel_rfl) (fun _ _ _ h => h) ⟨by rfl, ?_⟩ hHeld ?_ ?_
        rotate_left; (rintro w' ⟨s0, s1, s2, s3, s4, s5, s6, s7, s8⟩; go_simp; with_reducible rfl); rotate_left; (simp only [sP]; rfl)
        refine one_ (i := 6) (N := some 36) #[X,X,X,X,X,X,X,O] rfl rfl (one_of HT_.out (by kernel_rfl)) (by decide) (fun K hK => ?_)
        refine goes_ Try.func49 (by kernel_rfl) rfl #[.agg #[.int .i64 a0_0, .int .i64 a0_1, .int .i64 a0_2, .int .i64 a0_3], .agg #[.int .i64 ((rd_T35 l1 x9_1).f0), .int .i64 ((rd_T35 l1 x9_1).f1), .int .i64 ((rd_T35 l1 x9_1).f2), .slice A400_3 ((rd_T35 l1 x9_1).f3).length c400_3]] (by rfl) rfl rfl (by (try simp only [sM]); first | done | rfl | (simp only [sT]; rfl)) ?_
        with_reducible refine (twoslotref09_May.calls a0_0 a0_1 a0_2 a0_3 ((rd_T35 l1 x9_1).f0) ((rd_T35 l1 x9_1).f1) ((rd_T35 l1 x9_1).f2) _ _ ((rd_T35 l1 x9_1).f3) false _ ?side1 ?side2 A20.out).mono ?_
        (case side1 => exact sC (Kd.C_below HR400_3.out HB.out))
        (case side2 => exact HC400_3.out)
        rintro e w25 ⟨rfl, hb⟩
        refine ⟨_, rfl, ?_⟩
        replace BK397 := kB BK397 hb; replace BK398 := kB BK398 hb; replace HB := Aside0.mk (below_step (by repeat (first | exact sH HB.out | refine sN (w := w) ?_ | with_reducible refine sG (w := w) ?_ (by assumption))) hb)
        (try clear hb)
        (try clear hb2)
        (try clear hk)
        (try clear hi)
        refine hK.out _ _ ⟨(blk_cell BK397.out 0).trans rfl, (blk_cell BK397.out 1).trans rfl, (blk_cell BK397.out 2).trans rfl, (blk_cell BK397.out 3).trans rfl, (blk_cell BK397.out 4).trans rfl, ((HB.out.cell (World.block_lt_of_cell? w _ hw400_0)).trans hw400_0), ((HB.out.cell (World.block_lt_of_cell? w _ hw400_1)).trans hw400_1), ((HB.out.cell (World.block_lt_of_cell? w _ hw400_2)).trans hw400_2), ((HB.out.cell (World.block_lt_of_cell? w _ hw400_3)).trans hw400_3)⟩ (fun hHeld => ?_)
        clear hK K
        refine norm_ (a' := ?_) ?_ ?_
        rotate_left
        ·
         show Act.put _ (some 36) _ = _
         simp only [sP]
         rfl
        refine pu (i := 7) (N := some 37) (v := ?_) (a' := ?_) #[X,X,X,X,X,X,X,X] rfl rfl HT_ (by kernel_rfl) (fun _ _ _ h => h) ⟨by rfl, ?_⟩ ?_ ?_
        rotate_left; (intro w'; go_simp; with_reducible rfl); rotate_left; (simp only [sP]; rfl)
        refine done_ (done_of HT_.out (by kernel_rfl)) ?_
        have hnb26 := NB398_397.out
        have hnc26 := NB397_398.out
        obtain ⟨hcz27_0, hcz27_1, hcz27_2, hcz27_3, hcz27_4, hfz27_0, hfz27_1, hfz27_2, hfz27_3, hfz27_4⟩ := cs5 BK398.out
        try go_wp2
        refine bodyPost_ret (results_ct rfl _ _ gb398 27 #[.int .i64 0, .int .i64 0, .int .i64 0, .int .i64 0, .slice none 0 0] (0, 0) _ rfl (by (try refine sO ?_); refine blk_put (cs := #[.int .i64 0, .int .i64 0, .int .i64 0, .int .i64 0, .slice none 0 0]) ?_ 4 _ rfl; (try refine sO ?_); refine blk_put (cs := #[.int .i64 0, .int .i64 0, .int .i64 0, .int .i64 x399003_1, .slice none 0 0]) ?_ 3 _ rfl; (try refine sO ?_); refine blk_put (cs := #[.int .i64 0, .int .i64 0, .int .i64 x399002_1, .int .i64 x399003_1, .slice none 0 0]) ?_ 2 _ rfl; (try refine sO ?_); refine blk_put (cs := #[.int .i64 0, .int .i64 x399001_1, .int .i64 x399002_1, .int .i64 x399003_1, .slice none 0 0]) ?_ 1 _ rfl; (try refine sO ?_); refine blk_put (cs := #[.int .i64 x399000_1, .int .i64 x399001_1, .int .i64 x399002_1, .int .i64 x399003_1, .slice none 0 0]) ?_ 0 _ rfl; first | exact BK398.out | (refine sO ?_; exact BK398.out)) Try.underlying27 rfl (by kernel_rfl)) rfl ?_
        exact ⟨_, by first | rfl | (simp [errW_none, errW_some] <;> rfl) | (simp [*, errW_none, errW_some] <;> rfl), by first | exact Kd.S_nil _ _ _ _ _ | exact Kd.N_nil _ _ _ _ _ | exact Kd.V_nil _ _ _ _ _ | exact Kd.Q_nil _ _ _ _ _ | exact Kd.R_nil _ _ _ _ _, by repeat (first | exact sH HB.out | refine sN (w := w) ?_ | with_reducible refine sG (w := w) ?_ (by assumption))⟩
      ·
       rw [if_neg c19] at H
       exact absurd H (by simp)
     ·
      rw [if_neg c18] at H
      have c18b0 : decide (x9_1 < (l1.length : Int)) = false := decide_eq_false c18
      clear c18
      have HC28 := Aside0.mk H
      clear H
      go_upto_region 11 with (fail)
      go_cut [46] (fun v46 wc => ∃ (kq : Nat) (x46_27 : Bool), v46 = .bool x46_27 ∧ Aside0 (twoslotref09_After.j1 kq l1 a2 x46_27 a0_0 a0_1 a0_2 a0_3 l0_4 = some (r1, r2, r3, r4, r5, r6)) ∧ Aside0 (kq ≤ k1) ∧ Aside0 (wc.heap[gb397]? = some (.cells #[.int .i64 a0_0, .int .i64 a0_1, .int .i64 a0_2, .int .i64 a0_3, (.slice A0_4 l0_4.length c0_4)] 27 (0, 0))) ∧ Aside0 (wc.heap[gb398]? = some (.cells #[.int .i64 x399000_1, .int .i64 x399001_1, .int .i64 x399002_1, .int .i64 x399003_1, (.slice none 0 0)] 27 (0, 0))) ∧ Aside0 (Below w.heap.size w wc))
      case first =>
       have H := HC28.out
       clear HC28
       by_cases c29 : a2 < 0
       ·
        rw [if_pos c29] at H
        have c29b0 : decide (a2 < 0) = true := decide_eq_true c29
        clear c29
        (first | rw [c29b0] | (simp only [i64_w, i32_w]; rw [c29b0]) | skip)
        have H' := Aside0.mk H
        clear H
        go_wp2
        go_meet
        case rel => exact ⟨_, (true), (by first | rfl | (simp; done) | (simp [*]; done)), H', ⟨by have := HK1.out; first | omega | exact Nat.le_refl _⟩, ⟨by (try refine sO ?_); exact BK397.out⟩, ⟨by (try refine sO ?_); exact BK398.out⟩, ⟨by repeat (first | exact sH HB.out | refine sN (w := w) ?_ | with_reducible refine sG (w := w) ?_ (by assumption))⟩⟩
       ·
        rw [if_neg c29] at H
        have c29b0 : decide (a2 < 0) = false := decide_eq_false c29
        clear c29
        (first | rw [c29b0] | (simp only [i64_w, i32_w]; rw [c29b0]) | skip)
        have H' := Aside0.mk H
        clear H
        go_wp2
        go_meet
        case rel => exact ⟨_, (decide (a2 > (l1.length : Int))), (by first | rfl | (simp; done) | (simp [*]; done)), H', ⟨by have := HK1.out; first | omega | exact Nat.le_refl _⟩, ⟨by (try refine sO ?_); exact BK397.out⟩, ⟨by (try refine sO ?_); exact BK398.out⟩, ⟨by repeat (first | exact sH HB.out | refine sN (w := w) ?_ | with_reducible refine sG (w := w) ?_ (by assumption))⟩⟩
      case rest =>
       clear HC28
       try clear c1
       try clear c2
       try clear p2
       try clear c4
       try clear p4
       try clear q4
       try clear hx4
       try clear c5
       try clear c5b0
       try clear c5b1
       try clear c6
       try clear c6b0
       try clear c6b1
       try clear p6
       try clear c9
       try clear c15
       try clear c18
       try clear c18b0
       try clear c19
       try clear c19b0
       try clear c21
       try clear c24
       try clear c26
       try clear c27
       try clear c29
       try clear c29b0
       try clear hcz10_0
       try clear hcz10_1
       try clear hcz10_2
       try clear hcz10_3
       try clear hcz10_4
       try clear hcz12_0
       try clear hcz12_1
       try clear hcz12_2
       try clear hcz12_3
       try clear hcz12_4
       try clear hcz16_0
       try clear hcz16_1
       try clear hcz16_2
       try clear hcz16_3
       try clear hcz16_4
       try clear hcz27_0
       try clear hcz27_1
       try clear hcz27_2
       try clear hcz27_3
       try clear hcz27_4
       try clear hfz10_0
       try clear hfz10_1
       try clear hfz10_2
       try clear hfz10_3
       try clear hfz10_4
       try clear hfz12_0
       try clear hfz12_1
       try clear hfz12_2
       try clear hfz12_3
       try clear hfz12_4
       try clear hfz16_0
       try clear hfz16_1
       try clear hfz16_2
       try clear hfz16_3
       try clear hfz16_4
       try clear hfz27_0
       try clear hfz27_1
       try clear hfz27_2
       try clear hfz27_3
       try clear hfz27_4
       try clear hx400_0
       try clear hx400_1
       try clear hx400_2
       try clear hx400_3
       try clear p2
       try clear p400
       try clear q400
       obtain ⟨kq, x46_27, rfl, HA, HJ27, BK397, BK398, HB⟩ := hcut
       cases kq with
       | zero => exact absurd HA.out (by simp [twoslotref09_After.j1])
       | succ kj27 =>
        have H := HA.out
        clear HA
        simp only [twoslotref09_After.j1] at H
        by_cases c30 : x46_27 = true
        ·
         subst c30
         have H1 : (some (0, 0, 0, 0, ([] : List (List Int)), 2)) = some (r1, r2, r3, r4, r5, r6) := by rw [if_pos rfl] at H; exact H
         clear H
         have H := H1
         clear H1
         simp only [Option.some.injEq, Prod.mk.injEq] at H
         obtain ⟨rfl, rfl, rfl, rfl, rfl, rfl⟩ := H
         have hnb31 := NB398_397.out
         have hnc31 := NB397_398.out
         obtain ⟨hcz32_0, hcz32_1, hcz32_2, hcz32_3, hcz32_4, hfz32_0, hfz32_1, hfz32_2, hfz32_3, hfz32_4⟩ := cs5 BK398.out
         go_wp2
         refine bodyPost_ret (results_ct rfl _ _ gb398 27 #[.int .i64 0, .int .i64 0, .int .i64 0, .int .i64 0, .slice none 0 0] (0, 0) _ rfl (by (try refine sO ?_); refine blk_put (cs := #[.int .i64 0, .int .i64 0, .int .i64 0, .int .i64 0, .slice none 0 0]) ?_ 4 _ rfl; (try refine sO ?_); refine blk_put (cs := #[.int .i64 0, .int .i64 0, .int .i64 0, .int .i64 x399003_1, .slice none 0 0]) ?_ 3 _ rfl; (try refine sO ?_); refine blk_put (cs := #[.int .i64 0, .int .i64 0, .int .i64 x399002_1, .int .i64 x399003_1, .slice none 0 0]) ?_ 2 _ rfl; (try refine sO ?_); refine blk_put (cs := #[.int .i64 0, .int .i64 x399001_1, .int .i64 x399002_1, .int .i64 x399003_1, .slice none 0 0]) ?_ 1 _ rfl; (try refine sO ?_); refine blk_put (cs := #[.int .i64 x399000_1, .int .i64 x399001_1, .int .i64 x399002_1, .int .i64 x399003_1, .slice none 0 0]) ?_ 0 _ rfl; first | exact BK398.out | (refine sO ?_; exact BK398.out)) Try.underlying27 rfl (by kernel_rfl)) rfl ?_
         exact ⟨_, by first | rfl | (simp [errW_none, errW_some] <;> rfl) | (simp [*, errW_none, errW_some] <;> rfl), by first | exact Kd.S_nil _ _ _ _ _ | exact Kd.N_nil _ _ _ _ _ | exact Kd.V_nil _ _ _ _ _ | exact Kd.Q_nil _ _ _ _ _ | exact Kd.R_nil _ _ _ _ _, by repeat (first | exact sH HB.out | refine sN (w := w) ?_ | with_reducible refine sG (w := w) ?_ (by assumption))⟩
        ·
         replace c30 := Bool.eq_false_iff.mpr c30
         subst c30
         have H1 : ((twoslotref09_Twin.f kj27 a0_0 a0_1 a0_2 a0_3 l0_4).bind fun bt402 => (twoslotref09_After.l1 kj27 l1 a2 0 a0_0 a0_1 a0_2 a0_3 l0_4 bt402.1 bt402.2.1 bt402.2.2.1 bt402.2.2.2.1 bt402.2.2.2.2)) = some (r1, r2, r3, r4, r5, r6) := by rw [if_neg (show ¬ (false = true) by decide)] at H; exact H
         clear H
         have H := H1
         clear H1
         replace H := Option.bind_eq_some_iff.mp H
         obtain ⟨⟨t402, t403, t404, t405, t406⟩, A330, H⟩ := H
         try dsimp only at H
         have A33 := Aside0.mk A330
         clear A330
         have H' := Aside0.mk H
         clear H
         have hnb34 := NB397_398.out
         have hnc34 := NB398_397.out
         obtain ⟨hcz35_0, hcz35_1, hcz35_2, hcz35_3, hcz35_4, hfz35_0, hfz35_1, hfz35_2, hfz35_3, hfz35_4⟩ := cs5 BK397.out
         go_wp2_with (first | ((with_reducible refine gate_callee (f := 20) rfl ?_); refine goesL_ (some 49) rfl rfl Try.func20 (by kernel_rfl) rfl #[.agg #[.int .i64 a0_0, .int .i64 a0_1, .int .i64 a0_2, .int .i64 a0_3, .slice A0_4 l0_4.length c0_4]] rfl (by (try simp only [sM]); first | done | rfl | (simp only [sT]; rfl)) ?_; (with_reducible refine (twoslotref09_Twin.calls kj27 a0_0 a0_1 a0_2 a0_3 _ _ l0_4 t402 t403 t404 t405 t406 _ ?side1 ?side2 A33.out).mono ?_); (case side1 => exact sC (Kd.C_below HR0_4.out HB.out)); (case side2 => exact HC0_4.out); rintro e w36 ⟨v407, rfl, ho0, hb⟩; refine ⟨_, rfl, ?_⟩; have HO408 := Aside0.mk (Kd.N_lower (Kd.N_mono (ok' := fun k_ => (w.heap.size ≤ k_) ∧ k_ ≠ gb397 ∧ k_ ≠ gb398) (Kd.S_N (Kd.S_bound ho0)) (fun k_ hk_ => ⟨(Nat.le_trans (below_size (by repeat (first | exact sH HB.out | refine sN (w := w) ?_ | with_reducible refine sG (w := w) ?_ (by assumption)))) hk_.2.1), (Kd.freshB (g := gb397) (o := .cells #[.int .i64 a0_0, .int .i64 a0_1, .int .i64 a0_2, .int .i64 a0_3, .slice A0_4 l0_4.length c0_4] 27 (0, 0)) (by first | exact BK397.out | (refine sO ?_; exact BK397.out)) k_ hk_.2.1), (Kd.freshB (g := gb398) (o := .cells #[.int .i64 x399000_1, .int .i64 x399001_1, .int .i64 x399002_1, .int .i64 x399003_1, .slice none 0 0] 27 (0, 0)) (by first | exact BK398.out | (refine sO ?_; exact BK398.out)) k_ hk_.2.1)⟩)) (below_size (by repeat (first | exact sH HB.out | refine sN (w := w) ?_ | with_reducible refine sG (w := w) ?_ (by assumption))))); replace BK397 := kB BK397 hb; replace BK398 := kB BK398 hb; replace HB := Aside0.mk (below_step (by repeat (first | exact sH HB.out | refine sN (w := w) ?_ | with_reducible refine sG (w := w) ?_ (by assumption))) hb); (try clear hb); (try clear hb2); (try clear hk); (try clear hi); (try clear ho0)) | ((with_reducible refine gate_dst (N := 10) rfl ?_); (try (refine gate_guard (by rfl) ?_; dsimp only)); refine box_event rfl (N := 10) rfl (cs := #[.int .i64 0, .int .i64 0, .int .i64 0, .int .i64 0, .slice none 0 0]) (t := 27) (by go_simp; try rfl) ?_; intro gb409 hg w37 hbox hb; replace HO408 := Aside0.mk (Kd.N_below (Kd.N_elderB (sNk HO408.out) gb409 (Nat.le_of_eq hg.symm)) hb); have BK409 := Aside0.mk (hbox); have GW409 := Aside0.mk ((by rw [hg]; exact (below_size (by repeat (first | exact sH HB.out | refine sN (w := w) ?_ | with_reducible refine sG (w := w) ?_ (by assumption)))) : w.heap.size ≤ gb409)); have GE409 := Aside0.mk ((by rw [hg]; exact (below_size (by repeat (first | exact sH HB.out | refine sN (w := w) ?_ | with_reducible refine sG (w := w) ?_ (by assumption)))) : w.heap.size ≤ gb409)); replace HB := Aside0.mk (below_step (by repeat (first | exact sH HB.out | refine sN (w := w) ?_ | with_reducible refine sG (w := w) ?_ (by assumption))) hb); have NB397_409 := Aside0.mk ((by rw [hg]; exact Nat.ne_of_lt (blk_lt (g := gb397) (o := .cells #[.int .i64 a0_0, .int .i64 a0_1, .int .i64 a0_2, .int .i64 a0_3, .slice A0_4 l0_4.length c0_4] 27 (0, 0)) (by first | exact BK397.out | (refine sO ?_; exact BK397.out))) : gb397 ≠ gb409)); have NB409_397 := Aside0.mk ((by rw [hg]; exact Nat.ne_of_gt (blk_lt (g := gb397) (o := .cells #[.int .i64 a0_0, .int .i64 a0_1, .int .i64 a0_2, .int .i64 a0_3, .slice A0_4 l0_4.length c0_4] 27 (0, 0)) (by first | exact BK397.out | (refine sO ?_; exact BK397.out))) : gb409 ≠ gb397)); replace BK397 := kB BK397 hb; have NB398_409 := Aside0.mk ((by rw [hg]; exact Nat.ne_of_lt (blk_lt (g := gb398) (o := .cells #[.int .i64 x399000_1, .int .i64 x399001_1, .int .i64 x399002_1, .int .i64 x399003_1, .slice none 0 0] 27 (0, 0)) (by first | exact BK398.out | (refine sO ?_; exact BK398.out))) : gb398 ≠ gb409)); have NB409_398 := Aside0.mk ((by rw [hg]; exact Nat.ne_of_gt (blk_lt (g := gb398) (o := .cells #[.int .i64 x399000_1, .int .i64 x399001_1, .int .i64 x399002_1, .int .i64 x399003_1, .slice none 0 0] 27 (0, 0)) (by first | exact BK398.out | (refine sO ?_; exact BK398.out))) : gb409 ≠ gb398)); replace BK398 := kB BK398 hb; clear hb hbox hg; have hnb38 := NB409_397.out; have hnc38 := NB397_409.out; have hnb39 := NB409_398.out; have hnc39 := NB398_409.out; obtain ⟨hcz40_0, hcz40_1, hcz40_2, hcz40_3, hcz40_4, hfz40_0, hfz40_1, hfz40_2, hfz40_3, hfz40_4⟩ := cs5 BK409.out; obtain ⟨Ao41, co41, eo41⟩ := Kd.N_slice HO408.out; subst eo41))
         go_loopg [11] kj27 (fun kq v11 w' => ∃ (x11_3 : Int) (x410004_3 : List (List Int)) (u410004 : Value), v11 = .int .i64 x11_3 ∧ Aside0 (twoslotref09_After.l1 kq l1 a2 x11_3 a0_0 a0_1 a0_2 a0_3 l0_4 t402 t403 t404 t405 x410004_3 = some (r1, r2, r3, r4, r5, r6)) ∧ Aside0 (kq ≤ kj27) ∧ Aside0 (Kd.N (Kd.slice 5 (Kd.int .u8)) 33 w' w.heap.size (fun k_ => (w.heap.size ≤ k_) ∧ k_ ≠ gb397 ∧ k_ ≠ gb398 ∧ k_ ≠ gb409) u410004 x410004_3) ∧ Aside0 (w'.heap[gb397]? = some (.cells #[.int .i64 a0_0, .int .i64 a0_1, .int .i64 a0_2, .int .i64 a0_3, (.slice A0_4 l0_4.length c0_4)] 27 (0, 0))) ∧ Aside0 (w'.heap[gb398]? = some (.cells #[.int .i64 x399000_1, .int .i64 x399001_1, .int .i64 x399002_1, .int .i64 x399003_1, (.slice none 0 0)] 27 (0, 0))) ∧ Aside0 (w'.heap[gb409]? = some (.cells #[.int .i64 t402, .int .i64 t403, .int .i64 t404, .int .i64 t405, u410004] 27 (0, 0))) ∧ Aside0 (Below w.heap.size w w'))
         case atStart => exact ⟨(0), (t406), (.slice Ao41 t406.length co41), (by first | rfl | (simp; done) | (simp [*]; done)), H', ⟨Nat.le_refl _⟩, ⟨by (with_reducible repeat (first | apply Kd.N_alloc | apply Kd.N_drewN | apply Kd.N_drew)); exact Kd.N_mono (Kd.N_far (p := ⟨gb409, 4, none⟩) (Kd.N_far (p := ⟨gb409, 3, none⟩) (Kd.N_far (p := ⟨gb409, 2, none⟩) (Kd.N_far (p := ⟨gb409, 1, none⟩) (Kd.N_far (p := ⟨gb409, 0, none⟩) (Kd.N_mono HO408.out (fun k_ hk => (⟨hk, hk.2⟩ : _ ∧ k_ ≠ gb409))) (fun _ hk => hk.2) (.int .i64 t402)) (fun _ hk => hk.2) (.int .i64 t403)) (fun _ hk => hk.2) (.int .i64 t404)) (fun _ hk => hk.2) (.int .i64 t405)) (fun _ hk => hk.2) (.slice Ao41 t406.length co41)) (fun _ hk => ⟨hk.1.1.1, ⟨hk.1.1.2.1, ⟨hk.1.1.2.2, hk.1.2⟩⟩⟩)⟩, ⟨by (try refine sO ?_); refine blk_far ?_ NB397_409.out _; (try refine sO ?_); refine blk_far ?_ NB397_409.out _; (try refine sO ?_); refine blk_far ?_ NB397_409.out _; (try refine sO ?_); refine blk_far ?_ NB397_409.out _; (try refine sO ?_); refine blk_far ?_ NB397_409.out _; (try refine sO ?_); exact BK397.out⟩, ⟨by (try refine sO ?_); refine blk_far ?_ NB398_409.out _; (try refine sO ?_); refine blk_far ?_ NB398_409.out _; (try refine sO ?_); refine blk_far ?_ NB398_409.out _; (try refine sO ?_); refine blk_far ?_ NB398_409.out _; (try refine sO ?_); refine blk_far ?_ NB398_409.out _; (try refine sO ?_); exact BK398.out⟩, ⟨by (try refine sO ?_); refine blk_put (cs := #[.int .i64 t402, .int .i64 t403, .int .i64 t404, .int .i64 t405, .slice none 0 0]) ?_ 4 _ rfl; (try refine sO ?_); refine blk_put (cs := #[.int .i64 t402, .int .i64 t403, .int .i64 t404, .int .i64 0, .slice none 0 0]) ?_ 3 _ rfl; (try refine sO ?_); refine blk_put (cs := #[.int .i64 t402, .int .i64 t403, .int .i64 0, .int .i64 0, .slice none 0 0]) ?_ 2 _ rfl; (try refine sO ?_); refine blk_put (cs := #[.int .i64 t402, .int .i64 0, .int .i64 0, .int .i64 0, .slice none 0 0]) ?_ 1 _ rfl; (try refine sO ?_); refine blk_put (cs := #[.int .i64 0, .int .i64 0, .int .i64 0, .int .i64 0, .slice none 0 0]) ?_ 0 _ rfl; (try refine sO ?_); exact BK409.out⟩, ⟨by repeat (first | exact sH HB.out | refine sN (w := w) ?_ | with_reducible refine sG (w := w) ?_ (by assumption))⟩⟩
         case round =>
          clear H'
          try clear c1
          try clear c2
          try clear p2
          try clear c3
          try clear c4
          try clear p4
          try clear q4
          try clear hx4
          try clear c5
          try clear c5b0
          try clear c5b1
          try clear c6
          try clear c6b0
          try clear c6b1
          try clear p6
          try clear c9
          try clear c15
          try clear c18
          try clear c18b0
          try clear c19
          try clear c19b0
          try clear c20
          try clear c21
          try clear c24
          try clear c26
          try clear c27
          try clear c29
          try clear c29b0
          try clear c30
          try clear c31
          try clear c34
          try clear c38
          try clear c39
          try clear c40
          try clear p40
          try clear q40
          try clear hx40
          try clear hcz10_0
          try clear hcz10_1
          try clear hcz10_2
          try clear hcz10_3
          try clear hcz10_4
          try clear hcz12_0
          try clear hcz12_1
          try clear hcz12_2
          try clear hcz12_3
          try clear hcz12_4
          try clear hcz16_0
          try clear hcz16_1
          try clear hcz16_2
          try clear hcz16_3
          try clear hcz16_4
          try clear hcz27_0
          try clear hcz27_1
          try clear hcz27_2
          try clear hcz27_3
          try clear hcz27_4
          try clear hcz32_0
          try clear hcz32_1
          try clear hcz32_2
          try clear hcz32_3
          try clear hcz32_4
          try clear hcz35_0
          try clear hcz35_1
          try clear hcz35_2
          try clear hcz35_3
          try clear hcz35_4
          try clear hcz40_0
          try clear hcz40_1
          try clear hcz40_2
          try clear hcz40_3
          try clear hcz40_4
          try clear hfz10_0
          try clear hfz10_1
          try clear hfz10_2
          try clear hfz10_3
          try clear hfz10_4
          try clear hfz12_0
          try clear hfz12_1
          try clear hfz12_2
          try clear hfz12_3
          try clear hfz12_4
          try clear hfz16_0
          try clear hfz16_1
          try clear hfz16_2
          try clear hfz16_3
          try clear hfz16_4
          try clear hfz27_0
          try clear hfz27_1
          try clear hfz27_2
          try clear hfz27_3
          try clear hfz27_4
          try clear hfz32_0
          try clear hfz32_1
          try clear hfz32_2
          try clear hfz32_3
          try clear hfz32_4
          try clear hfz35_0
          try clear hfz35_1
          try clear hfz35_2
          try clear hfz35_3
          try clear hfz35_4
          try clear hfz40_0
          try clear hfz40_1
          try clear hfz40_2
          try clear hfz40_3
          try clear hfz40_4
          try clear hx400_0
          try clear hx400_1
          try clear hx400_2
          try clear hx400_3
          try clear p2
          try clear p4
          try clear p400
          try clear p6
          try clear q4
          try clear q400
          obtain ⟨x11_3, x410004_3, u410004, rfl, HA, HK3, HO_410004, BK397, BK398, BK409, HB⟩ := hrel
          cases gk with
          | zero => exact absurd HA.out (by simp [twoslotref09_After.l1])
          | succ k3 =>
           have H := HA.out
           clear HA
           simp only [twoslotref09_After.l1] at H
           by_cases c42 : x11_3 < a2
           ·
            rw [if_pos c42] at H
            have c42b0 : decide (x11_3 < a2) = true := decide_eq_true c42
            clear c42
            by_cases c43 : 0 ≤ x11_3
            ·
             rw [if_pos c43] at H
             have c43b0 : decide (0 ≤ x11_3) = true := decide_eq_true c43
             clear c43
             by_cases c44 : x11_3 < (l1.length : Int)
             ·
              rw [if_pos c44] at H
              have c44b0 : decide (x11_3 < (l1.length : Int)) = true := decide_eq_true c44
              clear c44
              replace H := Option.bind_eq_some_iff.mp H
              obtain ⟨t412, A450, H⟩ := H
              try dsimp only at H
              have A45 := Aside0.mk A450
              clear A450
              by_cases c46 : ([] : List Int).length + ((rd_T35 l1 x11_3).f3).length < 140737488355328
              ·
               rw [if_pos c46] at H
               have LMc46 := Aside0.mk c46
               clear c46
               obtain ⟨y413, hy413⟩ : ∃ y_ : List Int, y_ = (([] : List Int) ++ ((rd_T35 l1 x11_3).f3)) := ⟨_, rfl⟩
               replace H : (if 0 ≤ t412 then (if t412 < (x410004_3.length : Int) then (twoslotref09_After.l1 k3 l1 a2 (wrap64 (x11_3 + 1)) a0_0 a0_1 a0_2 a0_3 l0_4 t402 t403 t404 t405 (x410004_3.set (t412 : Int).toNat y413)) else (none)) else (none)) = some (r1, r2, r3, r4, r5, r6) := by first | (rw [hy413]; with_reducible exact H) | (have H2_ := (Option.bind_some _ _).symm.trans H; rw [hy413]; with_reducible exact H2_) | (have H2_ := (Option.bind_some _ _).symm.trans H; with_reducible exact H2_) | with_reducible exact H | (rw [hy413]; exact H) | exact H
               have Ny413 := Aside0.mk hy413
               clear hy413
               by_cases c47 : 0 ≤ t412
               ·
                rw [if_pos c47] at H
                have c47b0 : decide (0 ≤ t412) = true := decide_eq_true c47
                clear c47
                by_cases c48 : t412 < (x410004_3.length : Int)
                ·
                 rw [if_pos c48] at H
                 have c48b0 : decide (t412 < (x410004_3.length : Int)) = true := decide_eq_true c48
                 clear c48
                 obtain ⟨y416, hy416⟩ : ∃ y_ : List (List Int), y_ = (x410004_3.set (t412 : Int).toNat y413) := ⟨_, rfl⟩
                 replace H : (twoslotref09_After.l1 k3 l1 a2 (wrap64 (x11_3 + 1)) a0_0 a0_1 a0_2 a0_3 l0_4 t402 t403 t404 t405 y416) = some (r1, r2, r3, r4, r5, r6) := by first | (rw [hy416]; with_reducible exact H) | (have H2_ := (Option.bind_some _ _).symm.trans H; rw [hy416]; with_reducible exact H2_) | (have H2_ := (Option.bind_some _ _).symm.trans H; with_reducible exact H2_) | with_reducible exact H | (rw [hy416]; exact H) | exact H
                 have Ny416 := Aside0.mk hy416
                 clear hy416
                 have H' := Aside0.mk H
                 clear H
                 have p410 : 0 ≤ (x11_3 : Int) := of_decide_eq_true (by first | (with_reducible assumption) | assumption)
                 have q410 : x11_3 < (l1.length : Int) := of_decide_eq_true (by first | (with_reducible assumption) | assumption)
                 obtain ⟨ad410, A410_3, c410_3, e410, hx410_0, hx410_1, hx410_2, hx410_3, hl410_3, hi410_3⟩ := at_T35 HR1.out x11_3 p410 q410
                 cases e410
                 replace hx410_0 := (HB.out.cell (World.block_lt_of_cell? w _ hx410_0)).trans hx410_0
                 replace hx410_1 := (HB.out.cell (World.block_lt_of_cell? w _ hx410_1)).trans hx410_1
                 replace hx410_2 := (HB.out.cell (World.block_lt_of_cell? w _ hx410_2)).trans hx410_2
                 replace hx410_3 := (HB.out.cell (World.block_lt_of_cell? w _ hx410_3)).trans hx410_3
                 have HR410_3 := Aside0.mk hi410_3
                 have HC410_3 := Aside0.mk hl410_3
                 clear hi410_3 hl410_3
                 replace p410 := eq_true p410
                 replace q410 := eq_true q410
                 try go_wp2_with (first | ((with_reducible refine gate_dst (N := 12) rfl ?_); (try (refine gate_guard (by rfl) ?_; dsimp only)); refine box_event rfl (N := 12) rfl (cs := #[.int .i64 0, .int .i64 0, .int .i64 0, .slice none 0 0]) (t := 35) (by go_simp; try rfl) ?_; intro gb411 hg w50 hbox hb; replace HO_410004 := Aside0.mk (Kd.N_below (Kd.N_elderB (sNk HO_410004.out) gb411 (Nat.le_of_eq hg.symm)) hb); have BK411 := Aside0.mk (hbox); have GW411 := Aside0.mk ((by rw [hg]; exact (below_size (by repeat (first | exact sH HB.out | refine sN (w := w) ?_ | with_reducible refine sG (w := w) ?_ (by assumption)))) : w.heap.size ≤ gb411)); have GE411 := Aside0.mk ((by rw [hg]; exact (below_size (by repeat (first | exact sH HB.out | refine sN (w := w) ?_ | with_reducible refine sG (w := w) ?_ (by assumption)))) : w.heap.size ≤ gb411)); replace HB := Aside0.mk (below_step (by repeat (first | exact sH HB.out | refine sN (w := w) ?_ | with_reducible refine sG (w := w) ?_ (by assumption))) hb); have NB397_411 := Aside0.mk ((by rw [hg]; exact Nat.ne_of_lt (blk_lt (g := gb397) (o := .cells #[.int .i64 a0_0, .int .i64 a0_1, .int .i64 a0_2, .int .i64 a0_3, .slice A0_4 l0_4.length c0_4] 27 (0, 0)) (by first | exact BK397.out | (refine sO ?_; exact BK397.out))) : gb397 ≠ gb411)); have NB411_397 := Aside0.mk ((by rw [hg]; exact Nat.ne_of_gt (blk_lt (g := gb397) (o := .cells #[.int .i64 a0_0, .int .i64 a0_1, .int .i64 a0_2, .int .i64 a0_3, .slice A0_4 l0_4.length c0_4] 27 (0, 0)) (by first | exact BK397.out | (refine sO ?_; exact BK397.out))) : gb411 ≠ gb397)); replace BK397 := kB BK397 hb; have NB398_411 := Aside0.mk ((by rw [hg]; exact Nat.ne_of_lt (blk_lt (g := gb398) (o := .cells #[.int .i64 x399000_1, .int .i64 x399001_1, .int .i64 x399002_1, .int .i64 x399003_1, .slice none 0 0] 27 (0, 0)) (by first | exact BK398.out | (refine sO ?_; exact BK398.out))) : gb398 ≠ gb411)); have NB411_398 := Aside0.mk ((by rw [hg]; exact Nat.ne_of_gt (blk_lt (g := gb398) (o := .cells #[.int .i64 x399000_1, .int .i64 x399001_1, .int .i64 x399002_1, .int .i64 x399003_1, .slice none 0 0] 27 (0, 0)) (by first | exact BK398.out | (refine sO ?_; exact BK398.out))) : gb411 ≠ gb398)); replace BK398 := kB BK398 hb; have NB409_411 := Aside0.mk ((by rw [hg]; exact Nat.ne_of_lt (blk_lt (g := gb409) (o := .cells #[.int .i64 t402, .int .i64 t403, .int .i64 t404, .int .i64 t405, u410004] 27 (0, 0)) (by first | exact BK409.out | (refine sO ?_; exact BK409.out))) : gb409 ≠ gb411)); have NB411_409 := Aside0.mk ((by rw [hg]; exact Nat.ne_of_gt (blk_lt (g := gb409) (o := .cells #[.int .i64 t402, .int .i64 t403, .int .i64 t404, .int .i64 t405, u410004] 27 (0, 0)) (by first | exact BK409.out | (refine sO ?_; exact BK409.out))) : gb411 ≠ gb409)); replace BK409 := kB BK409 hb; clear hb hbox hg; have hnb51 := NB411_397.out; have hnc51 := NB397_411.out; have hnb52 := NB411_398.out; have hnc52 := NB398_411.out; have hnb53 := NB411_409.out; have hnc53 := NB409_411.out; obtain ⟨hcz54_0, hcz54_1, hcz54_2, hcz54_3, hfz54_0, hfz54_1, hfz54_2, hfz54_3⟩ := cs4 BK411.out))
                 have n0_ : Aside0 (Kd.N (Kd.slice 5 (Kd.int .u8)) 33 ((((w50.setCell ⟨gb411, 0, none⟩ (.int .i64 ((rd_T35 l1 x11_3).f0))).setCell ⟨gb411, 1, none⟩ (.int .i64 ((rd_T35 l1 x11_3).f1))).setCell ⟨gb411, 2, none⟩ (.int .i64 ((rd_T35 l1 x11_3).f2))).setCell ⟨gb411, 3, none⟩ (.slice A410_3 ((rd_T35 l1 x11_3).f3).length c410_3)) w.heap.size (fun k_ => (w.heap.size ≤ k_) ∧ k_ ≠ gb397 ∧ k_ ≠ gb398 ∧ k_ ≠ gb409 ∧ k_ ≠ gb411) u410004 x410004_3) := ⟨by (with_reducible repeat (first | apply Kd.N_alloc | apply Kd.N_drewN | apply Kd.N_drew)); exact Kd.N_mono (Kd.N_far (p := ⟨gb411, 3, none⟩) (Kd.N_far (p := ⟨gb411, 2, none⟩) (Kd.N_far (p := ⟨gb411, 1, none⟩) (Kd.N_far (p := ⟨gb411, 0, none⟩) (Kd.N_mono HO_410004.out (fun k_ hk => (⟨hk, hk.2⟩ : _ ∧ k_ ≠ gb411))) (fun _ hk => hk.2) (.int .i64 ((rd_T35 l1 x11_3).f0))) (fun _ hk => hk.2) (.int .i64 ((rd_T35 l1 x11_3).f1))) (fun _ hk => hk.2) (.int .i64 ((rd_T35 l1 x11_3).f2))) (fun _ hk => hk.2) (.slice A410_3 ((rd_T35 l1 x11_3).f3).length c410_3)) (fun _ hk => ⟨hk.1.1.1, ⟨hk.1.1.2.1, ⟨hk.1.1.2.2.1, ⟨hk.1.1.2.2.2, hk.1.2⟩⟩⟩⟩)⟩
                 have n1_ : Aside0 (((((w50.setCell ⟨gb411, 0, none⟩ (.int .i64 ((rd_T35 l1 x11_3).f0))).setCell ⟨gb411, 1, none⟩ (.int .i64 ((rd_T35 l1 x11_3).f1))).setCell ⟨gb411, 2, none⟩ (.int .i64 ((rd_T35 l1 x11_3).f2))).setCell ⟨gb411, 3, none⟩ (.slice A410_3 ((rd_T35 l1 x11_3).f3).length c410_3)).heap[gb397]? = some (.cells #[.int .i64 a0_0, .int .i64 a0_1, .int .i64 a0_2, .int .i64 a0_3, .slice A0_4 l0_4.length c0_4] 27 (0, 0))) := ⟨by (try refine sO ?_); refine blk_far ?_ NB397_411.out _; (try refine sO ?_); refine blk_far ?_ NB397_411.out _; (try refine sO ?_); refine blk_far ?_ NB397_411.out _; (try refine sO ?_); refine blk_far ?_ NB397_411.out _; (try refine sO ?_); exact BK397.out⟩
                 have n2_ : Aside0 (((((w50.setCell ⟨gb411, 0, none⟩ (.int .i64 ((rd_T35 l1 x11_3).f0))).setCell ⟨gb411, 1, none⟩ (.int .i64 ((rd_T35 l1 x11_3).f1))).setCell ⟨gb411, 2, none⟩ (.int .i64 ((rd_T35 l1 x11_3).f2))).setCell ⟨gb411, 3, none⟩ (.slice A410_3 ((rd_T35 l1 x11_3).f3).length c410_3)).heap[gb398]? = some (.cells #[.int .i64 x399000_1, .int .i64 x399001_1, .int .i64 x399002_1, .int .i64 x399003_1, .slice none 0 0] 27 (0, 0))) := ⟨by (try refine sO ?_); refine blk_far ?_ NB398_411.out _; (try refine sO ?_); refine blk_far ?_ NB398_411.out _; (try refine sO ?_); refine blk_far ?_ NB398_411.out _; (try refine sO ?_); refine blk_far ?_ NB398_411.out _; (try refine sO ?_); exact BK398.out⟩
                 have n3_ : Aside0 (((((w50.setCell ⟨gb411, 0, none⟩ (.int .i64 ((rd_T35 l1 x11_3).f0))).setCell ⟨gb411, 1, none⟩ (.int .i64 ((rd_T35 l1 x11_3).f1))).setCell ⟨gb411, 2, none⟩ (.int .i64 ((rd_T35 l1 x11_3).f2))).setCell ⟨gb411, 3, none⟩ (.slice A410_3 ((rd_T35 l1 x11_3).f3).length c410_3)).heap[gb409]? = some (.cells #[.int .i64 t402, .int .i64 t403, .int .i64 t404, .int .i64 t405, u410004] 27 (0, 0))) := ⟨by (try refine sO ?_); refine blk_far ?_ NB409_411.out _; (try refine sO ?_); refine blk_far ?_ NB409_411.out _; (try refine sO ?_); refine blk_far ?_ NB409_411.out _; (try refine sO ?_); refine blk_far ?_ NB409_411.out _; (try refine sO ?_); exact BK409.out⟩
                 have n4_ : Aside0 (((((w50.setCell ⟨gb411, 0, none⟩ (.int .i64 ((rd_T35 l1 x11_3).f0))).setCell ⟨gb411, 1, none⟩ (.int .i64 ((rd_T35 l1 x11_3).f1))).setCell ⟨gb411, 2, none⟩ (.int .i64 ((rd_T35 l1 x11_3).f2))).setCell ⟨gb411, 3, none⟩ (.slice A410_3 ((rd_T35 l1 x11_3).f3).length c410_3)).heap[gb411]? = some (.cells #[.int .i64 ((rd_T35 l1 x11_3).f0), .int .i64 ((rd_T35 l1 x11_3).f1), .int .i64 ((rd_T35 l1 x11_3).f2), .slice A410_3 ((rd_T35 l1 x11_3).f3).length c410_3] 35 (0, 0))) := ⟨by (try refine sO ?_); refine blk_put (cs := #[.int .i64 ((rd_T35 l1 x11_3).f0), .int .i64 ((rd_T35 l1 x11_3).f1), .int .i64 ((rd_T35 l1 x11_3).f2), .slice none 0 0]) ?_ 3 _ rfl; (try refine sO ?_); refine blk_put (cs := #[.int .i64 ((rd_T35 l1 x11_3).f0), .int .i64 ((rd_T35 l1 x11_3).f1), .int .i64 0, .slice none 0 0]) ?_ 2 _ rfl; (try refine sO ?_); refine blk_put (cs := #[.int .i64 ((rd_T35 l1 x11_3).f0), .int .i64 0, .int .i64 0, .slice none 0 0]) ?_ 1 _ rfl; (try refine sO ?_); refine blk_put (cs := #[.int .i64 0, .int .i64 0, .int .i64 0, .slice none 0 0]) ?_ 0 _ rfl; (try refine sO ?_); exact BK411.out⟩
                 have n5_ : Aside0 (Below w.heap.size w ((((w50.setCell ⟨gb411, 0, none⟩ (.int .i64 ((rd_T35 l1 x11_3).f0))).setCell ⟨gb411, 1, none⟩ (.int .i64 ((rd_T35 l1 x11_3).f1))).setCell ⟨gb411, 2, none⟩ (.int .i64 ((rd_T35 l1 x11_3).f2))).setCell ⟨gb411, 3, none⟩ (.slice A410_3 ((rd_T35 l1 x11_3).f3).length c410_3))) := ⟨by repeat (first | exact sH HB.out | refine sN (w := w) ?_ | with_reducible refine sG (w := w) ?_ (by assumption))⟩
                 (try clear HO_410004)
                 (try clear BK397)
                 (try clear BK398)
                 (try clear BK409)
                 (try clear BK411)
                 (try clear HB)
                 generalize ((((w50.setCell ⟨gb411, 0, none⟩ (.int .i64 ((rd_T35 l1 x11_3).f0))).setCell ⟨gb411, 1, none⟩ (.int .i64 ((rd_T35 l1 x11_3).f1))).setCell ⟨gb411, 2, none⟩ (.int .i64 ((rd_T35 l1 x11_3).f2))).setCell ⟨gb411, 3, none⟩ (.slice A410_3 ((rd_T35 l1 x11_3).f3).length c410_3)) = w55 at n0_ n1_ n2_ n3_ n4_ n5_ ⊢
                 have HO_410004 := n0_; have BK397 := n1_; have BK398 := n2_; have BK409 := n3_; have BK411 := n4_; have HB := n5_; clear n0_ n1_ n2_ n3_ n4_ n5_; have n0_ := Aside0.mk (Kd.N_drew HO_410004.out); have n1_ := Aside0.mk (blk_drew BK397.out); have n2_ := Aside0.mk (blk_drew BK398.out); have n3_ := Aside0.mk (blk_drew BK409.out); have n4_ := Aside0.mk (blk_drew BK411.out); have n5_ := Aside0.mk (below_drew1 HB.out); clear HO_410004; clear BK397; clear BK398; clear BK409; clear BK411; clear HB; have HO_410004 := n0_; have BK397 := n1_; have BK398 := n2_; have BK409 := n3_; have BK411 := n4_; have HB := n5_; clear n0_ n1_ n2_ n3_ n4_ n5_
                 refine start_ (n := 17) (S := fun w' => w'.cell? ⟨gb409, 0, none⟩ = some (.int .i64 t402) ∧ w'.cell? ⟨gb409, 1, none⟩ = some (.int .i64 t403) ∧ w'.cell? ⟨gb409, 2, none⟩ = some (.int .i64 t404) ∧ w'.cell? ⟨gb409, 3, none⟩ = some (.int .i64 t405) ∧ w'.cell? ⟨gb409, 4, none⟩ = some (u410004) ∧ w'.cell? ⟨gb397, 0, none⟩ = some (.int .i64 a0_0) ∧ w'.cell? ⟨gb397, 1, none⟩ = some (.int .i64 a0_1) ∧ w'.cell? ⟨gb397, 2, none⟩ = some (.int .i64 a0_2) ∧ w'.cell? ⟨gb397, 3, none⟩ = some (.int .i64 a0_3) ∧ w'.cell? ⟨gb397, 4, none⟩ = some (.slice A0_4 l0_4.length c0_4) ∧ w'.cell? ⟨gb411, 0, none⟩ = some (.int .i64 ((rd_T35 l1 x11_3).f0)) ∧ w'.cell? ⟨gb411, 1, none⟩ = some (.int .i64 ((rd_T35 l1 x11_3).f1)) ∧ w'.cell? ⟨gb411, 2, none⟩ = some (.int .i64 ((rd_T35 l1 x11_3).f2)) ∧ w'.cell? ⟨gb411, 3, none⟩ = some (.slice A410_3 ((rd_T35 l1 x11_3).f3).length c410_3)) (ds := [16]) #[O,O,O,O,O,O,O,O,O,O,O,O,O,O,O,O,O] (by kernel_rfl) rfl rfl ⟨(blk_cell BK409.out 0).trans rfl, (blk_cell BK409.out 1).trans rfl, (blk_cell BK409.out 2).trans rfl, (blk_cell BK409.out 3).trans rfl, (blk_cell BK409.out 4).trans rfl, (blk_cell BK397.out 0).trans rfl, (blk_cell BK397.out 1).trans rfl, (blk_cell BK397.out 2).trans rfl, (blk_cell BK397.out 3).trans rfl, (blk_cell BK397.out 4).trans rfl, (blk_cell BK411.out 0).trans rfl, (blk_cell BK411.out 1).trans rfl, (blk_cell BK411.out 2).trans rfl, (blk_cell BK411.out 3).trans rfl⟩ (fun hHeld => ?_); refine with_tabW twoslotref09_After.tab19 twoslotref09_After.bits19 (fun HT_ HW_ => ?_)
                 generalize w55.drew = w56 at HO_410004 BK397 BK398 BK409 BK411 HB hHeld ⊢
                 refine pu (i := 0) (N := some 59) (v := ?_) (a' := ?_) #[X,O,O,O,O,O,O,O,O,O,O,O,O,O,O,O,O] rfl rfl HT_ (by kernel_rfl) (fun _ _ _ h => h) ⟨by rfl, ?_⟩ ?_ ?_
                 rotate_left; (intro w'; go_simp; with_reducible rfl); rotate_left; (simp only [sP]; rfl)
                 refine pu (i := 2) (N := some 61) (v := ?_) (a' := ?_) #[X,O,X,O,O,O,O,O,O,O,O,O,O,O,O,O,O] rfl rfl HT_ (by kernel_rfl) (fun _ _ _ h => h) ⟨by rfl, ?_⟩ ?_ ?_
                 rotate_left; (intro w'; go_simp; with_reducible rfl); rotate_left; (simp only [sP]; rfl)
                 refine pu (i := 4) (N := some 63) (v := ?_) (a' := ?_) #[X,O,X,O,X,O,O,O,O,O,O,O,O,O,O,O,O] rfl rfl HT_ (by kernel_rfl) (fun _ _ _ h => h) ⟨by rfl, ?_⟩ ?_ ?_
                 rotate_left; (intro w'; go_simp; with_reducible rfl); rotate_left; (simp only [sP]; rfl)
                 refine pu (i := 6) (N := some 65) (v := ?_) (a' := ?_) #[X,O,X,O,X,O,X,O,O,O,O,O,O,O,O,O,O] rfl rfl HT_ (by kernel_rfl) (fun _ _ _ h => h) ⟨by rfl, ?_⟩ ?_ ?_
                 rotate_left; (intro w'; go_simp; with_reducible rfl); rotate_left; (simp only [sP]; rfl)
                 refine pu (i := 8) (N := some 67) (v := ?_) (a' := ?_) #[X,O,X,O,X,O,X,O,X,O,O,O,O,O,O,O,O] rfl rfl HT_ (by kernel_rfl) (fun _ _ _ h => h) ⟨by rfl, ?_⟩ ?_ ?_
                 rotate_left; (intro w'; go_simp; with_reducible rfl); rotate_left; (simp only [sP]; rfl)
                 refine pu (i := 11) (N := some 70) (v := ?_) (a' := ?_) #[X,O,X,O,X,O,X,O,X,O,O,X,O,O,O,O,O] rfl rfl HT_ (by kernel_rfl) (fun _ _ _ h => h) ⟨by rfl, ?_⟩ ?_ ?_
                 rotate_left; (intro w'; go_simp; with_reducible rfl); rotate_left; (simp only [sP]; rfl)
                 refine pu (i := 12) (N := some 71) (v := ?_) (a' := ?_) #[X,O,X,O,X,O,X,O,X,O,O,X,X,O,O,O,O] rfl rfl HT_ (by kernel_rfl) (fun _ _ _ h => h) ⟨by rfl, ?_⟩ ?_ ?_
                 rotate_left; (intro w'; go_simp; with_reducible rfl); rotate_left; (simp only [sP]; rfl)
                 refine tu (i := 1) (N := some 60) (v := ?_) (a' := ?_) #[X,X,X,O,X,O,X,O,X,O,O,X,X,O,O,O,O] rfl rfl HT_ HW_ (by kernel_rfl) (fun _ _ _ h => h) ⟨by rfl, ?_⟩ hHeld ?_ ?_
                 rotate_left; (rintro w' ⟨s0, s1, s2, s3, s4, s5, s6, s7, s8, s9, s10, s11, s12, s13⟩; go_simp; with_reducible rfl); rotate_left; (simp only [sP]; rfl)
                 refine tu (i := 3) (N := some 62) (v := ?_) (a' := ?_) #[X,X,X,X,X,O,X,O,X,O,O,X,X,O,O,O,O] rfl rfl HT_ HW_ (by kernel_rfl) (fun _ _ _ h => h) ⟨by rfl, ?_⟩ hHeld ?_ ?_
                 rotate_left; (rintro w' ⟨s0, s1, s2, s3, s4, s5, s6, s7, s8, s9, s10, s11, s12, s13⟩; go_simp; with_reducible rfl); rotate_left; (simp only [sP]; rfl)
                 refine tu (i := 5) (N := some 64) (v := ?_) (a' := ?_) #[X,X,X,X,X,X,X,O,X,O,O,X,X,O,O,O,O] rfl rfl HT_ HW_ (by kernel_rfl) (fun _ _ _ h => h) ⟨by rfl, ?_⟩ hHeld ?_ ?_
                 rotate_left; (rintro w' ⟨s0, s1, s2, s3, s4, s5, s6, s7, s8, s9, s10, s11, s12, s13⟩; go_simp; with_reducible rfl); rotate_left; (simp only [sP]; rfl)
                 refine tu (i := 7) (N := some 66) (v := ?_) (a' := ?_) #[X,X,X,X,X,X,X,X,X,O,O,X,X,O,O,O,O] rfl rfl HT_ HW_ (by kernel_rfl) (fun _ _ _ h => h) ⟨by rfl, ?_⟩ hHeld ?_ ?_
                 rotate_left; (rintro w' ⟨s0, s1, s2, s3, s4, s5, s6, s7, s8, s9, s10, s11, s12, s13⟩; go_simp; with_reducible rfl); rotate_left; (simp only [sP]; rfl)
                 refine tu (i := 9) (N := some 68) (v := ?_) (a' := ?_) #[X,X,X,X,X,X,X,X,X,X,O,X,X,O,O,O,O] rfl rfl HT_ HW_ (by kernel_rfl) (fun _ _ _ h => h) ⟨by rfl, ?_⟩ hHeld ?_ ?_
                 rotate_left; (rintro w' ⟨s0, s1, s2, s3, s4, s5, s6, s7, s8, s9, s10, s11, s12, s13⟩; go_simp; with_reducible rfl); rotate_left; (simp only [sP]; rfl)
                 refine tu (i := 13) (N := some 72) (v := ?_) (a' := ?_) #[X,X,X,X,X,X,X,X,X,X,O,X,X,X,O,O,O] rfl rfl HT_ HW_ (by kernel_rfl) (fun _ _ _ h => h) ⟨by rfl, ?_⟩ hHeld ?_ ?_
                 rotate_left; (rintro w' ⟨s0, s1, s2, s3, s4, s5, s6, s7, s8, s9, s10, s11, s12, s13⟩; go_simp; with_reducible rfl); rotate_left; (simp only [sP]; rfl)
                 refine one_ (i := 10) (N := some 69) #[X,X,X,X,X,X,X,X,X,X,X,X,X,X,O,O,O] rfl rfl (one_of HT_.out (by kernel_rfl)) (by decide) (fun K hK => ?_)
                 refine goes_ Try.func50 (by kernel_rfl) rfl #[.agg #[.int .i64 a0_0, .int .i64 a0_1, .int .i64 a0_2, .int .i64 a0_3], .int .i64 ((rd_T35 l1 x11_3).f0), .int .i64 ((rd_T35 l1 x11_3).f1), .int .i64 ((rd_T35 l1 x11_3).f2)] (by rfl) rfl rfl (by (try simp only [sM]); first | done | rfl | (simp only [sT]; rfl)) ?_
                 with_reducible refine (twoslotref09_Number.calls a0_0 a0_1 a0_2 a0_3 ((rd_T35 l1 x11_3).f0) ((rd_T35 l1 x11_3).f1) ((rd_T35 l1 x11_3).f2) t412 _ A45.out).mono ?_
                 rintro e w57 ⟨rfl, hb⟩
                 refine ⟨_, rfl, ?_⟩
                 replace HO_410004 := Aside0.mk (Kd.N_below (sNk HO_410004.out) hb); replace BK397 := kB BK397 hb; replace BK398 := kB BK398 hb; replace BK409 := kB BK409 hb; replace BK411 := kB BK411 hb; replace HB := Aside0.mk (below_step (by repeat (first | exact sH HB.out | refine sN (w := w) ?_ | with_reducible refine sG (w := w) ?_ (by assumption))) hb)
                 (try clear hb)
                 (try clear hb2)
                 (try clear hk)
                 (try clear hi)
                 refine hK.out _ _ ⟨(blk_cell BK409.out 0).trans rfl, (blk_cell BK409.out 1).trans rfl, (blk_cell BK409.out 2).trans rfl, (blk_cell BK409.out 3).trans rfl, (blk_cell BK409.out 4).trans rfl, (blk_cell BK397.out 0).trans rfl, (blk_cell BK397.out 1).trans rfl, (blk_cell BK397.out 2).trans rfl, (blk_cell BK397.out 3).trans rfl, (blk_cell BK397.out 4).trans rfl, (blk_cell BK411.out 0).trans rfl, (blk_cell BK411.out 1).trans rfl, (blk_cell BK411.out 2).trans rfl, (blk_cell BK411.out 3).trans rfl⟩ (fun hHeld => ?_)
                 clear hK K
                 refine norm_ (a' := ?_) ?_ ?_
                 rotate_left
                 ·
                  show Act.put _ (some 69) _ = _
                  simp only [sP]
                  rfl
                 refine one_ (i := 14) (N := some 73) #[X,X,X,X,X,X,X,X,X,X,X,X,X,X,X,O,O] rfl rfl (one_of HT_.out (by kernel_rfl)) (by decide) (fun K hK => ?_)
                 refine Kd.R_append_rows_step (Kd.int .u8) (w0 := w) w.heap.size (by rfl) (.tmp 70) (.tmp 72) 33 5 (.int .u8 0) 1 rfl Try.underlying33 info5 rfl (by decide) (by omega) (.slice none 0 0) ([] : List Int) ((rd_T35 l1 x11_3).f3) _ _ _ (fun k_ => (w.heap.size ≤ k_)) (fun _ => False) rfl rfl ?aO ?aR (fun _ _ h => h) (fun _ h => h.elim) ?aF ?aB ?aS ?aL ?_
                 (case aR => exact sC (Kd.C_below HR410_3.out HB.out))
                 (case aB => exact (by repeat (first | exact sH HB.out | refine sN (w := w) ?_ | with_reducible refine sG (w := w) ?_ (by assumption))))
                 (case aF => exact (fun k_ hk => (Nat.le_trans (below_size (by repeat (first | exact sH HB.out | refine sN (w := w) ?_ | with_reducible refine sG (w := w) ?_ (by assumption)))) hk)))
                 (case aO => exact ((Kd.R_nil _ _ _ _ (fun k_ => (w.heap.size ≤ k_)))))
                 (case aS => exact (below_size (by repeat (first | exact sH HB.out | refine sN (w := w) ?_ | with_reducible refine sG (w := w) ?_ (by assumption)))))
                 (case aL => have := LMc46.out; omega)
                 intro v414 w58 ho hb hg hat
                 rw [← Ny413.out] at ho
                 replace HO_410004 := Aside0.mk (Kd.N_afterv (Kd.N_apart_nil (sNk HO_410004.out)) hg hat); replace BK397 := Aside0.mk (blk_grown (g := gb397) (o := .cells #[.int .i64 a0_0, .int .i64 a0_1, .int .i64 a0_2, .int .i64 a0_3, .slice A0_4 l0_4.length c0_4] 27 (0, 0)) (by first | exact BK397.out | (refine sO ?_; exact BK397.out)) hg (by simp [Value.ownBlock])); replace BK398 := Aside0.mk (blk_grown (g := gb398) (o := .cells #[.int .i64 x399000_1, .int .i64 x399001_1, .int .i64 x399002_1, .int .i64 x399003_1, .slice none 0 0] 27 (0, 0)) (by first | exact BK398.out | (refine sO ?_; exact BK398.out)) hg (by simp [Value.ownBlock])); replace BK409 := Aside0.mk (blk_grown (g := gb409) (o := .cells #[.int .i64 t402, .int .i64 t403, .int .i64 t404, .int .i64 t405, u410004] 27 (0, 0)) (by first | exact BK409.out | (refine sO ?_; exact BK409.out)) hg (by simp [Value.ownBlock])); replace BK411 := Aside0.mk (blk_grown (g := gb411) (o := .cells #[.int .i64 ((rd_T35 l1 x11_3).f0), .int .i64 ((rd_T35 l1 x11_3).f1), .int .i64 ((rd_T35 l1 x11_3).f2), .slice A410_3 ((rd_T35 l1 x11_3).f3).length c410_3] 35 (0, 0)) (by first | exact BK411.out | (refine sO ?_; exact BK411.out)) hg (by simp [Value.ownBlock])); replace HB := Aside0.mk (hb); have HO415 := Aside0.mk (ho)
                 clear ho hb hg hat
                 have p49 : 0 ≤ (t412 : Int) := of_decide_eq_true (by first | (with_reducible assumption) | assumption)
                 have q49 : (t412 : Int) < ((x410004_3.length : Int) : Int) := of_decide_eq_true (by first | (with_reducible assumption) | assumption)
                 obtain ⟨go49, co49, eo49, gb49, gl49, cl49, HG49⟩ := Kd.N_form HO_410004.out (by omega)
                 (first | cases eo49 | (injection eo49 with ea_ en_ ec_; (first | subst ea_ | (injection ea_ with ea_; subst ea_)); subst ec_; clear en_))
                 have GB49 := Aside0.mk gb49
                 have GG49 := Aside0.mk HG49
                 clear gb49 gl49 HG49
                 obtain ⟨ce49, hcl49, hM49, hcc49, hfr49⟩ := Kd.N_elem HO_410004.out [] (t412 : Int) p49 q49
                 obtain ⟨ua49_0, uc49_0, rfl, ul49_0, ge49_0⟩ := Kd.FK_slice_open hM49
                 have hx49_0 := hcc49 0 _ rfl
                 have hf49_0 := hfr49 0
                 (try simp only [show ((Kd.slice 5 (Kd.int .u8))).sz = 1 from rfl, Nat.mul_one, Nat.add_zero] at hx49_0)
                 (try simp only [show ((Kd.slice 5 (Kd.int .u8))).sz = 1 from rfl, Nat.mul_one, Nat.add_zero] at hf49_0)
                 (try clear hcl49); (try clear hcc49); (try clear hfr49); (try clear hM49)
                 replace p49 := eq_true p49
                 replace q49 := eq_true q49
                 have HX59 := Aside0.mk (show Kd.N (Kd.slice 5 (Kd.int .u8)) 33 _ w.heap.size (fun k_ => (w.heap.size ≤ k_) ∧ some k_ ≠ (v414 : Value).ownBlock ∧ k_ ≠ gb397 ∧ k_ ≠ gb398 ∧ k_ ≠ gb409 ∧ k_ ≠ gb411) (.slice (some ⟨go49, 0, none⟩) x410004_3.length co49) x410004_3 from (Kd.N_mono (HO_410004.out) (fun k_ hk => ⟨hk.1.1, ⟨hk.2, ⟨hk.1.2.1, ⟨hk.1.2.2.1, ⟨hk.1.2.2.2.1, hk.1.2.2.2.2⟩⟩⟩⟩⟩)))
                 replace HX59 := Aside0.mk (show Kd.N (Kd.slice 5 (Kd.int .u8)) 33 _ w.heap.size (fun k_ => (w.heap.size ≤ k_) ∧ k_ ≠ gb397 ∧ k_ ≠ gb398 ∧ k_ ≠ gb409 ∧ k_ ≠ gb411) (.slice (some ⟨go49, 0, none⟩) x410004_3.length co49) x410004_3 from Kd.N_mono HX59.out (fun k_ hk => ⟨hk.1, ⟨hk.2.2.1, ⟨hk.2.2.2.1, ⟨hk.2.2.2.2.1, hk.2.2.2.2.2⟩⟩⟩⟩))
                 obtain ⟨ce59, hcl59, hM59, hcc59, hfr59⟩ := Kd.N_elem HX59.out [] (t412 : Int) (of_decide_eq_true (by first | (with_reducible assumption) | assumption)) (by have h_ : (t412 : Int) < ((x410004_3.length : Int) : Int) := of_decide_eq_true (by first | (with_reducible assumption) | assumption); first | exact h_ | (have e_ := (Kd.N_reads' HO_410004.out).1; omega) | simpa using h_)
                 obtain ⟨ua59_0, uc59_0, rfl, ul59_0, ge59_0⟩ := Kd.FK_slice_open hM59
                 obtain ⟨vA414, vc414, ev_⟩ := Kd.R_slice HO415.out
                 subst ev_
                 have HP59 := (Kd.N_seg HX59.out (t412 : Int) (of_decide_eq_true (by first | (with_reducible assumption) | assumption)) (by have h_ : (t412 : Int) < ((x410004_3.length : Int) : Int) := of_decide_eq_true (by first | (with_reducible assumption) | assumption); first | exact h_ | (have e_ := (Kd.N_reads' HO_410004.out).1; omega) | simpa using h_) (seg := [(.slice vA414 y413.length vc414)]) (j := 0) hcl59 hcc59 (show 1 ≤ 1 from by decide) (x' := y413) (Kd.FK_slice_mk (Kd.R_reads' (Kd.R_mono (ok' := (fun k_ => ((fun k_ => (w.heap.size ≤ k_) ∧ k_ ≠ gb397 ∧ k_ ≠ gb398 ∧ k_ ≠ gb409 ∧ k_ ≠ gb411)) k_ ∧ k_ ≠ go49)) (Kd.R_types (Kd.R_types (Kd.R_types (Kd.R_types (Kd.R_apart' (HO415.out) (Kd.N_typed HO_410004.out) (by decide)) BK397.out (by decide)) BK398.out (by decide)) BK409.out (by decide)) BK411.out (by decide)) (fun k_ hk => ⟨⟨hk.1.1.1.1.1, ⟨hk.1.1.1.2, ⟨hk.1.1.2, ⟨hk.1.2, hk.2⟩⟩⟩⟩, fun e_ => (hk.1.1.1.1.2) (by rw [e_]; rfl)⟩))).2.1 (Kd.R_F (Kd.R_mono (ok' := (fun k_ => ((fun k_ => (w.heap.size ≤ k_) ∧ k_ ≠ gb397 ∧ k_ ≠ gb398 ∧ k_ ≠ gb409 ∧ k_ ≠ gb411)) k_ ∧ k_ ≠ go49)) (Kd.R_types (Kd.R_types (Kd.R_types (Kd.R_types (Kd.R_apart' (HO415.out) (Kd.N_typed HO_410004.out) (by decide)) BK397.out (by decide)) BK398.out (by decide)) BK409.out (by decide)) BK411.out (by decide)) (fun k_ hk => ⟨⟨hk.1.1.1.1.1, ⟨hk.1.1.1.2, ⟨hk.1.1.2, ⟨hk.1.2, hk.2⟩⟩⟩⟩, fun e_ => (hk.1.1.1.1.2) (by rw [e_]; rfl)⟩)))) (fun _ hk => hk)).1
                 (try simp only [show ((Kd.slice 5 (Kd.int .u8))).sz = 1 from rfl, Nat.mul_one, Nat.add_zero] at HP59)
                 rw [← Ny416.out] at HP59
                 have HQ59 := Aside0.mk HP59
                 (try clear hcl59); (try clear hcc59); (try clear hfr59); (try clear hM59); (try clear HP59)
                 refine hK.out _ _ ⟨(blk_cell BK409.out 0).trans rfl, (blk_cell BK409.out 1).trans rfl, (blk_cell BK409.out 2).trans rfl, (blk_cell BK409.out 3).trans rfl, (blk_cell BK409.out 4).trans rfl, (blk_cell BK397.out 0).trans rfl, (blk_cell BK397.out 1).trans rfl, (blk_cell BK397.out 2).trans rfl, (blk_cell BK397.out 3).trans rfl, (blk_cell BK397.out 4).trans rfl, (blk_cell BK411.out 0).trans rfl, (blk_cell BK411.out 1).trans rfl, (blk_cell BK411.out 2).trans rfl, (blk_cell BK411.out 3).trans rfl⟩ (fun hHeld => ?_)
                 clear hK K
                 refine norm_ (a' := ?_) ?_ ?_
                 rotate_left
                 ·
                  show Act.put _ (some 73) _ = _
                  simp only [sP]
                  rfl
                 refine pu (i := 15) (N := some 74) (v := ?_) (a' := ?_) #[X,X,X,X,X,X,X,X,X,X,X,X,X,X,X,X,O] rfl rfl HT_ (by kernel_rfl) (fun _ _ _ h => h) ⟨by rfl, ?_⟩ ?_ ?_
                 rotate_left; (intro w'; go_simp; with_reducible rfl); rotate_left; (simp only [sP]; rfl)
                 refine last_ (i := 16) (N := none) #[X,X,X,X,X,X,X,X,X,X,X,X,X,X,X,X,X] rfl rfl (one_of HT_.out (by kernel_rfl)) (by decide) (fun K hK => ?_)
                 refine skip_ (w1 := ?_) (by rfl) rfl ?_ ?_
                 rotate_left
                 ·
                  go_simp
                  rfl
                 refine hK.out _ _ ?_
                 clear hK K
                 refine done_ (done_of HT_.out (by kernel_rfl)) ?_
                 try go_wp2
                 go_roundg k3
                 case measure => have := HK1.out; have := HJ27.out; have := HK3.out; omega
                 case rel => exact ⟨(wrap64 (x11_3 + 1)), (y416), (.slice (some ⟨go49, 0, none⟩) x410004_3.length co49), (by first | rfl | (simp; done) | (simp [*]; done)), H', ⟨by have := HK1.out; have := HJ27.out; have := HK3.out; omega⟩, ⟨by (with_reducible repeat (first | apply Kd.N_alloc | apply Kd.N_drewN | apply Kd.N_drew)); exact Kd.N_mono HQ59.out (fun _ hk => ⟨hk.1, ⟨hk.2.1, ⟨hk.2.2.1, hk.2.2.2.1⟩⟩⟩)⟩, ⟨by (try refine sO ?_); refine blk_far ?_ (by have h_ := Kd.N_away HO_410004.out (fun _ hk => hk.1.2.1); intro e_; exact h_ (by rw [e_]; rfl)) _; (try refine sO ?_); exact BK397.out⟩, ⟨by (try refine sO ?_); refine blk_far ?_ (by have h_ := Kd.N_away HO_410004.out (fun _ hk => hk.1.2.2.1); intro e_; exact h_ (by rw [e_]; rfl)) _; (try refine sO ?_); exact BK398.out⟩, ⟨by (try refine sO ?_); refine blk_far ?_ (by have h_ := Kd.N_away HO_410004.out (fun _ hk => hk.1.2.2.2.1); intro e_; exact h_ (by rw [e_]; rfl)) _; (try refine sO ?_); exact BK409.out⟩, ⟨by repeat (first | exact sH HB.out | refine sN (w := w) ?_ | with_reducible refine sG (w := w) ?_ (by assumption))⟩⟩
                ·
                 rw [if_neg c48] at H
                 exact absurd H (by simp)
               ·
                rw [if_neg c47] at H
                exact absurd H (by simp)
              ·
               rw [if_neg c46] at H
               exact absurd H (by simp)
             ·
              rw [if_neg c44] at H
              exact absurd H (by simp)
            ·
             rw [if_neg c43] at H
             exact absurd H (by simp)
           ·
            rw [if_neg c42] at H
            have c42b0 : decide (x11_3 < a2) = false := decide_eq_false c42
            clear c42
            simp only [Option.some.injEq, Prod.mk.injEq] at H
            obtain ⟨rfl, rfl, rfl, rfl, rfl, rfl⟩ := H
            have hnb60 := NB409_397.out
            have hnc60 := NB397_409.out
            have hnb61 := NB409_398.out
            have hnc61 := NB398_409.out
            obtain ⟨hcz62_0, hcz62_1, hcz62_2, hcz62_3, hcz62_4, hfz62_0, hfz62_1, hfz62_2, hfz62_3, hfz62_4⟩ := cs5 BK409.out
            have hnb63 := NB398_397.out
            have hnc63 := NB397_398.out
            obtain ⟨hcz64_0, hcz64_1, hcz64_2, hcz64_3, hcz64_4, hfz64_0, hfz64_1, hfz64_2, hfz64_3, hfz64_4⟩ := cs5 BK398.out
            obtain ⟨Ao65, co65, eo65⟩ := Kd.N_slice HO_410004.out
            subst eo65
            go_wp2
            refine bodyPost_ret (results_ct rfl _ _ gb398 27 #[.int .i64 t402, .int .i64 t403, .int .i64 t404, .int .i64 t405, .slice Ao65 x410004_3.length co65] (0, 0) _ rfl (by (try refine sO ?_); refine blk_put (cs := #[.int .i64 t402, .int .i64 t403, .int .i64 t404, .int .i64 t405, .slice none 0 0]) ?_ 4 _ rfl; (try refine sO ?_); refine blk_put (cs := #[.int .i64 t402, .int .i64 t403, .int .i64 t404, .int .i64 x399003_1, .slice none 0 0]) ?_ 3 _ rfl; (try refine sO ?_); refine blk_put (cs := #[.int .i64 t402, .int .i64 t403, .int .i64 x399002_1, .int .i64 x399003_1, .slice none 0 0]) ?_ 2 _ rfl; (try refine sO ?_); refine blk_put (cs := #[.int .i64 t402, .int .i64 x399001_1, .int .i64 x399002_1, .int .i64 x399003_1, .slice none 0 0]) ?_ 1 _ rfl; (try refine sO ?_); refine blk_put (cs := #[.int .i64 x399000_1, .int .i64 x399001_1, .int .i64 x399002_1, .int .i64 x399003_1, .slice none 0 0]) ?_ 0 _ rfl; first | exact BK398.out | (refine sO ?_; exact BK398.out)) Try.underlying27 rfl (by kernel_rfl)) rfl ?_
            exact ⟨_, by first | rfl | (simp [errW_none, errW_some] <;> rfl) | (simp [*, errW_none, errW_some] <;> rfl), by (with_reducible repeat (first | apply Kd.N_alloc | apply Kd.N_drewN | apply Kd.N_drew)); exact Kd.N_mono (Kd.N_far (p := ⟨gb398, 4, none⟩) (Kd.N_far (p := ⟨gb398, 3, none⟩) (Kd.N_far (p := ⟨gb398, 2, none⟩) (Kd.N_far (p := ⟨gb398, 1, none⟩) (Kd.N_far (p := ⟨gb398, 0, none⟩) (Kd.N_mono HO_410004.out (fun k_ hk => (⟨hk, hk.2.2.1⟩ : _ ∧ k_ ≠ gb398))) (fun _ hk => hk.2) (.int .i64 t402)) (fun _ hk => hk.2) (.int .i64 t403)) (fun _ hk => hk.2) (.int .i64 t404)) (fun _ hk => hk.2) (.int .i64 t405)) (fun _ hk => hk.2) (.slice Ao65 x410004_3.length co65)) (fun _ hk => hk.1.1), by repeat (first | exact sH HB.out | refine sN (w := w) ?_ | with_reducible refine sG (w := w) ?_ (by assumption))⟩
 ·
  rw [if_neg c5] at H
  have c5b0 : (t399 == 0) = false := beq_eq_false_iff_ne.mpr c5
  have c5b1 : (t399 != 0) = true := bne_iff_ne.mpr c5
  simp only [Option.some.injEq, Prod.mk.injEq] at H
  obtain ⟨rfl, rfl, rfl, rfl, rfl, rfl⟩ := H
  go_enter Try.func24, Try.ntmps24
  go_wp2_with (first | ((with_reducible refine gate_dst (N := 3) rfl ?_); (try (refine gate_guard (by rfl) ?_; dsimp only)); refine box_event rfl (N := 3) rfl (cs := #[.int .i64 a0_0, .int .i64 a0_1, .int .i64 a0_2, .int .i64 a0_3, .slice A0_4 l0_4.length c0_4]) (t := 27) (by go_simp; try rfl) ?_; intro gb397 hg w66 hbox hb; have BK397 := Aside0.mk (hbox); have GW397 := Aside0.mk ((by rw [hg]; exact (sZ HB) : w.heap.size ≤ gb397)); have GE397 := Aside0.mk ((by rw [hg]; exact (sZ HB) : w.heap.size ≤ gb397)); replace HB := kH HB hb; clear hb hbox hg) | ((with_reducible refine gate_dst (N := 6) rfl ?_); (try (refine gate_guard (by rfl) ?_; dsimp only)); refine box_event rfl (N := 6) rfl (cs := #[.int .i64 0, .int .i64 0, .int .i64 0, .int .i64 0, .slice none 0 0]) (t := 27) (by go_simp; try rfl) ?_; intro gb398 hg w67 hbox hb; have BK398 := Aside0.mk (hbox); have GW398 := Aside0.mk ((by rw [hg]; exact (below_size (by repeat (first | exact sH HB.out | refine sN (w := w) ?_ | with_reducible refine sG (w := w) ?_ (by assumption)))) : w.heap.size ≤ gb398)); have GE398 := Aside0.mk ((by rw [hg]; exact (below_size (by repeat (first | exact sH HB.out | refine sN (w := w) ?_ | with_reducible refine sG (w := w) ?_ (by assumption)))) : w.heap.size ≤ gb398)); replace HB := Aside0.mk (below_step (by repeat (first | exact sH HB.out | refine sN (w := w) ?_ | with_reducible refine sG (w := w) ?_ (by assumption))) hb); have NB397_398 := Aside0.mk ((by rw [hg]; exact Nat.ne_of_lt (blk_lt (g := gb397) (o := .cells #[.int .i64 a0_0, .int .i64 a0_1, .int .i64 a0_2, .int .i64 a0_3, .slice A0_4 l0_4.length c0_4] 27 (0, 0)) (by first | exact BK397.out | (refine sO ?_; exact BK397.out))) : gb397 ≠ gb398)); have NB398_397 := Aside0.mk ((by rw [hg]; exact Nat.ne_of_gt (blk_lt (g := gb397) (o := .cells #[.int .i64 a0_0, .int .i64 a0_1, .int .i64 a0_2, .int .i64 a0_3, .slice A0_4 l0_4.length c0_4] 27 (0, 0)) (by first | exact BK397.out | (refine sO ?_; exact BK397.out))) : gb398 ≠ gb397)); replace BK397 := kB BK397 hb; clear hb hbox hg; have hnb68 := NB397_398.out; have hnc68 := NB398_397.out; obtain ⟨hcz69_0, hcz69_1, hcz69_2, hcz69_3, hcz69_4, hfz69_0, hfz69_1, hfz69_2, hfz69_3, hfz69_4⟩ := cs5 BK397.out) | ((with_reducible refine gate_callee (f := 27) rfl ?_); refine goesL_ (some 15) rfl rfl Try.func27 (by kernel_rfl) rfl #[.agg #[.int .i64 a0_0, .int .i64 a0_1, .int .i64 a0_2, .int .i64 a0_3, .slice A0_4 l0_4.length c0_4]] rfl (by (try simp only [sM]); first | done | rfl | (simp only [sT]; rfl)) ?_; (with_reducible refine (twoslotref09_Check.calls k a0_0 a0_1 a0_2 a0_3 _ _ l0_4 t399 _ ?side1 ?side2 A4.out).mono ?_); (case side1 => exact sC (Kd.C_below HR0_4.out HB.out)); (case side2 => exact HC0_4.out); rintro e w70 ⟨rfl, hb⟩; refine ⟨_, rfl, ?_⟩; replace BK397 := kB BK397 hb; replace BK398 := kB BK398 hb; replace HB := Aside0.mk (below_step (by repeat (first | exact sH HB.out | refine sN (w := w) ?_ | with_reducible refine sG (w := w) ?_ (by assumption))) hb); (try clear hb); (try clear hb2); (try clear hk); (try clear hi); obtain ⟨hcz71_0, hcz71_1, hcz71_2, hcz71_3, hcz71_4, hfz71_0, hfz71_1, hfz71_2, hfz71_3, hfz71_4⟩ := cs5 BK398.out))
  refine bodyPost_ret (results_ct rfl _ _ gb398 27 #[.int .i64 0, .int .i64 0, .int .i64 0, .int .i64 0, .slice none 0 0] (0, 0) _ rfl (by (try refine sO ?_); refine blk_put (cs := #[.int .i64 0, .int .i64 0, .int .i64 0, .int .i64 0, .slice none 0 0]) ?_ 4 _ rfl; (try refine sO ?_); refine blk_put (cs := #[.int .i64 0, .int .i64 0, .int .i64 0, .int .i64 0, .slice none 0 0]) ?_ 3 _ rfl; (try refine sO ?_); refine blk_put (cs := #[.int .i64 0, .int .i64 0, .int .i64 0, .int .i64 0, .slice none 0 0]) ?_ 2 _ rfl; (try refine sO ?_); refine blk_put (cs := #[.int .i64 0, .int .i64 0, .int .i64 0, .int .i64 0, .slice none 0 0]) ?_ 1 _ rfl; (try refine sO ?_); refine blk_put (cs := #[.int .i64 0, .int .i64 0, .int .i64 0, .int .i64 0, .slice none 0 0]) ?_ 0 _ rfl; first | exact BK398.out | (refine sO ?_; exact BK398.out)) Try.underlying27 rfl (by kernel_rfl)) rfl ?_
  exact ⟨_, by first | rfl | (simp [errW_none, errW_some] <;> rfl) | (simp [*, errW_none, errW_some] <;> rfl), by first | exact Kd.S_nil _ _ _ _ _ | exact Kd.N_nil _ _ _ _ _ | exact Kd.V_nil _ _ _ _ _ | exact Kd.Q_nil _ _ _ _ _ | exact Kd.R_nil _ _ _ _ _, by repeat (first | exact sH HB.out | refine sN (w := w) ?_ | with_reducible refine sG (w := w) ?_ (by assumption))⟩

end Go.Proofs.Ytcnmocbiekfpbaa.P

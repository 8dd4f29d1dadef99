-- Written by a program of this session, after the kit's print.
import Derived.Test.YtgcodjkedifpaaaPx0
import Derived.Test.YtgcodjkedifpaaaPx2
import Derived.Test.YtgcodjkedifpaaaPx3
namespace Go.Proofs.Ytgcodjkedifpaaa.P
open Go.RowKit Go.Proofs.YtgcodjkedifpaaaW.PrintWords Go.Proofs.YtgcodjkedifpaaaW.PrintLast Go.Proofs.YtgcodjkedifpaaaW.PrintMore
attribute [local go_sem] max2_int min2_int max_two min_two max_three min_three max_four min_four   -- for this text's walks alone
set_option linter.unusedVariables false
set_option linter.unusedSimpArgs false

/-! ### twoslotref06_Spans: function 22 -/
mutual
def twoslotref06_Spans.j0 : Nat → Int → Int → Bool → Int → Int → Int → Int → Option ((List (S34)) × Int)
  | 0, _, _, _, _, _, _, _ => none
  | k + 1, x1, x2, x12, x167000, x167001, x167002, x167003 => if x12 = true then (some (([] : List (S34)), 2)) else ((twoslotref06_M.f x167000 x167001 x167002 x167003).bind fun t168 => (if x1 > t168 then (some (([] : List (S34)), 3)) else ((twoslotref06_M.f x167000 x167001 x167002 x167003).bind fun t169 => (if x2 > t169 then (some (([] : List (S34)), 3)) else ((twoslotref06_M.f x167000 x167001 x167002 x167003).bind fun t170 => (if (wrap64 (x1 + x2)) > t170 then (some (([] : List (S34)), 3)) else (twoslotref06_Spans.l0 k x1 x2 ([] : List (S34)) x1 x167000 x167001 x167002 x167003)))))))
def twoslotref06_Spans.l0 : Nat → Int → Int → List (S34) → Int → Int → Int → Int → Int → Option ((List (S34)) × Int)
  | 0, _, _, _, _, _, _, _, _ => none
  | k + 1, x1, x2, x8, x9, x167000, x167001, x167002, x167003 => if x9 < (wrap64 (x1 + x2)) then (if x167002 = 0 then (none) else (if x9 = x1 then (if x167000 = 0 then (none) else (if x8.length < 4398046511104 then ((some (x8 ++ [(⟨wrap64 (Int.tdiv (wrap64 (Int.tdiv x9 x167002)) x167000), Int.tmod (wrap64 (Int.tdiv x9 x167002)) x167000, Int.tmod x9 x167002, 0⟩ : S34)] : List (S34))).bind fun y171 => (if 0 ≤ (wrap64 ((y171.length : Int) - 1)) then (if (wrap64 ((y171.length : Int) - 1)) < (y171.length : Int) then (twoslotref06_Spans.l0 k x1 x2 (y171.set ((wrap64 ((y171.length : Int) - 1)) : Int).toNat (⟨(rd_T34 y171 (wrap64 ((y171.length : Int) - 1))).f0, (rd_T34 y171 (wrap64 ((y171.length : Int) - 1))).f1, (rd_T34 y171 (wrap64 ((y171.length : Int) - 1))).f2, wrap64 ((Int.tmod x9 x167002) + 1)⟩ : S34)) (wrap64 (x9 + 1)) x167000 x167001 x167002 x167003) else (none)) else (none))) else (none))) else (if (Int.tmod x9 x167002) = 0 then (if x167000 = 0 then (none) else (if x8.length < 4398046511104 then ((some (x8 ++ [(⟨wrap64 (Int.tdiv (wrap64 (Int.tdiv x9 x167002)) x167000), Int.tmod (wrap64 (Int.tdiv x9 x167002)) x167000, Int.tmod x9 x167002, 0⟩ : S34)] : List (S34))).bind fun y175 => (if 0 ≤ (wrap64 ((y175.length : Int) - 1)) then (if (wrap64 ((y175.length : Int) - 1)) < (y175.length : Int) then (twoslotref06_Spans.l0 k x1 x2 (y175.set ((wrap64 ((y175.length : Int) - 1)) : Int).toNat (⟨(rd_T34 y175 (wrap64 ((y175.length : Int) - 1))).f0, (rd_T34 y175 (wrap64 ((y175.length : Int) - 1))).f1, (rd_T34 y175 (wrap64 ((y175.length : Int) - 1))).f2, wrap64 ((Int.tmod x9 x167002) + 1)⟩ : S34)) (wrap64 (x9 + 1)) x167000 x167001 x167002 x167003) else (none)) else (none))) else (none))) else (if 0 ≤ (wrap64 ((x8.length : Int) - 1)) then (if (wrap64 ((x8.length : Int) - 1)) < (x8.length : Int) then (twoslotref06_Spans.l0 k x1 x2 (x8.set ((wrap64 ((x8.length : Int) - 1)) : Int).toNat (⟨(rd_T34 x8 (wrap64 ((x8.length : Int) - 1))).f0, (rd_T34 x8 (wrap64 ((x8.length : Int) - 1))).f1, (rd_T34 x8 (wrap64 ((x8.length : Int) - 1))).f2, wrap64 ((Int.tmod x9 x167002) + 1)⟩ : S34)) (wrap64 (x9 + 1)) x167000 x167001 x167002 x167003) else (none)) else (none))))) else (some (x8, 0))
end
def twoslotref06_Spans.f (k : Nat) (a0_0 : Int) (a0_1 : Int) (a0_2 : Int) (a0_3 : Int) (a1 : Int) (a2 : Int) : Option ((List (S34)) × Int) := (twoslotref06_May.f a0_0 a0_1 a0_2 a0_3).bind fun t167 => (if t167 = true then (if a1 < 0 then (twoslotref06_Spans.j0 k a1 a2 true a0_0 a0_1 a0_2 a0_3) else (twoslotref06_Spans.j0 k a1 a2 (decide (a2 < 0)) a0_0 a0_1 a0_2 a0_3)) else (twoslotref06_Spans.j0 k a1 a2 true a0_0 a0_1 a0_2 a0_3))
theorem twoslotref06_Spans.mono_l : ∀ k, (∀ y0 y1 y2 y3 y4 y5 y6, LeO (twoslotref06_Spans.j0 k y0 y1 y2 y3 y4 y5 y6) (twoslotref06_Spans.j0 (k + 1) y0 y1 y2 y3 y4 y5 y6)) ∧ (∀ y0 y1 y2 y3 y4 y5 y6 y7, LeO (twoslotref06_Spans.l0 k y0 y1 y2 y3 y4 y5 y6 y7) (twoslotref06_Spans.l0 (k + 1) y0 y1 y2 y3 y4 y5 y6 y7))
  | 0 => ⟨fun _ _ _ _ _ _ _ r h => by simp [twoslotref06_Spans.j0] at h, fun _ _ _ _ _ _ _ _ r h => by simp [twoslotref06_Spans.l0] at h⟩
  | k + 1 => by
    obtain ⟨ih0, ih1⟩ := twoslotref06_Spans.mono_l k
    refine ⟨?_, ?_⟩
    · intro y0 y1 y2 y3 y4 y5 y6
      unfold twoslotref06_Spans.j0
      repeat' first
      | (with_reducible exact ih0 _ _ _ _ _ _ _)
      | (with_reducible exact ih1 _ _ _ _ _ _ _ _)
      | (with_reducible exact LeO.refl _)
      | (with_reducible exact LeO.none _)
      | (with_reducible refine LeO.ite ?_ ?_)
      | (with_reducible refine LeO.bind ?_ (fun _ => ?_))
      | exact ih0 _ _ _ _ _ _ _
      | exact ih1 _ _ _ _ _ _ _ _
      | exact LeO.none _
      | refine LeO.ite ?_ ?_
      | refine LeO.bind ?_ (fun _ => ?_)
    · intro y0 y1 y2 y3 y4 y5 y6 y7
      unfold twoslotref06_Spans.l0
      repeat' first
      | (with_reducible exact ih0 _ _ _ _ _ _ _)
      | (with_reducible exact ih1 _ _ _ _ _ _ _ _)
      | (with_reducible exact LeO.refl _)
      | (with_reducible exact LeO.none _)
      | (with_reducible refine LeO.ite ?_ ?_)
      | (with_reducible refine LeO.bind ?_ (fun _ => ?_))
      | exact ih0 _ _ _ _ _ _ _
      | exact ih1 _ _ _ _ _ _ _ _
      | exact LeO.none _
      | refine LeO.ite ?_ ?_
      | refine LeO.bind ?_ (fun _ => ?_)
theorem twoslotref06_Spans.mono : ∀ a0 a1 a2 a3 a4 a5 k, LeO (twoslotref06_Spans.f k a0 a1 a2 a3 a4 a5) (twoslotref06_Spans.f (k + 1) a0 a1 a2 a3 a4 a5) := by
  intro a0 a1 a2 a3 a4 a5 k
  obtain ⟨ih0, ih1⟩ := twoslotref06_Spans.mono_l k
  unfold twoslotref06_Spans.f
  repeat' first
      | (with_reducible exact ih0 _ _ _ _ _ _ _)
      | (with_reducible exact ih1 _ _ _ _ _ _ _ _)
      | (with_reducible exact LeO.refl _)
      | (with_reducible exact LeO.none _)
      | (with_reducible refine LeO.ite ?_ ?_)
      | (with_reducible refine LeO.bind ?_ (fun _ => ?_))
      | exact ih0 _ _ _ _ _ _ _
      | exact ih1 _ _ _ _ _ _ _ _
      | exact LeO.none _
      | refine LeO.ite ?_ ?_
      | refine LeO.bind ?_ (fun _ => ?_)
def twoslotref06_Spans.T12 : Bool × List (List Nat × List Nat) := (true, [([], []), ([], []), ([], []), ([2], [2]), ([1, 3], [1, 3]), ([], []), ([], []), ([6], [6]), ([5, 7], [5, 7]), ([], []), ([4, 8, 9], [4, 8, 9]), ([10], [10]), ([0, 11], [0, 11]), ([12, 12, 0, 1, 2, 3, 4, 5, 6, 7, 8, 9, 10, 11, 12], [0, 12])])
def twoslotref06_Spans.B12 : List Nat := [0, 0, 0, 4, 14, 0, 0, 64, 224, 0, 1022, 2046, 4095, 8191]
theorem twoslotref06_Spans.tab12 : rtab .any (opsOf Try.f22 12) = twoslotref06_Spans.T12 := by kernel_rfl
theorem twoslotref06_Spans.bits12 : waitsOk twoslotref06_Spans.T12.2 twoslotref06_Spans.B12 = true := by kernel_rfl
set_option maxHeartbeats 8000000 in
set_option maxRecDepth 100000 in
theorem twoslotref06_Spans.calls (k : Nat) (a0_0 : Int) (a0_1 : Int) (a0_2 : Int) (a0_3 : Int) (a1 : Int) (a2 : Int) (r1 : List (S34)) (r2 : Int) (w : World) (h : twoslotref06_Spans.f k a0_0 a0_1 a0_2 a0_3 a1 a2 = some (r1, r2)) :
    Calls Try.prog 22 #[.agg #[.int .i64 a0_0, .int .i64 a0_1, .int .i64 a0_2, .int .i64 a0_3], .int .i64 a1, .int .i64 a2] w fun e w' => ∃ v0_ : Value, e = .returned (.tuple #[v0_, .int .i64 r2]) ∧ Kd.R k34 34 w' w.heap.size (fun _ => True) v0_ r1 ∧ Below w.heap.size w w' := by
  have hu23 := Try.underlying23
  have hu34 := Try.underlying34
  have HB := Aside0.mk (Below.refl w.heap.size w)
  have H : ((twoslotref06_May.f a0_0 a0_1 a0_2 a0_3).bind fun t167 => (if t167 = true then (if a1 < 0 then (twoslotref06_Spans.j0 k a1 a2 true a0_0 a0_1 a0_2 a0_3) else (twoslotref06_Spans.j0 k a1 a2 (decide (a2 < 0)) a0_0 a0_1 a0_2 a0_3)) else (twoslotref06_Spans.j0 k a1 a2 true a0_0 a0_1 a0_2 a0_3))) = some (r1, r2) := h
  clear h
  have HC4 := Aside0.mk H
  clear H
  go_enter Try.func22, Try.ntmps22
  go_upto_region 1 with (first | ((with_reducible refine gate_dst (N := 3) rfl ?_); refine box_event ?hg (N := 3) ?hd (cs := #[.int .i64 a0_0, .int .i64 a0_1, .int .i64 a0_2, .int .i64 a0_3]) (t := 23) ?hr ?_; (case hd => rfl); (case hg => rfl); (case hr => first | (go_simp; done) | (go_simp; rfl)); intro gb166 hg w5 hbox hb; have n0_ := Aside0.mk (below_step (by repeat (first | (with_reducible first | exact HB.out | apply below_alloc | apply pw_below_drewN | apply below_drew1) | exact HB.out)) hb); have n1_ := Aside0.mk (hbox); have n2_ := Aside0.mk ((by rw [hg]; exact (below_size (by repeat (first | (with_reducible first | exact HB.out | apply below_alloc | apply pw_below_drewN | apply below_drew1) | exact HB.out))) : w.heap.size ≤ gb166)); have n3_ := Aside0.mk ((by rw [hg]; exact (below_size (by repeat (first | (with_reducible first | exact HB.out | apply below_alloc | apply pw_below_drewN | apply below_drew1) | exact HB.out))) : w.heap.size ≤ gb166)); clear HB; have HB := n0_; have BK166 := n1_; have GW166 := n2_; have GE166 := n3_; clear n0_ n1_ n2_ n3_; clear hb hbox hg))
  (try simp only [Act.put, List.setIfInBounds_toArray, List.set_cons_zero, List.set_cons_succ])
  go_cut [12] (fun v12 wc => ∃ (kq : Nat) (x12_3 : Bool), v12 = .bool x12_3 ∧ Aside0 (twoslotref06_Spans.j0 kq a1 a2 x12_3 a0_0 a0_1 a0_2 a0_3 = some (r1, r2)) ∧ Aside0 (kq ≤ k) ∧ Aside0 (wc.heap[gb166]? = some (.cells #[.int .i64 a0_0, .int .i64 a0_1, .int .i64 a0_2, .int .i64 a0_3] 23 (0, 0))) ∧ Aside0 (Below w.heap.size w wc))
  case first =>
    have H := HC4.out
    clear HC4
    replace H := Option.bind_eq_some_iff.mp H
    obtain ⟨t167, A60, H⟩ := H
    replace H : (if t167 = true then (if a1 < 0 then (twoslotref06_Spans.j0 k a1 a2 true a0_0 a0_1 a0_2 a0_3) else (twoslotref06_Spans.j0 k a1 a2 (decide (a2 < 0)) a0_0 a0_1 a0_2 a0_3)) else (twoslotref06_Spans.j0 k a1 a2 true a0_0 a0_1 a0_2 a0_3)) = some (r1, r2) := H
    have A6 := Aside0.mk A60
    clear A60
    by_cases c7 : t167 = true
    · subst c7
      have H1 : (if a1 < 0 then (twoslotref06_Spans.j0 k a1 a2 true a0_0 a0_1 a0_2 a0_3) else (twoslotref06_Spans.j0 k a1 a2 (decide (a2 < 0)) a0_0 a0_1 a0_2 a0_3)) = some (r1, r2) := by rw [if_pos rfl] at H; exact H
      clear H
      have H := H1
      clear H1
      by_cases c8 : a1 < 0
      · rw [if_pos c8] at H
        have c8b0 : decide (a1 < 0) = true := decide_eq_true c8
        clear c8
        (first | rw [c8b0] | (simp only [i64_w, i32_w]; rw [c8b0]) | skip)
        have H' := Aside0.mk H
        clear H
        have hcz9_0 : w5.cell? ⟨gb166, 0, none⟩ = some (.int .i64 a0_0) := (blk_cell BK166.out 0).trans rfl
        have hcz9_1 : w5.cell? ⟨gb166, 1, none⟩ = some (.int .i64 a0_1) := (blk_cell BK166.out 1).trans rfl
        have hcz9_2 : w5.cell? ⟨gb166, 2, none⟩ = some (.int .i64 a0_2) := (blk_cell BK166.out 2).trans rfl
        have hcz9_3 : w5.cell? ⟨gb166, 3, none⟩ = some (.int .i64 a0_3) := (blk_cell BK166.out 3).trans rfl
        have hfz9_0 := blk_frozen BK166.out 0
        have hfz9_1 := blk_frozen BK166.out 1
        have hfz9_2 := blk_frozen BK166.out 2
        have hfz9_3 := blk_frozen BK166.out 3
        go_wp2_with (first | ((with_reducible refine gate_callee (f := 35) rfl ?_); refine goesL_ (some 14) rfl rfl Try.func35 (by kernel_rfl) rfl #[.agg #[.int .i64 a0_0, .int .i64 a0_1, .int .i64 a0_2, .int .i64 a0_3]] rfl (by (try simp only [List.map_toArray, List.map_cons, List.map_nil]); first | done | rfl | (simp only [List.length_drop, List.length_take]; rfl)) ?_; (with_reducible refine (twoslotref06_May.calls a0_0 a0_1 a0_2 a0_3 true _ A6.out).mono ?_); rintro e w10 ⟨rfl, hb⟩; refine ⟨_, rfl, ?_⟩; have n0_ := Aside0.mk (blk_below (g := gb166) (o := .cells #[.int .i64 a0_0, .int .i64 a0_1, .int .i64 a0_2, .int .i64 a0_3] 23 (0, 0)) (by (with_reducible repeat (first | refine blk_drewN ?_ _ | refine blk_drew ?_ | refine blk_alloc ?_ _)); exact BK166.out) hb); have n1_ := Aside0.mk (below_step (by repeat (first | (with_reducible first | exact HB.out | apply below_alloc | apply pw_below_drewN | apply below_drew1 | refine below_set ?_ GE166.out) | exact HB.out)) hb); clear BK166; clear HB; have BK166 := n0_; have HB := n1_; clear n0_ n1_; (try clear hb); (try clear hb2); (try clear hk); (try clear hi)))
        go_meet
        case rel => exact ⟨_, (true), (by first | rfl | (simp; done) | (simp [*]; done)), H', ⟨by first | omega | exact Nat.le_refl _⟩, ⟨by (with_reducible repeat (first | refine blk_drewN ?_ _ | refine blk_drew ?_ | refine blk_alloc ?_ _)); exact BK166.out⟩, ⟨by repeat (first | (with_reducible first | exact HB.out | apply below_alloc | apply pw_below_drewN | apply below_drew1 | refine below_set ?_ GE166.out) | exact HB.out)⟩⟩
      · rw [if_neg c8] at H
        have c8b0 : decide (a1 < 0) = false := decide_eq_false c8
        clear c8
        (first | rw [c8b0] | (simp only [i64_w, i32_w]; rw [c8b0]) | skip)
        have H' := Aside0.mk H
        clear H
        have hcz11_0 : w5.cell? ⟨gb166, 0, none⟩ = some (.int .i64 a0_0) := (blk_cell BK166.out 0).trans rfl
        have hcz11_1 : w5.cell? ⟨gb166, 1, none⟩ = some (.int .i64 a0_1) := (blk_cell BK166.out 1).trans rfl
        have hcz11_2 : w5.cell? ⟨gb166, 2, none⟩ = some (.int .i64 a0_2) := (blk_cell BK166.out 2).trans rfl
        have hcz11_3 : w5.cell? ⟨gb166, 3, none⟩ = some (.int .i64 a0_3) := (blk_cell BK166.out 3).trans rfl
        have hfz11_0 := blk_frozen BK166.out 0
        have hfz11_1 := blk_frozen BK166.out 1
        have hfz11_2 := blk_frozen BK166.out 2
        have hfz11_3 := blk_frozen BK166.out 3
        go_wp2_with (first | ((with_reducible refine gate_callee (f := 35) rfl ?_); refine goesL_ (some 14) rfl rfl Try.func35 (by kernel_rfl) rfl #[.agg #[.int .i64 a0_0, .int .i64 a0_1, .int .i64 a0_2, .int .i64 a0_3]] rfl (by (try simp only [List.map_toArray, List.map_cons, List.map_nil]); first | done | rfl | (simp only [List.length_drop, List.length_take]; rfl)) ?_; (with_reducible refine (twoslotref06_May.calls a0_0 a0_1 a0_2 a0_3 true _ A6.out).mono ?_); rintro e w12 ⟨rfl, hb⟩; refine ⟨_, rfl, ?_⟩; have n0_ := Aside0.mk (blk_below (g := gb166) (o := .cells #[.int .i64 a0_0, .int .i64 a0_1, .int .i64 a0_2, .int .i64 a0_3] 23 (0, 0)) (by (with_reducible repeat (first | refine blk_drewN ?_ _ | refine blk_drew ?_ | refine blk_alloc ?_ _)); exact BK166.out) hb); have n1_ := Aside0.mk (below_step (by repeat (first | (with_reducible first | exact HB.out | apply below_alloc | apply pw_below_drewN | apply below_drew1 | refine below_set ?_ GE166.out) | exact HB.out)) hb); clear BK166; clear HB; have BK166 := n0_; have HB := n1_; clear n0_ n1_; (try clear hb); (try clear hb2); (try clear hk); (try clear hi)))
        go_meet
        case rel => exact ⟨_, (decide (a2 < 0)), (by first | rfl | (simp; done) | (simp [*]; done)), H', ⟨by first | omega | exact Nat.le_refl _⟩, ⟨by (with_reducible repeat (first | refine blk_drewN ?_ _ | refine blk_drew ?_ | refine blk_alloc ?_ _)); exact BK166.out⟩, ⟨by repeat (first | (with_reducible first | exact HB.out | apply below_alloc | apply pw_below_drewN | apply below_drew1 | refine below_set ?_ GE166.out) | exact HB.out)⟩⟩
    · replace c7 := Bool.eq_false_iff.mpr c7
      subst c7
      have H1 : (twoslotref06_Spans.j0 k a1 a2 true a0_0 a0_1 a0_2 a0_3) = some (r1, r2) := by rw [if_neg (show ¬ (false = true) by decide)] at H; exact H
      clear H
      have H := H1
      clear H1
      have H' := Aside0.mk H
      clear H
      have hcz13_0 : w5.cell? ⟨gb166, 0, none⟩ = some (.int .i64 a0_0) := (blk_cell BK166.out 0).trans rfl
      have hcz13_1 : w5.cell? ⟨gb166, 1, none⟩ = some (.int .i64 a0_1) := (blk_cell BK166.out 1).trans rfl
      have hcz13_2 : w5.cell? ⟨gb166, 2, none⟩ = some (.int .i64 a0_2) := (blk_cell BK166.out 2).trans rfl
      have hcz13_3 : w5.cell? ⟨gb166, 3, none⟩ = some (.int .i64 a0_3) := (blk_cell BK166.out 3).trans rfl
      have hfz13_0 := blk_frozen BK166.out 0
      have hfz13_1 := blk_frozen BK166.out 1
      have hfz13_2 := blk_frozen BK166.out 2
      have hfz13_3 := blk_frozen BK166.out 3
      go_wp2_with (first | ((with_reducible refine gate_callee (f := 35) rfl ?_); refine goesL_ (some 14) rfl rfl Try.func35 (by kernel_rfl) rfl #[.agg #[.int .i64 a0_0, .int .i64 a0_1, .int .i64 a0_2, .int .i64 a0_3]] rfl (by (try simp only [List.map_toArray, List.map_cons, List.map_nil]); first | done | rfl | (simp only [List.length_drop, List.length_take]; rfl)) ?_; (with_reducible refine (twoslotref06_May.calls a0_0 a0_1 a0_2 a0_3 false _ A6.out).mono ?_); rintro e w14 ⟨rfl, hb⟩; refine ⟨_, rfl, ?_⟩; have n0_ := Aside0.mk (blk_below (g := gb166) (o := .cells #[.int .i64 a0_0, .int .i64 a0_1, .int .i64 a0_2, .int .i64 a0_3] 23 (0, 0)) (by (with_reducible repeat (first | refine blk_drewN ?_ _ | refine blk_drew ?_ | refine blk_alloc ?_ _)); exact BK166.out) hb); have n1_ := Aside0.mk (below_step (by repeat (first | (with_reducible first | exact HB.out | apply below_alloc | apply pw_below_drewN | apply below_drew1 | refine below_set ?_ GE166.out) | exact HB.out)) hb); clear BK166; clear HB; have BK166 := n0_; have HB := n1_; clear n0_ n1_; (try clear hb); (try clear hb2); (try clear hk); (try clear hi)))
      go_meet
      case rel => exact ⟨_, (true), (by first | rfl | (simp; done) | (simp [*]; done)), H', ⟨by first | omega | exact Nat.le_refl _⟩, ⟨by (with_reducible repeat (first | refine blk_drewN ?_ _ | refine blk_drew ?_ | refine blk_alloc ?_ _)); exact BK166.out⟩, ⟨by repeat (first | (with_reducible first | exact HB.out | apply below_alloc | apply pw_below_drewN | apply below_drew1 | refine below_set ?_ GE166.out) | exact HB.out)⟩⟩
  case rest =>
    clear HC4
    try clear c2
    try clear p2
    try clear c3
    try clear c7
    try clear c8
    try clear c8b0
    try clear hcz11_0
    try clear hcz11_1
    try clear hcz11_2
    try clear hcz11_3
    try clear hcz13_0
    try clear hcz13_1
    try clear hcz13_2
    try clear hcz13_3
    try clear hcz9_0
    try clear hcz9_1
    try clear hcz9_2
    try clear hcz9_3
    try clear hfz11_0
    try clear hfz11_1
    try clear hfz11_2
    try clear hfz11_3
    try clear hfz13_0
    try clear hfz13_1
    try clear hfz13_2
    try clear hfz13_3
    try clear hfz9_0
    try clear hfz9_1
    try clear hfz9_2
    try clear hfz9_3
    obtain ⟨kq, x12_3, rfl, HA, HJ3, BK166, HB⟩ := hcut
    cases kq with
    | zero => exact absurd HA.out (by simp [twoslotref06_Spans.j0])
    | succ kj3 =>
      have H := HA.out
      clear HA
      simp only [twoslotref06_Spans.j0] at H
      by_cases c15 : x12_3 = true
      · subst c15
        have H1 : (some (([] : List (S34)), 2)) = some (r1, r2) := by rw [if_pos rfl] at H; exact H
        clear H
        have H := H1
        clear H1
        simp only [Option.some.injEq, Prod.mk.injEq] at H
        obtain ⟨rfl, rfl⟩ := H
        go_wp2
        go_ret2
        exact ⟨_, by first | rfl | (simp [errW_none, errW_some] <;> rfl) | (simp [*, errW_none, errW_some] <;> rfl), by first | exact Kd.R_nil _ _ _ _ _ | exact Kd.N_nil _ _ _ _ _ | exact Kd.V_nil _ _ _ _ _ | exact Kd.Q_nil _ _ _ _ _ | exact Kd.S_nil _ _ _ _ _, by repeat (first | (with_reducible first | exact HB.out | apply below_alloc | apply pw_below_drewN | apply below_drew1 | refine below_set ?_ GE166.out) | exact HB.out)⟩
      · replace c15 := Bool.eq_false_iff.mpr c15
        subst c15
        have H1 : ((twoslotref06_M.f a0_0 a0_1 a0_2 a0_3).bind fun t168 => (if a1 > t168 then (some (([] : List (S34)), 3)) else ((twoslotref06_M.f a0_0 a0_1 a0_2 a0_3).bind fun t169 => (if a2 > t169 then (some (([] : List (S34)), 3)) else ((twoslotref06_M.f a0_0 a0_1 a0_2 a0_3).bind fun t170 => (if (wrap64 (a1 + a2)) > t170 then (some (([] : List (S34)), 3)) else (twoslotref06_Spans.l0 kj3 a1 a2 ([] : List (S34)) a1 a0_0 a0_1 a0_2 a0_3))))))) = some (r1, r2) := by rw [if_neg (show ¬ (false = true) by decide)] at H; exact H
        clear H
        have H := H1
        clear H1
        replace H := Option.bind_eq_some_iff.mp H
        obtain ⟨t168, A160, H⟩ := H
        replace H : (if a1 > t168 then (some (([] : List (S34)), 3)) else ((twoslotref06_M.f a0_0 a0_1 a0_2 a0_3).bind fun t169 => (if a2 > t169 then (some (([] : List (S34)), 3)) else ((twoslotref06_M.f a0_0 a0_1 a0_2 a0_3).bind fun t170 => (if (wrap64 (a1 + a2)) > t170 then (some (([] : List (S34)), 3)) else (twoslotref06_Spans.l0 kj3 a1 a2 ([] : List (S34)) a1 a0_0 a0_1 a0_2 a0_3)))))) = some (r1, r2) := H
        have A16 := Aside0.mk A160
        clear A160
        by_cases c17 : a1 > t168
        · rw [if_pos c17] at H
          have c17b0 : decide (t168 < a1) = true := decide_eq_true c17
          clear c17
          simp only [Option.some.injEq, Prod.mk.injEq] at H
          obtain ⟨rfl, rfl⟩ := H
          have hcz18_0 : wc.cell? ⟨gb166, 0, none⟩ = some (.int .i64 a0_0) := (blk_cell BK166.out 0).trans rfl
          have hcz18_1 : wc.cell? ⟨gb166, 1, none⟩ = some (.int .i64 a0_1) := (blk_cell BK166.out 1).trans rfl
          have hcz18_2 : wc.cell? ⟨gb166, 2, none⟩ = some (.int .i64 a0_2) := (blk_cell BK166.out 2).trans rfl
          have hcz18_3 : wc.cell? ⟨gb166, 3, none⟩ = some (.int .i64 a0_3) := (blk_cell BK166.out 3).trans rfl
          have hfz18_0 := blk_frozen BK166.out 0
          have hfz18_1 := blk_frozen BK166.out 1
          have hfz18_2 := blk_frozen BK166.out 2
          have hfz18_3 := blk_frozen BK166.out 3
          go_wp2_with (first | ((with_reducible refine gate_callee (f := 42) rfl ?_); refine goesL_ (some 27) rfl rfl Try.func42 (by kernel_rfl) rfl #[.agg #[.int .i64 a0_0, .int .i64 a0_1, .int .i64 a0_2, .int .i64 a0_3]] rfl (by (try simp only [List.map_toArray, List.map_cons, List.map_nil]); first | done | rfl | (simp only [List.length_drop, List.length_take]; rfl)) ?_; (with_reducible refine (twoslotref06_M.calls a0_0 a0_1 a0_2 a0_3 t168 _ A16.out).mono ?_); rintro e w19 ⟨rfl, hb⟩; refine ⟨_, rfl, ?_⟩; have n0_ := Aside0.mk (blk_below (g := gb166) (o := .cells #[.int .i64 a0_0, .int .i64 a0_1, .int .i64 a0_2, .int .i64 a0_3] 23 (0, 0)) (by (with_reducible repeat (first | refine blk_drewN ?_ _ | refine blk_drew ?_ | refine blk_alloc ?_ _)); exact BK166.out) hb); have n1_ := Aside0.mk (below_step (by repeat (first | (with_reducible first | exact HB.out | apply below_alloc | apply pw_below_drewN | apply below_drew1 | refine below_set ?_ GE166.out) | exact HB.out)) hb); clear BK166; clear HB; have BK166 := n0_; have HB := n1_; clear n0_ n1_; (try clear hb); (try clear hb2); (try clear hk); (try clear hi)))
          go_ret2
          exact ⟨_, by first | rfl | (simp [errW_none, errW_some] <;> rfl) | (simp [*, errW_none, errW_some] <;> rfl), by first | exact Kd.R_nil _ _ _ _ _ | exact Kd.N_nil _ _ _ _ _ | exact Kd.V_nil _ _ _ _ _ | exact Kd.Q_nil _ _ _ _ _ | exact Kd.S_nil _ _ _ _ _, by repeat (first | (with_reducible first | exact HB.out | apply below_alloc | apply pw_below_drewN | apply below_drew1 | refine below_set ?_ GE166.out) | exact HB.out)⟩
        · rw [if_neg c17] at H
          have c17b0 : decide (t168 < a1) = false := decide_eq_false c17
          clear c17
          replace H := Option.bind_eq_some_iff.mp H
          obtain ⟨t169, A200, H⟩ := H
          replace H : (if a2 > t169 then (some (([] : List (S34)), 3)) else ((twoslotref06_M.f a0_0 a0_1 a0_2 a0_3).bind fun t170 => (if (wrap64 (a1 + a2)) > t170 then (some (([] : List (S34)), 3)) else (twoslotref06_Spans.l0 kj3 a1 a2 ([] : List (S34)) a1 a0_0 a0_1 a0_2 a0_3)))) = some (r1, r2) := H
          have A20 := Aside0.mk A200
          clear A200
          by_cases c21 : a2 > t169
          · rw [if_pos c21] at H
            have c21b0 : decide (t169 < a2) = true := decide_eq_true c21
            clear c21
            simp only [Option.some.injEq, Prod.mk.injEq] at H
            obtain ⟨rfl, rfl⟩ := H
            have hcz22_0 : wc.cell? ⟨gb166, 0, none⟩ = some (.int .i64 a0_0) := (blk_cell BK166.out 0).trans rfl
            have hcz22_1 : wc.cell? ⟨gb166, 1, none⟩ = some (.int .i64 a0_1) := (blk_cell BK166.out 1).trans rfl
            have hcz22_2 : wc.cell? ⟨gb166, 2, none⟩ = some (.int .i64 a0_2) := (blk_cell BK166.out 2).trans rfl
            have hcz22_3 : wc.cell? ⟨gb166, 3, none⟩ = some (.int .i64 a0_3) := (blk_cell BK166.out 3).trans rfl
            have hfz22_0 := blk_frozen BK166.out 0
            have hfz22_1 := blk_frozen BK166.out 1
            have hfz22_2 := blk_frozen BK166.out 2
            have hfz22_3 := blk_frozen BK166.out 3
            go_wp2_with (first | ((with_reducible refine gate_callee (f := 42) rfl ?_); refine goesL_ (some 27) rfl rfl Try.func42 (by kernel_rfl) rfl #[.agg #[.int .i64 a0_0, .int .i64 a0_1, .int .i64 a0_2, .int .i64 a0_3]] rfl (by (try simp only [List.map_toArray, List.map_cons, List.map_nil]); first | done | rfl | (simp only [List.length_drop, List.length_take]; rfl)) ?_; (with_reducible refine (twoslotref06_M.calls a0_0 a0_1 a0_2 a0_3 t168 _ A16.out).mono ?_); rintro e w23 ⟨rfl, hb⟩; refine ⟨_, rfl, ?_⟩; have n0_ := Aside0.mk (blk_below (g := gb166) (o := .cells #[.int .i64 a0_0, .int .i64 a0_1, .int .i64 a0_2, .int .i64 a0_3] 23 (0, 0)) (by (with_reducible repeat (first | refine blk_drewN ?_ _ | refine blk_drew ?_ | refine blk_alloc ?_ _)); exact BK166.out) hb); have n1_ := Aside0.mk (below_step (by repeat (first | (with_reducible first | exact HB.out | apply below_alloc | apply pw_below_drewN | apply below_drew1 | refine below_set ?_ GE166.out) | exact HB.out)) hb); clear BK166; clear HB; have BK166 := n0_; have HB := n1_; clear n0_ n1_; (try clear hb); (try clear hb2); (try clear hk); (try clear hi); have hcz24_0 : w23.cell? ⟨gb166, 0, none⟩ = some (.int .i64 a0_0) := (blk_cell BK166.out 0).trans rfl; have hcz24_1 : w23.cell? ⟨gb166, 1, none⟩ = some (.int .i64 a0_1) := (blk_cell BK166.out 1).trans rfl; have hcz24_2 : w23.cell? ⟨gb166, 2, none⟩ = some (.int .i64 a0_2) := (blk_cell BK166.out 2).trans rfl; have hcz24_3 : w23.cell? ⟨gb166, 3, none⟩ = some (.int .i64 a0_3) := (blk_cell BK166.out 3).trans rfl; have hfz24_0 := blk_frozen BK166.out 0; have hfz24_1 := blk_frozen BK166.out 1; have hfz24_2 := blk_frozen BK166.out 2; have hfz24_3 := blk_frozen BK166.out 3) | (go_at_call 42; (with_reducible refine (twoslotref06_M.calls a0_0 a0_1 a0_2 a0_3 t169 _ A20.out).mono ?_); rintro e w25 ⟨rfl, hb⟩; clear A20; have n0_ := Aside0.mk (blk_below (g := gb166) (o := .cells #[.int .i64 a0_0, .int .i64 a0_1, .int .i64 a0_2, .int .i64 a0_3] 23 (0, 0)) (by (with_reducible repeat (first | refine blk_drewN ?_ _ | refine blk_drew ?_ | refine blk_alloc ?_ _)); exact BK166.out) hb); have n1_ := Aside0.mk (below_step (by repeat (first | (with_reducible first | exact HB.out | apply below_alloc | apply pw_below_drewN | apply below_drew1 | refine below_set ?_ GE166.out) | exact HB.out)) hb); clear BK166; clear HB; have BK166 := n0_; have HB := n1_; clear n0_ n1_; (try clear hb); (try clear hb2); (try clear hk); (try clear hi)))
            go_ret2
            exact ⟨_, by first | rfl | (simp [errW_none, errW_some] <;> rfl) | (simp [*, errW_none, errW_some] <;> rfl), by first | exact Kd.R_nil _ _ _ _ _ | exact Kd.N_nil _ _ _ _ _ | exact Kd.V_nil _ _ _ _ _ | exact Kd.Q_nil _ _ _ _ _ | exact Kd.S_nil _ _ _ _ _, by repeat (first | (with_reducible first | exact HB.out | apply below_alloc | apply pw_below_drewN | apply below_drew1 | refine below_set ?_ GE166.out) | exact HB.out)⟩
          · rw [if_neg c21] at H
            have c21b0 : decide (t169 < a2) = false := decide_eq_false c21
            clear c21
            replace H := Option.bind_eq_some_iff.mp H
            obtain ⟨t170, A260, H⟩ := H
            replace H : (if (wrap64 (a1 + a2)) > t170 then (some (([] : List (S34)), 3)) else (twoslotref06_Spans.l0 kj3 a1 a2 ([] : List (S34)) a1 a0_0 a0_1 a0_2 a0_3)) = some (r1, r2) := H
            have A26 := Aside0.mk A260
            clear A260
            by_cases c27 : (wrap64 (a1 + a2)) > t170
            · rw [if_pos c27] at H
              have c27b0 : decide (t170 < (wrap64 (a1 + a2))) = true := decide_eq_true c27
              clear c27
              simp only [Option.some.injEq, Prod.mk.injEq] at H
              obtain ⟨rfl, rfl⟩ := H
              have hcz28_0 : wc.cell? ⟨gb166, 0, none⟩ = some (.int .i64 a0_0) := (blk_cell BK166.out 0).trans rfl
              have hcz28_1 : wc.cell? ⟨gb166, 1, none⟩ = some (.int .i64 a0_1) := (blk_cell BK166.out 1).trans rfl
              have hcz28_2 : wc.cell? ⟨gb166, 2, none⟩ = some (.int .i64 a0_2) := (blk_cell BK166.out 2).trans rfl
              have hcz28_3 : wc.cell? ⟨gb166, 3, none⟩ = some (.int .i64 a0_3) := (blk_cell BK166.out 3).trans rfl
              have hfz28_0 := blk_frozen BK166.out 0
              have hfz28_1 := blk_frozen BK166.out 1
              have hfz28_2 := blk_frozen BK166.out 2
              have hfz28_3 := blk_frozen BK166.out 3
              go_wp2_with (first | ((with_reducible refine gate_callee (f := 42) rfl ?_); refine goesL_ (some 27) rfl rfl Try.func42 (by kernel_rfl) rfl #[.agg #[.int .i64 a0_0, .int .i64 a0_1, .int .i64 a0_2, .int .i64 a0_3]] rfl (by (try simp only [List.map_toArray, List.map_cons, List.map_nil]); first | done | rfl | (simp only [List.length_drop, List.length_take]; rfl)) ?_; (with_reducible refine (twoslotref06_M.calls a0_0 a0_1 a0_2 a0_3 t168 _ A16.out).mono ?_); rintro e w29 ⟨rfl, hb⟩; refine ⟨_, rfl, ?_⟩; have n0_ := Aside0.mk (blk_below (g := gb166) (o := .cells #[.int .i64 a0_0, .int .i64 a0_1, .int .i64 a0_2, .int .i64 a0_3] 23 (0, 0)) (by (with_reducible repeat (first | refine blk_drewN ?_ _ | refine blk_drew ?_ | refine blk_alloc ?_ _)); exact BK166.out) hb); have n1_ := Aside0.mk (below_step (by repeat (first | (with_reducible first | exact HB.out | apply below_alloc | apply pw_below_drewN | apply below_drew1 | refine below_set ?_ GE166.out) | exact HB.out)) hb); clear BK166; clear HB; have BK166 := n0_; have HB := n1_; clear n0_ n1_; (try clear hb); (try clear hb2); (try clear hk); (try clear hi); have hcz30_0 : w29.cell? ⟨gb166, 0, none⟩ = some (.int .i64 a0_0) := (blk_cell BK166.out 0).trans rfl; have hcz30_1 : w29.cell? ⟨gb166, 1, none⟩ = some (.int .i64 a0_1) := (blk_cell BK166.out 1).trans rfl; have hcz30_2 : w29.cell? ⟨gb166, 2, none⟩ = some (.int .i64 a0_2) := (blk_cell BK166.out 2).trans rfl; have hcz30_3 : w29.cell? ⟨gb166, 3, none⟩ = some (.int .i64 a0_3) := (blk_cell BK166.out 3).trans rfl; have hfz30_0 := blk_frozen BK166.out 0; have hfz30_1 := blk_frozen BK166.out 1; have hfz30_2 := blk_frozen BK166.out 2; have hfz30_3 := blk_frozen BK166.out 3) | (go_at_call 42; (with_reducible refine (twoslotref06_M.calls a0_0 a0_1 a0_2 a0_3 t169 _ A20.out).mono ?_); rintro e w31 ⟨rfl, hb⟩; clear A20; have n0_ := Aside0.mk (blk_below (g := gb166) (o := .cells #[.int .i64 a0_0, .int .i64 a0_1, .int .i64 a0_2, .int .i64 a0_3] 23 (0, 0)) (by (with_reducible repeat (first | refine blk_drewN ?_ _ | refine blk_drew ?_ | refine blk_alloc ?_ _)); exact BK166.out) hb); have n1_ := Aside0.mk (below_step (by repeat (first | (with_reducible first | exact HB.out | apply below_alloc | apply pw_below_drewN | apply below_drew1 | refine below_set ?_ GE166.out) | exact HB.out)) hb); clear BK166; clear HB; have BK166 := n0_; have HB := n1_; clear n0_ n1_; (try clear hb); (try clear hb2); (try clear hk); (try clear hi); have hcz32_0 : w31.cell? ⟨gb166, 0, none⟩ = some (.int .i64 a0_0) := (blk_cell BK166.out 0).trans rfl; have hcz32_1 : w31.cell? ⟨gb166, 1, none⟩ = some (.int .i64 a0_1) := (blk_cell BK166.out 1).trans rfl; have hcz32_2 : w31.cell? ⟨gb166, 2, none⟩ = some (.int .i64 a0_2) := (blk_cell BK166.out 2).trans rfl; have hcz32_3 : w31.cell? ⟨gb166, 3, none⟩ = some (.int .i64 a0_3) := (blk_cell BK166.out 3).trans rfl; have hfz32_0 := blk_frozen BK166.out 0; have hfz32_1 := blk_frozen BK166.out 1; have hfz32_2 := blk_frozen BK166.out 2; have hfz32_3 := blk_frozen BK166.out 3) | (go_at_call 42; (with_reducible refine (twoslotref06_M.calls a0_0 a0_1 a0_2 a0_3 t170 _ A26.out).mono ?_); rintro e w33 ⟨rfl, hb⟩; clear A26; have n0_ := Aside0.mk (blk_below (g := gb166) (o := .cells #[.int .i64 a0_0, .int .i64 a0_1, .int .i64 a0_2, .int .i64 a0_3] 23 (0, 0)) (by (with_reducible repeat (first | refine blk_drewN ?_ _ | refine blk_drew ?_ | refine blk_alloc ?_ _)); exact BK166.out) hb); have n1_ := Aside0.mk (below_step (by repeat (first | (with_reducible first | exact HB.out | apply below_alloc | apply pw_below_drewN | apply below_drew1 | refine below_set ?_ GE166.out) | exact HB.out)) hb); clear BK166; clear HB; have BK166 := n0_; have HB := n1_; clear n0_ n1_; (try clear hb); (try clear hb2); (try clear hk); (try clear hi)))
              go_ret2
              exact ⟨_, by first | rfl | (simp [errW_none, errW_some] <;> rfl) | (simp [*, errW_none, errW_some] <;> rfl), by first | exact Kd.R_nil _ _ _ _ _ | exact Kd.N_nil _ _ _ _ _ | exact Kd.V_nil _ _ _ _ _ | exact Kd.Q_nil _ _ _ _ _ | exact Kd.S_nil _ _ _ _ _, by repeat (first | (with_reducible first | exact HB.out | apply below_alloc | apply pw_below_drewN | apply below_drew1 | refine below_set ?_ GE166.out) | exact HB.out)⟩
            · rw [if_neg c27] at H
              have c27b0 : decide (t170 < (wrap64 (a1 + a2))) = false := decide_eq_false c27
              clear c27
              have H' := Aside0.mk H
              clear H
              have hcz34_0 : wc.cell? ⟨gb166, 0, none⟩ = some (.int .i64 a0_0) := (blk_cell BK166.out 0).trans rfl
              have hcz34_1 : wc.cell? ⟨gb166, 1, none⟩ = some (.int .i64 a0_1) := (blk_cell BK166.out 1).trans rfl
              have hcz34_2 : wc.cell? ⟨gb166, 2, none⟩ = some (.int .i64 a0_2) := (blk_cell BK166.out 2).trans rfl
              have hcz34_3 : wc.cell? ⟨gb166, 3, none⟩ = some (.int .i64 a0_3) := (blk_cell BK166.out 3).trans rfl
              have hfz34_0 := blk_frozen BK166.out 0
              have hfz34_1 := blk_frozen BK166.out 1
              have hfz34_2 := blk_frozen BK166.out 2
              have hfz34_3 := blk_frozen BK166.out 3
              go_wp2_with (first | ((with_reducible refine gate_callee (f := 42) rfl ?_); refine goesL_ (some 27) rfl rfl Try.func42 (by kernel_rfl) rfl #[.agg #[.int .i64 a0_0, .int .i64 a0_1, .int .i64 a0_2, .int .i64 a0_3]] rfl (by (try simp only [List.map_toArray, List.map_cons, List.map_nil]); first | done | rfl | (simp only [List.length_drop, List.length_take]; rfl)) ?_; (with_reducible refine (twoslotref06_M.calls a0_0 a0_1 a0_2 a0_3 t168 _ A16.out).mono ?_); rintro e w35 ⟨rfl, hb⟩; refine ⟨_, rfl, ?_⟩; have n0_ := Aside0.mk (blk_below (g := gb166) (o := .cells #[.int .i64 a0_0, .int .i64 a0_1, .int .i64 a0_2, .int .i64 a0_3] 23 (0, 0)) (by (with_reducible repeat (first | refine blk_drewN ?_ _ | refine blk_drew ?_ | refine blk_alloc ?_ _)); exact BK166.out) hb); have n1_ := Aside0.mk (below_step (by repeat (first | (with_reducible first | exact HB.out | apply below_alloc | apply pw_below_drewN | apply below_drew1 | refine below_set ?_ GE166.out) | exact HB.out)) hb); clear BK166; clear HB; have BK166 := n0_; have HB := n1_; clear n0_ n1_; (try clear hb); (try clear hb2); (try clear hk); (try clear hi); have hcz36_0 : w35.cell? ⟨gb166, 0, none⟩ = some (.int .i64 a0_0) := (blk_cell BK166.out 0).trans rfl; have hcz36_1 : w35.cell? ⟨gb166, 1, none⟩ = some (.int .i64 a0_1) := (blk_cell BK166.out 1).trans rfl; have hcz36_2 : w35.cell? ⟨gb166, 2, none⟩ = some (.int .i64 a0_2) := (blk_cell BK166.out 2).trans rfl; have hcz36_3 : w35.cell? ⟨gb166, 3, none⟩ = some (.int .i64 a0_3) := (blk_cell BK166.out 3).trans rfl; have hfz36_0 := blk_frozen BK166.out 0; have hfz36_1 := blk_frozen BK166.out 1; have hfz36_2 := blk_frozen BK166.out 2; have hfz36_3 := blk_frozen BK166.out 3) | (go_at_call 42; (with_reducible refine (twoslotref06_M.calls a0_0 a0_1 a0_2 a0_3 t169 _ A20.out).mono ?_); rintro e w37 ⟨rfl, hb⟩; clear A20; have n0_ := Aside0.mk (blk_below (g := gb166) (o := .cells #[.int .i64 a0_0, .int .i64 a0_1, .int .i64 a0_2, .int .i64 a0_3] 23 (0, 0)) (by (with_reducible repeat (first | refine blk_drewN ?_ _ | refine blk_drew ?_ | refine blk_alloc ?_ _)); exact BK166.out) hb); have n1_ := Aside0.mk (below_step (by repeat (first | (with_reducible first | exact HB.out | apply below_alloc | apply pw_below_drewN | apply below_drew1 | refine below_set ?_ GE166.out) | exact HB.out)) hb); clear BK166; clear HB; have BK166 := n0_; have HB := n1_; clear n0_ n1_; (try clear hb); (try clear hb2); (try clear hk); (try clear hi); have hcz38_0 : w37.cell? ⟨gb166, 0, none⟩ = some (.int .i64 a0_0) := (blk_cell BK166.out 0).trans rfl; have hcz38_1 : w37.cell? ⟨gb166, 1, none⟩ = some (.int .i64 a0_1) := (blk_cell BK166.out 1).trans rfl; have hcz38_2 : w37.cell? ⟨gb166, 2, none⟩ = some (.int .i64 a0_2) := (blk_cell BK166.out 2).trans rfl; have hcz38_3 : w37.cell? ⟨gb166, 3, none⟩ = some (.int .i64 a0_3) := (blk_cell BK166.out 3).trans rfl; have hfz38_0 := blk_frozen BK166.out 0; have hfz38_1 := blk_frozen BK166.out 1; have hfz38_2 := blk_frozen BK166.out 2; have hfz38_3 := blk_frozen BK166.out 3) | (go_at_call 42; (with_reducible refine (twoslotref06_M.calls a0_0 a0_1 a0_2 a0_3 t170 _ A26.out).mono ?_); rintro e w39 ⟨rfl, hb⟩; clear A26; have n0_ := Aside0.mk (blk_below (g := gb166) (o := .cells #[.int .i64 a0_0, .int .i64 a0_1, .int .i64 a0_2, .int .i64 a0_3] 23 (0, 0)) (by (with_reducible repeat (first | refine blk_drewN ?_ _ | refine blk_drew ?_ | refine blk_alloc ?_ _)); exact BK166.out) hb); have n1_ := Aside0.mk (below_step (by repeat (first | (with_reducible first | exact HB.out | apply below_alloc | apply pw_below_drewN | apply below_drew1 | refine below_set ?_ GE166.out) | exact HB.out)) hb); clear BK166; clear HB; have BK166 := n0_; have HB := n1_; clear n0_ n1_; (try clear hb); (try clear hb2); (try clear hk); (try clear hi)))
              go_loopg [8, 9] kj3 (fun kq v8 v9 w' => ∃ (x8_2 : List (S34)) (x9_2 : Int), v9 = .int .i64 x9_2 ∧ Aside0 (twoslotref06_Spans.l0 kq a1 a2 x8_2 x9_2 a0_0 a0_1 a0_2 a0_3 = some (r1, r2)) ∧ Aside0 (kq ≤ kj3) ∧ Aside0 (Kd.R k34 34 w' w.heap.size (fun _ => True) v8 x8_2) ∧ Aside0 (w'.heap[gb166]? = some (.cells #[.int .i64 a0_0, .int .i64 a0_1, .int .i64 a0_2, .int .i64 a0_3] 23 (0, 0))) ∧ Aside0 (Below w.heap.size w w'))
              case atStart => exact ⟨(([] : List (S34))), (a1), (by first | rfl | (simp; done) | (simp [*]; done)), H', ⟨Nat.le_refl _⟩, ⟨by first | exact Kd.R_nil _ _ _ _ _ | exact Kd.N_nil _ _ _ _ _ | exact Kd.V_nil _ _ _ _ _ | exact Kd.Q_nil _ _ _ _ _ | exact Kd.S_nil _ _ _ _ _⟩, ⟨by (with_reducible repeat (first | refine blk_drewN ?_ _ | refine blk_drew ?_ | refine blk_alloc ?_ _)); exact BK166.out⟩, ⟨by repeat (first | (with_reducible first | exact HB.out | apply below_alloc | apply pw_below_drewN | apply below_drew1 | refine below_set ?_ GE166.out) | exact HB.out)⟩⟩
              case round =>
                clear H'
                try clear c1
                try clear c2
                try clear p2
                try clear c3
                try clear c4
                try clear p6
                try clear c7
                try clear c8
                try clear c8b0
                try clear c15
                try clear c17
                try clear c17b0
                try clear c21
                try clear c21b0
                try clear c22
                try clear c27
                try clear c27b0
                try clear c35
                try clear hcz11_0
                try clear hcz11_1
                try clear hcz11_2
                try clear hcz11_3
                try clear hcz13_0
                try clear hcz13_1
                try clear hcz13_2
                try clear hcz13_3
                try clear hcz18_0
                try clear hcz18_1
                try clear hcz18_2
                try clear hcz18_3
                try clear hcz22_0
                try clear hcz22_1
                try clear hcz22_2
                try clear hcz22_3
                try clear hcz24_0
                try clear hcz24_1
                try clear hcz24_2
                try clear hcz24_3
                try clear hcz28_0
                try clear hcz28_1
                try clear hcz28_2
                try clear hcz28_3
                try clear hcz30_0
                try clear hcz30_1
                try clear hcz30_2
                try clear hcz30_3
                try clear hcz32_0
                try clear hcz32_1
                try clear hcz32_2
                try clear hcz32_3
                try clear hcz34_0
                try clear hcz34_1
                try clear hcz34_2
                try clear hcz34_3
                try clear hcz36_0
                try clear hcz36_1
                try clear hcz36_2
                try clear hcz36_3
                try clear hcz38_0
                try clear hcz38_1
                try clear hcz38_2
                try clear hcz38_3
                try clear hcz9_0
                try clear hcz9_1
                try clear hcz9_2
                try clear hcz9_3
                try clear hfz11_0
                try clear hfz11_1
                try clear hfz11_2
                try clear hfz11_3
                try clear hfz13_0
                try clear hfz13_1
                try clear hfz13_2
                try clear hfz13_3
                try clear hfz18_0
                try clear hfz18_1
                try clear hfz18_2
                try clear hfz18_3
                try clear hfz22_0
                try clear hfz22_1
                try clear hfz22_2
                try clear hfz22_3
                try clear hfz24_0
                try clear hfz24_1
                try clear hfz24_2
                try clear hfz24_3
                try clear hfz28_0
                try clear hfz28_1
                try clear hfz28_2
                try clear hfz28_3
                try clear hfz30_0
                try clear hfz30_1
                try clear hfz30_2
                try clear hfz30_3
                try clear hfz32_0
                try clear hfz32_1
                try clear hfz32_2
                try clear hfz32_3
                try clear hfz34_0
                try clear hfz34_1
                try clear hfz34_2
                try clear hfz34_3
                try clear hfz36_0
                try clear hfz36_1
                try clear hfz36_2
                try clear hfz36_3
                try clear hfz38_0
                try clear hfz38_1
                try clear hfz38_2
                try clear hfz38_3
                try clear hfz9_0
                try clear hfz9_1
                try clear hfz9_2
                try clear hfz9_3
                try clear p2
                obtain ⟨x8_2, x9_2, rfl, HA, HK2, HO_8, BK166, HB⟩ := hrel
                cases gk with
                | zero => exact absurd HA.out (by simp [twoslotref06_Spans.l0])
                | succ k2 =>
                  have H := HA.out
                  clear HA
                  simp only [twoslotref06_Spans.l0] at H
                  by_cases c40 : x9_2 < (wrap64 (a1 + a2))
                  · rw [if_pos c40] at H
                    have c40b0 : decide (x9_2 < (wrap64 (a1 + a2))) = true := decide_eq_true c40
                    clear c40
                    by_cases c41 : a0_2 = 0
                    · rw [if_pos c41] at H
                      exact absurd H (by simp)
                    · rw [if_neg c41] at H
                      have c41b0 : (a0_2 == 0) = false := beq_eq_false_iff_ne.mpr c41
                      have c41b1 : (a0_2 != 0) = true := bne_iff_ne.mpr c41
                      by_cases c42 : x9_2 = a1
                      · rw [if_pos c42] at H
                        have c42b0 : (x9_2 == a1) = true := beq_iff_eq.mpr c42
                        have c42b1 : (x9_2 != a1) = false := bne_eq_false_iff_eq.mpr c42
                        clear c42
                        by_cases c43 : a0_0 = 0
                        · rw [if_pos c43] at H
                          exact absurd H (by simp)
                        · rw [if_neg c43] at H
                          have c43b0 : (a0_0 == 0) = false := beq_eq_false_iff_ne.mpr c43
                          have c43b1 : (a0_0 != 0) = true := bne_iff_ne.mpr c43
                          by_cases c44 : x8_2.length < 4398046511104
                          · rw [if_pos c44] at H
                            have LMc44 := Aside0.mk c44
                            clear c44
                            obtain ⟨y171, hy171⟩ : ∃ y_ : List (S34), y_ = (x8_2 ++ [(⟨wrap64 (Int.tdiv (wrap64 (Int.tdiv x9_2 a0_2)) a0_0), Int.tmod (wrap64 (Int.tdiv x9_2 a0_2)) a0_0, Int.tmod x9_2 a0_2, 0⟩ : S34)]) := ⟨_, rfl⟩
                            replace H : (if 0 ≤ (wrap64 ((y171.length : Int) - 1)) then (if (wrap64 ((y171.length : Int) - 1)) < (y171.length : Int) then (twoslotref06_Spans.l0 k2 a1 a2 (y171.set ((wrap64 ((y171.length : Int) - 1)) : Int).toNat (⟨(rd_T34 y171 (wrap64 ((y171.length : Int) - 1))).f0, (rd_T34 y171 (wrap64 ((y171.length : Int) - 1))).f1, (rd_T34 y171 (wrap64 ((y171.length : Int) - 1))).f2, wrap64 ((Int.tmod x9_2 a0_2) + 1)⟩ : S34)) (wrap64 (x9_2 + 1)) a0_0 a0_1 a0_2 a0_3) else (none)) else (none)) = some (r1, r2) := by first | (rw [hy171]; with_reducible exact H) | (have H2_ := (Option.bind_some _ _).symm.trans H; rw [hy171]; with_reducible exact H2_) | (have H2_ := (Option.bind_some _ _).symm.trans H; with_reducible exact H2_) | with_reducible exact H | (rw [hy171]; exact H) | exact H
                            have Ny171 := Aside0.mk hy171
                            clear hy171
                            obtain ⟨ji45, hji45⟩ : ∃ j_ : Int, (wrap64 ((y171.length : Int) - 1)) = j_ := ⟨_, rfl⟩
                            replace H : (if 0 ≤ (ji45) then (if (ji45) < (y171.length : Int) then (twoslotref06_Spans.l0 k2 a1 a2 (y171.set ((ji45) : Int).toNat (⟨(rd_T34 y171 (ji45)).f0, (rd_T34 y171 (ji45)).f1, (rd_T34 y171 (ji45)).f2, wrap64 ((Int.tmod x9_2 a0_2) + 1)⟩ : S34)) (wrap64 (x9_2 + 1)) a0_0 a0_1 a0_2 a0_3) else (none)) else (none)) = some (r1, r2) := by first | (rw [hji45] at H; exact H) | (simp only [hji45] at H ⊢; exact H)
                            have hji45w : (IntKind.i64.wrap ((y171.length : Int) - 1)) = ji45 := (i64_w _).trans hji45
                            by_cases c46 : 0 ≤ (ji45)
                            · rw [if_pos c46] at H
                              have c46b0 : decide (0 ≤ (ji45)) = true := decide_eq_true c46
                              clear c46
                              by_cases c47 : (ji45) < (y171.length : Int)
                              · rw [if_pos c47] at H
                                have c47b0 : decide ((ji45) < (y171.length : Int)) = true := decide_eq_true c47
                                clear c47
                                obtain ⟨y174, hy174⟩ : ∃ y_ : List (S34), y_ = (y171.set ((ji45) : Int).toNat (⟨(rd_T34 y171 (ji45)).f0, (rd_T34 y171 (ji45)).f1, (rd_T34 y171 (ji45)).f2, wrap64 ((Int.tmod x9_2 a0_2) + 1)⟩ : S34)) := ⟨_, rfl⟩
                                replace H : (twoslotref06_Spans.l0 k2 a1 a2 y174 (wrap64 (x9_2 + 1)) a0_0 a0_1 a0_2 a0_3) = some (r1, r2) := by first | (rw [hy174]; with_reducible exact H) | (have H2_ := (Option.bind_some _ _).symm.trans H; rw [hy174]; with_reducible exact H2_) | (have H2_ := (Option.bind_some _ _).symm.trans H; with_reducible exact H2_) | with_reducible exact H | (rw [hy174]; exact H) | exact H
                                have Ny174 := Aside0.mk hy174
                                clear hy174
                                have H' := Aside0.mk H
                                clear H
                                have hcz49_0 : wr.cell? ⟨gb166, 0, none⟩ = some (.int .i64 a0_0) := (blk_cell BK166.out 0).trans rfl
                                have hcz49_1 : wr.cell? ⟨gb166, 1, none⟩ = some (.int .i64 a0_1) := (blk_cell BK166.out 1).trans rfl
                                have hcz49_2 : wr.cell? ⟨gb166, 2, none⟩ = some (.int .i64 a0_2) := (blk_cell BK166.out 2).trans rfl
                                have hcz49_3 : wr.cell? ⟨gb166, 3, none⟩ = some (.int .i64 a0_3) := (blk_cell BK166.out 3).trans rfl
                                have hfz49_0 := blk_frozen BK166.out 0
                                have hfz49_1 := blk_frozen BK166.out 1
                                have hfz49_2 := blk_frozen BK166.out 2
                                have hfz49_3 := blk_frozen BK166.out 3
                                try go_wp2
                                have n0_ := Aside0.mk (Kd.R_drew HO_8.out)
                                have n1_ := Aside0.mk (blk_drew BK166.out)
                                have n2_ := Aside0.mk (below_drew1 HB.out)
                                clear HO_8
                                clear BK166
                                clear HB
                                have HO_8 := n0_
                                have BK166 := n1_
                                have HB := n2_
                                clear n0_ n1_ n2_
                                refine start_ (n := 14) (S := fun w' => w'.cell? ⟨gb166, 0, none⟩ = some (.int .i64 a0_0) ∧ w'.cell? ⟨gb166, 1, none⟩ = some (.int .i64 a0_1) ∧ w'.cell? ⟨gb166, 2, none⟩ = some (.int .i64 a0_2) ∧ w'.cell? ⟨gb166, 3, none⟩ = some (.int .i64 a0_3)) (ds := []) #[false, false, false, false, false, false, false, false, false, false, false, false, false, false] (by kernel_rfl) rfl rfl ⟨(blk_cell BK166.out 0).trans rfl, (blk_cell BK166.out 1).trans rfl, (blk_cell BK166.out 2).trans rfl, (blk_cell BK166.out 3).trans rfl⟩ (fun hHeld => ?_); refine with_tabW twoslotref06_Spans.tab12 twoslotref06_Spans.bits12 (fun HT_ HW_ => ?_)
                                generalize wr.drew = w50 at HO_8 BK166 HB hHeld ⊢
                                refine pure_ (i := 0) (N := some 66) (v := ?_) (a' := ?_) #[true, false, false, false, false, false, false, false, false, false, false, false, false, false] rfl rfl (any_of HT_.out (by kernel_rfl)) (fun _ _ _ h => h) (Or.inl ⟨by rfl, ?_⟩) ?_ ?_
                                rotate_left
                                · intro w'
                                  go_simp
                                  with_reducible rfl
                                rotate_left
                                · simp only [Act.put, List.setIfInBounds_toArray, List.set_cons_zero, List.set_cons_succ, i64_w, i32_w]
                                  rfl
                                refine pure_ (i := 1) (N := some 67) (v := ?_) (a' := ?_) #[true, true, false, false, false, false, false, false, false, false, false, false, false, false] rfl rfl (any_of HT_.out (by kernel_rfl)) (fun _ _ _ h => h) (Or.inl ⟨by rfl, ?_⟩) ?_ ?_
                                rotate_left
                                · intro w'
                                  go_simp
                                  with_reducible rfl
                                rotate_left
                                · simp only [Act.put, List.setIfInBounds_toArray, List.set_cons_zero, List.set_cons_succ, i64_w, i32_w]
                                  rfl
                                refine pure_ (i := 2) (N := some 68) (v := ?_) (a' := ?_) #[true, true, true, false, false, false, false, false, false, false, false, false, false, false] rfl rfl (any_of HT_.out (by kernel_rfl)) (fun _ _ _ h => h) (Or.inl ⟨by rfl, ?_⟩) ?_ ?_
                                rotate_left
                                · intro w'
                                  go_simp
                                  with_reducible rfl
                                rotate_left
                                · simp only [Act.put, List.setIfInBounds_toArray, List.set_cons_zero, List.set_cons_succ, i64_w, i32_w]
                                  rfl
                                refine pure_ (i := 5) (N := some 71) (v := ?_) (a' := ?_) #[true, true, true, false, false, true, false, false, false, false, false, false, false, false] rfl rfl (any_of HT_.out (by kernel_rfl)) (fun _ _ _ h => h) (Or.inl ⟨by rfl, ?_⟩) ?_ ?_
                                rotate_left
                                · intro w'
                                  go_simp
                                  with_reducible rfl
                                rotate_left
                                · simp only [Act.put, List.setIfInBounds_toArray, List.set_cons_zero, List.set_cons_succ, i64_w, i32_w]
                                  rfl
                                refine pure_ (i := 6) (N := some 72) (v := ?_) (a' := ?_) #[true, true, true, false, false, true, true, false, false, false, false, false, false, false] rfl rfl (any_of HT_.out (by kernel_rfl)) (fun _ _ _ h => h) (Or.inl ⟨by rfl, ?_⟩) ?_ ?_
                                rotate_left
                                · intro w'
                                  go_simp
                                  with_reducible rfl
                                rotate_left
                                · simp only [Act.put, List.setIfInBounds_toArray, List.set_cons_zero, List.set_cons_succ, i64_w, i32_w]
                                  rfl
                                refine pure_ (i := 9) (N := some 75) (v := ?_) (a' := ?_) #[true, true, true, false, false, true, true, false, false, true, false, false, false, false] rfl rfl (any_of HT_.out (by kernel_rfl)) (fun _ _ _ h => h) (Or.inl ⟨by rfl, ?_⟩) ?_ ?_
                                rotate_left
                                · intro w'
                                  go_simp
                                  with_reducible rfl
                                rotate_left
                                · simp only [Act.put, List.setIfInBounds_toArray, List.set_cons_zero, List.set_cons_succ, i64_w, i32_w]
                                  rfl
                                refine take_ (i := 3) (N := some 69) (v := ?_) (a' := ?_) #[true, true, true, true, false, true, true, false, false, true, false, false, false, false] rfl rfl (take_ofW HT_.out HW_.out (by kernel_rfl)) (fun _ _ _ h => h) (Or.inl ⟨by rfl, ?_⟩) hHeld ?_ ?_
                                rotate_left
                                · rintro w' ⟨s0, s1, s2, s3⟩
                                  go_simp
                                  with_reducible rfl
                                rotate_left
                                · simp only [Act.put, List.setIfInBounds_toArray, List.set_cons_zero, List.set_cons_succ, i64_w, i32_w]
                                  rfl
                                refine pure_ (i := 4) (N := some 70) (v := ?_) (a' := ?_) #[true, true, true, true, true, true, true, false, false, true, false, false, false, false] rfl rfl (any_of HT_.out (by kernel_rfl)) (fun _ _ _ h => h) (Or.inl ⟨by rfl, ?_⟩) ?_ ?_
                                rotate_left
                                · intro w'
                                  go_simp
                                  with_reducible rfl
                                rotate_left
                                · simp only [Act.put, List.setIfInBounds_toArray, List.set_cons_zero, List.set_cons_succ, i64_w, i32_w]
                                  rfl
                                refine take_ (i := 7) (N := some 73) (v := ?_) (a' := ?_) #[true, true, true, true, true, true, true, true, false, true, false, false, false, false] rfl rfl (take_ofW HT_.out HW_.out (by kernel_rfl)) (fun _ _ _ h => h) (Or.inl ⟨by rfl, ?_⟩) hHeld ?_ ?_
                                rotate_left
                                · rintro w' ⟨s0, s1, s2, s3⟩
                                  go_simp
                                  with_reducible rfl
                                rotate_left
                                · simp only [Act.put, List.setIfInBounds_toArray, List.set_cons_zero, List.set_cons_succ, i64_w, i32_w]
                                  rfl
                                refine pure_ (i := 8) (N := some 74) (v := ?_) (a' := ?_) #[true, true, true, true, true, true, true, true, true, true, false, false, false, false] rfl rfl (any_of HT_.out (by kernel_rfl)) (fun _ _ _ h => h) (Or.inl ⟨by rfl, ?_⟩) ?_ ?_
                                rotate_left
                                · intro w'
                                  go_simp
                                  with_reducible rfl
                                rotate_left
                                · simp only [Act.put, List.setIfInBounds_toArray, List.set_cons_zero, List.set_cons_succ, i64_w, i32_w]
                                  rfl
                                refine pure_ (i := 10) (N := some 76) (v := ?_) (a' := ?_) #[true, true, true, true, true, true, true, true, true, true, true, false, false, false] rfl rfl (any_of HT_.out (by kernel_rfl)) (fun _ _ _ h => h) (Or.inl ⟨by rfl, ?_⟩) ?_ ?_
                                rotate_left
                                · intro w'
                                  go_simp
                                  with_reducible rfl
                                rotate_left
                                · simp only [Act.put, List.setIfInBounds_toArray, List.set_cons_zero, List.set_cons_succ, i64_w, i32_w]
                                  rfl
                                refine one_ (i := 11) (N := some 77) #[true, true, true, true, true, true, true, true, true, true, true, true, false, false] rfl rfl (one_of HT_.out (by kernel_rfl)) (by decide) (fun K hK => ?_)
                                refine value_ (w1 := ?_) (v := ?_) (by rfl) rfl ?_ ?_
                                rotate_left 2
                                · go_simp
                                  constructor
                                  · rfl
                                  · rfl
                                refine hK.out _ _ ⟨(blk_cell (blk_alloc BK166.out _) 0).trans rfl, (blk_cell (blk_alloc BK166.out _) 1).trans rfl, (blk_cell (blk_alloc BK166.out _) 2).trans rfl, (blk_cell (blk_alloc BK166.out _) 3).trans rfl⟩ (fun hHeld => ?_)
                                clear hK K
                                refine norm_ (a' := ?_) ?_ ?_
                                rotate_left
                                · show Act.put _ (some 77) _ = _
                                  simp only [Act.put, List.setIfInBounds_toArray, List.set_cons_zero, List.set_cons_succ, i64_w, i32_w]
                                  rfl
                                refine one_ (i := 12) (N := some 78) #[true, true, true, true, true, true, true, true, true, true, true, true, true, false] rfl rfl (one_of HT_.out (by kernel_rfl)) (by decide) (fun K hK => ?_)
                                refine Kd.R_append_step k34 (w0 := w) w.heap.size (by rfl) (.tmp 66) (.tmp 77) 30 34 (.agg #[(.int .i64 0), (.int .i64 0), (.int .i64 0), (.int .i64 0)]) 32 rfl Try.underlying30 info34 rfl (by decide) (by omega) u8 x8_2 (⟨wrap64 (Int.tdiv (wrap64 (Int.tdiv x9_2 a0_2)) a0_0), Int.tmod (wrap64 (Int.tdiv x9_2 a0_2)) a0_0, Int.tmod x9_2 a0_2, 0⟩ : S34) [.int .i64 (wrap64 (Int.tdiv (wrap64 (Int.tdiv x9_2 a0_2)) a0_0)), .int .i64 (Int.tmod (wrap64 (Int.tdiv x9_2 a0_2)) a0_0), .int .i64 (Int.tmod x9_2 a0_2), .int .i64 0] (fun _ => True) (fun _ => False) rfl rfl ?aP (fun _ hk => hk.elim) ?aF ?aO ?aB ?aS ?aL ?_
                                (case aP => exact k34_mkM _ _ _ (⟨wrap64 (Int.tdiv (wrap64 (Int.tdiv x9_2 a0_2)) a0_0), Int.tmod (wrap64 (Int.tdiv x9_2 a0_2)) a0_0, Int.tmod x9_2 a0_2, 0⟩ : S34))
                                (case aB => exact (by repeat (first | (with_reducible first | exact HB.out | apply below_alloc | apply pw_below_drewN | apply below_drew1 | refine below_set ?_ GE166.out) | exact HB.out)))
                                (case aF => exact (fun _ _ => trivial))
                                (case aO => exact (by (with_reducible repeat (first | apply Kd.R_alloc | apply Kd.R_drewN | apply Kd.R_drew)); exact HO_8.out))
                                (case aS => exact (below_size (by repeat (first | (with_reducible first | exact HB.out | apply below_alloc | apply pw_below_drewN | apply below_drew1 | refine below_set ?_ GE166.out) | exact HB.out))))
                                (case aL => have := LMc44.out; omega)
                                intro v172 w51 ho hb hg hat
                                rw [← Ny171.out] at ho
                                have n0_ := Aside0.mk (blk_grown (g := gb166) (o := .cells #[.int .i64 a0_0, .int .i64 a0_1, .int .i64 a0_2, .int .i64 a0_3] 23 (0, 0)) (by (with_reducible repeat (first | refine blk_drewN ?_ _ | refine blk_drew ?_ | refine blk_alloc ?_ _)); exact BK166.out) hg (Kd.R_ne HO_8.out BK166.out (by decide)))
                                have n1_ := Aside0.mk (hb)
                                have n2_ := Aside0.mk (ho)
                                clear BK166
                                clear HB
                                clear HO_8
                                have BK166 := n0_
                                have HB := n1_
                                have HO173 := n2_
                                clear n0_ n1_ n2_
                                clear ho hb hg hat
                                refine hK.out _ _ ⟨(blk_cell BK166.out 0).trans rfl, (blk_cell BK166.out 1).trans rfl, (blk_cell BK166.out 2).trans rfl, (blk_cell BK166.out 3).trans rfl⟩ (fun hHeld => ?_)
                                clear hK K
                                refine norm_ (a' := ?_) ?_ ?_
                                rotate_left
                                · show Act.put _ (some 78) _ = _
                                  simp only [Act.put, List.setIfInBounds_toArray, List.set_cons_zero, List.set_cons_succ, i64_w, i32_w]
                                  rfl
                                refine pure_ (i := 13) (N := some 8) (v := ?_) (a' := ?_) #[true, true, true, true, true, true, true, true, true, true, true, true, true, true] rfl rfl (any_of HT_.out (by kernel_rfl)) (fun _ _ _ h => h) (Or.inl ⟨by rfl, ?_⟩) ?_ ?_
                                rotate_left
                                · intro w'
                                  go_simp
                                  with_reducible rfl
                                rotate_left
                                · simp only [Act.put, List.setIfInBounds_toArray, List.set_cons_zero, List.set_cons_succ, i64_w, i32_w]
                                  rfl
                                refine done_ (done_of HT_.out (by kernel_rfl)) ?_
                                obtain ⟨Ao52, co52, eo52⟩ := Kd.R_slice HO173.out
                                subst eo52
                                have p48 : 0 ≤ ((ji45) : Int) := of_decide_eq_true (by first | (with_reducible assumption) | assumption)
                                have q48 : ((ji45) : Int) < ((y171.length : Int) : Int) := of_decide_eq_true (by first | (with_reducible assumption) | assumption)
                                obtain ⟨go48, co48, eo48, gb48, gl48, cl48, HG48⟩ := Kd.R_form HO173.out (by omega)
                                (first | cases eo48 | (injection eo48 with ea_ en_ ec_; (first | subst ea_ | (injection ea_ with ea_; subst ea_)); subst ec_; clear en_))
                                have GB48 := Aside0.mk gb48
                                have GG48 := Aside0.mk HG48
                                clear gb48 gl48 HG48
                                obtain ⟨ce48, hcl48, hM48, hcc48, hfr48⟩ := Kd.R_elem HO173.out z34 ((ji45) : Int) p48 q48
                                obtain rfl := k34_openM hM48
                                have hx48_0 : w51.cell? ⟨go48, ((ji45) : Int).toNat * 4, none⟩ = some (.int .i64 ((rd_T34 y171 (ji45)).f0)) := hcc48 0 _ rfl
                                have hx48_1 : w51.cell? ⟨go48, ((ji45) : Int).toNat * 4 + 1, none⟩ = some (.int .i64 ((rd_T34 y171 (ji45)).f1)) := hcc48 1 _ rfl
                                have hx48_2 : w51.cell? ⟨go48, ((ji45) : Int).toNat * 4 + 2, none⟩ = some (.int .i64 ((rd_T34 y171 (ji45)).f2)) := hcc48 2 _ rfl
                                have hx48_3 : w51.cell? ⟨go48, ((ji45) : Int).toNat * 4 + 3, none⟩ = some (.int .i64 ((rd_T34 y171 (ji45)).f3)) := hcc48 3 _ rfl
                                have hf48_0 : w51.frozen? ⟨go48, ((ji45) : Int).toNat * 4, none⟩ = false := hfr48 0
                                have hf48_1 : w51.frozen? ⟨go48, ((ji45) : Int).toNat * 4 + 1, none⟩ = false := hfr48 1
                                have hf48_2 : w51.frozen? ⟨go48, ((ji45) : Int).toNat * 4 + 2, none⟩ = false := hfr48 2
                                have hf48_3 : w51.frozen? ⟨go48, ((ji45) : Int).toNat * 4 + 3, none⟩ = false := hfr48 3
                                clear hcl48 hcc48 hfr48 hM48
                                replace p48 := eq_true p48
                                replace q48 := eq_true q48
                                have HX53 := Aside0.mk (show Kd.R k34 34 w51 w.heap.size (fun _ => True) (.slice (some ⟨go48, 0, none⟩) y171.length co52) y171 from (by (with_reducible repeat (first | apply Kd.R_alloc | apply Kd.R_drewN | apply Kd.R_drew)); exact HO173.out))
                                obtain ⟨ce53, hcl53, hM53, hcc53, hfr53⟩ := Kd.R_elem HX53.out z34 ((ji45) : Int) (of_decide_eq_true (by first | (with_reducible assumption) | assumption)) (by have h_ : ((ji45) : Int) < ((y171.length : Int) : Int) := of_decide_eq_true (by first | (with_reducible assumption) | assumption); first | exact h_ | (have e_ := (Kd.R_reads' HO173.out).1; omega) | simpa using h_)
                                obtain rfl := k34_openM hM53
                                have HP53 := Kd.R_seg HX53.out ((ji45) : Int) (of_decide_eq_true (by first | (with_reducible assumption) | assumption)) (by have h_ : ((ji45) : Int) < ((y171.length : Int) : Int) := of_decide_eq_true (by first | (with_reducible assumption) | assumption); first | exact h_ | (have e_ := (Kd.R_reads' HO173.out).1; omega) | simpa using h_) (seg := [.int .i64 (wrap64 ((Int.tmod x9_2 a0_2) + 1))]) (j := 3) hcl53 hcc53 (show 4 ≤ 4 from by decide) (x' := (⟨(rd_T34 y171 (ji45)).f0, (rd_T34 y171 (ji45)).f1, (rd_T34 y171 (ji45)).f2, wrap64 ((Int.tmod x9_2 a0_2) + 1)⟩ : S34)) (k34_mkM _ _ _ (⟨(rd_T34 y171 (ji45)).f0, (rd_T34 y171 (ji45)).f1, (rd_T34 y171 (ji45)).f2, wrap64 ((Int.tmod x9_2 a0_2) + 1)⟩ : S34) ) (fun _ hk => hk)
                                have hx53_3 := hcc53 3 _ rfl
                                (try simp only [show (k34).sz = 4 from rfl, Nat.mul_one, Nat.add_zero] at hx53_3)
                                have hf53_3 := hfr53 3
                                (try simp only [show (k34).sz = 4 from rfl, Nat.mul_one, Nat.add_zero] at hf53_3)
                                clear hcl53 hcc53 hfr53 hM53
                                try go_wp2_with (first | ((with_reducible refine gate_store (t := 3) (p := 86) rfl ?_); refine store_event (t := 3) (p := 86) (v := ?vo_w54) (w1 := (w51.setCell ⟨go48, ((ji45) : Int).toNat * 4 + 3, none⟩ (.int .i64 (wrap64 ((Int.tmod x9_2 a0_2) + 1))))) ?hg ?ho ?hn ?hr ?_; (case ho => rfl); (case hg => rfl); (case hn => rfl); (case hr => first | (go_simp; done) | (go_simp; rfl)); intro w54 hw; have hg : w51.grownBy w54 (some go48) := (by rw [hw]; exact HP53.2); have hp_ : Kd.R k34 34 w54 w.heap.size (fun _ => True) (.slice (some ⟨go48, 0, none⟩) y171.length co52) y174 := (by rw [hw, Ny174.out]; exact HP53.1); clear HP53; have n0_ := Aside0.mk (blk_grown (g := gb166) (o := .cells #[.int .i64 a0_0, .int .i64 a0_1, .int .i64 a0_2, .int .i64 a0_3] 23 (0, 0)) (by (with_reducible repeat (first | refine blk_drewN ?_ _ | refine blk_drew ?_ | refine blk_alloc ?_ _)); exact BK166.out) hg (Kd.R_ne HO173.out BK166.out (by decide))); have n1_ := Aside0.mk (hp_); have n2_ := Aside0.mk ((by rw [hw]; exact below_set (HB.out) GB48.out : Below w.heap.size w w54)); clear BK166; clear HO173; clear HB; have BK166 := n0_; have HO173 := n1_; have HB := n2_; clear n0_ n1_ n2_; clear hg hw hp_))
                                go_roundg k2
                                case measure => have := HJ3.out; have := HK2.out; omega
                                case rel => exact ⟨(y174), (wrap64 (x9_2 + 1)), (by first | rfl | (simp; done) | (simp [*]; done)), H', ⟨by have := HJ3.out; have := HK2.out; omega⟩, ⟨by (with_reducible repeat (first | apply Kd.R_alloc | apply Kd.R_drewN | apply Kd.R_drew)); exact HO173.out⟩, ⟨by (with_reducible repeat (first | refine blk_drewN ?_ _ | refine blk_drew ?_ | refine blk_alloc ?_ _)); exact BK166.out⟩, ⟨by repeat (first | (with_reducible first | exact HB.out | apply below_alloc | apply pw_below_drewN | apply below_drew1 | refine below_set ?_ GE166.out) | exact HB.out)⟩⟩
                              · rw [if_neg c47] at H
                                exact absurd H (by simp)
                            · rw [if_neg c46] at H
                              exact absurd H (by simp)
                          · rw [if_neg c44] at H
                            exact absurd H (by simp)
                      · rw [if_neg c42] at H
                        have c42b0 : (x9_2 == a1) = false := beq_eq_false_iff_ne.mpr c42
                        have c42b1 : (x9_2 != a1) = true := bne_iff_ne.mpr c42
                        by_cases c55 : (Int.tmod x9_2 a0_2) = 0
                        · rw [if_pos c55] at H
                          have c55b0 : ((Int.tmod x9_2 a0_2) == 0) = true := beq_iff_eq.mpr c55
                          have c55b1 : ((Int.tmod x9_2 a0_2) != 0) = false := bne_eq_false_iff_eq.mpr c55
                          clear c55
                          by_cases c56 : a0_0 = 0
                          · rw [if_pos c56] at H
                            exact absurd H (by simp)
                          · rw [if_neg c56] at H
                            have c56b0 : (a0_0 == 0) = false := beq_eq_false_iff_ne.mpr c56
                            have c56b1 : (a0_0 != 0) = true := bne_iff_ne.mpr c56
                            by_cases c57 : x8_2.length < 4398046511104
                            · rw [if_pos c57] at H
                              have LMc57 := Aside0.mk c57
                              clear c57
                              obtain ⟨y175, hy175⟩ : ∃ y_ : List (S34), y_ = (x8_2 ++ [(⟨wrap64 (Int.tdiv (wrap64 (Int.tdiv x9_2 a0_2)) a0_0), Int.tmod (wrap64 (Int.tdiv x9_2 a0_2)) a0_0, Int.tmod x9_2 a0_2, 0⟩ : S34)]) := ⟨_, rfl⟩
                              replace H : (if 0 ≤ (wrap64 ((y175.length : Int) - 1)) then (if (wrap64 ((y175.length : Int) - 1)) < (y175.length : Int) then (twoslotref06_Spans.l0 k2 a1 a2 (y175.set ((wrap64 ((y175.length : Int) - 1)) : Int).toNat (⟨(rd_T34 y175 (wrap64 ((y175.length : Int) - 1))).f0, (rd_T34 y175 (wrap64 ((y175.length : Int) - 1))).f1, (rd_T34 y175 (wrap64 ((y175.length : Int) - 1))).f2, wrap64 ((Int.tmod x9_2 a0_2) + 1)⟩ : S34)) (wrap64 (x9_2 + 1)) a0_0 a0_1 a0_2 a0_3) else (none)) else (none)) = some (r1, r2) := by first | (rw [hy175]; with_reducible exact H) | (have H2_ := (Option.bind_some _ _).symm.trans H; rw [hy175]; with_reducible exact H2_) | (have H2_ := (Option.bind_some _ _).symm.trans H; with_reducible exact H2_) | with_reducible exact H | (rw [hy175]; exact H) | exact H
                              have Ny175 := Aside0.mk hy175
                              clear hy175
                              obtain ⟨ji58, hji58⟩ : ∃ j_ : Int, (wrap64 ((y175.length : Int) - 1)) = j_ := ⟨_, rfl⟩
                              replace H : (if 0 ≤ (ji58) then (if (ji58) < (y175.length : Int) then (twoslotref06_Spans.l0 k2 a1 a2 (y175.set ((ji58) : Int).toNat (⟨(rd_T34 y175 (ji58)).f0, (rd_T34 y175 (ji58)).f1, (rd_T34 y175 (ji58)).f2, wrap64 ((Int.tmod x9_2 a0_2) + 1)⟩ : S34)) (wrap64 (x9_2 + 1)) a0_0 a0_1 a0_2 a0_3) else (none)) else (none)) = some (r1, r2) := by first | (rw [hji58] at H; exact H) | (simp only [hji58] at H ⊢; exact H)
                              have hji58w : (IntKind.i64.wrap ((y175.length : Int) - 1)) = ji58 := (i64_w _).trans hji58
                              by_cases c59 : 0 ≤ (ji58)
                              · rw [if_pos c59] at H
                                have c59b0 : decide (0 ≤ (ji58)) = true := decide_eq_true c59
                                clear c59
                                by_cases c60 : (ji58) < (y175.length : Int)
                                · rw [if_pos c60] at H
                                  have c60b0 : decide ((ji58) < (y175.length : Int)) = true := decide_eq_true c60
                                  clear c60
                                  obtain ⟨y178, hy178⟩ : ∃ y_ : List (S34), y_ = (y175.set ((ji58) : Int).toNat (⟨(rd_T34 y175 (ji58)).f0, (rd_T34 y175 (ji58)).f1, (rd_T34 y175 (ji58)).f2, wrap64 ((Int.tmod x9_2 a0_2) + 1)⟩ : S34)) := ⟨_, rfl⟩
                                  replace H : (twoslotref06_Spans.l0 k2 a1 a2 y178 (wrap64 (x9_2 + 1)) a0_0 a0_1 a0_2 a0_3) = some (r1, r2) := by first | (rw [hy178]; with_reducible exact H) | (have H2_ := (Option.bind_some _ _).symm.trans H; rw [hy178]; with_reducible exact H2_) | (have H2_ := (Option.bind_some _ _).symm.trans H; with_reducible exact H2_) | with_reducible exact H | (rw [hy178]; exact H) | exact H
                                  have Ny178 := Aside0.mk hy178
                                  clear hy178
                                  have H' := Aside0.mk H
                                  clear H
                                  have hcz62_0 : wr.cell? ⟨gb166, 0, none⟩ = some (.int .i64 a0_0) := (blk_cell BK166.out 0).trans rfl
                                  have hcz62_1 : wr.cell? ⟨gb166, 1, none⟩ = some (.int .i64 a0_1) := (blk_cell BK166.out 1).trans rfl
                                  have hcz62_2 : wr.cell? ⟨gb166, 2, none⟩ = some (.int .i64 a0_2) := (blk_cell BK166.out 2).trans rfl
                                  have hcz62_3 : wr.cell? ⟨gb166, 3, none⟩ = some (.int .i64 a0_3) := (blk_cell BK166.out 3).trans rfl
                                  have hfz62_0 := blk_frozen BK166.out 0
                                  have hfz62_1 := blk_frozen BK166.out 1
                                  have hfz62_2 := blk_frozen BK166.out 2
                                  have hfz62_3 := blk_frozen BK166.out 3
                                  try go_wp2
                                  have n0_ := Aside0.mk (Kd.R_drew HO_8.out)
                                  have n1_ := Aside0.mk (blk_drew BK166.out)
                                  have n2_ := Aside0.mk (below_drew1 HB.out)
                                  clear HO_8
                                  clear BK166
                                  clear HB
                                  have HO_8 := n0_
                                  have BK166 := n1_
                                  have HB := n2_
                                  clear n0_ n1_ n2_
                                  refine start_ (n := 14) (S := fun w' => w'.cell? ⟨gb166, 0, none⟩ = some (.int .i64 a0_0) ∧ w'.cell? ⟨gb166, 1, none⟩ = some (.int .i64 a0_1) ∧ w'.cell? ⟨gb166, 2, none⟩ = some (.int .i64 a0_2) ∧ w'.cell? ⟨gb166, 3, none⟩ = some (.int .i64 a0_3)) (ds := []) #[false, false, false, false, false, false, false, false, false, false, false, false, false, false] (by kernel_rfl) rfl rfl ⟨(blk_cell BK166.out 0).trans rfl, (blk_cell BK166.out 1).trans rfl, (blk_cell BK166.out 2).trans rfl, (blk_cell BK166.out 3).trans rfl⟩ (fun hHeld => ?_); refine with_tabW twoslotref06_Spans.tab12 twoslotref06_Spans.bits12 (fun HT_ HW_ => ?_)
                                  generalize wr.drew = w63 at HO_8 BK166 HB hHeld ⊢
                                  refine pure_ (i := 0) (N := some 66) (v := ?_) (a' := ?_) #[true, false, false, false, false, false, false, false, false, false, false, false, false, false] rfl rfl (any_of HT_.out (by kernel_rfl)) (fun _ _ _ h => h) (Or.inl ⟨by rfl, ?_⟩) ?_ ?_
                                  rotate_left
                                  · intro w'
                                    go_simp
                                    with_reducible rfl
                                  rotate_left
                                  · simp only [Act.put, List.setIfInBounds_toArray, List.set_cons_zero, List.set_cons_succ, i64_w, i32_w]
                                    rfl
                                  refine pure_ (i := 1) (N := some 67) (v := ?_) (a' := ?_) #[true, true, false, false, false, false, false, false, false, false, false, false, false, false] rfl rfl (any_of HT_.out (by kernel_rfl)) (fun _ _ _ h => h) (Or.inl ⟨by rfl, ?_⟩) ?_ ?_
                                  rotate_left
                                  · intro w'
                                    go_simp
                                    with_reducible rfl
                                  rotate_left
                                  · simp only [Act.put, List.setIfInBounds_toArray, List.set_cons_zero, List.set_cons_succ, i64_w, i32_w]
                                    rfl
                                  refine pure_ (i := 2) (N := some 68) (v := ?_) (a' := ?_) #[true, true, true, false, false, false, false, false, false, false, false, false, false, false] rfl rfl (any_of HT_.out (by kernel_rfl)) (fun _ _ _ h => h) (Or.inl ⟨by rfl, ?_⟩) ?_ ?_
                                  rotate_left
                                  · intro w'
                                    go_simp
                                    with_reducible rfl
                                  rotate_left
                                  · simp only [Act.put, List.setIfInBounds_toArray, List.set_cons_zero, List.set_cons_succ, i64_w, i32_w]
                                    rfl
                                  refine pure_ (i := 5) (N := some 71) (v := ?_) (a' := ?_) #[true, true, true, false, false, true, false, false, false, false, false, false, false, false] rfl rfl (any_of HT_.out (by kernel_rfl)) (fun _ _ _ h => h) (Or.inl ⟨by rfl, ?_⟩) ?_ ?_
                                  rotate_left
                                  · intro w'
                                    go_simp
                                    with_reducible rfl
                                  rotate_left
                                  · simp only [Act.put, List.setIfInBounds_toArray, List.set_cons_zero, List.set_cons_succ, i64_w, i32_w]
                                    rfl
                                  refine pure_ (i := 6) (N := some 72) (v := ?_) (a' := ?_) #[true, true, true, false, false, true, true, false, false, false, false, false, false, false] rfl rfl (any_of HT_.out (by kernel_rfl)) (fun _ _ _ h => h) (Or.inl ⟨by rfl, ?_⟩) ?_ ?_
                                  rotate_left
                                  · intro w'
                                    go_simp
                                    with_reducible rfl
                                  rotate_left
                                  · simp only [Act.put, List.setIfInBounds_toArray, List.set_cons_zero, List.set_cons_succ, i64_w, i32_w]
                                    rfl
                                  refine pure_ (i := 9) (N := some 75) (v := ?_) (a' := ?_) #[true, true, true, false, false, true, true, false, false, true, false, false, false, false] rfl rfl (any_of HT_.out (by kernel_rfl)) (fun _ _ _ h => h) (Or.inl ⟨by rfl, ?_⟩) ?_ ?_
                                  rotate_left
                                  · intro w'
                                    go_simp
                                    with_reducible rfl
                                  rotate_left
                                  · simp only [Act.put, List.setIfInBounds_toArray, List.set_cons_zero, List.set_cons_succ, i64_w, i32_w]
                                    rfl
                                  refine take_ (i := 3) (N := some 69) (v := ?_) (a' := ?_) #[true, true, true, true, false, true, true, false, false, true, false, false, false, false] rfl rfl (take_ofW HT_.out HW_.out (by kernel_rfl)) (fun _ _ _ h => h) (Or.inl ⟨by rfl, ?_⟩) hHeld ?_ ?_
                                  rotate_left
                                  · rintro w' ⟨s0, s1, s2, s3⟩
                                    go_simp
                                    with_reducible rfl
                                  rotate_left
                                  · simp only [Act.put, List.setIfInBounds_toArray, List.set_cons_zero, List.set_cons_succ, i64_w, i32_w]
                                    rfl
                                  refine pure_ (i := 4) (N := some 70) (v := ?_) (a' := ?_) #[true, true, true, true, true, true, true, false, false, true, false, false, false, false] rfl rfl (any_of HT_.out (by kernel_rfl)) (fun _ _ _ h => h) (Or.inl ⟨by rfl, ?_⟩) ?_ ?_
                                  rotate_left
                                  · intro w'
                                    go_simp
                                    with_reducible rfl
                                  rotate_left
                                  · simp only [Act.put, List.setIfInBounds_toArray, List.set_cons_zero, List.set_cons_succ, i64_w, i32_w]
                                    rfl
                                  refine take_ (i := 7) (N := some 73) (v := ?_) (a' := ?_) #[true, true, true, true, true, true, true, true, false, true, false, false, false, false] rfl rfl (take_ofW HT_.out HW_.out (by kernel_rfl)) (fun _ _ _ h => h) (Or.inl ⟨by rfl, ?_⟩) hHeld ?_ ?_
                                  rotate_left
                                  · rintro w' ⟨s0, s1, s2, s3⟩
                                    go_simp
                                    with_reducible rfl
                                  rotate_left
                                  · simp only [Act.put, List.setIfInBounds_toArray, List.set_cons_zero, List.set_cons_succ, i64_w, i32_w]
                                    rfl
                                  refine pure_ (i := 8) (N := some 74) (v := ?_) (a' := ?_) #[true, true, true, true, true, true, true, true, true, true, false, false, false, false] rfl rfl (any_of HT_.out (by kernel_rfl)) (fun _ _ _ h => h) (Or.inl ⟨by rfl, ?_⟩) ?_ ?_
                                  rotate_left
                                  · intro w'
                                    go_simp
                                    with_reducible rfl
                                  rotate_left
                                  · simp only [Act.put, List.setIfInBounds_toArray, List.set_cons_zero, List.set_cons_succ, i64_w, i32_w]
                                    rfl
                                  refine pure_ (i := 10) (N := some 76) (v := ?_) (a' := ?_) #[true, true, true, true, true, true, true, true, true, true, true, false, false, false] rfl rfl (any_of HT_.out (by kernel_rfl)) (fun _ _ _ h => h) (Or.inl ⟨by rfl, ?_⟩) ?_ ?_
                                  rotate_left
                                  · intro w'
                                    go_simp
                                    with_reducible rfl
                                  rotate_left
                                  · simp only [Act.put, List.setIfInBounds_toArray, List.set_cons_zero, List.set_cons_succ, i64_w, i32_w]
                                    rfl
                                  refine one_ (i := 11) (N := some 77) #[true, true, true, true, true, true, true, true, true, true, true, true, false, false] rfl rfl (one_of HT_.out (by kernel_rfl)) (by decide) (fun K hK => ?_)
                                  refine value_ (w1 := ?_) (v := ?_) (by rfl) rfl ?_ ?_
                                  rotate_left 2
                                  · go_simp
                                    constructor
                                    · rfl
                                    · rfl
                                  refine hK.out _ _ ⟨(blk_cell (blk_alloc BK166.out _) 0).trans rfl, (blk_cell (blk_alloc BK166.out _) 1).trans rfl, (blk_cell (blk_alloc BK166.out _) 2).trans rfl, (blk_cell (blk_alloc BK166.out _) 3).trans rfl⟩ (fun hHeld => ?_)
                                  clear hK K
                                  refine norm_ (a' := ?_) ?_ ?_
                                  rotate_left
                                  · show Act.put _ (some 77) _ = _
                                    simp only [Act.put, List.setIfInBounds_toArray, List.set_cons_zero, List.set_cons_succ, i64_w, i32_w]
                                    rfl
                                  refine one_ (i := 12) (N := some 78) #[true, true, true, true, true, true, true, true, true, true, true, true, true, false] rfl rfl (one_of HT_.out (by kernel_rfl)) (by decide) (fun K hK => ?_)
                                  refine Kd.R_append_step k34 (w0 := w) w.heap.size (by rfl) (.tmp 66) (.tmp 77) 30 34 (.agg #[(.int .i64 0), (.int .i64 0), (.int .i64 0), (.int .i64 0)]) 32 rfl Try.underlying30 info34 rfl (by decide) (by omega) u8 x8_2 (⟨wrap64 (Int.tdiv (wrap64 (Int.tdiv x9_2 a0_2)) a0_0), Int.tmod (wrap64 (Int.tdiv x9_2 a0_2)) a0_0, Int.tmod x9_2 a0_2, 0⟩ : S34) [.int .i64 (wrap64 (Int.tdiv (wrap64 (Int.tdiv x9_2 a0_2)) a0_0)), .int .i64 (Int.tmod (wrap64 (Int.tdiv x9_2 a0_2)) a0_0), .int .i64 (Int.tmod x9_2 a0_2), .int .i64 0] (fun _ => True) (fun _ => False) rfl rfl ?aP (fun _ hk => hk.elim) ?aF ?aO ?aB ?aS ?aL ?_
                                  (case aP => exact k34_mkM _ _ _ (⟨wrap64 (Int.tdiv (wrap64 (Int.tdiv x9_2 a0_2)) a0_0), Int.tmod (wrap64 (Int.tdiv x9_2 a0_2)) a0_0, Int.tmod x9_2 a0_2, 0⟩ : S34))
                                  (case aB => exact (by repeat (first | (with_reducible first | exact HB.out | apply below_alloc | apply pw_below_drewN | apply below_drew1 | refine below_set ?_ GE166.out) | exact HB.out)))
                                  (case aF => exact (fun _ _ => trivial))
                                  (case aO => exact (by (with_reducible repeat (first | apply Kd.R_alloc | apply Kd.R_drewN | apply Kd.R_drew)); exact HO_8.out))
                                  (case aS => exact (below_size (by repeat (first | (with_reducible first | exact HB.out | apply below_alloc | apply pw_below_drewN | apply below_drew1 | refine below_set ?_ GE166.out) | exact HB.out))))
                                  (case aL => have := LMc57.out; omega)
                                  intro v176 w64 ho hb hg hat
                                  rw [← Ny175.out] at ho
                                  have n0_ := Aside0.mk (blk_grown (g := gb166) (o := .cells #[.int .i64 a0_0, .int .i64 a0_1, .int .i64 a0_2, .int .i64 a0_3] 23 (0, 0)) (by (with_reducible repeat (first | refine blk_drewN ?_ _ | refine blk_drew ?_ | refine blk_alloc ?_ _)); exact BK166.out) hg (Kd.R_ne HO_8.out BK166.out (by decide)))
                                  have n1_ := Aside0.mk (hb)
                                  have n2_ := Aside0.mk (ho)
                                  clear BK166
                                  clear HB
                                  clear HO_8
                                  have BK166 := n0_
                                  have HB := n1_
                                  have HO177 := n2_
                                  clear n0_ n1_ n2_
                                  clear ho hb hg hat
                                  refine hK.out _ _ ⟨(blk_cell BK166.out 0).trans rfl, (blk_cell BK166.out 1).trans rfl, (blk_cell BK166.out 2).trans rfl, (blk_cell BK166.out 3).trans rfl⟩ (fun hHeld => ?_)
                                  clear hK K
                                  refine norm_ (a' := ?_) ?_ ?_
                                  rotate_left
                                  · show Act.put _ (some 78) _ = _
                                    simp only [Act.put, List.setIfInBounds_toArray, List.set_cons_zero, List.set_cons_succ, i64_w, i32_w]
                                    rfl
                                  refine pure_ (i := 13) (N := some 8) (v := ?_) (a' := ?_) #[true, true, true, true, true, true, true, true, true, true, true, true, true, true] rfl rfl (any_of HT_.out (by kernel_rfl)) (fun _ _ _ h => h) (Or.inl ⟨by rfl, ?_⟩) ?_ ?_
                                  rotate_left
                                  · intro w'
                                    go_simp
                                    with_reducible rfl
                                  rotate_left
                                  · simp only [Act.put, List.setIfInBounds_toArray, List.set_cons_zero, List.set_cons_succ, i64_w, i32_w]
                                    rfl
                                  refine done_ (done_of HT_.out (by kernel_rfl)) ?_
                                  obtain ⟨Ao65, co65, eo65⟩ := Kd.R_slice HO177.out
                                  subst eo65
                                  have p61 : 0 ≤ ((ji58) : Int) := of_decide_eq_true (by first | (with_reducible assumption) | assumption)
                                  have q61 : ((ji58) : Int) < ((y175.length : Int) : Int) := of_decide_eq_true (by first | (with_reducible assumption) | assumption)
                                  obtain ⟨go61, co61, eo61, gb61, gl61, cl61, HG61⟩ := Kd.R_form HO177.out (by omega)
                                  (first | cases eo61 | (injection eo61 with ea_ en_ ec_; (first | subst ea_ | (injection ea_ with ea_; subst ea_)); subst ec_; clear en_))
                                  have GB61 := Aside0.mk gb61
                                  have GG61 := Aside0.mk HG61
                                  clear gb61 gl61 HG61
                                  obtain ⟨ce61, hcl61, hM61, hcc61, hfr61⟩ := Kd.R_elem HO177.out z34 ((ji58) : Int) p61 q61
                                  obtain rfl := k34_openM hM61
                                  have hx61_0 : w64.cell? ⟨go61, ((ji58) : Int).toNat * 4, none⟩ = some (.int .i64 ((rd_T34 y175 (ji58)).f0)) := hcc61 0 _ rfl
                                  have hx61_1 : w64.cell? ⟨go61, ((ji58) : Int).toNat * 4 + 1, none⟩ = some (.int .i64 ((rd_T34 y175 (ji58)).f1)) := hcc61 1 _ rfl
                                  have hx61_2 : w64.cell? ⟨go61, ((ji58) : Int).toNat * 4 + 2, none⟩ = some (.int .i64 ((rd_T34 y175 (ji58)).f2)) := hcc61 2 _ rfl
                                  have hx61_3 : w64.cell? ⟨go61, ((ji58) : Int).toNat * 4 + 3, none⟩ = some (.int .i64 ((rd_T34 y175 (ji58)).f3)) := hcc61 3 _ rfl
                                  have hf61_0 : w64.frozen? ⟨go61, ((ji58) : Int).toNat * 4, none⟩ = false := hfr61 0
                                  have hf61_1 : w64.frozen? ⟨go61, ((ji58) : Int).toNat * 4 + 1, none⟩ = false := hfr61 1
                                  have hf61_2 : w64.frozen? ⟨go61, ((ji58) : Int).toNat * 4 + 2, none⟩ = false := hfr61 2
                                  have hf61_3 : w64.frozen? ⟨go61, ((ji58) : Int).toNat * 4 + 3, none⟩ = false := hfr61 3
                                  clear hcl61 hcc61 hfr61 hM61
                                  replace p61 := eq_true p61
                                  replace q61 := eq_true q61
                                  have HX66 := Aside0.mk (show Kd.R k34 34 w64 w.heap.size (fun _ => True) (.slice (some ⟨go61, 0, none⟩) y175.length co65) y175 from (by (with_reducible repeat (first | apply Kd.R_alloc | apply Kd.R_drewN | apply Kd.R_drew)); exact HO177.out))
                                  obtain ⟨ce66, hcl66, hM66, hcc66, hfr66⟩ := Kd.R_elem HX66.out z34 ((ji58) : Int) (of_decide_eq_true (by first | (with_reducible assumption) | assumption)) (by have h_ : ((ji58) : Int) < ((y175.length : Int) : Int) := of_decide_eq_true (by first | (with_reducible assumption) | assumption); first | exact h_ | (have e_ := (Kd.R_reads' HO177.out).1; omega) | simpa using h_)
                                  obtain rfl := k34_openM hM66
                                  have HP66 := Kd.R_seg HX66.out ((ji58) : Int) (of_decide_eq_true (by first | (with_reducible assumption) | assumption)) (by have h_ : ((ji58) : Int) < ((y175.length : Int) : Int) := of_decide_eq_true (by first | (with_reducible assumption) | assumption); first | exact h_ | (have e_ := (Kd.R_reads' HO177.out).1; omega) | simpa using h_) (seg := [.int .i64 (wrap64 ((Int.tmod x9_2 a0_2) + 1))]) (j := 3) hcl66 hcc66 (show 4 ≤ 4 from by decide) (x' := (⟨(rd_T34 y175 (ji58)).f0, (rd_T34 y175 (ji58)).f1, (rd_T34 y175 (ji58)).f2, wrap64 ((Int.tmod x9_2 a0_2) + 1)⟩ : S34)) (k34_mkM _ _ _ (⟨(rd_T34 y175 (ji58)).f0, (rd_T34 y175 (ji58)).f1, (rd_T34 y175 (ji58)).f2, wrap64 ((Int.tmod x9_2 a0_2) + 1)⟩ : S34) ) (fun _ hk => hk)
                                  have hx66_3 := hcc66 3 _ rfl
                                  (try simp only [show (k34).sz = 4 from rfl, Nat.mul_one, Nat.add_zero] at hx66_3)
                                  have hf66_3 := hfr66 3
                                  (try simp only [show (k34).sz = 4 from rfl, Nat.mul_one, Nat.add_zero] at hf66_3)
                                  clear hcl66 hcc66 hfr66 hM66
                                  try go_wp2_with (first | ((with_reducible refine gate_store (t := 3) (p := 86) rfl ?_); refine store_event (t := 3) (p := 86) (v := ?vo_w67) (w1 := (w64.setCell ⟨go61, ((ji58) : Int).toNat * 4 + 3, none⟩ (.int .i64 (wrap64 ((Int.tmod x9_2 a0_2) + 1))))) ?hg ?ho ?hn ?hr ?_; (case ho => rfl); (case hg => rfl); (case hn => rfl); (case hr => first | (go_simp; done) | (go_simp; rfl)); intro w67 hw; have hg : w64.grownBy w67 (some go61) := (by rw [hw]; exact HP66.2); have hp_ : Kd.R k34 34 w67 w.heap.size (fun _ => True) (.slice (some ⟨go61, 0, none⟩) y175.length co65) y178 := (by rw [hw, Ny178.out]; exact HP66.1); clear HP66; have n0_ := Aside0.mk (blk_grown (g := gb166) (o := .cells #[.int .i64 a0_0, .int .i64 a0_1, .int .i64 a0_2, .int .i64 a0_3] 23 (0, 0)) (by (with_reducible repeat (first | refine blk_drewN ?_ _ | refine blk_drew ?_ | refine blk_alloc ?_ _)); exact BK166.out) hg (Kd.R_ne HO177.out BK166.out (by decide))); have n1_ := Aside0.mk (hp_); have n2_ := Aside0.mk ((by rw [hw]; exact below_set (HB.out) GB61.out : Below w.heap.size w w67)); clear BK166; clear HO177; clear HB; have BK166 := n0_; have HO177 := n1_; have HB := n2_; clear n0_ n1_ n2_; clear hg hw hp_))
                                  go_roundg k2
                                  case measure => have := HJ3.out; have := HK2.out; omega
                                  case rel => exact ⟨(y178), (wrap64 (x9_2 + 1)), (by first | rfl | (simp; done) | (simp [*]; done)), H', ⟨by have := HJ3.out; have := HK2.out; omega⟩, ⟨by (with_reducible repeat (first | apply Kd.R_alloc | apply Kd.R_drewN | apply Kd.R_drew)); exact HO177.out⟩, ⟨by (with_reducible repeat (first | refine blk_drewN ?_ _ | refine blk_drew ?_ | refine blk_alloc ?_ _)); exact BK166.out⟩, ⟨by repeat (first | (with_reducible first | exact HB.out | apply below_alloc | apply pw_below_drewN | apply below_drew1 | refine below_set ?_ GE166.out) | exact HB.out)⟩⟩
                                · rw [if_neg c60] at H
                                  exact absurd H (by simp)
                              · rw [if_neg c59] at H
                                exact absurd H (by simp)
                            · rw [if_neg c57] at H
                              exact absurd H (by simp)
                        · rw [if_neg c55] at H
                          have c55b0 : ((Int.tmod x9_2 a0_2) == 0) = false := beq_eq_false_iff_ne.mpr c55
                          have c55b1 : ((Int.tmod x9_2 a0_2) != 0) = true := bne_iff_ne.mpr c55
                          obtain ⟨ji68, hji68⟩ : ∃ j_ : Int, (wrap64 ((x8_2.length : Int) - 1)) = j_ := ⟨_, rfl⟩
                          replace H : (if 0 ≤ (ji68) then (if (ji68) < (x8_2.length : Int) then (twoslotref06_Spans.l0 k2 a1 a2 (x8_2.set ((ji68) : Int).toNat (⟨(rd_T34 x8_2 (ji68)).f0, (rd_T34 x8_2 (ji68)).f1, (rd_T34 x8_2 (ji68)).f2, wrap64 ((Int.tmod x9_2 a0_2) + 1)⟩ : S34)) (wrap64 (x9_2 + 1)) a0_0 a0_1 a0_2 a0_3) else (none)) else (none)) = some (r1, r2) := by first | (rw [hji68] at H; exact H) | (simp only [hji68] at H ⊢; exact H)
                          have hji68w : (IntKind.i64.wrap ((x8_2.length : Int) - 1)) = ji68 := (i64_w _).trans hji68
                          by_cases c69 : 0 ≤ (ji68)
                          · rw [if_pos c69] at H
                            have c69b0 : decide (0 ≤ (ji68)) = true := decide_eq_true c69
                            clear c69
                            by_cases c70 : (ji68) < (x8_2.length : Int)
                            · rw [if_pos c70] at H
                              have c70b0 : decide ((ji68) < (x8_2.length : Int)) = true := decide_eq_true c70
                              clear c70
                              obtain ⟨y179, hy179⟩ : ∃ y_ : List (S34), y_ = (x8_2.set ((ji68) : Int).toNat (⟨(rd_T34 x8_2 (ji68)).f0, (rd_T34 x8_2 (ji68)).f1, (rd_T34 x8_2 (ji68)).f2, wrap64 ((Int.tmod x9_2 a0_2) + 1)⟩ : S34)) := ⟨_, rfl⟩
                              replace H : (twoslotref06_Spans.l0 k2 a1 a2 y179 (wrap64 (x9_2 + 1)) a0_0 a0_1 a0_2 a0_3) = some (r1, r2) := by first | (rw [hy179]; with_reducible exact H) | (have H2_ := (Option.bind_some _ _).symm.trans H; rw [hy179]; with_reducible exact H2_) | (have H2_ := (Option.bind_some _ _).symm.trans H; with_reducible exact H2_) | with_reducible exact H | (rw [hy179]; exact H) | exact H
                              have Ny179 := Aside0.mk hy179
                              clear hy179
                              have H' := Aside0.mk H
                              clear H
                              have hcz72_0 : wr.cell? ⟨gb166, 0, none⟩ = some (.int .i64 a0_0) := (blk_cell BK166.out 0).trans rfl
                              have hcz72_1 : wr.cell? ⟨gb166, 1, none⟩ = some (.int .i64 a0_1) := (blk_cell BK166.out 1).trans rfl
                              have hcz72_2 : wr.cell? ⟨gb166, 2, none⟩ = some (.int .i64 a0_2) := (blk_cell BK166.out 2).trans rfl
                              have hcz72_3 : wr.cell? ⟨gb166, 3, none⟩ = some (.int .i64 a0_3) := (blk_cell BK166.out 3).trans rfl
                              have hfz72_0 := blk_frozen BK166.out 0
                              have hfz72_1 := blk_frozen BK166.out 1
                              have hfz72_2 := blk_frozen BK166.out 2
                              have hfz72_3 := blk_frozen BK166.out 3
                              obtain ⟨Ao73, co73, eo73⟩ := Kd.R_slice HO_8.out
                              subst eo73
                              have p71 : 0 ≤ ((ji68) : Int) := of_decide_eq_true (by first | (with_reducible assumption) | assumption)
                              have q71 : ((ji68) : Int) < ((x8_2.length : Int) : Int) := of_decide_eq_true (by first | (with_reducible assumption) | assumption)
                              obtain ⟨go71, co71, eo71, gb71, gl71, cl71, HG71⟩ := Kd.R_form HO_8.out (by omega)
                              (first | cases eo71 | (injection eo71 with ea_ en_ ec_; (first | subst ea_ | (injection ea_ with ea_; subst ea_)); subst ec_; clear en_))
                              have GB71 := Aside0.mk gb71
                              have GG71 := Aside0.mk HG71
                              clear gb71 gl71 HG71
                              obtain ⟨ce71, hcl71, hM71, hcc71, hfr71⟩ := Kd.R_elem HO_8.out z34 ((ji68) : Int) p71 q71
                              obtain rfl := k34_openM hM71
                              have hx71_0 : wr.cell? ⟨go71, ((ji68) : Int).toNat * 4, none⟩ = some (.int .i64 ((rd_T34 x8_2 (ji68)).f0)) := hcc71 0 _ rfl
                              have hx71_1 : wr.cell? ⟨go71, ((ji68) : Int).toNat * 4 + 1, none⟩ = some (.int .i64 ((rd_T34 x8_2 (ji68)).f1)) := hcc71 1 _ rfl
                              have hx71_2 : wr.cell? ⟨go71, ((ji68) : Int).toNat * 4 + 2, none⟩ = some (.int .i64 ((rd_T34 x8_2 (ji68)).f2)) := hcc71 2 _ rfl
                              have hx71_3 : wr.cell? ⟨go71, ((ji68) : Int).toNat * 4 + 3, none⟩ = some (.int .i64 ((rd_T34 x8_2 (ji68)).f3)) := hcc71 3 _ rfl
                              have hf71_0 : wr.frozen? ⟨go71, ((ji68) : Int).toNat * 4, none⟩ = false := hfr71 0
                              have hf71_1 : wr.frozen? ⟨go71, ((ji68) : Int).toNat * 4 + 1, none⟩ = false := hfr71 1
                              have hf71_2 : wr.frozen? ⟨go71, ((ji68) : Int).toNat * 4 + 2, none⟩ = false := hfr71 2
                              have hf71_3 : wr.frozen? ⟨go71, ((ji68) : Int).toNat * 4 + 3, none⟩ = false := hfr71 3
                              clear hcl71 hcc71 hfr71 hM71
                              replace p71 := eq_true p71
                              replace q71 := eq_true q71
                              have HX74 := Aside0.mk (show Kd.R k34 34 wr w.heap.size (fun _ => True) (.slice (some ⟨go71, 0, none⟩) x8_2.length co73) x8_2 from (by (with_reducible repeat (first | apply Kd.R_alloc | apply Kd.R_drewN | apply Kd.R_drew)); exact HO_8.out))
                              obtain ⟨ce74, hcl74, hM74, hcc74, hfr74⟩ := Kd.R_elem HX74.out z34 ((ji68) : Int) (of_decide_eq_true (by first | (with_reducible assumption) | assumption)) (by have h_ : ((ji68) : Int) < ((x8_2.length : Int) : Int) := of_decide_eq_true (by first | (with_reducible assumption) | assumption); first | exact h_ | (have e_ := (Kd.R_reads' HO_8.out).1; omega) | simpa using h_)
                              obtain rfl := k34_openM hM74
                              have HP74 := Kd.R_seg HX74.out ((ji68) : Int) (of_decide_eq_true (by first | (with_reducible assumption) | assumption)) (by have h_ : ((ji68) : Int) < ((x8_2.length : Int) : Int) := of_decide_eq_true (by first | (with_reducible assumption) | assumption); first | exact h_ | (have e_ := (Kd.R_reads' HO_8.out).1; omega) | simpa using h_) (seg := [.int .i64 (wrap64 ((Int.tmod x9_2 a0_2) + 1))]) (j := 3) hcl74 hcc74 (show 4 ≤ 4 from by decide) (x' := (⟨(rd_T34 x8_2 (ji68)).f0, (rd_T34 x8_2 (ji68)).f1, (rd_T34 x8_2 (ji68)).f2, wrap64 ((Int.tmod x9_2 a0_2) + 1)⟩ : S34)) (k34_mkM _ _ _ (⟨(rd_T34 x8_2 (ji68)).f0, (rd_T34 x8_2 (ji68)).f1, (rd_T34 x8_2 (ji68)).f2, wrap64 ((Int.tmod x9_2 a0_2) + 1)⟩ : S34) ) (fun _ hk => hk)
                              have hx74_3 := hcc74 3 _ rfl
                              (try simp only [show (k34).sz = 4 from rfl, Nat.mul_one, Nat.add_zero] at hx74_3)
                              have hf74_3 := hfr74 3
                              (try simp only [show (k34).sz = 4 from rfl, Nat.mul_one, Nat.add_zero] at hf74_3)
                              clear hcl74 hcc74 hfr74 hM74
                              go_wp2_with (first | ((with_reducible refine gate_store (t := 3) (p := 86) rfl ?_); refine store_event (t := 3) (p := 86) (v := ?vo_w75) (w1 := (wr.setCell ⟨go71, ((ji68) : Int).toNat * 4 + 3, none⟩ (.int .i64 (wrap64 ((Int.tmod x9_2 a0_2) + 1))))) ?hg ?ho ?hn ?hr ?_; (case ho => rfl); (case hg => rfl); (case hn => rfl); (case hr => first | (go_simp; done) | (go_simp; rfl)); intro w75 hw; have hg : wr.grownBy w75 (some go71) := (by rw [hw]; exact HP74.2); have hp_ : Kd.R k34 34 w75 w.heap.size (fun _ => True) (.slice (some ⟨go71, 0, none⟩) x8_2.length co73) y179 := (by rw [hw, Ny179.out]; exact HP74.1); clear HP74; have n0_ := Aside0.mk (hp_); have n1_ := Aside0.mk (blk_grown (g := gb166) (o := .cells #[.int .i64 a0_0, .int .i64 a0_1, .int .i64 a0_2, .int .i64 a0_3] 23 (0, 0)) (by (with_reducible repeat (first | refine blk_drewN ?_ _ | refine blk_drew ?_ | refine blk_alloc ?_ _)); exact BK166.out) hg (Kd.R_ne HO_8.out BK166.out (by decide))); have n2_ := Aside0.mk ((by rw [hw]; exact below_set (HB.out) GB71.out : Below w.heap.size w w75)); clear HO_8; clear BK166; clear HB; have HO_8 := n0_; have BK166 := n1_; have HB := n2_; clear n0_ n1_ n2_; clear hg hw hp_))
                              go_roundg k2
                              case measure => have := HJ3.out; have := HK2.out; omega
                              case rel => exact ⟨(y179), (wrap64 (x9_2 + 1)), (by first | rfl | (simp; done) | (simp [*]; done)), H', ⟨by have := HJ3.out; have := HK2.out; omega⟩, ⟨by (with_reducible repeat (first | apply Kd.R_alloc | apply Kd.R_drewN | apply Kd.R_drew)); exact HO_8.out⟩, ⟨by (with_reducible repeat (first | refine blk_drewN ?_ _ | refine blk_drew ?_ | refine blk_alloc ?_ _)); exact BK166.out⟩, ⟨by repeat (first | (with_reducible first | exact HB.out | apply below_alloc | apply pw_below_drewN | apply below_drew1 | refine below_set ?_ GE166.out) | exact HB.out)⟩⟩
                            · rw [if_neg c70] at H
                              exact absurd H (by simp)
                          · rw [if_neg c69] at H
                            exact absurd H (by simp)
                  · rw [if_neg c40] at H
                    have c40b0 : decide (x9_2 < (wrap64 (a1 + a2))) = false := decide_eq_false c40
                    clear c40
                    simp only [Option.some.injEq, Prod.mk.injEq] at H
                    obtain ⟨rfl, rfl⟩ := H
                    go_wp2
                    go_ret2
                    exact ⟨_, by first | rfl | (simp [errW_none, errW_some] <;> rfl) | (simp [*, errW_none, errW_some] <;> rfl), by (with_reducible repeat (first | apply Kd.R_alloc | apply Kd.R_drewN | apply Kd.R_drew)); exact HO_8.out, by repeat (first | (with_reducible first | exact HB.out | apply below_alloc | apply pw_below_drewN | apply below_drew1 | refine below_set ?_ GE166.out) | exact HB.out)⟩

end Go.Proofs.Ytgcodjkedifpaaa.P

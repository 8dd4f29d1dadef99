-- Written by a program of this session, after the kit's print.
import Derived.Test.YtdpllcmpndcbnaaPx0
import Derived.Test.YtdpllcmpndcbnaaPx2
import Derived.Test.YtdpllcmpndcbnaaPx3
import Derived.Test.YtdpllcmpndcbnaaPx5
import Derived.Test.YtdpllcmpndcbnaaPx6
import Derived.Test.YtdpllcmpndcbnaaPx7
import Derived.Test.YtdpllcmpndcbnaaPx8
namespace Go.Proofs.Ytdpllcmpndcbnaa.P
open Go.RowKit Go.Proofs.YtdpllcmpndcbnaaW.PrintWords Go.Proofs.YtdpllcmpndcbnaaW.PrintLast Go.Proofs.YtdpllcmpndcbnaaW.PrintMore
attribute [local go_sem] max2_int min2_int max_two min_two max_three min_three max_four min_four   -- for this text's walks alone
set_option linter.unusedVariables false
set_option linter.unusedSimpArgs false

/-! ### twoslotlaw15_DescBack: function 6 -/
mutual
def twoslotlaw15_DescBack.j0 : Nat → List Int → Bool → Int → Int → Int → Int → Int → Int → List (S27) → Option (Bool)
  | 0, _, _, _, _, _, _, _, _, _ => none
  | k + 1, x2, x28, x535000, x535001, x535002, x535003, x536000, x536001, x536002 => if x28 = true then (some true) else ((desc_Bytes.f k x535000 x535001 x535002 x535003 x536000 x536001 x536002).bind fun bt537 => (if bt537.2 = 0 then ((layout_Width.f x535000 x535001 x535002 x535003).bind fun bt541 => ((desc_Parse.f k x535000 x535001 x535002 x535003 bt537.1).bind fun bt543 => (if bt541.2 = 0 then (if bt543.2.2.2 = 0 then (if (bt537.1.length : Int) = bt541.1 then ((twoslotref15_Same.f k bt543.1 bt543.2.1 bt543.2.2.1 x536000 x536001 x536002).bind fun t550 => (if t550 = true then (twoslotlaw15_DescBack.j1 k x2 x535000 x535001 x535002 x535003) else (none))) else (none)) else (none)) else (none)))) else (if (bt537.1.length : Int) = 0 then (twoslotlaw15_DescBack.j1 k x2 x535000 x535001 x535002 x535003) else (none))))
def twoslotlaw15_DescBack.j1 : Nat → List Int → Int → Int → Int → Int → Option (Bool)
  | 0, _, _, _, _, _ => none
  | k + 1, x2, x535000, x535001, x535002, x535003 => (desc_Parse.f k x535000 x535001 x535002 x535003 x2).bind fun bt551 => (if bt551.2.2.2 = 0 then ((desc_Bytes.f k x535000 x535001 x535002 x535003 bt551.1 bt551.2.1 bt551.2.2.1).bind fun bt558 => (if bt558.2 = 0 then (some ((strOfNums bt558.1).toList == (strOfNums x2).toList)) else (none))) else (if bt551.1 = 0 then (if bt551.2.1 = 0 then (some ((bt551.2.2.1.length : Int) == 0)) else (none)) else (none)))
end
def twoslotlaw15_DescBack.f (k : Nat) (a0_0 : Int) (a0_1 : Int) (a0_2 : Int) (a0_3 : Int) (a1_0 : Int) (a1_1 : Int) (l1_2 : List (S27)) (l2 : List Int) : Option (Bool) := (twoslotlaw15_alive.f k).bind fun t536 => (if t536 = true then (if (l1_2.length : Int) > 500 then (twoslotlaw15_DescBack.j0 k l2 true a0_0 a0_1 a0_2 a0_3 a1_0 a1_1 l1_2) else (twoslotlaw15_DescBack.j0 k l2 (decide ((l2.length : Int) > 5000)) a0_0 a0_1 a0_2 a0_3 a1_0 a1_1 l1_2)) else (none))
theorem twoslotlaw15_DescBack.mono_l : ∀ k, (∀ y0 y1 y2 y3 y4 y5 y6 y7 y8, LeO (twoslotlaw15_DescBack.j0 k y0 y1 y2 y3 y4 y5 y6 y7 y8) (twoslotlaw15_DescBack.j0 (k + 1) y0 y1 y2 y3 y4 y5 y6 y7 y8)) ∧ (∀ y0 y1 y2 y3 y4, LeO (twoslotlaw15_DescBack.j1 k y0 y1 y2 y3 y4) (twoslotlaw15_DescBack.j1 (k + 1) y0 y1 y2 y3 y4))
  | 0 => ⟨fun _ _ _ _ _ _ _ _ _ r h => by simp [twoslotlaw15_DescBack.j0] at h, fun _ _ _ _ _ r h => by simp [twoslotlaw15_DescBack.j1] at h⟩
  | k + 1 => by
    obtain ⟨ih0, ih1⟩ := twoslotlaw15_DescBack.mono_l k
    refine ⟨?_, ?_⟩
    · intro y0 y1 y2 y3 y4 y5 y6 y7 y8
      unfold twoslotlaw15_DescBack.j0
      repeat' first
      | (with_reducible exact ih0 _ _ _ _ _ _ _ _ _)
      | (with_reducible exact ih1 _ _ _ _ _)
      | (with_reducible exact desc_Bytes.mono _ _ _ _ _ _ _ _)
      | (with_reducible exact desc_Parse.mono _ _ _ _ _ _)
      | (with_reducible exact twoslotlaw15_alive.mono _)
      | (with_reducible exact twoslotref15_Same.mono _ _ _ _ _ _ _)
      | (with_reducible exact LeO.refl _)
      | (with_reducible exact LeO.none _)
      | (with_reducible refine LeO.ite ?_ ?_)
      | (with_reducible refine LeO.bind ?_ (fun _ => ?_))
      | exact ih0 _ _ _ _ _ _ _ _ _
      | exact ih1 _ _ _ _ _
      | exact desc_Bytes.mono _ _ _ _ _ _ _ _
      | exact desc_Parse.mono _ _ _ _ _ _
      | exact twoslotlaw15_alive.mono _
      | exact twoslotref15_Same.mono _ _ _ _ _ _ _
      | exact LeO.none _
      | refine LeO.ite ?_ ?_
      | refine LeO.bind ?_ (fun _ => ?_)
    · intro y0 y1 y2 y3 y4
      unfold twoslotlaw15_DescBack.j1
      repeat' first
      | (with_reducible exact ih0 _ _ _ _ _ _ _ _ _)
      | (with_reducible exact ih1 _ _ _ _ _)
      | (with_reducible exact desc_Bytes.mono _ _ _ _ _ _ _ _)
      | (with_reducible exact desc_Parse.mono _ _ _ _ _ _)
      | (with_reducible exact twoslotlaw15_alive.mono _)
      | (with_reducible exact twoslotref15_Same.mono _ _ _ _ _ _ _)
      | (with_reducible exact LeO.refl _)
      | (with_reducible exact LeO.none _)
      | (with_reducible refine LeO.ite ?_ ?_)
      | (with_reducible refine LeO.bind ?_ (fun _ => ?_))
      | exact ih0 _ _ _ _ _ _ _ _ _
      | exact ih1 _ _ _ _ _
      | exact desc_Bytes.mono _ _ _ _ _ _ _ _
      | exact desc_Parse.mono _ _ _ _ _ _
      | exact twoslotlaw15_alive.mono _
      | exact twoslotref15_Same.mono _ _ _ _ _ _ _
      | exact LeO.none _
      | refine LeO.ite ?_ ?_
      | refine LeO.bind ?_ (fun _ => ?_)
theorem twoslotlaw15_DescBack.mono : ∀ a0 a1 a2 a3 a4 a5 a6 a7 k, LeO (twoslotlaw15_DescBack.f k a0 a1 a2 a3 a4 a5 a6 a7) (twoslotlaw15_DescBack.f (k + 1) a0 a1 a2 a3 a4 a5 a6 a7) := by
  intro a0 a1 a2 a3 a4 a5 a6 a7 k
  obtain ⟨ih0, ih1⟩ := twoslotlaw15_DescBack.mono_l k
  unfold twoslotlaw15_DescBack.f
  repeat' first
      | (with_reducible exact ih0 _ _ _ _ _ _ _ _ _)
      | (with_reducible exact ih1 _ _ _ _ _)
      | (with_reducible exact desc_Bytes.mono _ _ _ _ _ _ _ _)
      | (with_reducible exact desc_Parse.mono _ _ _ _ _ _)
      | (with_reducible exact twoslotlaw15_alive.mono _)
      | (with_reducible exact twoslotref15_Same.mono _ _ _ _ _ _ _)
      | (with_reducible exact LeO.refl _)
      | (with_reducible exact LeO.none _)
      | (with_reducible refine LeO.ite ?_ ?_)
      | (with_reducible refine LeO.bind ?_ (fun _ => ?_))
      | exact ih0 _ _ _ _ _ _ _ _ _
      | exact ih1 _ _ _ _ _
      | exact desc_Bytes.mono _ _ _ _ _ _ _ _
      | exact desc_Parse.mono _ _ _ _ _ _
      | exact twoslotlaw15_alive.mono _
      | exact twoslotref15_Same.mono _ _ _ _ _ _ _
      | exact LeO.none _
      | refine LeO.ite ?_ ?_
      | refine LeO.bind ?_ (fun _ => ?_)
set_option maxHeartbeats 8000000 in
set_option maxRecDepth 100000 in
theorem twoslotlaw15_DescBack.calls (k : Nat) (a0_0 : Int) (a0_1 : Int) (a0_2 : Int) (a0_3 : Int) (a1_0 : Int) (a1_1 : Int) (A1_2 : Option Addr) (c1_2 : Nat) (l1_2 : List (S27)) (A2 : Option Addr) (c2 : Nat) (l2 : List Int) (r : Bool) (w : World) (hr1_2 : Kd.C k27 w A1_2 l1_2.length l1_2) (hc1_2 : l1_2.length ≤ c1_2) (hr2 : Kd.C (Kd.int .u8) w A2 l2.length l2) (hc2 : l2.length ≤ c2) (h : twoslotlaw15_DescBack.f k a0_0 a0_1 a0_2 a0_3 a1_0 a1_1 l1_2 l2 = some r) :
    Calls Try.prog 6 #[.agg #[.int .i64 a0_0, .int .i64 a0_1, .int .i64 a0_2, .int .i64 a0_3], .agg #[.int .i64 a1_0, .int .i64 a1_1, .slice A1_2 l1_2.length c1_2], .slice A2 l2.length c2] w fun e w' => e = .returned (.bool r) ∧ Below w.heap.size w w' := by
  have hu24 := Try.underlying24
  have hu35 := Try.underlying35
  have HR1_2 := Aside0.mk hr1_2
  have HC1_2 := Aside0.mk hc1_2
  clear hr1_2 hc1_2
  have HR2 := Aside0.mk hr2
  have HC2 := Aside0.mk hc2
  clear hr2 hc2
  have HB := Aside0.mk (Below.refl w.heap.size w)
  have H : ((twoslotlaw15_alive.f k).bind fun t536 => (if t536 = true then (if (l1_2.length : Int) > 500 then (twoslotlaw15_DescBack.j0 k l2 true a0_0 a0_1 a0_2 a0_3 a1_0 a1_1 l1_2) else (twoslotlaw15_DescBack.j0 k l2 (decide ((l2.length : Int) > 5000)) a0_0 a0_1 a0_2 a0_3 a1_0 a1_1 l1_2)) else (none))) = some r := h
  clear h
  replace H := Option.bind_eq_some_iff.mp H
  obtain ⟨t536, A40, H⟩ := H
  replace H : (if t536 = true then (if (l1_2.length : Int) > 500 then (twoslotlaw15_DescBack.j0 k l2 true a0_0 a0_1 a0_2 a0_3 a1_0 a1_1 l1_2) else (twoslotlaw15_DescBack.j0 k l2 (decide ((l2.length : Int) > 5000)) a0_0 a0_1 a0_2 a0_3 a1_0 a1_1 l1_2)) else (none)) = some r := H
  have A4 := Aside0.mk A40
  clear A40
  by_cases c5 : t536 = true
  · subst c5
    have H1 : (if (l1_2.length : Int) > 500 then (twoslotlaw15_DescBack.j0 k l2 true a0_0 a0_1 a0_2 a0_3 a1_0 a1_1 l1_2) else (twoslotlaw15_DescBack.j0 k l2 (decide ((l2.length : Int) > 5000)) a0_0 a0_1 a0_2 a0_3 a1_0 a1_1 l1_2)) = some r := by rw [if_pos rfl] at H; exact H
    clear H
    have H := H1
    clear H1
    have HC6 := Aside0.mk H
    clear H
    go_enter Try.func6, Try.ntmps6
    go_upto_region 4 with (first | ((with_reducible refine gate_dst (N := 3) rfl ?_); (try (refine gate_guard (by rfl) ?_; dsimp only)); refine box_event ?hg (N := 3) ?hd (cs := #[.int .i64 a0_0, .int .i64 a0_1, .int .i64 a0_2, .int .i64 a0_3]) (t := 24) ?hr ?_; (case hd => rfl); (case hg => rfl); (case hr => first | (go_simp; done) | (go_simp; rfl)); intro gb534 hg w7 hbox hb; have n0_ := Aside0.mk (below_step (by repeat (first | (with_reducible first | exact HB.out | apply below_alloc | apply pw_below_drewN | apply below_drew1) | exact HB.out)) hb); have n1_ := Aside0.mk (hbox); have n2_ := Aside0.mk ((by rw [hg]; exact (below_size (by repeat (first | (with_reducible first | exact HB.out | apply below_alloc | apply pw_below_drewN | apply below_drew1) | exact HB.out))) : w.heap.size ≤ gb534)); have n3_ := Aside0.mk ((by rw [hg]; exact (below_size (by repeat (first | (with_reducible first | exact HB.out | apply below_alloc | apply pw_below_drewN | apply below_drew1) | exact HB.out))) : w.heap.size ≤ gb534)); clear HB; have HB := n0_; have BK534 := n1_; have GW534 := n2_; have GE534 := n3_; clear n0_ n1_ n2_ n3_; clear hb hbox hg) | ((with_reducible refine gate_dst (N := 4) rfl ?_); (try (refine gate_guard (by rfl) ?_; dsimp only)); refine box_event ?hg (N := 4) ?hd (cs := #[.int .i64 a1_0, .int .i64 a1_1, .slice A1_2 l1_2.length c1_2]) (t := 35) ?hr ?_; (case hd => rfl); (case hg => rfl); (case hr => first | (go_simp; done) | (go_simp; rfl)); intro gb535 hg w8 hbox hb; have n0_ := Aside0.mk (blk_below (g := gb534) (o := .cells #[.int .i64 a0_0, .int .i64 a0_1, .int .i64 a0_2, .int .i64 a0_3] 24 (0, 0)) (by (with_reducible repeat (first | refine blk_drewN ?_ _ | refine blk_drew ?_ | refine blk_alloc ?_ _)); exact BK534.out) hb); have n1_ := Aside0.mk (below_step (by repeat (first | (with_reducible first | exact HB.out | apply below_alloc | apply pw_below_drewN | apply below_drew1 | refine below_set ?_ GE534.out) | exact HB.out)) hb); have n2_ := Aside0.mk (hbox); have n3_ := Aside0.mk ((by rw [hg]; exact (below_size (by repeat (first | (with_reducible first | exact HB.out | apply below_alloc | apply pw_below_drewN | apply below_drew1 | refine below_set ?_ GE534.out) | exact HB.out))) : w.heap.size ≤ gb535)); have n4_ := Aside0.mk ((by rw [hg]; exact (below_size (by repeat (first | (with_reducible first | exact HB.out | apply below_alloc | apply pw_below_drewN | apply below_drew1 | refine below_set ?_ GE534.out) | exact HB.out))) : w.heap.size ≤ gb535)); have n5_ := Aside0.mk ((by rw [hg]; exact Nat.ne_of_lt (blk_lt (g := gb534) (o := .cells #[.int .i64 a0_0, .int .i64 a0_1, .int .i64 a0_2, .int .i64 a0_3] 24 (0, 0)) (by (with_reducible repeat (first | refine blk_drewN ?_ _ | refine blk_drew ?_ | refine blk_alloc ?_ _)); exact BK534.out)) : gb534 ≠ gb535)); have n6_ := Aside0.mk ((by rw [hg]; exact Nat.ne_of_gt (blk_lt (g := gb534) (o := .cells #[.int .i64 a0_0, .int .i64 a0_1, .int .i64 a0_2, .int .i64 a0_3] 24 (0, 0)) (by (with_reducible repeat (first | refine blk_drewN ?_ _ | refine blk_drew ?_ | refine blk_alloc ?_ _)); exact BK534.out)) : gb535 ≠ gb534)); clear BK534; clear HB; have BK534 := n0_; have HB := n1_; have BK535 := n2_; have GW535 := n3_; have GE535 := n4_; have NB534_535 := n5_; have NB535_534 := n6_; clear n0_ n1_ n2_ n3_ n4_ n5_ n6_; clear hb hbox hg) | ((with_reducible refine gate_callee (f := 9) rfl ?_); refine goesL_ (some 17) rfl rfl Try.func9 (by kernel_rfl) rfl #[] rfl (by (try simp only [List.map_toArray, List.map_cons, List.map_nil]); first | done | rfl | (simp only [List.length_drop, List.length_take]; rfl)) ?_; (with_reducible refine (twoslotlaw15_alive.calls k  true _ A4.out).mono ?_); rintro e w9 ⟨rfl, hb⟩; refine ⟨_, rfl, ?_⟩; have n0_ := Aside0.mk (blk_below (g := gb534) (o := .cells #[.int .i64 a0_0, .int .i64 a0_1, .int .i64 a0_2, .int .i64 a0_3] 24 (0, 0)) (by (with_reducible repeat (first | refine blk_drewN ?_ _ | refine blk_drew ?_ | refine blk_alloc ?_ _)); exact BK534.out) hb); have n1_ := Aside0.mk (blk_below (g := gb535) (o := .cells #[.int .i64 a1_0, .int .i64 a1_1, .slice A1_2 l1_2.length c1_2] 35 (0, 0)) (by (with_reducible repeat (first | refine blk_drewN ?_ _ | refine blk_drew ?_ | refine blk_alloc ?_ _)); exact BK535.out) hb); have n2_ := Aside0.mk (below_step (by repeat (first | (with_reducible first | exact HB.out | apply below_alloc | apply pw_below_drewN | apply below_drew1 | refine below_set ?_ GE534.out | refine below_set ?_ GE535.out) | exact HB.out)) hb); clear BK534; clear BK535; clear HB; have BK534 := n0_; have BK535 := n1_; have HB := n2_; clear n0_ n1_ n2_; (try clear hb); (try clear hb2); (try clear hk); (try clear hi)))
    (try simp only [Act.put, List.setIfInBounds_toArray, List.set_cons_zero, List.set_cons_succ])
    go_cut [28] (fun v28 wc => ∃ (kq : Nat) (x28_5 : Bool), v28 = .bool x28_5 ∧ Aside0 (twoslotlaw15_DescBack.j0 kq l2 x28_5 a0_0 a0_1 a0_2 a0_3 a1_0 a1_1 l1_2 = some r) ∧ Aside0 (kq ≤ k) ∧ Aside0 (wc.heap[gb534]? = some (.cells #[.int .i64 a0_0, .int .i64 a0_1, .int .i64 a0_2, .int .i64 a0_3] 24 (0, 0))) ∧ Aside0 (wc.heap[gb535]? = some (.cells #[.int .i64 a1_0, .int .i64 a1_1, (.slice A1_2 l1_2.length c1_2)] 35 (0, 0))) ∧ Aside0 (Below w.heap.size w wc))
    case first =>
      have H := HC6.out
      clear HC6
      by_cases c10 : (l1_2.length : Int) > 500
      · rw [if_pos c10] at H
        have c10b0 : decide (500 < (l1_2.length : Int)) = true := decide_eq_true c10
        have c10b1 : decide (500 < l1_2.length) = true := decide_eq_true (by omega)
        clear c10
        (first | rw [c10b0] | (simp only [i64_w, i32_w]; rw [c10b0]) | skip)
        have H' := Aside0.mk H
        clear H
        have hnb11 := NB535_534.out
        have hnc11 := NB534_535.out
        have hcz12_0 : w9.cell? ⟨gb535, 0, none⟩ = some (.int .i64 a1_0) := (blk_cell BK535.out 0).trans rfl
        have hcz12_1 : w9.cell? ⟨gb535, 1, none⟩ = some (.int .i64 a1_1) := (blk_cell BK535.out 1).trans rfl
        have hcz12_2 : w9.cell? ⟨gb535, 2, none⟩ = some (.slice A1_2 l1_2.length c1_2) := (blk_cell BK535.out 2).trans rfl
        have hfz12_0 := blk_frozen BK535.out 0
        have hfz12_1 := blk_frozen BK535.out 1
        have hfz12_2 := blk_frozen BK535.out 2
        go_wp2
        go_meet
        case rel => exact ⟨_, (true), (by first | rfl | (simp; done) | (simp [*]; done)), H', ⟨by first | omega | exact Nat.le_refl _⟩, ⟨by (with_reducible repeat (first | refine blk_drewN ?_ _ | refine blk_drew ?_ | refine blk_alloc ?_ _)); exact BK534.out⟩, ⟨by (with_reducible repeat (first | refine blk_drewN ?_ _ | refine blk_drew ?_ | refine blk_alloc ?_ _)); exact BK535.out⟩, ⟨by repeat (first | (with_reducible first | exact HB.out | apply below_alloc | apply pw_below_drewN | apply below_drew1 | refine below_set ?_ GE534.out | refine below_set ?_ GE535.out) | exact HB.out)⟩⟩
      · rw [if_neg c10] at H
        have c10b0 : decide (500 < (l1_2.length : Int)) = false := decide_eq_false c10
        have c10b1 : decide (500 < l1_2.length) = false := decide_eq_false (by omega)
        clear c10
        (first | rw [c10b0] | (simp only [i64_w, i32_w]; rw [c10b0]) | skip)
        have H' := Aside0.mk H
        clear H
        have hnb13 := NB535_534.out
        have hnc13 := NB534_535.out
        have hcz14_0 : w9.cell? ⟨gb535, 0, none⟩ = some (.int .i64 a1_0) := (blk_cell BK535.out 0).trans rfl
        have hcz14_1 : w9.cell? ⟨gb535, 1, none⟩ = some (.int .i64 a1_1) := (blk_cell BK535.out 1).trans rfl
        have hcz14_2 : w9.cell? ⟨gb535, 2, none⟩ = some (.slice A1_2 l1_2.length c1_2) := (blk_cell BK535.out 2).trans rfl
        have hfz14_0 := blk_frozen BK535.out 0
        have hfz14_1 := blk_frozen BK535.out 1
        have hfz14_2 := blk_frozen BK535.out 2
        go_wp2
        go_meet
        case rel => exact ⟨_, (decide ((l2.length : Int) > 5000)), (by first | rfl | (simp; done) | (simp [*]; done)), H', ⟨by first | omega | exact Nat.le_refl _⟩, ⟨by (with_reducible repeat (first | refine blk_drewN ?_ _ | refine blk_drew ?_ | refine blk_alloc ?_ _)); exact BK534.out⟩, ⟨by (with_reducible repeat (first | refine blk_drewN ?_ _ | refine blk_drew ?_ | refine blk_alloc ?_ _)); exact BK535.out⟩, ⟨by repeat (first | (with_reducible first | exact HB.out | apply below_alloc | apply pw_below_drewN | apply below_drew1 | refine below_set ?_ GE534.out | refine below_set ?_ GE535.out) | exact HB.out)⟩⟩
    case rest =>
      clear HC6
      try clear c1
      try clear c2
      try clear p2
      try clear c5
      try clear c6
      try clear c9
      try clear c10
      try clear c10b0
      try clear c10b1
      try clear c11
      try clear c13
      try clear hcz12_0
      try clear hcz12_1
      try clear hcz12_2
      try clear hcz14_0
      try clear hcz14_1
      try clear hcz14_2
      try clear hfz12_0
      try clear hfz12_1
      try clear hfz12_2
      try clear hfz14_0
      try clear hfz14_1
      try clear hfz14_2
      obtain ⟨kq, x28_5, rfl, HA, HJ5, BK534, BK535, HB⟩ := hcut
      cases kq with
      | zero => exact absurd HA.out (by simp [twoslotlaw15_DescBack.j0])
      | succ kj5 =>
        have H := HA.out
        clear HA
        simp only [twoslotlaw15_DescBack.j0] at H
        by_cases c15 : x28_5 = true
        · subst c15
          have H1 : (some true) = some r := by rw [if_pos rfl] at H; exact H
          clear H
          have H := H1
          clear H1
          obtain rfl := Option.some.inj H
          go_wp2
          go_ret
          exact ⟨by first | rfl | (simp [errW_none, errW_some] <;> rfl) | (simp [*, errW_none, errW_some] <;> rfl), by repeat (first | (with_reducible first | exact HB.out | apply below_alloc | apply pw_below_drewN | apply below_drew1 | refine below_set ?_ GE534.out | refine below_set ?_ GE535.out) | exact HB.out)⟩
        · replace c15 := Bool.eq_false_iff.mpr c15
          subst c15
          have H1 : ((desc_Bytes.f kj5 a0_0 a0_1 a0_2 a0_3 a1_0 a1_1 l1_2).bind fun bt537 => (if bt537.2 = 0 then ((layout_Width.f a0_0 a0_1 a0_2 a0_3).bind fun bt541 => ((desc_Parse.f kj5 a0_0 a0_1 a0_2 a0_3 bt537.1).bind fun bt543 => (if bt541.2 = 0 then (if bt543.2.2.2 = 0 then (if (bt537.1.length : Int) = bt541.1 then ((twoslotref15_Same.f kj5 bt543.1 bt543.2.1 bt543.2.2.1 a1_0 a1_1 l1_2).bind fun t550 => (if t550 = true then (twoslotlaw15_DescBack.j1 kj5 l2 a0_0 a0_1 a0_2 a0_3) else (none))) else (none)) else (none)) else (none)))) else (if (bt537.1.length : Int) = 0 then (twoslotlaw15_DescBack.j1 kj5 l2 a0_0 a0_1 a0_2 a0_3) else (none)))) = some r := by rw [if_neg (show ¬ (false = true) by decide)] at H; exact H
          clear H
          have H := H1
          clear H1
          replace H := Option.bind_eq_some_iff.mp H
          obtain ⟨⟨t537, t540⟩, A160, H⟩ := H
          replace H : (if t540 = 0 then ((layout_Width.f a0_0 a0_1 a0_2 a0_3).bind fun bt541 => ((desc_Parse.f kj5 a0_0 a0_1 a0_2 a0_3 t537).bind fun bt543 => (if bt541.2 = 0 then (if bt543.2.2.2 = 0 then (if (t537.length : Int) = bt541.1 then ((twoslotref15_Same.f kj5 bt543.1 bt543.2.1 bt543.2.2.1 a1_0 a1_1 l1_2).bind fun t550 => (if t550 = true then (twoslotlaw15_DescBack.j1 kj5 l2 a0_0 a0_1 a0_2 a0_3) else (none))) else (none)) else (none)) else (none)))) else (if (t537.length : Int) = 0 then (twoslotlaw15_DescBack.j1 kj5 l2 a0_0 a0_1 a0_2 a0_3) else (none))) = some r := H
          have A16 := Aside0.mk A160
          clear A160
          have HC17 := Aside0.mk H
          clear H
          have hnb18 := NB534_535.out
          have hnc18 := NB535_534.out
          have hcz19_0 : wc.cell? ⟨gb534, 0, none⟩ = some (.int .i64 a0_0) := (blk_cell BK534.out 0).trans rfl
          have hcz19_1 : wc.cell? ⟨gb534, 1, none⟩ = some (.int .i64 a0_1) := (blk_cell BK534.out 1).trans rfl
          have hcz19_2 : wc.cell? ⟨gb534, 2, none⟩ = some (.int .i64 a0_2) := (blk_cell BK534.out 2).trans rfl
          have hcz19_3 : wc.cell? ⟨gb534, 3, none⟩ = some (.int .i64 a0_3) := (blk_cell BK534.out 3).trans rfl
          have hfz19_0 := blk_frozen BK534.out 0
          have hfz19_1 := blk_frozen BK534.out 1
          have hfz19_2 := blk_frozen BK534.out 2
          have hfz19_3 := blk_frozen BK534.out 3
          have hcz20_0 : wc.cell? ⟨gb535, 0, none⟩ = some (.int .i64 a1_0) := (blk_cell BK535.out 0).trans rfl
          have hcz20_1 : wc.cell? ⟨gb535, 1, none⟩ = some (.int .i64 a1_1) := (blk_cell BK535.out 1).trans rfl
          have hcz20_2 : wc.cell? ⟨gb535, 2, none⟩ = some (.slice A1_2 l1_2.length c1_2) := (blk_cell BK535.out 2).trans rfl
          have hfz20_0 := blk_frozen BK535.out 0
          have hfz20_1 := blk_frozen BK535.out 1
          have hfz20_2 := blk_frozen BK535.out 2
          go_upto_if 36 with (first | ((with_reducible refine gate_callee (f := 14) rfl ?_); refine goesL_ (some 32) rfl rfl Try.func14 (by kernel_rfl) rfl #[.agg #[.int .i64 a0_0, .int .i64 a0_1, .int .i64 a0_2, .int .i64 a0_3], .agg #[.int .i64 a1_0, .int .i64 a1_1, .slice A1_2 l1_2.length c1_2]] rfl (by (try simp only [List.map_toArray, List.map_cons, List.map_nil]); first | done | rfl | (simp only [List.length_drop, List.length_take]; rfl)) ?_; (with_reducible refine (desc_Bytes.calls kj5 a0_0 a0_1 a0_2 a0_3 a1_0 a1_1 _ _ l1_2 t537 t540 _ ?side1 ?side2 A16.out).mono ?_); (case side1 => repeat (first | exact (Kd.C_below HR1_2.out HB.out) | (with_reducible refine Kd.C_alloc ?_ _) | (with_reducible refine Kd.C_drewN ?_ _) | (with_reducible refine Kd.C_drew ?_))); (case side2 => exact HC1_2.out); rintro e w21 ⟨v538, rfl, ho0, hb⟩; refine ⟨_, rfl, ?_⟩; have n0_ := Aside0.mk (Kd.R_lower ho0 (below_size (by repeat (first | (with_reducible first | exact HB.out | apply below_alloc | apply pw_below_drewN | apply below_drew1 | refine below_set ?_ GE534.out | refine below_set ?_ GE535.out) | exact HB.out)))); have n1_ := Aside0.mk (blk_below (g := gb534) (o := .cells #[.int .i64 a0_0, .int .i64 a0_1, .int .i64 a0_2, .int .i64 a0_3] 24 (0, 0)) (by (with_reducible repeat (first | refine blk_drewN ?_ _ | refine blk_drew ?_ | refine blk_alloc ?_ _)); exact BK534.out) hb); have n2_ := Aside0.mk (blk_below (g := gb535) (o := .cells #[.int .i64 a1_0, .int .i64 a1_1, .slice A1_2 l1_2.length c1_2] 35 (0, 0)) (by (with_reducible repeat (first | refine blk_drewN ?_ _ | refine blk_drew ?_ | refine blk_alloc ?_ _)); exact BK535.out) hb); have n3_ := Aside0.mk (below_step (by repeat (first | (with_reducible first | exact HB.out | apply below_alloc | apply pw_below_drewN | apply below_drew1 | refine below_set ?_ GE534.out | refine below_set ?_ GE535.out) | exact HB.out)) hb); clear BK534; clear BK535; clear HB; have HO539 := n0_; have BK534 := n1_; have BK535 := n2_; have HB := n3_; clear n0_ n1_ n2_ n3_; (try clear hb); (try clear hb2); (try clear hk); (try clear hi); (try clear ho0)))
          (try simp only [Act.put, List.setIfInBounds_toArray, List.set_cons_zero, List.set_cons_succ])
          go_cut [] (fun wc => ∃ (kq : Nat), Aside0 (twoslotlaw15_DescBack.j1 kq l2 a0_0 a0_1 a0_2 a0_3 = some r) ∧ Aside0 (kq ≤ kj5) ∧ Aside0 (wc.heap[gb534]? = some (.cells #[.int .i64 a0_0, .int .i64 a0_1, .int .i64 a0_2, .int .i64 a0_3] 24 (0, 0))) ∧ Aside0 (wc.heap[gb535]? = some (.cells #[.int .i64 a1_0, .int .i64 a1_1, (.slice A1_2 l1_2.length c1_2)] 35 (0, 0))) ∧ Aside0 (Below w.heap.size w wc))
          case first =>
            have H := HC17.out
            clear HC17
            by_cases c22 : t540 = 0
            · rw [if_pos c22] at H
              have c22b0 : (t540 == 0) = true := beq_iff_eq.mpr c22
              have c22b1 : (t540 != 0) = false := bne_eq_false_iff_eq.mpr c22
              clear c22
              (first | rw [c22b0] | (simp only [i64_w, i32_w]; rw [c22b0]) | skip)
              replace H := Option.bind_eq_some_iff.mp H
              obtain ⟨⟨t541, t542⟩, A230, H⟩ := H
              replace H : ((desc_Parse.f kj5 a0_0 a0_1 a0_2 a0_3 t537).bind fun bt543 => (if t542 = 0 then (if bt543.2.2.2 = 0 then (if (t537.length : Int) = t541 then ((twoslotref15_Same.f kj5 bt543.1 bt543.2.1 bt543.2.2.1 a1_0 a1_1 l1_2).bind fun t550 => (if t550 = true then (twoslotlaw15_DescBack.j1 kj5 l2 a0_0 a0_1 a0_2 a0_3) else (none))) else (none)) else (none)) else (none))) = some r := H
              have A23 := Aside0.mk A230
              clear A230
              replace H := Option.bind_eq_some_iff.mp H
              obtain ⟨⟨t543, t544, t545, t548⟩, A240, H⟩ := H
              replace H : (if t542 = 0 then (if t548 = 0 then (if (t537.length : Int) = t541 then ((twoslotref15_Same.f kj5 t543 t544 t545 a1_0 a1_1 l1_2).bind fun t550 => (if t550 = true then (twoslotlaw15_DescBack.j1 kj5 l2 a0_0 a0_1 a0_2 a0_3) else (none))) else (none)) else (none)) else (none)) = some r := H
              have A24 := Aside0.mk A240
              clear A240
              by_cases c25 : t542 = 0
              · rw [if_pos c25] at H
                have c25b0 : (t542 == 0) = true := beq_iff_eq.mpr c25
                have c25b1 : (t542 != 0) = false := bne_eq_false_iff_eq.mpr c25
                clear c25
                by_cases c26 : t548 = 0
                · rw [if_pos c26] at H
                  have c26b0 : (t548 == 0) = true := beq_iff_eq.mpr c26
                  have c26b1 : (t548 != 0) = false := bne_eq_false_iff_eq.mpr c26
                  clear c26
                  by_cases c27 : (t537.length : Int) = t541
                  · rw [if_pos c27] at H
                    have c27b0 : ((t537.length : Int) == t541) = true := beq_iff_eq.mpr c27
                    have c27b1 : ((t537.length : Int) != t541) = false := bne_eq_false_iff_eq.mpr c27
                    clear c27
                    replace H := Option.bind_eq_some_iff.mp H
                    obtain ⟨t550, A280, H⟩ := H
                    replace H : (if t550 = true then (twoslotlaw15_DescBack.j1 kj5 l2 a0_0 a0_1 a0_2 a0_3) else (none)) = some r := H
                    have A28 := Aside0.mk A280
                    clear A280
                    by_cases c29 : t550 = true
                    · subst c29
                      have H1 : (twoslotlaw15_DescBack.j1 kj5 l2 a0_0 a0_1 a0_2 a0_3) = some r := by rw [if_pos rfl] at H; exact H
                      clear H
                      have H := H1
                      clear H1
                      have H' := Aside0.mk H
                      clear H
                      have hnb30 := NB534_535.out
                      have hnc30 := NB535_534.out
                      have hcz31_0 : w21.cell? ⟨gb534, 0, none⟩ = some (.int .i64 a0_0) := (blk_cell BK534.out 0).trans rfl
                      have hcz31_1 : w21.cell? ⟨gb534, 1, none⟩ = some (.int .i64 a0_1) := (blk_cell BK534.out 1).trans rfl
                      have hcz31_2 : w21.cell? ⟨gb534, 2, none⟩ = some (.int .i64 a0_2) := (blk_cell BK534.out 2).trans rfl
                      have hcz31_3 : w21.cell? ⟨gb534, 3, none⟩ = some (.int .i64 a0_3) := (blk_cell BK534.out 3).trans rfl
                      have hfz31_0 := blk_frozen BK534.out 0
                      have hfz31_1 := blk_frozen BK534.out 1
                      have hfz31_2 := blk_frozen BK534.out 2
                      have hfz31_3 := blk_frozen BK534.out 3
                      go_wp2_with (first | ((with_reducible refine gate_callee (f := 26) rfl ?_); refine goesL_ (some 39) rfl rfl Try.func26 (by kernel_rfl) rfl #[.agg #[.int .i64 a0_0, .int .i64 a0_1, .int .i64 a0_2, .int .i64 a0_3]] rfl (by (try simp only [List.map_toArray, List.map_cons, List.map_nil]); first | done | rfl | (simp only [List.length_drop, List.length_take]; rfl)) ?_; (with_reducible refine (layout_Width.calls a0_0 a0_1 a0_2 a0_3 t541 t542 _ A23.out).mono ?_); rintro e w32 ⟨rfl, hb⟩; refine ⟨_, rfl, ?_⟩; have n0_ := Aside0.mk (Kd.R_below (by (with_reducible repeat (first | apply Kd.R_alloc | apply Kd.R_drewN | apply Kd.R_drew)); exact HO539.out) hb); have n1_ := Aside0.mk (blk_below (g := gb534) (o := .cells #[.int .i64 a0_0, .int .i64 a0_1, .int .i64 a0_2, .int .i64 a0_3] 24 (0, 0)) (by (with_reducible repeat (first | refine blk_drewN ?_ _ | refine blk_drew ?_ | refine blk_alloc ?_ _)); exact BK534.out) hb); have n2_ := Aside0.mk (blk_below (g := gb535) (o := .cells #[.int .i64 a1_0, .int .i64 a1_1, .slice A1_2 l1_2.length c1_2] 35 (0, 0)) (by (with_reducible repeat (first | refine blk_drewN ?_ _ | refine blk_drew ?_ | refine blk_alloc ?_ _)); exact BK535.out) hb); have n3_ := Aside0.mk (below_step (by repeat (first | (with_reducible first | exact HB.out | apply below_alloc | apply pw_below_drewN | apply below_drew1 | refine below_set ?_ GE534.out | refine below_set ?_ GE535.out) | exact HB.out)) hb); clear HO539; clear BK534; clear BK535; clear HB; have HO539 := n0_; have BK534 := n1_; have BK535 := n2_; have HB := n3_; clear n0_ n1_ n2_ n3_; (try clear hb); (try clear hb2); (try clear hk); (try clear hi); have hcz33_0 : w32.cell? ⟨gb534, 0, none⟩ = some (.int .i64 a0_0) := (blk_cell BK534.out 0).trans rfl; have hcz33_1 : w32.cell? ⟨gb534, 1, none⟩ = some (.int .i64 a0_1) := (blk_cell BK534.out 1).trans rfl; have hcz33_2 : w32.cell? ⟨gb534, 2, none⟩ = some (.int .i64 a0_2) := (blk_cell BK534.out 2).trans rfl; have hcz33_3 : w32.cell? ⟨gb534, 3, none⟩ = some (.int .i64 a0_3) := (blk_cell BK534.out 3).trans rfl; have hfz33_0 := blk_frozen BK534.out 0; have hfz33_1 := blk_frozen BK534.out 1; have hfz33_2 := blk_frozen BK534.out 2; have hfz33_3 := blk_frozen BK534.out 3; obtain ⟨Ao34, co34, eo34⟩ := Kd.R_slice HO539.out; subst eo34) | ((with_reducible refine gate_callee (f := 15) rfl ?_); refine goesL_ (some 45) rfl rfl Try.func15 (by kernel_rfl) rfl #[.agg #[.int .i64 a0_0, .int .i64 a0_1, .int .i64 a0_2, .int .i64 a0_3], .slice Ao34 t537.length co34] rfl (by (try simp only [List.map_toArray, List.map_cons, List.map_nil]); first | done | rfl | (simp only [List.length_drop, List.length_take]; rfl)) ?_; (with_reducible refine (desc_Parse.calls kj5 a0_0 a0_1 a0_2 a0_3 _ _ t537 t543 t544 t545 t548 _ ?side1 ?side2 A24.out).mono ?_); (case side1 => repeat (first | exact (Kd.R_reads' HO539.out).2.2 | (with_reducible refine Kd.C_alloc ?_ _) | (with_reducible refine Kd.C_drewN ?_ _) | (with_reducible refine Kd.C_drew ?_))); (case side2 => exact (Kd.R_reads' HO539.out).2.1); rintro e w35 ⟨v546, rfl, ho0, hb⟩; refine ⟨_, rfl, ?_⟩; have n0_ := Aside0.mk (Kd.R_below (by (with_reducible repeat (first | apply Kd.R_alloc | apply Kd.R_drewN | apply Kd.R_drew)); exact HO539.out) hb); have n1_ := Aside0.mk (Kd.R_lower ho0 (below_size (by repeat (first | (with_reducible first | exact HB.out | apply below_alloc | apply pw_below_drewN | apply below_drew1 | refine below_set ?_ GE534.out | refine below_set ?_ GE535.out) | exact HB.out)))); have n2_ := Aside0.mk (blk_below (g := gb534) (o := .cells #[.int .i64 a0_0, .int .i64 a0_1, .int .i64 a0_2, .int .i64 a0_3] 24 (0, 0)) (by (with_reducible repeat (first | refine blk_drewN ?_ _ | refine blk_drew ?_ | refine blk_alloc ?_ _)); exact BK534.out) hb); have n3_ := Aside0.mk (blk_below (g := gb535) (o := .cells #[.int .i64 a1_0, .int .i64 a1_1, .slice A1_2 l1_2.length c1_2] 35 (0, 0)) (by (with_reducible repeat (first | refine blk_drewN ?_ _ | refine blk_drew ?_ | refine blk_alloc ?_ _)); exact BK535.out) hb); have n4_ := Aside0.mk (below_step (by repeat (first | (with_reducible first | exact HB.out | apply below_alloc | apply pw_below_drewN | apply below_drew1 | refine below_set ?_ GE534.out | refine below_set ?_ GE535.out) | exact HB.out)) hb); clear HO539; clear BK534; clear BK535; clear HB; have HO539 := n0_; have HO547 := n1_; have BK534 := n2_; have BK535 := n3_; have HB := n4_; clear n0_ n1_ n2_ n3_ n4_; (try clear hb); (try clear hb2); (try clear hk); (try clear hi); (try clear ho0)) | ((with_reducible refine gate_dst (N := 12) rfl ?_); (try (refine gate_guard (by rfl) ?_; dsimp only)); refine box_event ?hg (N := 12) ?hd (cs := #[.int .i64 0, .int .i64 0, .slice none 0 0]) (t := 35) ?hr ?_; (case hd => rfl); (case hg => rfl); (case hr => first | (go_simp; done) | (go_simp; rfl)); intro gb549 hg w36 hbox hb; have n0_ := Aside0.mk (Kd.R_below (by (with_reducible repeat (first | apply Kd.R_alloc | apply Kd.R_drewN | apply Kd.R_drew)); exact HO539.out) hb); have n1_ := Aside0.mk (Kd.R_below (by (with_reducible repeat (first | apply Kd.R_alloc | apply Kd.R_drewN | apply Kd.R_drew)); exact HO547.out) hb); have n2_ := Aside0.mk (blk_below (g := gb534) (o := .cells #[.int .i64 a0_0, .int .i64 a0_1, .int .i64 a0_2, .int .i64 a0_3] 24 (0, 0)) (by (with_reducible repeat (first | refine blk_drewN ?_ _ | refine blk_drew ?_ | refine blk_alloc ?_ _)); exact BK534.out) hb); have n3_ := Aside0.mk (blk_below (g := gb535) (o := .cells #[.int .i64 a1_0, .int .i64 a1_1, .slice A1_2 l1_2.length c1_2] 35 (0, 0)) (by (with_reducible repeat (first | refine blk_drewN ?_ _ | refine blk_drew ?_ | refine blk_alloc ?_ _)); exact BK535.out) hb); have n4_ := Aside0.mk (below_step (by repeat (first | (with_reducible first | exact HB.out | apply below_alloc | apply pw_below_drewN | apply below_drew1 | refine below_set ?_ GE534.out | refine below_set ?_ GE535.out) | exact HB.out)) hb); have n5_ := Aside0.mk (hbox); have n6_ := Aside0.mk ((by rw [hg]; exact (below_size (by repeat (first | (with_reducible first | exact HB.out | apply below_alloc | apply pw_below_drewN | apply below_drew1 | refine below_set ?_ GE534.out | refine below_set ?_ GE535.out) | exact HB.out))) : w.heap.size ≤ gb549)); have n7_ := Aside0.mk ((by rw [hg]; exact (below_size (by repeat (first | (with_reducible first | exact HB.out | apply below_alloc | apply pw_below_drewN | apply below_drew1 | refine below_set ?_ GE534.out | refine below_set ?_ GE535.out) | exact HB.out))) : w.heap.size ≤ gb549)); have n8_ := Aside0.mk ((by rw [hg]; exact Nat.ne_of_lt (blk_lt (g := gb534) (o := .cells #[.int .i64 a0_0, .int .i64 a0_1, .int .i64 a0_2, .int .i64 a0_3] 24 (0, 0)) (by (with_reducible repeat (first | refine blk_drewN ?_ _ | refine blk_drew ?_ | refine blk_alloc ?_ _)); exact BK534.out)) : gb534 ≠ gb549)); have n9_ := Aside0.mk ((by rw [hg]; exact Nat.ne_of_gt (blk_lt (g := gb534) (o := .cells #[.int .i64 a0_0, .int .i64 a0_1, .int .i64 a0_2, .int .i64 a0_3] 24 (0, 0)) (by (with_reducible repeat (first | refine blk_drewN ?_ _ | refine blk_drew ?_ | refine blk_alloc ?_ _)); exact BK534.out)) : gb549 ≠ gb534)); have n10_ := Aside0.mk ((by rw [hg]; exact Nat.ne_of_lt (blk_lt (g := gb535) (o := .cells #[.int .i64 a1_0, .int .i64 a1_1, .slice A1_2 l1_2.length c1_2] 35 (0, 0)) (by (with_reducible repeat (first | refine blk_drewN ?_ _ | refine blk_drew ?_ | refine blk_alloc ?_ _)); exact BK535.out)) : gb535 ≠ gb549)); have n11_ := Aside0.mk ((by rw [hg]; exact Nat.ne_of_gt (blk_lt (g := gb535) (o := .cells #[.int .i64 a1_0, .int .i64 a1_1, .slice A1_2 l1_2.length c1_2] 35 (0, 0)) (by (with_reducible repeat (first | refine blk_drewN ?_ _ | refine blk_drew ?_ | refine blk_alloc ?_ _)); exact BK535.out)) : gb549 ≠ gb535)); clear HO539; clear HO547; clear BK534; clear BK535; clear HB; have HO539 := n0_; have HO547 := n1_; have BK534 := n2_; have BK535 := n3_; have HB := n4_; have BK549 := n5_; have GW549 := n6_; have GE549 := n7_; have NB534_549 := n8_; have NB549_534 := n9_; have NB535_549 := n10_; have NB549_535 := n11_; clear n0_ n1_ n2_ n3_ n4_ n5_ n6_ n7_ n8_ n9_ n10_ n11_; clear hb hbox hg; have hnb37 := NB549_534.out; have hnc37 := NB534_549.out; have hnb38 := NB549_535.out; have hnc38 := NB535_549.out; have hcz39_0 : w36.cell? ⟨gb549, 0, none⟩ = some (.int .i64 0) := (blk_cell BK549.out 0).trans rfl; have hcz39_1 : w36.cell? ⟨gb549, 1, none⟩ = some (.int .i64 0) := (blk_cell BK549.out 1).trans rfl; have hcz39_2 : w36.cell? ⟨gb549, 2, none⟩ = some (.slice none 0 0) := (blk_cell BK549.out 2).trans rfl; have hfz39_0 := blk_frozen BK549.out 0; have hfz39_1 := blk_frozen BK549.out 1; have hfz39_2 := blk_frozen BK549.out 2; obtain ⟨Ao40, co40, eo40⟩ := Kd.R_slice HO547.out; subst eo40; have hcz41_0 : w36.cell? ⟨gb535, 0, none⟩ = some (.int .i64 a1_0) := (blk_cell BK535.out 0).trans rfl; have hcz41_1 : w36.cell? ⟨gb535, 1, none⟩ = some (.int .i64 a1_1) := (blk_cell BK535.out 1).trans rfl; have hcz41_2 : w36.cell? ⟨gb535, 2, none⟩ = some (.slice A1_2 l1_2.length c1_2) := (blk_cell BK535.out 2).trans rfl; have hfz41_0 := blk_frozen BK535.out 0; have hfz41_1 := blk_frozen BK535.out 1; have hfz41_2 := blk_frozen BK535.out 2) | (go_at_call 24; (with_reducible refine (twoslotref15_Same.calls kj5 t543 t544 _ _ t545 a1_0 a1_1 _ _ l1_2 true _ ?side1 ?side2 ?side3 ?side4 A28.out).mono ?_); (case side1 => refine (Kd.R_reads' (e := 27) (base := w.heap.size) (ok := fun k_ => True) (n := t545.length) (c := co40) ?_).2.2; exact (by (with_reducible repeat (first | apply Kd.R_alloc | apply Kd.R_drewN | apply Kd.R_drew)); exact (Kd.R_mono (Kd.R_far (p := ⟨gb549, 2, none⟩) (Kd.R_far (p := ⟨gb549, 1, none⟩) (Kd.R_far (p := ⟨gb549, 0, none⟩) (Kd.R_types HO547.out BK549.out (by decide)) (fun _ hk => hk.2) (.int .i64 t543)) (fun _ hk => hk.2) (.int .i64 t544)) (fun _ hk => hk.2) (.slice Ao40 t545.length co40)) (fun _ h_ => h_.1)))); (case side2 => exact (Kd.R_reads' HO547.out).2.1); (case side3 => exact Kd.C_below HR1_2.out (by repeat (first | (with_reducible first | exact HB.out | apply below_alloc | apply pw_below_drewN | apply below_drew1 | refine below_set ?_ GE534.out | refine below_set ?_ GE535.out | refine below_set ?_ GE549.out) | exact HB.out))); (case side4 => exact HC1_2.out); rintro e w42 ⟨rfl, hb⟩; have n0_ := Aside0.mk (Kd.R_below (by (with_reducible repeat (first | apply Kd.R_alloc | apply Kd.R_drewN | apply Kd.R_drew)); exact (Kd.R_mono (Kd.R_far (p := ⟨gb549, 2, none⟩) (Kd.R_far (p := ⟨gb549, 1, none⟩) (Kd.R_far (p := ⟨gb549, 0, none⟩) (Kd.R_types HO539.out BK549.out (by decide)) (fun _ hk => hk.2) (.int .i64 t543)) (fun _ hk => hk.2) (.int .i64 t544)) (fun _ hk => hk.2) (.slice Ao40 t545.length co40)) (fun _ h_ => h_.1))) hb); have n1_ := Aside0.mk (Kd.R_below (by (with_reducible repeat (first | apply Kd.R_alloc | apply Kd.R_drewN | apply Kd.R_drew)); exact (Kd.R_mono (Kd.R_far (p := ⟨gb549, 2, none⟩) (Kd.R_far (p := ⟨gb549, 1, none⟩) (Kd.R_far (p := ⟨gb549, 0, none⟩) (Kd.R_types HO547.out BK549.out (by decide)) (fun _ hk => hk.2) (.int .i64 t543)) (fun _ hk => hk.2) (.int .i64 t544)) (fun _ hk => hk.2) (.slice Ao40 t545.length co40)) (fun _ h_ => h_.1))) hb); have n2_ := Aside0.mk (blk_below (g := gb534) (o := .cells #[.int .i64 a0_0, .int .i64 a0_1, .int .i64 a0_2, .int .i64 a0_3] 24 (0, 0)) (by (with_reducible repeat (first | refine blk_drewN ?_ _ | refine blk_drew ?_ | refine blk_alloc ?_ _)); refine blk_far ?_ NB534_549.out _; (with_reducible repeat (first | refine blk_drewN ?_ _ | refine blk_drew ?_ | refine blk_alloc ?_ _)); refine blk_far ?_ NB534_549.out _; (with_reducible repeat (first | refine blk_drewN ?_ _ | refine blk_drew ?_ | refine blk_alloc ?_ _)); refine blk_far ?_ NB534_549.out _; (with_reducible repeat (first | refine blk_drewN ?_ _ | refine blk_drew ?_ | refine blk_alloc ?_ _)); exact BK534.out) hb); have n3_ := Aside0.mk (blk_below (g := gb535) (o := .cells #[.int .i64 a1_0, .int .i64 a1_1, .slice A1_2 l1_2.length c1_2] 35 (0, 0)) (by (with_reducible repeat (first | refine blk_drewN ?_ _ | refine blk_drew ?_ | refine blk_alloc ?_ _)); refine blk_far ?_ NB535_549.out _; (with_reducible repeat (first | refine blk_drewN ?_ _ | refine blk_drew ?_ | refine blk_alloc ?_ _)); refine blk_far ?_ NB535_549.out _; (with_reducible repeat (first | refine blk_drewN ?_ _ | refine blk_drew ?_ | refine blk_alloc ?_ _)); refine blk_far ?_ NB535_549.out _; (with_reducible repeat (first | refine blk_drewN ?_ _ | refine blk_drew ?_ | refine blk_alloc ?_ _)); exact BK535.out) hb); have n4_ := Aside0.mk (blk_below (g := gb549) (o := .cells #[.int .i64 t543, .int .i64 t544, .slice Ao40 t545.length co40] 35 (0, 0)) (by (with_reducible repeat (first | refine blk_drewN ?_ _ | refine blk_drew ?_ | refine blk_alloc ?_ _)); refine blk_put (cs := #[.int .i64 t543, .int .i64 t544, .slice none 0 0]) ?_ 2 _ rfl; (with_reducible repeat (first | refine blk_drewN ?_ _ | refine blk_drew ?_ | refine blk_alloc ?_ _)); refine blk_put (cs := #[.int .i64 t543, .int .i64 0, .slice none 0 0]) ?_ 1 _ rfl; (with_reducible repeat (first | refine blk_drewN ?_ _ | refine blk_drew ?_ | refine blk_alloc ?_ _)); refine blk_put (cs := #[.int .i64 0, .int .i64 0, .slice none 0 0]) ?_ 0 _ rfl; (with_reducible repeat (first | refine blk_drewN ?_ _ | refine blk_drew ?_ | refine blk_alloc ?_ _)); exact BK549.out) hb); have n5_ := Aside0.mk (below_step (by repeat (first | (with_reducible first | exact HB.out | apply below_alloc | apply pw_below_drewN | apply below_drew1 | refine below_set ?_ GE534.out | refine below_set ?_ GE535.out | refine below_set ?_ GE549.out) | exact HB.out)) hb); clear HO539; clear HO547; clear BK534; clear BK535; clear BK549; clear HB; have HO539 := n0_; have HO547 := n1_; have BK534 := n2_; have BK535 := n3_; have BK549 := n4_; have HB := n5_; clear n0_ n1_ n2_ n3_ n4_ n5_; (try clear hb); (try clear hb2); (try clear hk); (try clear hi)))
                      go_meet
                      case rel => exact ⟨_, H', ⟨by have := HJ5.out; first | omega | exact Nat.le_refl _⟩, ⟨by (with_reducible repeat (first | refine blk_drewN ?_ _ | refine blk_drew ?_ | refine blk_alloc ?_ _)); exact BK534.out⟩, ⟨by (with_reducible repeat (first | refine blk_drewN ?_ _ | refine blk_drew ?_ | refine blk_alloc ?_ _)); exact BK535.out⟩, ⟨by repeat (first | (with_reducible first | exact HB.out | apply below_alloc | apply pw_below_drewN | apply below_drew1 | refine below_set ?_ GE534.out | refine below_set ?_ GE535.out | refine below_set ?_ GE549.out) | exact HB.out)⟩⟩
                    · replace c29 := Bool.eq_false_iff.mpr c29
                      subst c29
                      have H1 : (none) = some r := by rw [if_neg (show ¬ (false = true) by decide)] at H; exact H
                      clear H
                      have H := H1
                      clear H1
                      exact absurd H (by simp)
                  · rw [if_neg c27] at H
                    exact absurd H (by simp)
                · rw [if_neg c26] at H
                  exact absurd H (by simp)
              · rw [if_neg c25] at H
                exact absurd H (by simp)
            · rw [if_neg c22] at H
              have c22b0 : (t540 == 0) = false := beq_eq_false_iff_ne.mpr c22
              have c22b1 : (t540 != 0) = true := bne_iff_ne.mpr c22
              (first | rw [c22b0] | (simp only [i64_w, i32_w]; rw [c22b0]) | skip)
              by_cases c43 : (t537.length : Int) = 0
              · rw [if_pos c43] at H
                have c43b0 : ((t537.length : Int) == 0) = true := beq_iff_eq.mpr c43
                have c43b1 : ((t537.length : Int) != 0) = false := bne_eq_false_iff_eq.mpr c43
                clear c43
                have H' := Aside0.mk H
                clear H
                obtain ⟨Ao44, co44, eo44⟩ := Kd.R_slice HO539.out
                subst eo44
                go_wp2
                go_meet
                case rel => exact ⟨_, H', ⟨by have := HJ5.out; first | omega | exact Nat.le_refl _⟩, ⟨by (with_reducible repeat (first | refine blk_drewN ?_ _ | refine blk_drew ?_ | refine blk_alloc ?_ _)); exact BK534.out⟩, ⟨by (with_reducible repeat (first | refine blk_drewN ?_ _ | refine blk_drew ?_ | refine blk_alloc ?_ _)); exact BK535.out⟩, ⟨by repeat (first | (with_reducible first | exact HB.out | apply below_alloc | apply pw_below_drewN | apply below_drew1 | refine below_set ?_ GE534.out | refine below_set ?_ GE535.out) | exact HB.out)⟩⟩
              · rw [if_neg c43] at H
                exact absurd H (by simp)
          case rest =>
            clear HC17
            try clear c1
            try clear c2
            try clear p2
            try clear c3
            try clear c4
            try clear c5
            try clear c6
            try clear c9
            try clear c10
            try clear c10b0
            try clear c10b1
            try clear c11
            try clear c13
            try clear c14
            try clear c15
            try clear c18
            try clear c22
            try clear c22b0
            try clear c22b1
            try clear c25
            try clear c25b0
            try clear c25b1
            try clear c26
            try clear c26b0
            try clear c26b1
            try clear c27
            try clear c27b0
            try clear c27b1
            try clear c29
            try clear c30
            try clear c37
            try clear c38
            try clear c43
            try clear c43b0
            try clear c43b1
            try clear hcz12_0
            try clear hcz12_1
            try clear hcz12_2
            try clear hcz14_0
            try clear hcz14_1
            try clear hcz14_2
            try clear hcz19_0
            try clear hcz19_1
            try clear hcz19_2
            try clear hcz19_3
            try clear hcz20_0
            try clear hcz20_1
            try clear hcz20_2
            try clear hcz31_0
            try clear hcz31_1
            try clear hcz31_2
            try clear hcz31_3
            try clear hcz33_0
            try clear hcz33_1
            try clear hcz33_2
            try clear hcz33_3
            try clear hcz39_0
            try clear hcz39_1
            try clear hcz39_2
            try clear hcz41_0
            try clear hcz41_1
            try clear hcz41_2
            try clear hfz12_0
            try clear hfz12_1
            try clear hfz12_2
            try clear hfz14_0
            try clear hfz14_1
            try clear hfz14_2
            try clear hfz19_0
            try clear hfz19_1
            try clear hfz19_2
            try clear hfz19_3
            try clear hfz20_0
            try clear hfz20_1
            try clear hfz20_2
            try clear hfz31_0
            try clear hfz31_1
            try clear hfz31_2
            try clear hfz31_3
            try clear hfz33_0
            try clear hfz33_1
            try clear hfz33_2
            try clear hfz33_3
            try clear hfz39_0
            try clear hfz39_1
            try clear hfz39_2
            try clear hfz41_0
            try clear hfz41_1
            try clear hfz41_2
            try clear p2
            obtain ⟨kq, HA, HJ16, BK534, BK535, HB⟩ := hcut
            cases kq with
            | zero => exact absurd HA.out (by simp [twoslotlaw15_DescBack.j1])
            | succ kj16 =>
              have H := HA.out
              clear HA
              simp only [twoslotlaw15_DescBack.j1] at H
              replace H := Option.bind_eq_some_iff.mp H
              obtain ⟨⟨t551, t552, t553, t556⟩, A450, H⟩ := H
              replace H : (if t556 = 0 then ((desc_Bytes.f kj16 a0_0 a0_1 a0_2 a0_3 t551 t552 t553).bind fun bt558 => (if bt558.2 = 0 then (some ((strOfNums bt558.1).toList == (strOfNums l2).toList)) else (none))) else (if t551 = 0 then (if t552 = 0 then (some ((t553.length : Int) == 0)) else (none)) else (none))) = some r := H
              have A45 := Aside0.mk A450
              clear A450
              by_cases c46 : t556 = 0
              · rw [if_pos c46] at H
                have c46b0 : (t556 == 0) = true := beq_iff_eq.mpr c46
                have c46b1 : (t556 != 0) = false := bne_eq_false_iff_eq.mpr c46
                clear c46
                replace H := Option.bind_eq_some_iff.mp H
                obtain ⟨⟨t558, t561⟩, A470, H⟩ := H
                replace H : (if t561 = 0 then (some ((strOfNums t558).toList == (strOfNums l2).toList)) else (none)) = some r := H
                have A47 := Aside0.mk A470
                clear A470
                by_cases c48 : t561 = 0
                · rw [if_pos c48] at H
                  have c48b0 : (t561 == 0) = true := beq_iff_eq.mpr c48
                  have c48b1 : (t561 != 0) = false := bne_eq_false_iff_eq.mpr c48
                  clear c48
                  obtain rfl := Option.some.inj H
                  have hnb49 := NB534_535.out
                  have hnc49 := NB535_534.out
                  have hcz50_0 : wc.cell? ⟨gb534, 0, none⟩ = some (.int .i64 a0_0) := (blk_cell BK534.out 0).trans rfl
                  have hcz50_1 : wc.cell? ⟨gb534, 1, none⟩ = some (.int .i64 a0_1) := (blk_cell BK534.out 1).trans rfl
                  have hcz50_2 : wc.cell? ⟨gb534, 2, none⟩ = some (.int .i64 a0_2) := (blk_cell BK534.out 2).trans rfl
                  have hcz50_3 : wc.cell? ⟨gb534, 3, none⟩ = some (.int .i64 a0_3) := (blk_cell BK534.out 3).trans rfl
                  have hfz50_0 := blk_frozen BK534.out 0
                  have hfz50_1 := blk_frozen BK534.out 1
                  have hfz50_2 := blk_frozen BK534.out 2
                  have hfz50_3 := blk_frozen BK534.out 3
                  go_wp2_with (first | ((with_reducible refine gate_callee (f := 15) rfl ?_); refine goesL_ (some 72) rfl rfl Try.func15 (by kernel_rfl) rfl #[.agg #[.int .i64 a0_0, .int .i64 a0_1, .int .i64 a0_2, .int .i64 a0_3], .slice A2 l2.length c2] rfl (by (try simp only [List.map_toArray, List.map_cons, List.map_nil]); first | done | rfl | (simp only [List.length_drop, List.length_take]; rfl)) ?_; (with_reducible refine (desc_Parse.calls kj16 a0_0 a0_1 a0_2 a0_3 _ _ l2 t551 t552 t553 t556 _ ?side1 ?side2 A45.out).mono ?_); (case side1 => repeat (first | exact (Kd.C_below HR2.out HB.out) | (with_reducible refine Kd.C_alloc ?_ _) | (with_reducible refine Kd.C_drewN ?_ _) | (with_reducible refine Kd.C_drew ?_))); (case side2 => exact HC2.out); rintro e w51 ⟨v554, rfl, ho0, hb⟩; refine ⟨_, rfl, ?_⟩; have n0_ := Aside0.mk (Kd.R_lower ho0 (below_size (by repeat (first | (with_reducible first | exact HB.out | apply below_alloc | apply pw_below_drewN | apply below_drew1 | refine below_set ?_ GE534.out | refine below_set ?_ GE535.out) | exact HB.out)))); have n1_ := Aside0.mk (blk_below (g := gb534) (o := .cells #[.int .i64 a0_0, .int .i64 a0_1, .int .i64 a0_2, .int .i64 a0_3] 24 (0, 0)) (by (with_reducible repeat (first | refine blk_drewN ?_ _ | refine blk_drew ?_ | refine blk_alloc ?_ _)); exact BK534.out) hb); have n2_ := Aside0.mk (blk_below (g := gb535) (o := .cells #[.int .i64 a1_0, .int .i64 a1_1, .slice A1_2 l1_2.length c1_2] 35 (0, 0)) (by (with_reducible repeat (first | refine blk_drewN ?_ _ | refine blk_drew ?_ | refine blk_alloc ?_ _)); exact BK535.out) hb); have n3_ := Aside0.mk (below_step (by repeat (first | (with_reducible first | exact HB.out | apply below_alloc | apply pw_below_drewN | apply below_drew1 | refine below_set ?_ GE534.out | refine below_set ?_ GE535.out) | exact HB.out)) hb); clear BK534; clear BK535; clear HB; have HO555 := n0_; have BK534 := n1_; have BK535 := n2_; have HB := n3_; clear n0_ n1_ n2_ n3_; (try clear hb); (try clear hb2); (try clear hk); (try clear hi); (try clear ho0)) | ((with_reducible refine gate_dst (N := 14) rfl ?_); (try (refine gate_guard (by rfl) ?_; dsimp only)); refine box_event ?hg (N := 14) ?hd (cs := #[.int .i64 0, .int .i64 0, .slice none 0 0]) (t := 35) ?hr ?_; (case hd => rfl); (case hg => rfl); (case hr => first | (go_simp; done) | (go_simp; rfl)); intro gb557 hg w52 hbox hb; have n0_ := Aside0.mk (Kd.R_below (by (with_reducible repeat (first | apply Kd.R_alloc | apply Kd.R_drewN | apply Kd.R_drew)); exact HO555.out) hb); have n1_ := Aside0.mk (blk_below (g := gb534) (o := .cells #[.int .i64 a0_0, .int .i64 a0_1, .int .i64 a0_2, .int .i64 a0_3] 24 (0, 0)) (by (with_reducible repeat (first | refine blk_drewN ?_ _ | refine blk_drew ?_ | refine blk_alloc ?_ _)); exact BK534.out) hb); have n2_ := Aside0.mk (blk_below (g := gb535) (o := .cells #[.int .i64 a1_0, .int .i64 a1_1, .slice A1_2 l1_2.length c1_2] 35 (0, 0)) (by (with_reducible repeat (first | refine blk_drewN ?_ _ | refine blk_drew ?_ | refine blk_alloc ?_ _)); exact BK535.out) hb); have n3_ := Aside0.mk (below_step (by repeat (first | (with_reducible first | exact HB.out | apply below_alloc | apply pw_below_drewN | apply below_drew1 | refine below_set ?_ GE534.out | refine below_set ?_ GE535.out) | exact HB.out)) hb); have n4_ := Aside0.mk (hbox); have n5_ := Aside0.mk ((by rw [hg]; exact (below_size (by repeat (first | (with_reducible first | exact HB.out | apply below_alloc | apply pw_below_drewN | apply below_drew1 | refine below_set ?_ GE534.out | refine below_set ?_ GE535.out) | exact HB.out))) : w.heap.size ≤ gb557)); have n6_ := Aside0.mk ((by rw [hg]; exact (below_size (by repeat (first | (with_reducible first | exact HB.out | apply below_alloc | apply pw_below_drewN | apply below_drew1 | refine below_set ?_ GE534.out | refine below_set ?_ GE535.out) | exact HB.out))) : w.heap.size ≤ gb557)); have n7_ := Aside0.mk ((by rw [hg]; exact Nat.ne_of_lt (blk_lt (g := gb534) (o := .cells #[.int .i64 a0_0, .int .i64 a0_1, .int .i64 a0_2, .int .i64 a0_3] 24 (0, 0)) (by (with_reducible repeat (first | refine blk_drewN ?_ _ | refine blk_drew ?_ | refine blk_alloc ?_ _)); exact BK534.out)) : gb534 ≠ gb557)); have n8_ := Aside0.mk ((by rw [hg]; exact Nat.ne_of_gt (blk_lt (g := gb534) (o := .cells #[.int .i64 a0_0, .int .i64 a0_1, .int .i64 a0_2, .int .i64 a0_3] 24 (0, 0)) (by (with_reducible repeat (first | refine blk_drewN ?_ _ | refine blk_drew ?_ | refine blk_alloc ?_ _)); exact BK534.out)) : gb557 ≠ gb534)); have n9_ := Aside0.mk ((by rw [hg]; exact Nat.ne_of_lt (blk_lt (g := gb535) (o := .cells #[.int .i64 a1_0, .int .i64 a1_1, .slice A1_2 l1_2.length c1_2] 35 (0, 0)) (by (with_reducible repeat (first | refine blk_drewN ?_ _ | refine blk_drew ?_ | refine blk_alloc ?_ _)); exact BK535.out)) : gb535 ≠ gb557)); have n10_ := Aside0.mk ((by rw [hg]; exact Nat.ne_of_gt (blk_lt (g := gb535) (o := .cells #[.int .i64 a1_0, .int .i64 a1_1, .slice A1_2 l1_2.length c1_2] 35 (0, 0)) (by (with_reducible repeat (first | refine blk_drewN ?_ _ | refine blk_drew ?_ | refine blk_alloc ?_ _)); exact BK535.out)) : gb557 ≠ gb535)); clear HO555; clear BK534; clear BK535; clear HB; have HO555 := n0_; have BK534 := n1_; have BK535 := n2_; have HB := n3_; have BK557 := n4_; have GW557 := n5_; have GE557 := n6_; have NB534_557 := n7_; have NB557_534 := n8_; have NB535_557 := n9_; have NB557_535 := n10_; clear n0_ n1_ n2_ n3_ n4_ n5_ n6_ n7_ n8_ n9_ n10_; clear hb hbox hg; have hnb53 := NB557_534.out; have hnc53 := NB534_557.out; have hnb54 := NB557_535.out; have hnc54 := NB535_557.out; have hcz55_0 : w52.cell? ⟨gb557, 0, none⟩ = some (.int .i64 0) := (blk_cell BK557.out 0).trans rfl; have hcz55_1 : w52.cell? ⟨gb557, 1, none⟩ = some (.int .i64 0) := (blk_cell BK557.out 1).trans rfl; have hcz55_2 : w52.cell? ⟨gb557, 2, none⟩ = some (.slice none 0 0) := (blk_cell BK557.out 2).trans rfl; have hfz55_0 := blk_frozen BK557.out 0; have hfz55_1 := blk_frozen BK557.out 1; have hfz55_2 := blk_frozen BK557.out 2; obtain ⟨Ao56, co56, eo56⟩ := Kd.R_slice HO555.out; subst eo56; have hcz57_0 : w52.cell? ⟨gb534, 0, none⟩ = some (.int .i64 a0_0) := (blk_cell BK534.out 0).trans rfl; have hcz57_1 : w52.cell? ⟨gb534, 1, none⟩ = some (.int .i64 a0_1) := (blk_cell BK534.out 1).trans rfl; have hcz57_2 : w52.cell? ⟨gb534, 2, none⟩ = some (.int .i64 a0_2) := (blk_cell BK534.out 2).trans rfl; have hcz57_3 : w52.cell? ⟨gb534, 3, none⟩ = some (.int .i64 a0_3) := (blk_cell BK534.out 3).trans rfl; have hfz57_0 := blk_frozen BK534.out 0; have hfz57_1 := blk_frozen BK534.out 1; have hfz57_2 := blk_frozen BK534.out 2; have hfz57_3 := blk_frozen BK534.out 3) | ((with_reducible refine gate_callee (f := 14) rfl ?_); refine goesL_ (some 94) rfl rfl Try.func14 (by kernel_rfl) rfl #[.agg #[.int .i64 a0_0, .int .i64 a0_1, .int .i64 a0_2, .int .i64 a0_3], .agg #[.int .i64 t551, .int .i64 t552, .slice Ao56 t553.length co56]] rfl (by (try simp only [List.map_toArray, List.map_cons, List.map_nil]); first | done | rfl | (simp only [List.length_drop, List.length_take]; rfl)) ?_; (with_reducible refine (desc_Bytes.calls kj16 a0_0 a0_1 a0_2 a0_3 t551 t552 _ _ t553 t558 t561 _ ?side1 ?side2 A47.out).mono ?_); (case side1 => refine (Kd.R_reads' (e := 27) (base := w.heap.size) (ok := fun k_ => True) (n := t553.length) (c := co56) ?_).2.2; exact (by (with_reducible repeat (first | apply Kd.R_alloc | apply Kd.R_drewN | apply Kd.R_drew)); exact (Kd.R_mono (Kd.R_far (p := ⟨gb557, 2, none⟩) (Kd.R_far (p := ⟨gb557, 1, none⟩) (Kd.R_far (p := ⟨gb557, 0, none⟩) (Kd.R_types HO555.out BK557.out (by decide)) (fun _ hk => hk.2) (.int .i64 t551)) (fun _ hk => hk.2) (.int .i64 t552)) (fun _ hk => hk.2) (.slice Ao56 t553.length co56)) (fun _ h_ => h_.1)))); (case side2 => exact (Kd.R_reads' HO555.out).2.1); rintro e w58 ⟨v559, rfl, ho0, hb⟩; refine ⟨_, rfl, ?_⟩; have n0_ := Aside0.mk (Kd.R_below (by (with_reducible repeat (first | apply Kd.R_alloc | apply Kd.R_drewN | apply Kd.R_drew)); exact (Kd.R_mono (Kd.R_far (p := ⟨gb557, 2, none⟩) (Kd.R_far (p := ⟨gb557, 1, none⟩) (Kd.R_far (p := ⟨gb557, 0, none⟩) (Kd.R_types HO555.out BK557.out (by decide)) (fun _ hk => hk.2) (.int .i64 t551)) (fun _ hk => hk.2) (.int .i64 t552)) (fun _ hk => hk.2) (.slice Ao56 t553.length co56)) (fun _ h_ => h_.1))) hb); have n1_ := Aside0.mk (Kd.R_lower ho0 (below_size (by repeat (first | (with_reducible first | exact HB.out | apply below_alloc | apply pw_below_drewN | apply below_drew1 | refine below_set ?_ GE534.out | refine below_set ?_ GE535.out | refine below_set ?_ GE557.out) | exact HB.out)))); have n2_ := Aside0.mk (blk_below (g := gb534) (o := .cells #[.int .i64 a0_0, .int .i64 a0_1, .int .i64 a0_2, .int .i64 a0_3] 24 (0, 0)) (by (with_reducible repeat (first | refine blk_drewN ?_ _ | refine blk_drew ?_ | refine blk_alloc ?_ _)); refine blk_far ?_ NB534_557.out _; (with_reducible repeat (first | refine blk_drewN ?_ _ | refine blk_drew ?_ | refine blk_alloc ?_ _)); refine blk_far ?_ NB534_557.out _; (with_reducible repeat (first | refine blk_drewN ?_ _ | refine blk_drew ?_ | refine blk_alloc ?_ _)); refine blk_far ?_ NB534_557.out _; (with_reducible repeat (first | refine blk_drewN ?_ _ | refine blk_drew ?_ | refine blk_alloc ?_ _)); exact BK534.out) hb); have n3_ := Aside0.mk (blk_below (g := gb535) (o := .cells #[.int .i64 a1_0, .int .i64 a1_1, .slice A1_2 l1_2.length c1_2] 35 (0, 0)) (by (with_reducible repeat (first | refine blk_drewN ?_ _ | refine blk_drew ?_ | refine blk_alloc ?_ _)); refine blk_far ?_ NB535_557.out _; (with_reducible repeat (first | refine blk_drewN ?_ _ | refine blk_drew ?_ | refine blk_alloc ?_ _)); refine blk_far ?_ NB535_557.out _; (with_reducible repeat (first | refine blk_drewN ?_ _ | refine blk_drew ?_ | refine blk_alloc ?_ _)); refine blk_far ?_ NB535_557.out _; (with_reducible repeat (first | refine blk_drewN ?_ _ | refine blk_drew ?_ | refine blk_alloc ?_ _)); exact BK535.out) hb); have n4_ := Aside0.mk (blk_below (g := gb557) (o := .cells #[.int .i64 t551, .int .i64 t552, .slice Ao56 t553.length co56] 35 (0, 0)) (by (with_reducible repeat (first | refine blk_drewN ?_ _ | refine blk_drew ?_ | refine blk_alloc ?_ _)); refine blk_put (cs := #[.int .i64 t551, .int .i64 t552, .slice none 0 0]) ?_ 2 _ rfl; (with_reducible repeat (first | refine blk_drewN ?_ _ | refine blk_drew ?_ | refine blk_alloc ?_ _)); refine blk_put (cs := #[.int .i64 t551, .int .i64 0, .slice none 0 0]) ?_ 1 _ rfl; (with_reducible repeat (first | refine blk_drewN ?_ _ | refine blk_drew ?_ | refine blk_alloc ?_ _)); refine blk_put (cs := #[.int .i64 0, .int .i64 0, .slice none 0 0]) ?_ 0 _ rfl; (with_reducible repeat (first | refine blk_drewN ?_ _ | refine blk_drew ?_ | refine blk_alloc ?_ _)); exact BK557.out) hb); have n5_ := Aside0.mk (below_step (by repeat (first | (with_reducible first | exact HB.out | apply below_alloc | apply pw_below_drewN | apply below_drew1 | refine below_set ?_ GE534.out | refine below_set ?_ GE535.out | refine below_set ?_ GE557.out) | exact HB.out)) hb); clear HO555; clear BK534; clear BK535; clear BK557; clear HB; have HO555 := n0_; have HO560 := n1_; have BK534 := n2_; have BK535 := n3_; have BK557 := n4_; have HB := n5_; clear n0_ n1_ n2_ n3_ n4_ n5_; (try clear hb); (try clear hb2); (try clear hk); (try clear hi); (try clear ho0); have hcv59 := own_string (P := Try.prog) Try.underlying29 Try.underlying5 Try.underlying9 (Kd.own_of_R HO560.out); have hcv60 := Kd.C_string (P := Try.prog) (A := A2) (c := c2) Try.underlying29 Try.underlying5 Try.underlying9 (Kd.C_below HR2.out HB.out)))
                  go_ret
                  exact ⟨by first | rfl | (simp [errW_none, errW_some] <;> rfl) | (simp [*, errW_none, errW_some] <;> rfl), by repeat (first | (with_reducible first | exact HB.out | apply below_alloc | apply pw_below_drewN | apply below_drew1 | refine below_set ?_ GE534.out | refine below_set ?_ GE535.out | refine below_set ?_ GE557.out) | exact HB.out)⟩
                · rw [if_neg c48] at H
                  exact absurd H (by simp)
              · rw [if_neg c46] at H
                have c46b0 : (t556 == 0) = false := beq_eq_false_iff_ne.mpr c46
                have c46b1 : (t556 != 0) = true := bne_iff_ne.mpr c46
                by_cases c61 : t551 = 0
                · rw [if_pos c61] at H
                  have c61b0 : (t551 == 0) = true := beq_iff_eq.mpr c61
                  have c61b1 : (t551 != 0) = false := bne_eq_false_iff_eq.mpr c61
                  clear c61
                  by_cases c62 : t552 = 0
                  · rw [if_pos c62] at H
                    have c62b0 : (t552 == 0) = true := beq_iff_eq.mpr c62
                    have c62b1 : (t552 != 0) = false := bne_eq_false_iff_eq.mpr c62
                    clear c62
                    obtain rfl := Option.some.inj H
                    have hnb63 := NB534_535.out
                    have hnc63 := NB535_534.out
                    have hcz64_0 : wc.cell? ⟨gb534, 0, none⟩ = some (.int .i64 a0_0) := (blk_cell BK534.out 0).trans rfl
                    have hcz64_1 : wc.cell? ⟨gb534, 1, none⟩ = some (.int .i64 a0_1) := (blk_cell BK534.out 1).trans rfl
                    have hcz64_2 : wc.cell? ⟨gb534, 2, none⟩ = some (.int .i64 a0_2) := (blk_cell BK534.out 2).trans rfl
                    have hcz64_3 : wc.cell? ⟨gb534, 3, none⟩ = some (.int .i64 a0_3) := (blk_cell BK534.out 3).trans rfl
                    have hfz64_0 := blk_frozen BK534.out 0
                    have hfz64_1 := blk_frozen BK534.out 1
                    have hfz64_2 := blk_frozen BK534.out 2
                    have hfz64_3 := blk_frozen BK534.out 3
                    go_wp2_with (first | ((with_reducible refine gate_callee (f := 15) rfl ?_); refine goesL_ (some 72) rfl rfl Try.func15 (by kernel_rfl) rfl #[.agg #[.int .i64 a0_0, .int .i64 a0_1, .int .i64 a0_2, .int .i64 a0_3], .slice A2 l2.length c2] rfl (by (try simp only [List.map_toArray, List.map_cons, List.map_nil]); first | done | rfl | (simp only [List.length_drop, List.length_take]; rfl)) ?_; (with_reducible refine (desc_Parse.calls kj16 a0_0 a0_1 a0_2 a0_3 _ _ l2 t551 t552 t553 t556 _ ?side1 ?side2 A45.out).mono ?_); (case side1 => repeat (first | exact (Kd.C_below HR2.out HB.out) | (with_reducible refine Kd.C_alloc ?_ _) | (with_reducible refine Kd.C_drewN ?_ _) | (with_reducible refine Kd.C_drew ?_))); (case side2 => exact HC2.out); rintro e w65 ⟨v554, rfl, ho0, hb⟩; refine ⟨_, rfl, ?_⟩; have n0_ := Aside0.mk (Kd.R_lower ho0 (below_size (by repeat (first | (with_reducible first | exact HB.out | apply below_alloc | apply pw_below_drewN | apply below_drew1 | refine below_set ?_ GE534.out | refine below_set ?_ GE535.out) | exact HB.out)))); have n1_ := Aside0.mk (blk_below (g := gb534) (o := .cells #[.int .i64 a0_0, .int .i64 a0_1, .int .i64 a0_2, .int .i64 a0_3] 24 (0, 0)) (by (with_reducible repeat (first | refine blk_drewN ?_ _ | refine blk_drew ?_ | refine blk_alloc ?_ _)); exact BK534.out) hb); have n2_ := Aside0.mk (blk_below (g := gb535) (o := .cells #[.int .i64 a1_0, .int .i64 a1_1, .slice A1_2 l1_2.length c1_2] 35 (0, 0)) (by (with_reducible repeat (first | refine blk_drewN ?_ _ | refine blk_drew ?_ | refine blk_alloc ?_ _)); exact BK535.out) hb); have n3_ := Aside0.mk (below_step (by repeat (first | (with_reducible first | exact HB.out | apply below_alloc | apply pw_below_drewN | apply below_drew1 | refine below_set ?_ GE534.out | refine below_set ?_ GE535.out) | exact HB.out)) hb); clear BK534; clear BK535; clear HB; have HO555 := n0_; have BK534 := n1_; have BK535 := n2_; have HB := n3_; clear n0_ n1_ n2_ n3_; (try clear hb); (try clear hb2); (try clear hk); (try clear hi); (try clear ho0)) | ((with_reducible refine gate_dst (N := 14) rfl ?_); (try (refine gate_guard (by rfl) ?_; dsimp only)); refine box_event ?hg (N := 14) ?hd (cs := #[.int .i64 0, .int .i64 0, .slice none 0 0]) (t := 35) ?hr ?_; (case hd => rfl); (case hg => rfl); (case hr => first | (go_simp; done) | (go_simp; rfl)); intro gb557 hg w66 hbox hb; have n0_ := Aside0.mk (Kd.R_below (by (with_reducible repeat (first | apply Kd.R_alloc | apply Kd.R_drewN | apply Kd.R_drew)); exact HO555.out) hb); have n1_ := Aside0.mk (blk_below (g := gb534) (o := .cells #[.int .i64 a0_0, .int .i64 a0_1, .int .i64 a0_2, .int .i64 a0_3] 24 (0, 0)) (by (with_reducible repeat (first | refine blk_drewN ?_ _ | refine blk_drew ?_ | refine blk_alloc ?_ _)); exact BK534.out) hb); have n2_ := Aside0.mk (blk_below (g := gb535) (o := .cells #[.int .i64 a1_0, .int .i64 a1_1, .slice A1_2 l1_2.length c1_2] 35 (0, 0)) (by (with_reducible repeat (first | refine blk_drewN ?_ _ | refine blk_drew ?_ | refine blk_alloc ?_ _)); exact BK535.out) hb); have n3_ := Aside0.mk (below_step (by repeat (first | (with_reducible first | exact HB.out | apply below_alloc | apply pw_below_drewN | apply below_drew1 | refine below_set ?_ GE534.out | refine below_set ?_ GE535.out) | exact HB.out)) hb); have n4_ := Aside0.mk (hbox); have n5_ := Aside0.mk ((by rw [hg]; exact (below_size (by repeat (first | (with_reducible first | exact HB.out | apply below_alloc | apply pw_below_drewN | apply below_drew1 | refine below_set ?_ GE534.out | refine below_set ?_ GE535.out) | exact HB.out))) : w.heap.size ≤ gb557)); have n6_ := Aside0.mk ((by rw [hg]; exact (below_size (by repeat (first | (with_reducible first | exact HB.out | apply below_alloc | apply pw_below_drewN | apply below_drew1 | refine below_set ?_ GE534.out | refine below_set ?_ GE535.out) | exact HB.out))) : w.heap.size ≤ gb557)); have n7_ := Aside0.mk ((by rw [hg]; exact Nat.ne_of_lt (blk_lt (g := gb534) (o := .cells #[.int .i64 a0_0, .int .i64 a0_1, .int .i64 a0_2, .int .i64 a0_3] 24 (0, 0)) (by (with_reducible repeat (first | refine blk_drewN ?_ _ | refine blk_drew ?_ | refine blk_alloc ?_ _)); exact BK534.out)) : gb534 ≠ gb557)); have n8_ := Aside0.mk ((by rw [hg]; exact Nat.ne_of_gt (blk_lt (g := gb534) (o := .cells #[.int .i64 a0_0, .int .i64 a0_1, .int .i64 a0_2, .int .i64 a0_3] 24 (0, 0)) (by (with_reducible repeat (first | refine blk_drewN ?_ _ | refine blk_drew ?_ | refine blk_alloc ?_ _)); exact BK534.out)) : gb557 ≠ gb534)); have n9_ := Aside0.mk ((by rw [hg]; exact Nat.ne_of_lt (blk_lt (g := gb535) (o := .cells #[.int .i64 a1_0, .int .i64 a1_1, .slice A1_2 l1_2.length c1_2] 35 (0, 0)) (by (with_reducible repeat (first | refine blk_drewN ?_ _ | refine blk_drew ?_ | refine blk_alloc ?_ _)); exact BK535.out)) : gb535 ≠ gb557)); have n10_ := Aside0.mk ((by rw [hg]; exact Nat.ne_of_gt (blk_lt (g := gb535) (o := .cells #[.int .i64 a1_0, .int .i64 a1_1, .slice A1_2 l1_2.length c1_2] 35 (0, 0)) (by (with_reducible repeat (first | refine blk_drewN ?_ _ | refine blk_drew ?_ | refine blk_alloc ?_ _)); exact BK535.out)) : gb557 ≠ gb535)); clear HO555; clear BK534; clear BK535; clear HB; have HO555 := n0_; have BK534 := n1_; have BK535 := n2_; have HB := n3_; have BK557 := n4_; have GW557 := n5_; have GE557 := n6_; have NB534_557 := n7_; have NB557_534 := n8_; have NB535_557 := n9_; have NB557_535 := n10_; clear n0_ n1_ n2_ n3_ n4_ n5_ n6_ n7_ n8_ n9_ n10_; clear hb hbox hg; have hnb67 := NB557_534.out; have hnc67 := NB534_557.out; have hnb68 := NB557_535.out; have hnc68 := NB535_557.out; have hcz69_0 : w66.cell? ⟨gb557, 0, none⟩ = some (.int .i64 0) := (blk_cell BK557.out 0).trans rfl; have hcz69_1 : w66.cell? ⟨gb557, 1, none⟩ = some (.int .i64 0) := (blk_cell BK557.out 1).trans rfl; have hcz69_2 : w66.cell? ⟨gb557, 2, none⟩ = some (.slice none 0 0) := (blk_cell BK557.out 2).trans rfl; have hfz69_0 := blk_frozen BK557.out 0; have hfz69_1 := blk_frozen BK557.out 1; have hfz69_2 := blk_frozen BK557.out 2; obtain ⟨Ao70, co70, eo70⟩ := Kd.R_slice HO555.out; subst eo70))
                    go_ret
                    exact ⟨by first | rfl | (simp [errW_none, errW_some] <;> rfl) | (simp [*, errW_none, errW_some] <;> rfl), by repeat (first | (with_reducible first | exact HB.out | apply below_alloc | apply pw_below_drewN | apply below_drew1 | refine below_set ?_ GE534.out | refine below_set ?_ GE535.out | refine below_set ?_ GE557.out) | exact HB.out)⟩
                  · rw [if_neg c62] at H
                    exact absurd H (by simp)
                · rw [if_neg c61] at H
                  exact absurd H (by simp)
  · replace c5 := Bool.eq_false_iff.mpr c5
    subst c5
    have H1 : (none) = some r := by rw [if_neg (show ¬ (false = true) by decide)] at H; exact H
    clear H
    have H := H1
    clear H1
    exact absurd H (by simp)

/-! ### twoslotlaw15_DescLeaves: function 7 -/
mutual
def twoslotlaw15_DescLeaves.j0 : Nat → List (S27) → List Int → Int → Bool → Int → Int → Int → Int → Option (Bool)
  | 0, _, _, _, _, _, _, _, _ => none
  | k + 1, x1, x2, x3, x27, x563000, x563001, x563002, x563003 => if x27 = true then (some true) else ((desc_Leaf.f k x563000 x563001 x563002 x563003 x1).bind fun bt564 => (if bt564.2 = 0 then ((desc_Refs.f k x563000 x563001 x563002 x563003 bt564.1 (x1.length : Int)).bind fun bt568 => (if bt568.2 = 0 then ((twoslotref15_SameRefs.f k bt568.1 x1).bind fun t572 => (if t572 = true then (twoslotlaw15_DescLeaves.j1 k x2 x3 x563000 x563001 x563002 x563003) else (none))) else (none))) else (if (bt564.1.length : Int) = 0 then (twoslotlaw15_DescLeaves.j1 k x2 x3 x563000 x563001 x563002 x563003) else (none))))
def twoslotlaw15_DescLeaves.j1 : Nat → List Int → Int → Int → Int → Int → Int → Option (Bool)
  | 0, _, _, _, _, _, _ => none
  | k + 1, x2, x3, x563000, x563001, x563002, x563003 => (desc_Refs.f k x563000 x563001 x563002 x563003 x2 x3).bind fun bt573 => (if bt573.2 = 0 then ((desc_Leaf.f k x563000 x563001 x563002 x563003 bt573.1).bind fun bt577 => (if bt577.2 = 0 then (if (strOfNums bt577.1).toList = (strOfNums x2).toList then (some ((bt573.1.length : Int) == x3)) else (none)) else (none))) else (some ((bt573.1.length : Int) == 0)))
end
def twoslotlaw15_DescLeaves.f (k : Nat) (a0_0 : Int) (a0_1 : Int) (a0_2 : Int) (a0_3 : Int) (l1 : List (S27)) (l2 : List Int) (a3 : Int) : Option (Bool) := (twoslotlaw15_alive.f k).bind fun t563 => (if t563 = true then (if (l1.length : Int) > 500 then (twoslotlaw15_DescLeaves.j0 k l1 l2 a3 true a0_0 a0_1 a0_2 a0_3) else (twoslotlaw15_DescLeaves.j0 k l1 l2 a3 (decide ((l2.length : Int) > 5000)) a0_0 a0_1 a0_2 a0_3)) else (none))
theorem twoslotlaw15_DescLeaves.mono_l : ∀ k, (∀ y0 y1 y2 y3 y4 y5 y6 y7, LeO (twoslotlaw15_DescLeaves.j0 k y0 y1 y2 y3 y4 y5 y6 y7) (twoslotlaw15_DescLeaves.j0 (k + 1) y0 y1 y2 y3 y4 y5 y6 y7)) ∧ (∀ y0 y1 y2 y3 y4 y5, LeO (twoslotlaw15_DescLeaves.j1 k y0 y1 y2 y3 y4 y5) (twoslotlaw15_DescLeaves.j1 (k + 1) y0 y1 y2 y3 y4 y5))
  | 0 => ⟨fun _ _ _ _ _ _ _ _ r h => by simp [twoslotlaw15_DescLeaves.j0] at h, fun _ _ _ _ _ _ r h => by simp [twoslotlaw15_DescLeaves.j1] at h⟩
  | k + 1 => by
    obtain ⟨ih0, ih1⟩ := twoslotlaw15_DescLeaves.mono_l k
    refine ⟨?_, ?_⟩
    · intro y0 y1 y2 y3 y4 y5 y6 y7
      unfold twoslotlaw15_DescLeaves.j0
      repeat' first
      | (with_reducible exact ih0 _ _ _ _ _ _ _ _)
      | (with_reducible exact ih1 _ _ _ _ _ _)
      | (with_reducible exact desc_Leaf.mono _ _ _ _ _ _)
      | (with_reducible exact desc_Refs.mono _ _ _ _ _ _ _)
      | (with_reducible exact twoslotlaw15_alive.mono _)
      | (with_reducible exact twoslotref15_SameRefs.mono _ _ _)
      | (with_reducible exact LeO.refl _)
      | (with_reducible exact LeO.none _)
      | (with_reducible refine LeO.ite ?_ ?_)
      | (with_reducible refine LeO.bind ?_ (fun _ => ?_))
      | exact ih0 _ _ _ _ _ _ _ _
      | exact ih1 _ _ _ _ _ _
      | exact desc_Leaf.mono _ _ _ _ _ _
      | exact desc_Refs.mono _ _ _ _ _ _ _
      | exact twoslotlaw15_alive.mono _
      | exact twoslotref15_SameRefs.mono _ _ _
      | exact LeO.none _
      | refine LeO.ite ?_ ?_
      | refine LeO.bind ?_ (fun _ => ?_)
    · intro y0 y1 y2 y3 y4 y5
      unfold twoslotlaw15_DescLeaves.j1
      repeat' first
      | (with_reducible exact ih0 _ _ _ _ _ _ _ _)
      | (with_reducible exact ih1 _ _ _ _ _ _)
      | (with_reducible exact desc_Leaf.mono _ _ _ _ _ _)
      | (with_reducible exact desc_Refs.mono _ _ _ _ _ _ _)
      | (with_reducible exact twoslotlaw15_alive.mono _)
      | (with_reducible exact twoslotref15_SameRefs.mono _ _ _)
      | (with_reducible exact LeO.refl _)
      | (with_reducible exact LeO.none _)
      | (with_reducible refine LeO.ite ?_ ?_)
      | (with_reducible refine LeO.bind ?_ (fun _ => ?_))
      | exact ih0 _ _ _ _ _ _ _ _
      | exact ih1 _ _ _ _ _ _
      | exact desc_Leaf.mono _ _ _ _ _ _
      | exact desc_Refs.mono _ _ _ _ _ _ _
      | exact twoslotlaw15_alive.mono _
      | exact twoslotref15_SameRefs.mono _ _ _
      | exact LeO.none _
      | refine LeO.ite ?_ ?_
      | refine LeO.bind ?_ (fun _ => ?_)
theorem twoslotlaw15_DescLeaves.mono : ∀ a0 a1 a2 a3 a4 a5 a6 k, LeO (twoslotlaw15_DescLeaves.f k a0 a1 a2 a3 a4 a5 a6) (twoslotlaw15_DescLeaves.f (k + 1) a0 a1 a2 a3 a4 a5 a6) := by
  intro a0 a1 a2 a3 a4 a5 a6 k
  obtain ⟨ih0, ih1⟩ := twoslotlaw15_DescLeaves.mono_l k
  unfold twoslotlaw15_DescLeaves.f
  repeat' first
      | (with_reducible exact ih0 _ _ _ _ _ _ _ _)
      | (with_reducible exact ih1 _ _ _ _ _ _)
      | (with_reducible exact desc_Leaf.mono _ _ _ _ _ _)
      | (with_reducible exact desc_Refs.mono _ _ _ _ _ _ _)
      | (with_reducible exact twoslotlaw15_alive.mono _)
      | (with_reducible exact twoslotref15_SameRefs.mono _ _ _)
      | (with_reducible exact LeO.refl _)
      | (with_reducible exact LeO.none _)
      | (with_reducible refine LeO.ite ?_ ?_)
      | (with_reducible refine LeO.bind ?_ (fun _ => ?_))
      | exact ih0 _ _ _ _ _ _ _ _
      | exact ih1 _ _ _ _ _ _
      | exact desc_Leaf.mono _ _ _ _ _ _
      | exact desc_Refs.mono _ _ _ _ _ _ _
      | exact twoslotlaw15_alive.mono _
      | exact twoslotref15_SameRefs.mono _ _ _
      | exact LeO.none _
      | refine LeO.ite ?_ ?_
      | refine LeO.bind ?_ (fun _ => ?_)
set_option maxHeartbeats 8000000 in
set_option maxRecDepth 100000 in
theorem twoslotlaw15_DescLeaves.calls (k : Nat) (a0_0 : Int) (a0_1 : Int) (a0_2 : Int) (a0_3 : Int) (A1 : Option Addr) (c1 : Nat) (l1 : List (S27)) (A2 : Option Addr) (c2 : Nat) (l2 : List Int) (a3 : Int) (r : Bool) (w : World) (hr1 : Kd.C k27 w A1 l1.length l1) (hc1 : l1.length ≤ c1) (hr2 : Kd.C (Kd.int .u8) w A2 l2.length l2) (hc2 : l2.length ≤ c2) (h : twoslotlaw15_DescLeaves.f k a0_0 a0_1 a0_2 a0_3 l1 l2 a3 = some r) :
    Calls Try.prog 7 #[.agg #[.int .i64 a0_0, .int .i64 a0_1, .int .i64 a0_2, .int .i64 a0_3], .slice A1 l1.length c1, .slice A2 l2.length c2, .int .i64 a3] w fun e w' => e = .returned (.bool r) ∧ Below w.heap.size w w' := by
  have hu24 := Try.underlying24
  have HR1 := Aside0.mk hr1
  have HC1 := Aside0.mk hc1
  clear hr1 hc1
  have HR2 := Aside0.mk hr2
  have HC2 := Aside0.mk hc2
  clear hr2 hc2
  have HB := Aside0.mk (Below.refl w.heap.size w)
  have H : ((twoslotlaw15_alive.f k).bind fun t563 => (if t563 = true then (if (l1.length : Int) > 500 then (twoslotlaw15_DescLeaves.j0 k l1 l2 a3 true a0_0 a0_1 a0_2 a0_3) else (twoslotlaw15_DescLeaves.j0 k l1 l2 a3 (decide ((l2.length : Int) > 5000)) a0_0 a0_1 a0_2 a0_3)) else (none))) = some r := h
  clear h
  replace H := Option.bind_eq_some_iff.mp H
  obtain ⟨t563, A50, H⟩ := H
  replace H : (if t563 = true then (if (l1.length : Int) > 500 then (twoslotlaw15_DescLeaves.j0 k l1 l2 a3 true a0_0 a0_1 a0_2 a0_3) else (twoslotlaw15_DescLeaves.j0 k l1 l2 a3 (decide ((l2.length : Int) > 5000)) a0_0 a0_1 a0_2 a0_3)) else (none)) = some r := H
  have A5 := Aside0.mk A50
  clear A50
  by_cases c6 : t563 = true
  · subst c6
    have H1 : (if (l1.length : Int) > 500 then (twoslotlaw15_DescLeaves.j0 k l1 l2 a3 true a0_0 a0_1 a0_2 a0_3) else (twoslotlaw15_DescLeaves.j0 k l1 l2 a3 (decide ((l2.length : Int) > 5000)) a0_0 a0_1 a0_2 a0_3)) = some r := by rw [if_pos rfl] at H; exact H
    clear H
    have H := H1
    clear H1
    have HC7 := Aside0.mk H
    clear H
    go_enter Try.func7, Try.ntmps7
    go_upto_region 4 with (first | ((with_reducible refine gate_dst (N := 4) rfl ?_); (try (refine gate_guard (by rfl) ?_; dsimp only)); refine box_event ?hg (N := 4) ?hd (cs := #[.int .i64 a0_0, .int .i64 a0_1, .int .i64 a0_2, .int .i64 a0_3]) (t := 24) ?hr ?_; (case hd => rfl); (case hg => rfl); (case hr => first | (go_simp; done) | (go_simp; rfl)); intro gb562 hg w8 hbox hb; have n0_ := Aside0.mk (below_step (by repeat (first | (with_reducible first | exact HB.out | apply below_alloc | apply pw_below_drewN | apply below_drew1) | exact HB.out)) hb); have n1_ := Aside0.mk (hbox); have n2_ := Aside0.mk ((by rw [hg]; exact (below_size (by repeat (first | (with_reducible first | exact HB.out | apply below_alloc | apply pw_below_drewN | apply below_drew1) | exact HB.out))) : w.heap.size ≤ gb562)); have n3_ := Aside0.mk ((by rw [hg]; exact (below_size (by repeat (first | (with_reducible first | exact HB.out | apply below_alloc | apply pw_below_drewN | apply below_drew1) | exact HB.out))) : w.heap.size ≤ gb562)); clear HB; have HB := n0_; have BK562 := n1_; have GW562 := n2_; have GE562 := n3_; clear n0_ n1_ n2_ n3_; clear hb hbox hg) | ((with_reducible refine gate_callee (f := 9) rfl ?_); refine goesL_ (some 17) rfl rfl Try.func9 (by kernel_rfl) rfl #[] rfl (by (try simp only [List.map_toArray, List.map_cons, List.map_nil]); first | done | rfl | (simp only [List.length_drop, List.length_take]; rfl)) ?_; (with_reducible refine (twoslotlaw15_alive.calls k  true _ A5.out).mono ?_); rintro e w9 ⟨rfl, hb⟩; refine ⟨_, rfl, ?_⟩; have n0_ := Aside0.mk (blk_below (g := gb562) (o := .cells #[.int .i64 a0_0, .int .i64 a0_1, .int .i64 a0_2, .int .i64 a0_3] 24 (0, 0)) (by (with_reducible repeat (first | refine blk_drewN ?_ _ | refine blk_drew ?_ | refine blk_alloc ?_ _)); exact BK562.out) hb); have n1_ := Aside0.mk (below_step (by repeat (first | (with_reducible first | exact HB.out | apply below_alloc | apply pw_below_drewN | apply below_drew1 | refine below_set ?_ GE562.out) | exact HB.out)) hb); clear BK562; clear HB; have BK562 := n0_; have HB := n1_; clear n0_ n1_; (try clear hb); (try clear hb2); (try clear hk); (try clear hi)))
    (try simp only [Act.put, List.setIfInBounds_toArray, List.set_cons_zero, List.set_cons_succ])
    go_cut [27] (fun v27 wc => ∃ (kq : Nat) (x27_6 : Bool), v27 = .bool x27_6 ∧ Aside0 (twoslotlaw15_DescLeaves.j0 kq l1 l2 a3 x27_6 a0_0 a0_1 a0_2 a0_3 = some r) ∧ Aside0 (kq ≤ k) ∧ Aside0 (wc.heap[gb562]? = some (.cells #[.int .i64 a0_0, .int .i64 a0_1, .int .i64 a0_2, .int .i64 a0_3] 24 (0, 0))) ∧ Aside0 (Below w.heap.size w wc))
    case first =>
      have H := HC7.out
      clear HC7
      by_cases c10 : (l1.length : Int) > 500
      · rw [if_pos c10] at H
        have c10b0 : decide (500 < (l1.length : Int)) = true := decide_eq_true c10
        have c10b1 : decide (500 < l1.length) = true := decide_eq_true (by omega)
        clear c10
        (first | rw [c10b0] | (simp only [i64_w, i32_w]; rw [c10b0]) | skip)
        have H' := Aside0.mk H
        clear H
        go_wp2
        go_meet
        case rel => exact ⟨_, (true), (by first | rfl | (simp; done) | (simp [*]; done)), H', ⟨by first | omega | exact Nat.le_refl _⟩, ⟨by (with_reducible repeat (first | refine blk_drewN ?_ _ | refine blk_drew ?_ | refine blk_alloc ?_ _)); exact BK562.out⟩, ⟨by repeat (first | (with_reducible first | exact HB.out | apply below_alloc | apply pw_below_drewN | apply below_drew1 | refine below_set ?_ GE562.out) | exact HB.out)⟩⟩
      · rw [if_neg c10] at H
        have c10b0 : decide (500 < (l1.length : Int)) = false := decide_eq_false c10
        have c10b1 : decide (500 < l1.length) = false := decide_eq_false (by omega)
        clear c10
        (first | rw [c10b0] | (simp only [i64_w, i32_w]; rw [c10b0]) | skip)
        have H' := Aside0.mk H
        clear H
        go_wp2
        go_meet
        case rel => exact ⟨_, (decide ((l2.length : Int) > 5000)), (by first | rfl | (simp; done) | (simp [*]; done)), H', ⟨by first | omega | exact Nat.le_refl _⟩, ⟨by (with_reducible repeat (first | refine blk_drewN ?_ _ | refine blk_drew ?_ | refine blk_alloc ?_ _)); exact BK562.out⟩, ⟨by repeat (first | (with_reducible first | exact HB.out | apply below_alloc | apply pw_below_drewN | apply below_drew1 | refine below_set ?_ GE562.out) | exact HB.out)⟩⟩
    case rest =>
      clear HC7
      try clear c1
      try clear c2
      try clear p2
      try clear c6
      try clear c7
      try clear c9
      try clear c10
      try clear c10b0
      try clear c10b1
      obtain ⟨kq, x27_6, rfl, HA, HJ6, BK562, HB⟩ := hcut
      cases kq with
      | zero => exact absurd HA.out (by simp [twoslotlaw15_DescLeaves.j0])
      | succ kj6 =>
        have H := HA.out
        clear HA
        simp only [twoslotlaw15_DescLeaves.j0] at H
        by_cases c11 : x27_6 = true
        · subst c11
          have H1 : (some true) = some r := by rw [if_pos rfl] at H; exact H
          clear H
          have H := H1
          clear H1
          obtain rfl := Option.some.inj H
          go_wp2
          go_ret
          exact ⟨by first | rfl | (simp [errW_none, errW_some] <;> rfl) | (simp [*, errW_none, errW_some] <;> rfl), by repeat (first | (with_reducible first | exact HB.out | apply below_alloc | apply pw_below_drewN | apply below_drew1 | refine below_set ?_ GE562.out) | exact HB.out)⟩
        · replace c11 := Bool.eq_false_iff.mpr c11
          subst c11
          have H1 : ((desc_Leaf.f kj6 a0_0 a0_1 a0_2 a0_3 l1).bind fun bt564 => (if bt564.2 = 0 then ((desc_Refs.f kj6 a0_0 a0_1 a0_2 a0_3 bt564.1 (l1.length : Int)).bind fun bt568 => (if bt568.2 = 0 then ((twoslotref15_SameRefs.f kj6 bt568.1 l1).bind fun t572 => (if t572 = true then (twoslotlaw15_DescLeaves.j1 kj6 l2 a3 a0_0 a0_1 a0_2 a0_3) else (none))) else (none))) else (if (bt564.1.length : Int) = 0 then (twoslotlaw15_DescLeaves.j1 kj6 l2 a3 a0_0 a0_1 a0_2 a0_3) else (none)))) = some r := by rw [if_neg (show ¬ (false = true) by decide)] at H; exact H
          clear H
          have H := H1
          clear H1
          replace H := Option.bind_eq_some_iff.mp H
          obtain ⟨⟨t564, t567⟩, A120, H⟩ := H
          replace H : (if t567 = 0 then ((desc_Refs.f kj6 a0_0 a0_1 a0_2 a0_3 t564 (l1.length : Int)).bind fun bt568 => (if bt568.2 = 0 then ((twoslotref15_SameRefs.f kj6 bt568.1 l1).bind fun t572 => (if t572 = true then (twoslotlaw15_DescLeaves.j1 kj6 l2 a3 a0_0 a0_1 a0_2 a0_3) else (none))) else (none))) else (if (t564.length : Int) = 0 then (twoslotlaw15_DescLeaves.j1 kj6 l2 a3 a0_0 a0_1 a0_2 a0_3) else (none))) = some r := H
          have A12 := Aside0.mk A120
          clear A120
          have HC13 := Aside0.mk H
          clear H
          have hcz14_0 : wc.cell? ⟨gb562, 0, none⟩ = some (.int .i64 a0_0) := (blk_cell BK562.out 0).trans rfl
          have hcz14_1 : wc.cell? ⟨gb562, 1, none⟩ = some (.int .i64 a0_1) := (blk_cell BK562.out 1).trans rfl
          have hcz14_2 : wc.cell? ⟨gb562, 2, none⟩ = some (.int .i64 a0_2) := (blk_cell BK562.out 2).trans rfl
          have hcz14_3 : wc.cell? ⟨gb562, 3, none⟩ = some (.int .i64 a0_3) := (blk_cell BK562.out 3).trans rfl
          have hfz14_0 := blk_frozen BK562.out 0
          have hfz14_1 := blk_frozen BK562.out 1
          have hfz14_2 := blk_frozen BK562.out 2
          have hfz14_3 := blk_frozen BK562.out 3
          go_upto_if 35 with (first | ((with_reducible refine gate_callee (f := 11) rfl ?_); refine goesL_ (some 31) rfl rfl Try.func11 (by kernel_rfl) rfl #[.agg #[.int .i64 a0_0, .int .i64 a0_1, .int .i64 a0_2, .int .i64 a0_3], .slice A1 l1.length c1] rfl (by (try simp only [List.map_toArray, List.map_cons, List.map_nil]); first | done | rfl | (simp only [List.length_drop, List.length_take]; rfl)) ?_; (with_reducible refine (desc_Leaf.calls kj6 a0_0 a0_1 a0_2 a0_3 _ _ l1 t564 t567 _ ?side1 ?side2 A12.out).mono ?_); (case side1 => repeat (first | exact (Kd.C_below HR1.out HB.out) | (with_reducible refine Kd.C_alloc ?_ _) | (with_reducible refine Kd.C_drewN ?_ _) | (with_reducible refine Kd.C_drew ?_))); (case side2 => exact HC1.out); rintro e w15 ⟨v565, rfl, ho0, hb⟩; refine ⟨_, rfl, ?_⟩; have n0_ := Aside0.mk (Kd.R_lower ho0 (below_size (by repeat (first | (with_reducible first | exact HB.out | apply below_alloc | apply pw_below_drewN | apply below_drew1 | refine below_set ?_ GE562.out) | exact HB.out)))); have n1_ := Aside0.mk (blk_below (g := gb562) (o := .cells #[.int .i64 a0_0, .int .i64 a0_1, .int .i64 a0_2, .int .i64 a0_3] 24 (0, 0)) (by (with_reducible repeat (first | refine blk_drewN ?_ _ | refine blk_drew ?_ | refine blk_alloc ?_ _)); exact BK562.out) hb); have n2_ := Aside0.mk (below_step (by repeat (first | (with_reducible first | exact HB.out | apply below_alloc | apply pw_below_drewN | apply below_drew1 | refine below_set ?_ GE562.out) | exact HB.out)) hb); clear BK562; clear HB; have HO566 := n0_; have BK562 := n1_; have HB := n2_; clear n0_ n1_ n2_; (try clear hb); (try clear hb2); (try clear hk); (try clear hi); (try clear ho0)))
          (try simp only [Act.put, List.setIfInBounds_toArray, List.set_cons_zero, List.set_cons_succ])
          go_cut [] (fun wc => ∃ (kq : Nat), Aside0 (twoslotlaw15_DescLeaves.j1 kq l2 a3 a0_0 a0_1 a0_2 a0_3 = some r) ∧ Aside0 (kq ≤ kj6) ∧ Aside0 (wc.heap[gb562]? = some (.cells #[.int .i64 a0_0, .int .i64 a0_1, .int .i64 a0_2, .int .i64 a0_3] 24 (0, 0))) ∧ Aside0 (Below w.heap.size w wc))
          case first =>
            have H := HC13.out
            clear HC13
            by_cases c16 : t567 = 0
            · rw [if_pos c16] at H
              have c16b0 : (t567 == 0) = true := beq_iff_eq.mpr c16
              have c16b1 : (t567 != 0) = false := bne_eq_false_iff_eq.mpr c16
              clear c16
              (first | rw [c16b0] | (simp only [i64_w, i32_w]; rw [c16b0]) | skip)
              replace H := Option.bind_eq_some_iff.mp H
              obtain ⟨⟨t568, t571⟩, A170, H⟩ := H
              replace H : (if t571 = 0 then ((twoslotref15_SameRefs.f kj6 t568 l1).bind fun t572 => (if t572 = true then (twoslotlaw15_DescLeaves.j1 kj6 l2 a3 a0_0 a0_1 a0_2 a0_3) else (none))) else (none)) = some r := H
              have A17 := Aside0.mk A170
              clear A170
              by_cases c18 : t571 = 0
              · rw [if_pos c18] at H
                have c18b0 : (t571 == 0) = true := beq_iff_eq.mpr c18
                have c18b1 : (t571 != 0) = false := bne_eq_false_iff_eq.mpr c18
                clear c18
                replace H := Option.bind_eq_some_iff.mp H
                obtain ⟨t572, A190, H⟩ := H
                replace H : (if t572 = true then (twoslotlaw15_DescLeaves.j1 kj6 l2 a3 a0_0 a0_1 a0_2 a0_3) else (none)) = some r := H
                have A19 := Aside0.mk A190
                clear A190
                by_cases c20 : t572 = true
                · subst c20
                  have H1 : (twoslotlaw15_DescLeaves.j1 kj6 l2 a3 a0_0 a0_1 a0_2 a0_3) = some r := by rw [if_pos rfl] at H; exact H
                  clear H
                  have H := H1
                  clear H1
                  have H' := Aside0.mk H
                  clear H
                  have hcz21_0 : w15.cell? ⟨gb562, 0, none⟩ = some (.int .i64 a0_0) := (blk_cell BK562.out 0).trans rfl
                  have hcz21_1 : w15.cell? ⟨gb562, 1, none⟩ = some (.int .i64 a0_1) := (blk_cell BK562.out 1).trans rfl
                  have hcz21_2 : w15.cell? ⟨gb562, 2, none⟩ = some (.int .i64 a0_2) := (blk_cell BK562.out 2).trans rfl
                  have hcz21_3 : w15.cell? ⟨gb562, 3, none⟩ = some (.int .i64 a0_3) := (blk_cell BK562.out 3).trans rfl
                  have hfz21_0 := blk_frozen BK562.out 0
                  have hfz21_1 := blk_frozen BK562.out 1
                  have hfz21_2 := blk_frozen BK562.out 2
                  have hfz21_3 := blk_frozen BK562.out 3
                  obtain ⟨Ao22, co22, eo22⟩ := Kd.R_slice HO566.out
                  subst eo22
                  go_wp2_with (first | ((with_reducible refine gate_callee (f := 13) rfl ?_); refine goesL_ (some 41) rfl rfl Try.func13 (by kernel_rfl) rfl #[.agg #[.int .i64 a0_0, .int .i64 a0_1, .int .i64 a0_2, .int .i64 a0_3], .slice Ao22 t564.length co22, .int .i64 (l1.length : Int)] rfl (by (try simp only [List.map_toArray, List.map_cons, List.map_nil]); first | done | rfl | (simp only [List.length_drop, List.length_take]; rfl)) ?_; (with_reducible refine (desc_Refs.calls kj6 a0_0 a0_1 a0_2 a0_3 _ _ t564 (l1.length : Int) t568 t571 _ ?side1 ?side2 A17.out).mono ?_); (case side1 => repeat (first | exact (Kd.R_reads' HO566.out).2.2 | (with_reducible refine Kd.C_alloc ?_ _) | (with_reducible refine Kd.C_drewN ?_ _) | (with_reducible refine Kd.C_drew ?_))); (case side2 => exact (Kd.R_reads' HO566.out).2.1); rintro e w23 ⟨v569, rfl, ho0, hb⟩; refine ⟨_, rfl, ?_⟩; have n0_ := Aside0.mk (Kd.R_below (by (with_reducible repeat (first | apply Kd.R_alloc | apply Kd.R_drewN | apply Kd.R_drew)); exact HO566.out) hb); have n1_ := Aside0.mk (Kd.R_lower ho0 (below_size (by repeat (first | (with_reducible first | exact HB.out | apply below_alloc | apply pw_below_drewN | apply below_drew1 | refine below_set ?_ GE562.out) | exact HB.out)))); have n2_ := Aside0.mk (blk_below (g := gb562) (o := .cells #[.int .i64 a0_0, .int .i64 a0_1, .int .i64 a0_2, .int .i64 a0_3] 24 (0, 0)) (by (with_reducible repeat (first | refine blk_drewN ?_ _ | refine blk_drew ?_ | refine blk_alloc ?_ _)); exact BK562.out) hb); have n3_ := Aside0.mk (below_step (by repeat (first | (with_reducible first | exact HB.out | apply below_alloc | apply pw_below_drewN | apply below_drew1 | refine below_set ?_ GE562.out) | exact HB.out)) hb); clear HO566; clear BK562; clear HB; have HO566 := n0_; have HO570 := n1_; have BK562 := n2_; have HB := n3_; clear n0_ n1_ n2_ n3_; (try clear hb); (try clear hb2); (try clear hk); (try clear hi); (try clear ho0); obtain ⟨Ao24, co24, eo24⟩ := Kd.R_slice HO570.out; subst eo24) | (go_at_call 25; (with_reducible refine (twoslotref15_SameRefs.calls kj6 _ _ t568 _ _ l1 true _ ?side1 ?side2 ?side3 ?side4 A19.out).mono ?_); (case side1 => repeat (first | exact (Kd.R_reads' HO570.out).2.2 | (with_reducible refine Kd.C_alloc ?_ _) | (with_reducible refine Kd.C_drewN ?_ _) | (with_reducible refine Kd.C_drew ?_))); (case side2 => exact (Kd.R_reads' HO570.out).2.1); (case side3 => repeat (first | exact (Kd.C_below HR1.out HB.out) | (with_reducible refine Kd.C_alloc ?_ _) | (with_reducible refine Kd.C_drewN ?_ _) | (with_reducible refine Kd.C_drew ?_))); (case side4 => exact HC1.out); rintro e w' ⟨rfl, ⟨nd, rfl⟩⟩))
                  go_meet
                  case rel => exact ⟨_, H', ⟨by have := HJ6.out; first | omega | exact Nat.le_refl _⟩, ⟨by (with_reducible repeat (first | refine blk_drewN ?_ _ | refine blk_drew ?_ | refine blk_alloc ?_ _)); exact BK562.out⟩, ⟨by repeat (first | (with_reducible first | exact HB.out | apply below_alloc | apply pw_below_drewN | apply below_drew1 | refine below_set ?_ GE562.out) | exact HB.out)⟩⟩
                · replace c20 := Bool.eq_false_iff.mpr c20
                  subst c20
                  have H1 : (none) = some r := by rw [if_neg (show ¬ (false = true) by decide)] at H; exact H
                  clear H
                  have H := H1
                  clear H1
                  exact absurd H (by simp)
              · rw [if_neg c18] at H
                exact absurd H (by simp)
            · rw [if_neg c16] at H
              have c16b0 : (t567 == 0) = false := beq_eq_false_iff_ne.mpr c16
              have c16b1 : (t567 != 0) = true := bne_iff_ne.mpr c16
              (first | rw [c16b0] | (simp only [i64_w, i32_w]; rw [c16b0]) | skip)
              by_cases c25 : (t564.length : Int) = 0
              · rw [if_pos c25] at H
                have c25b0 : ((t564.length : Int) == 0) = true := beq_iff_eq.mpr c25
                have c25b1 : ((t564.length : Int) != 0) = false := bne_eq_false_iff_eq.mpr c25
                clear c25
                have H' := Aside0.mk H
                clear H
                obtain ⟨Ao26, co26, eo26⟩ := Kd.R_slice HO566.out
                subst eo26
                go_wp2
                go_meet
                case rel => exact ⟨_, H', ⟨by have := HJ6.out; first | omega | exact Nat.le_refl _⟩, ⟨by (with_reducible repeat (first | refine blk_drewN ?_ _ | refine blk_drew ?_ | refine blk_alloc ?_ _)); exact BK562.out⟩, ⟨by repeat (first | (with_reducible first | exact HB.out | apply below_alloc | apply pw_below_drewN | apply below_drew1 | refine below_set ?_ GE562.out) | exact HB.out)⟩⟩
              · rw [if_neg c25] at H
                exact absurd H (by simp)
          case rest =>
            clear HC13
            try clear c1
            try clear c2
            try clear p2
            try clear c6
            try clear c7
            try clear c9
            try clear c10
            try clear c10b0
            try clear c10b1
            try clear c11
            try clear c13
            try clear c16
            try clear c16b0
            try clear c16b1
            try clear c18
            try clear c18b0
            try clear c18b1
            try clear c20
            try clear c25
            try clear c25b0
            try clear c25b1
            try clear hcz14_0
            try clear hcz14_1
            try clear hcz14_2
            try clear hcz14_3
            try clear hcz21_0
            try clear hcz21_1
            try clear hcz21_2
            try clear hcz21_3
            try clear hfz14_0
            try clear hfz14_1
            try clear hfz14_2
            try clear hfz14_3
            try clear hfz21_0
            try clear hfz21_1
            try clear hfz21_2
            try clear hfz21_3
            try clear p2
            obtain ⟨kq, HA, HJ12, BK562, HB⟩ := hcut
            cases kq with
            | zero => exact absurd HA.out (by simp [twoslotlaw15_DescLeaves.j1])
            | succ kj12 =>
              have H := HA.out
              clear HA
              simp only [twoslotlaw15_DescLeaves.j1] at H
              replace H := Option.bind_eq_some_iff.mp H
              obtain ⟨⟨t573, t576⟩, A270, H⟩ := H
              replace H : (if t576 = 0 then ((desc_Leaf.f kj12 a0_0 a0_1 a0_2 a0_3 t573).bind fun bt577 => (if bt577.2 = 0 then (if (strOfNums bt577.1).toList = (strOfNums l2).toList then (some ((t573.length : Int) == a3)) else (none)) else (none))) else (some ((t573.length : Int) == 0))) = some r := H
              have A27 := Aside0.mk A270
              clear A270
              by_cases c28 : t576 = 0
              · rw [if_pos c28] at H
                have c28b0 : (t576 == 0) = true := beq_iff_eq.mpr c28
                have c28b1 : (t576 != 0) = false := bne_eq_false_iff_eq.mpr c28
                clear c28
                replace H := Option.bind_eq_some_iff.mp H
                obtain ⟨⟨t577, t580⟩, A290, H⟩ := H
                replace H : (if t580 = 0 then (if (strOfNums t577).toList = (strOfNums l2).toList then (some ((t573.length : Int) == a3)) else (none)) else (none)) = some r := H
                have A29 := Aside0.mk A290
                clear A290
                by_cases c30 : t580 = 0
                · rw [if_pos c30] at H
                  have c30b0 : (t580 == 0) = true := beq_iff_eq.mpr c30
                  have c30b1 : (t580 != 0) = false := bne_eq_false_iff_eq.mpr c30
                  clear c30
                  by_cases c31 : (strOfNums t577).toList = (strOfNums l2).toList
                  · rw [if_pos c31] at H
                    have c31b0 : ((strOfNums t577).toList == (strOfNums l2).toList) = true := beq_iff_eq.mpr c31
                    have c31b1 : ((strOfNums t577).toList != (strOfNums l2).toList) = false := bne_eq_false_iff_eq.mpr c31
                    clear c31
                    obtain rfl := Option.some.inj H
                    have hcz32_0 : wc.cell? ⟨gb562, 0, none⟩ = some (.int .i64 a0_0) := (blk_cell BK562.out 0).trans rfl
                    have hcz32_1 : wc.cell? ⟨gb562, 1, none⟩ = some (.int .i64 a0_1) := (blk_cell BK562.out 1).trans rfl
                    have hcz32_2 : wc.cell? ⟨gb562, 2, none⟩ = some (.int .i64 a0_2) := (blk_cell BK562.out 2).trans rfl
                    have hcz32_3 : wc.cell? ⟨gb562, 3, none⟩ = some (.int .i64 a0_3) := (blk_cell BK562.out 3).trans rfl
                    have hfz32_0 := blk_frozen BK562.out 0
                    have hfz32_1 := blk_frozen BK562.out 1
                    have hfz32_2 := blk_frozen BK562.out 2
                    have hfz32_3 := blk_frozen BK562.out 3
                    go_wp2_with (first | ((with_reducible refine gate_callee (f := 13) rfl ?_); refine goesL_ (some 59) rfl rfl Try.func13 (by kernel_rfl) rfl #[.agg #[.int .i64 a0_0, .int .i64 a0_1, .int .i64 a0_2, .int .i64 a0_3], .slice A2 l2.length c2, .int .i64 a3] rfl (by (try simp only [List.map_toArray, List.map_cons, List.map_nil]); first | done | rfl | (simp only [List.length_drop, List.length_take]; rfl)) ?_; (with_reducible refine (desc_Refs.calls kj12 a0_0 a0_1 a0_2 a0_3 _ _ l2 a3 t573 t576 _ ?side1 ?side2 A27.out).mono ?_); (case side1 => repeat (first | exact (Kd.C_below HR2.out HB.out) | (with_reducible refine Kd.C_alloc ?_ _) | (with_reducible refine Kd.C_drewN ?_ _) | (with_reducible refine Kd.C_drew ?_))); (case side2 => exact HC2.out); rintro e w33 ⟨v574, rfl, ho0, hb⟩; refine ⟨_, rfl, ?_⟩; have n0_ := Aside0.mk (Kd.R_lower ho0 (below_size (by repeat (first | (with_reducible first | exact HB.out | apply below_alloc | apply pw_below_drewN | apply below_drew1 | refine below_set ?_ GE562.out) | exact HB.out)))); have n1_ := Aside0.mk (blk_below (g := gb562) (o := .cells #[.int .i64 a0_0, .int .i64 a0_1, .int .i64 a0_2, .int .i64 a0_3] 24 (0, 0)) (by (with_reducible repeat (first | refine blk_drewN ?_ _ | refine blk_drew ?_ | refine blk_alloc ?_ _)); exact BK562.out) hb); have n2_ := Aside0.mk (below_step (by repeat (first | (with_reducible first | exact HB.out | apply below_alloc | apply pw_below_drewN | apply below_drew1 | refine below_set ?_ GE562.out) | exact HB.out)) hb); clear BK562; clear HB; have HO575 := n0_; have BK562 := n1_; have HB := n2_; clear n0_ n1_ n2_; (try clear hb); (try clear hb2); (try clear hk); (try clear hi); (try clear ho0); have hcz34_0 : w33.cell? ⟨gb562, 0, none⟩ = some (.int .i64 a0_0) := (blk_cell BK562.out 0).trans rfl; have hcz34_1 : w33.cell? ⟨gb562, 1, none⟩ = some (.int .i64 a0_1) := (blk_cell BK562.out 1).trans rfl; have hcz34_2 : w33.cell? ⟨gb562, 2, none⟩ = some (.int .i64 a0_2) := (blk_cell BK562.out 2).trans rfl; have hcz34_3 : w33.cell? ⟨gb562, 3, none⟩ = some (.int .i64 a0_3) := (blk_cell BK562.out 3).trans rfl; have hfz34_0 := blk_frozen BK562.out 0; have hfz34_1 := blk_frozen BK562.out 1; have hfz34_2 := blk_frozen BK562.out 2; have hfz34_3 := blk_frozen BK562.out 3; obtain ⟨Ao35, co35, eo35⟩ := Kd.R_slice HO575.out; subst eo35) | ((with_reducible refine gate_callee (f := 11) rfl ?_); refine goesL_ (some 70) rfl rfl Try.func11 (by kernel_rfl) rfl #[.agg #[.int .i64 a0_0, .int .i64 a0_1, .int .i64 a0_2, .int .i64 a0_3], .slice Ao35 t573.length co35] rfl (by (try simp only [List.map_toArray, List.map_cons, List.map_nil]); first | done | rfl | (simp only [List.length_drop, List.length_take]; rfl)) ?_; (with_reducible refine (desc_Leaf.calls kj12 a0_0 a0_1 a0_2 a0_3 _ _ t573 t577 t580 _ ?side1 ?side2 A29.out).mono ?_); (case side1 => repeat (first | exact (Kd.R_reads' HO575.out).2.2 | (with_reducible refine Kd.C_alloc ?_ _) | (with_reducible refine Kd.C_drewN ?_ _) | (with_reducible refine Kd.C_drew ?_))); (case side2 => exact (Kd.R_reads' HO575.out).2.1); rintro e w36 ⟨v578, rfl, ho0, hb⟩; refine ⟨_, rfl, ?_⟩; have n0_ := Aside0.mk (Kd.R_below (by (with_reducible repeat (first | apply Kd.R_alloc | apply Kd.R_drewN | apply Kd.R_drew)); exact HO575.out) hb); have n1_ := Aside0.mk (Kd.R_lower ho0 (below_size (by repeat (first | (with_reducible first | exact HB.out | apply below_alloc | apply pw_below_drewN | apply below_drew1 | refine below_set ?_ GE562.out) | exact HB.out)))); have n2_ := Aside0.mk (blk_below (g := gb562) (o := .cells #[.int .i64 a0_0, .int .i64 a0_1, .int .i64 a0_2, .int .i64 a0_3] 24 (0, 0)) (by (with_reducible repeat (first | refine blk_drewN ?_ _ | refine blk_drew ?_ | refine blk_alloc ?_ _)); exact BK562.out) hb); have n3_ := Aside0.mk (below_step (by repeat (first | (with_reducible first | exact HB.out | apply below_alloc | apply pw_below_drewN | apply below_drew1 | refine below_set ?_ GE562.out) | exact HB.out)) hb); clear HO575; clear BK562; clear HB; have HO575 := n0_; have HO579 := n1_; have BK562 := n2_; have HB := n3_; clear n0_ n1_ n2_ n3_; (try clear hb); (try clear hb2); (try clear hk); (try clear hi); (try clear ho0); have hcv37 := own_string (P := Try.prog) Try.underlying29 Try.underlying5 Try.underlying9 (Kd.own_of_R HO579.out); have hcv38 := Kd.C_string (P := Try.prog) (A := A2) (c := c2) Try.underlying29 Try.underlying5 Try.underlying9 (Kd.C_below HR2.out HB.out)))
                    go_ret
                    exact ⟨by first | rfl | (simp [errW_none, errW_some] <;> rfl) | (simp [*, errW_none, errW_some] <;> rfl), by repeat (first | (with_reducible first | exact HB.out | apply below_alloc | apply pw_below_drewN | apply below_drew1 | refine below_set ?_ GE562.out) | exact HB.out)⟩
                  · rw [if_neg c31] at H
                    exact absurd H (by simp)
                · rw [if_neg c30] at H
                  exact absurd H (by simp)
              · rw [if_neg c28] at H
                have c28b0 : (t576 == 0) = false := beq_eq_false_iff_ne.mpr c28
                have c28b1 : (t576 != 0) = true := bne_iff_ne.mpr c28
                obtain rfl := Option.some.inj H
                have hcz39_0 : wc.cell? ⟨gb562, 0, none⟩ = some (.int .i64 a0_0) := (blk_cell BK562.out 0).trans rfl
                have hcz39_1 : wc.cell? ⟨gb562, 1, none⟩ = some (.int .i64 a0_1) := (blk_cell BK562.out 1).trans rfl
                have hcz39_2 : wc.cell? ⟨gb562, 2, none⟩ = some (.int .i64 a0_2) := (blk_cell BK562.out 2).trans rfl
                have hcz39_3 : wc.cell? ⟨gb562, 3, none⟩ = some (.int .i64 a0_3) := (blk_cell BK562.out 3).trans rfl
                have hfz39_0 := blk_frozen BK562.out 0
                have hfz39_1 := blk_frozen BK562.out 1
                have hfz39_2 := blk_frozen BK562.out 2
                have hfz39_3 := blk_frozen BK562.out 3
                go_wp2_with (first | ((with_reducible refine gate_callee (f := 13) rfl ?_); refine goesL_ (some 59) rfl rfl Try.func13 (by kernel_rfl) rfl #[.agg #[.int .i64 a0_0, .int .i64 a0_1, .int .i64 a0_2, .int .i64 a0_3], .slice A2 l2.length c2, .int .i64 a3] rfl (by (try simp only [List.map_toArray, List.map_cons, List.map_nil]); first | done | rfl | (simp only [List.length_drop, List.length_take]; rfl)) ?_; (with_reducible refine (desc_Refs.calls kj12 a0_0 a0_1 a0_2 a0_3 _ _ l2 a3 t573 t576 _ ?side1 ?side2 A27.out).mono ?_); (case side1 => repeat (first | exact (Kd.C_below HR2.out HB.out) | (with_reducible refine Kd.C_alloc ?_ _) | (with_reducible refine Kd.C_drewN ?_ _) | (with_reducible refine Kd.C_drew ?_))); (case side2 => exact HC2.out); rintro e w40 ⟨v574, rfl, ho0, hb⟩; refine ⟨_, rfl, ?_⟩; have n0_ := Aside0.mk (Kd.R_lower ho0 (below_size (by repeat (first | (with_reducible first | exact HB.out | apply below_alloc | apply pw_below_drewN | apply below_drew1 | refine below_set ?_ GE562.out) | exact HB.out)))); have n1_ := Aside0.mk (blk_below (g := gb562) (o := .cells #[.int .i64 a0_0, .int .i64 a0_1, .int .i64 a0_2, .int .i64 a0_3] 24 (0, 0)) (by (with_reducible repeat (first | refine blk_drewN ?_ _ | refine blk_drew ?_ | refine blk_alloc ?_ _)); exact BK562.out) hb); have n2_ := Aside0.mk (below_step (by repeat (first | (with_reducible first | exact HB.out | apply below_alloc | apply pw_below_drewN | apply below_drew1 | refine below_set ?_ GE562.out) | exact HB.out)) hb); clear BK562; clear HB; have HO575 := n0_; have BK562 := n1_; have HB := n2_; clear n0_ n1_ n2_; (try clear hb); (try clear hb2); (try clear hk); (try clear hi); (try clear ho0); obtain ⟨Ao41, co41, eo41⟩ := Kd.R_slice HO575.out; subst eo41))
                go_ret
                exact ⟨by first | rfl | (simp [errW_none, errW_some] <;> rfl) | (simp [*, errW_none, errW_some] <;> rfl), by repeat (first | (with_reducible first | exact HB.out | apply below_alloc | apply pw_below_drewN | apply below_drew1 | refine below_set ?_ GE562.out) | exact HB.out)⟩
  · replace c6 := Bool.eq_false_iff.mpr c6
    subst c6
    have H1 : (none) = some r := by rw [if_neg (show ¬ (false = true) by decide)] at H; exact H
    clear H
    have H := H1
    clear H1
    exact absurd H (by simp)

end Go.Proofs.Ytdpllcmpndcbnaa.P

-- Written by a program of this session, after the kit's print.
import Derived.Test.YtdpllcmpndcbnaaPx0
import Derived.Test.YtdpllcmpndcbnaaP0Short
import Derived.Test.YtdpllcmpndcbnaaPx2
import Derived.Test.YtdpllcmpndcbnaaPx3
namespace Go.Proofs.Ytdpllcmpndcbnaa.P
open Go.RowKit Go.Proofs.YtdpllcmpndcbnaaW.PrintWords Go.Proofs.YtdpllcmpndcbnaaW.PrintLast Go.Proofs.YtdpllcmpndcbnaaW.PrintMore
attribute [local go_sem] max2_int min2_int max_two min_two max_three min_three max_four min_four   -- for this text's walks alone
set_option linter.unusedVariables false
set_option linter.unusedSimpArgs false

mutual
def desc_Check.j0 : Nat → Int → Bool → Int → Int → Int → Int → Int → Int → List (S27) → Option (Int)
  | 0, _, _, _, _, _, _, _, _, _ => none
  | k + 1, x7, x28, x157000, x157001, x157002, x157003, x158000, x158001, x158002 => if x28 = true then (some 150) else (if x158001 = 1 then ((layout_Leaves.f x157000 x157001 x157002 x157003 x158000).bind fun bt161 => (if bt161.1 = (x158002.length : Int) then (desc_Check.j1 k bt161.2 (x158002.length : Int) x157000 x157001 x157002 x157003 x158000 x158001 x158002) else (some 150))) else (desc_Check.j1 k x7 0 x157000 x157001 x157002 x157003 x158000 x158001 x158002))
def desc_Check.j1 : Nat → Int → Int → Int → Int → Int → Int → Int → Int → List (S27) → Option (Int)
  | 0, _, _, _, _, _, _, _, _, _ => none
  | k + 1, x7, x8, x157000, x157001, x157002, x157003, x158000, x158001, x158002 => if x158001 = 0 then ((layout_Stripes.f x157000 x157001 x157002 x157003 x158000).bind fun bt163 => (if bt163.2 = 0 then (if bt163.1 = (x158002.length : Int) then ((desc_may.f k x157000 x157001 x157002 x157003 x158002).bind fun t165 => (if t165 = true then (some 0) else (some 150))) else (some 150)) else (some 150))) else (if x7 = 0 then (if x8 = (x158002.length : Int) then ((desc_may.f k x157000 x157001 x157002 x157003 x158002).bind fun t166 => (if t166 = true then (some 0) else (some 150))) else (some 150)) else (some 150))
end
def desc_Check.f (k : Nat) (a0_0 : Int) (a0_1 : Int) (a0_2 : Int) (a0_3 : Int) (a1_0 : Int) (a1_1 : Int) (l1_2 : List (S27)) : Option (Int) := (layout_Check.f a0_0 a0_1 a0_2 a0_3).bind fun t158 => (if t158 = 0 then ((layout_Depth.f a0_0 a0_1 a0_2 a0_3 a1_0).bind fun bt159 => (if bt159.2 = 0 then (desc_Check.j0 k bt159.2 (bt159.1 != a1_1) a0_0 a0_1 a0_2 a0_3 a1_0 a1_1 l1_2) else (desc_Check.j0 k bt159.2 true a0_0 a0_1 a0_2 a0_3 a1_0 a1_1 l1_2))) else (some t158))
set_option maxHeartbeats 8000000 in
set_option maxRecDepth 100000 in
theorem desc_Check.calls (k : Nat) (a0_0 : Int) (a0_1 : Int) (a0_2 : Int) (a0_3 : Int) (a1_0 : Int) (a1_1 : Int) (A1_2 : Option Addr) (c1_2 : Nat) (l1_2 : List (S27)) (r : Int) (w : World) (hr1_2 : Kd.C k27 w A1_2 l1_2.length l1_2) (hc1_2 : l1_2.length ≤ c1_2) (h : desc_Check.f k a0_0 a0_1 a0_2 a0_3 a1_0 a1_1 l1_2 = some r) :
    Calls Try.prog 12 #[.agg #[.int .i64 a0_0, .int .i64 a0_1, .int .i64 a0_2, .int .i64 a0_3], .agg #[.int .i64 a1_0, .int .i64 a1_1, .slice A1_2 l1_2.length c1_2]] w fun e w' => e = .returned (.int .i64 r) ∧ Below w.heap.size w w' := by
  have hu24 := Try.underlying24
  have hu35 := Try.underlying35
  have HR1_2 := Aside0.mk hr1_2
  have HC1_2 := Aside0.mk hc1_2
  clear hr1_2 hc1_2
  have HB := Aside0.mk (Below.refl w.heap.size w)
  have H : ((layout_Check.f a0_0 a0_1 a0_2 a0_3).bind fun t158 => (if t158 = 0 then ((layout_Depth.f a0_0 a0_1 a0_2 a0_3 a1_0).bind fun bt159 => (if bt159.2 = 0 then (desc_Check.j0 k bt159.2 (bt159.1 != a1_1) a0_0 a0_1 a0_2 a0_3 a1_0 a1_1 l1_2) else (desc_Check.j0 k bt159.2 true a0_0 a0_1 a0_2 a0_3 a1_0 a1_1 l1_2))) else (some t158))) = some r := h
  clear h
  replace H := Option.bind_eq_some_iff.mp H
  obtain ⟨t158, A30, H⟩ := H
  try dsimp only at H
  have A3 := Aside0.mk A30
  clear A30
  by_cases c4 : t158 = 0
  · rw [if_pos c4] at H
    have c4b0 : (t158 == 0) = true := beq_iff_eq.mpr c4
    have c4b1 : (t158 != 0) = false := bne_eq_false_iff_eq.mpr c4
    clear c4
    replace H := Option.bind_eq_some_iff.mp H
    obtain ⟨⟨t159, t160⟩, A50, H⟩ := H
    try dsimp only at H
    have A5 := Aside0.mk A50
    clear A50
    have HC6 := Aside0.mk H
    clear H
    go_enter Try.func12, Try.ntmps12
    go_upto_region 5 with (first | ((with_reducible refine gate_dst (N := 2) rfl ?_); (try (refine gate_guard (by rfl) ?_; dsimp only)); refine box_event rfl (N := 2) rfl (cs := #[.int .i64 a0_0, .int .i64 a0_1, .int .i64 a0_2, .int .i64 a0_3]) (t := 24) (by go_simp; try rfl) ?_; intro gb156 hg w7 hbox hb; have BK156 := Aside0.mk (hbox); have GW156 := Aside0.mk ((by rw [hg]; exact (sZ HB) : w.heap.size ≤ gb156)); have GE156 := Aside0.mk ((by rw [hg]; exact (sZ HB) : w.heap.size ≤ gb156)); replace HB := kH HB hb; clear hb hbox hg) | ((with_reducible refine gate_dst (N := 3) rfl ?_); (try (refine gate_guard (by rfl) ?_; dsimp only)); refine box_event rfl (N := 3) rfl (cs := #[.int .i64 a1_0, .int .i64 a1_1, .slice A1_2 l1_2.length c1_2]) (t := 35) (by go_simp; try rfl) ?_; intro gb157 hg w8 hbox hb; have BK157 := Aside0.mk (hbox); have GW157 := Aside0.mk ((by rw [hg]; exact (below_size (by repeat (first | exact sH HB.out | refine sN (w := w) ?_ | with_reducible refine sG (w := w) ?_ (by assumption)))) : w.heap.size ≤ gb157)); have GE157 := Aside0.mk ((by rw [hg]; exact (below_size (by repeat (first | exact sH HB.out | refine sN (w := w) ?_ | with_reducible refine sG (w := w) ?_ (by assumption)))) : w.heap.size ≤ gb157)); replace HB := Aside0.mk (below_step (by repeat (first | exact sH HB.out | refine sN (w := w) ?_ | with_reducible refine sG (w := w) ?_ (by assumption))) hb); have NB156_157 := Aside0.mk ((by rw [hg]; exact Nat.ne_of_lt (blk_lt (g := gb156) (o := .cells #[.int .i64 a0_0, .int .i64 a0_1, .int .i64 a0_2, .int .i64 a0_3] 24 (0, 0)) (by first | exact BK156.out | (refine sO ?_; exact BK156.out))) : gb156 ≠ gb157)); have NB157_156 := Aside0.mk ((by rw [hg]; exact Nat.ne_of_gt (blk_lt (g := gb156) (o := .cells #[.int .i64 a0_0, .int .i64 a0_1, .int .i64 a0_2, .int .i64 a0_3] 24 (0, 0)) (by first | exact BK156.out | (refine sO ?_; exact BK156.out))) : gb157 ≠ gb156)); replace BK156 := kB BK156 hb; clear hb hbox hg; have hnb9 := NB156_157.out; have hnc9 := NB157_156.out; obtain ⟨hcz10_0, hcz10_1, hcz10_2, hcz10_3, hfz10_0, hfz10_1, hfz10_2, hfz10_3⟩ := cs4 BK156.out) | ((with_reducible refine gate_callee (f := 27) rfl ?_); refine goesL_ (some 10) rfl rfl Try.func27 (by kernel_rfl) rfl #[.agg #[.int .i64 a0_0, .int .i64 a0_1, .int .i64 a0_2, .int .i64 a0_3]] rfl (by (try simp only [sM]); first | done | rfl | (simp only [sT]; rfl)) ?_; (with_reducible refine (layout_Check.calls a0_0 a0_1 a0_2 a0_3 t158 _ A3.out).mono ?_); rintro e w11 ⟨rfl, hb⟩; refine ⟨_, rfl, ?_⟩; replace BK156 := kB BK156 hb; replace BK157 := kB BK157 hb; replace HB := Aside0.mk (below_step (by repeat (first | exact sH HB.out | refine sN (w := w) ?_ | with_reducible refine sG (w := w) ?_ (by assumption))) hb); (try clear hb); (try clear hb2); (try clear hk); (try clear hi); obtain ⟨hcz12_0, hcz12_1, hcz12_2, hcz12_3, hfz12_0, hfz12_1, hfz12_2, hfz12_3⟩ := cs4 BK156.out; obtain ⟨hcz13_0, hcz13_1, hcz13_2, hfz13_0, hfz13_1, hfz13_2⟩ := cs3 BK157.out) | ((with_reducible refine gate_callee (f := 28) rfl ?_); refine goesL_ (some 18) rfl rfl Try.func28 (by kernel_rfl) rfl #[.agg #[.int .i64 a0_0, .int .i64 a0_1, .int .i64 a0_2, .int .i64 a0_3], .int .i64 a1_0] rfl (by (try simp only [sM]); first | done | rfl | (simp only [sT]; rfl)) ?_; (with_reducible refine (layout_Depth.calls a0_0 a0_1 a0_2 a0_3 a1_0 t159 t160 _ A5.out).mono ?_); rintro e w14 ⟨rfl, hb⟩; refine ⟨_, rfl, ?_⟩; replace BK156 := kB BK156 hb; replace BK157 := kB BK157 hb; replace HB := Aside0.mk (below_step (by repeat (first | exact sH HB.out | refine sN (w := w) ?_ | with_reducible refine sG (w := w) ?_ (by assumption))) hb); (try clear hb); (try clear hb2); (try clear hk); (try clear hi)))
    (try simp only [Act.put, List.setIfInBounds_toArray, List.set_cons_zero, List.set_cons_succ])
    go_cut [28] (fun v28 wc => ∃ (kq : Nat) (x28_5 : Bool), v28 = .bool x28_5 ∧ Aside0 (desc_Check.j0 kq t160 x28_5 a0_0 a0_1 a0_2 a0_3 a1_0 a1_1 l1_2 = some r) ∧ Aside0 (kq ≤ k) ∧ Aside0 (wc.heap[gb156]? = some (.cells #[.int .i64 a0_0, .int .i64 a0_1, .int .i64 a0_2, .int .i64 a0_3] 24 (0, 0))) ∧ Aside0 (wc.heap[gb157]? = some (.cells #[.int .i64 a1_0, .int .i64 a1_1, (.slice A1_2 l1_2.length c1_2)] 35 (0, 0))) ∧ Aside0 (Below w.heap.size w wc))
    case first =>
      have H := HC6.out
      clear HC6
      by_cases c15 : t160 = 0
      · rw [if_pos c15] at H
        have c15b0 : (t160 == 0) = true := beq_iff_eq.mpr c15
        have c15b1 : (t160 != 0) = false := bne_eq_false_iff_eq.mpr c15
        clear c15
        (first | rw [c15b0] | (simp only [i64_w, i32_w]; rw [c15b0]) | skip)
        have H' := Aside0.mk H
        clear H
        have hnb16 := NB157_156.out
        have hnc16 := NB156_157.out
        obtain ⟨hcz17_0, hcz17_1, hcz17_2, hfz17_0, hfz17_1, hfz17_2⟩ := cs3 BK157.out
        go_wp2
        go_meet
        case rel => exact ⟨_, ((t159 != a1_1)), (by first | rfl | (simp; done) | (simp [*]; done)), H', ⟨by first | omega | exact Nat.le_refl _⟩, ⟨by (try refine sO ?_); exact BK156.out⟩, ⟨by (try refine sO ?_); exact BK157.out⟩, ⟨by repeat (first | exact sH HB.out | refine sN (w := w) ?_ | with_reducible refine sG (w := w) ?_ (by assumption))⟩⟩
      · rw [if_neg c15] at H
        have c15b0 : (t160 == 0) = false := beq_eq_false_iff_ne.mpr c15
        have c15b1 : (t160 != 0) = true := bne_iff_ne.mpr c15
        (first | rw [c15b0] | (simp only [i64_w, i32_w]; rw [c15b0]) | skip)
        have H' := Aside0.mk H
        clear H
        go_wp2
        go_meet
        case rel => exact ⟨_, (true), (by first | rfl | (simp; done) | (simp [*]; done)), H', ⟨by first | omega | exact Nat.le_refl _⟩, ⟨by (try refine sO ?_); exact BK156.out⟩, ⟨by (try refine sO ?_); exact BK157.out⟩, ⟨by repeat (first | exact sH HB.out | refine sN (w := w) ?_ | with_reducible refine sG (w := w) ?_ (by assumption))⟩⟩
    case rest =>
      clear HC6
      try clear c1
      try clear c2
      try clear p2
      try clear c4
      try clear c4b0
      try clear c4b1
      try clear c9
      try clear c12
      try clear c15
      try clear c15b0
      try clear c15b1
      try clear c16
      try clear hcz10_0
      try clear hcz10_1
      try clear hcz10_2
      try clear hcz10_3
      try clear hcz12_0
      try clear hcz12_1
      try clear hcz12_2
      try clear hcz12_3
      try clear hcz13_0
      try clear hcz13_1
      try clear hcz13_2
      try clear hcz17_0
      try clear hcz17_1
      try clear hcz17_2
      try clear hfz10_0
      try clear hfz10_1
      try clear hfz10_2
      try clear hfz10_3
      try clear hfz12_0
      try clear hfz12_1
      try clear hfz12_2
      try clear hfz12_3
      try clear hfz13_0
      try clear hfz13_1
      try clear hfz13_2
      try clear hfz17_0
      try clear hfz17_1
      try clear hfz17_2
      obtain ⟨kq, x28_5, rfl, HA, HJ5, BK156, BK157, HB⟩ := hcut
      cases kq with
      | zero => exact absurd HA.out (by simp [desc_Check.j0])
      | succ kj5 =>
        have H := HA.out
        clear HA
        simp only [desc_Check.j0] at H
        by_cases c18 : x28_5 = true
        · subst c18
          have H1 : (some 150) = some r := by rw [if_pos rfl] at H; exact H
          clear H
          have H := H1
          clear H1
          obtain rfl := Option.some.inj H
          go_wp2
          go_ret
          exact ⟨by first | rfl | (simp [errW_none, errW_some] <;> rfl) | (simp [*, errW_none, errW_some] <;> rfl), by repeat (first | exact sH HB.out | refine sN (w := w) ?_ | with_reducible refine sG (w := w) ?_ (by assumption))⟩
        · replace c18 := Bool.eq_false_iff.mpr c18
          subst c18
          have H1 : (if a1_1 = 1 then ((layout_Leaves.f a0_0 a0_1 a0_2 a0_3 a1_0).bind fun bt161 => (if bt161.1 = (l1_2.length : Int) then (desc_Check.j1 kj5 bt161.2 (l1_2.length : Int) a0_0 a0_1 a0_2 a0_3 a1_0 a1_1 l1_2) else (some 150))) else (desc_Check.j1 kj5 t160 0 a0_0 a0_1 a0_2 a0_3 a1_0 a1_1 l1_2)) = some r := by rw [if_neg (show ¬ (false = true) by decide)] at H; exact H
          clear H
          have H := H1
          clear H1
          have HC19 := Aside0.mk H
          clear H
          have hnb20 := NB157_156.out
          have hnc20 := NB156_157.out
          obtain ⟨hcz21_0, hcz21_1, hcz21_2, hfz21_0, hfz21_1, hfz21_2⟩ := cs3 BK157.out
          go_upto_block 2 with (fail)
          go_cut [7, 8] (fun v7 v8 wc => ∃ (kq : Nat) (x7_18 : Int) (x8_18 : Int), v7 = .int .i64 x7_18 ∧ v8 = .int .i64 x8_18 ∧ Aside0 (desc_Check.j1 kq x7_18 x8_18 a0_0 a0_1 a0_2 a0_3 a1_0 a1_1 l1_2 = some r) ∧ Aside0 (kq ≤ kj5) ∧ Aside0 (wc.heap[gb156]? = some (.cells #[.int .i64 a0_0, .int .i64 a0_1, .int .i64 a0_2, .int .i64 a0_3] 24 (0, 0))) ∧ Aside0 (wc.heap[gb157]? = some (.cells #[.int .i64 a1_0, .int .i64 a1_1, (.slice A1_2 l1_2.length c1_2)] 35 (0, 0))) ∧ Aside0 (Below w.heap.size w wc))
          case first =>
            have H := HC19.out
            clear HC19
            by_cases c22 : a1_1 = 1
            · rw [if_pos c22] at H
              have c22b0 : (a1_1 == 1) = true := beq_iff_eq.mpr c22
              have c22b1 : (a1_1 != 1) = false := bne_eq_false_iff_eq.mpr c22
              clear c22
              (first | rw [c22b0] | (simp only [i64_w, i32_w]; rw [c22b0]) | skip)
              replace H := Option.bind_eq_some_iff.mp H
              obtain ⟨⟨t161, t162⟩, A230, H⟩ := H
              try dsimp only at H
              have A23 := Aside0.mk A230
              clear A230
              by_cases c24 : t161 = (l1_2.length : Int)
              · rw [if_pos c24] at H
                have c24b0 : (t161 == (l1_2.length : Int)) = true := beq_iff_eq.mpr c24
                have c24b1 : (t161 != (l1_2.length : Int)) = false := bne_eq_false_iff_eq.mpr c24
                clear c24
                have H' := Aside0.mk H
                clear H
                have hnb25 := NB156_157.out
                have hnc25 := NB157_156.out
                obtain ⟨hcz26_0, hcz26_1, hcz26_2, hcz26_3, hfz26_0, hfz26_1, hfz26_2, hfz26_3⟩ := cs4 BK156.out; obtain ⟨hcz27_0, hcz27_1, hcz27_2, hfz27_0, hfz27_1, hfz27_2⟩ := cs3 BK157.out
                go_wp2_with (first | ((with_reducible refine gate_callee (f := 30) rfl ?_); refine goesL_ (some 37) rfl rfl Try.func30 (by kernel_rfl) rfl #[.agg #[.int .i64 a0_0, .int .i64 a0_1, .int .i64 a0_2, .int .i64 a0_3], .int .i64 a1_0] rfl (by (try simp only [sM]); first | done | rfl | (simp only [sT]; rfl)) ?_; (with_reducible refine (layout_Leaves.calls a0_0 a0_1 a0_2 a0_3 a1_0 t161 t162 _ A23.out).mono ?_); rintro e w28 ⟨rfl, hb⟩; refine ⟨_, rfl, ?_⟩; replace BK156 := kB BK156 hb; replace BK157 := kB BK157 hb; replace HB := Aside0.mk (below_step (by repeat (first | exact sH HB.out | refine sN (w := w) ?_ | with_reducible refine sG (w := w) ?_ (by assumption))) hb); (try clear hb); (try clear hb2); (try clear hk); (try clear hi); obtain ⟨hcz29_0, hcz29_1, hcz29_2, hfz29_0, hfz29_1, hfz29_2⟩ := cs3 BK157.out))
                go_meet
                case rel => exact ⟨_, (t162), ((l1_2.length : Int)), (by first | rfl | (simp; done) | (simp [*]; done)), (by first | rfl | (simp; done) | (simp [*]; done)), H', ⟨by have := HJ5.out; first | omega | exact Nat.le_refl _⟩, ⟨by (try refine sO ?_); exact BK156.out⟩, ⟨by (try refine sO ?_); exact BK157.out⟩, ⟨by repeat (first | exact sH HB.out | refine sN (w := w) ?_ | with_reducible refine sG (w := w) ?_ (by assumption))⟩⟩
              · rw [if_neg c24] at H
                have c24b0 : (t161 == (l1_2.length : Int)) = false := beq_eq_false_iff_ne.mpr c24
                have c24b1 : (t161 != (l1_2.length : Int)) = true := bne_iff_ne.mpr c24
                obtain rfl := Option.some.inj H
                have hnb30 := NB156_157.out
                have hnc30 := NB157_156.out
                obtain ⟨hcz31_0, hcz31_1, hcz31_2, hcz31_3, hfz31_0, hfz31_1, hfz31_2, hfz31_3⟩ := cs4 BK156.out; obtain ⟨hcz32_0, hcz32_1, hcz32_2, hfz32_0, hfz32_1, hfz32_2⟩ := cs3 BK157.out
                go_wp2_with (first | ((with_reducible refine gate_callee (f := 30) rfl ?_); refine goesL_ (some 37) rfl rfl Try.func30 (by kernel_rfl) rfl #[.agg #[.int .i64 a0_0, .int .i64 a0_1, .int .i64 a0_2, .int .i64 a0_3], .int .i64 a1_0] rfl (by (try simp only [sM]); first | done | rfl | (simp only [sT]; rfl)) ?_; (with_reducible refine (layout_Leaves.calls a0_0 a0_1 a0_2 a0_3 a1_0 t161 t162 _ A23.out).mono ?_); rintro e w33 ⟨rfl, hb⟩; refine ⟨_, rfl, ?_⟩; replace BK156 := kB BK156 hb; replace BK157 := kB BK157 hb; replace HB := Aside0.mk (below_step (by repeat (first | exact sH HB.out | refine sN (w := w) ?_ | with_reducible refine sG (w := w) ?_ (by assumption))) hb); (try clear hb); (try clear hb2); (try clear hk); (try clear hi); obtain ⟨hcz34_0, hcz34_1, hcz34_2, hfz34_0, hfz34_1, hfz34_2⟩ := cs3 BK157.out))
                go_ret
                exact ⟨by first | rfl | (simp [errW_none, errW_some] <;> rfl) | (simp [*, errW_none, errW_some] <;> rfl), by repeat (first | exact sH HB.out | refine sN (w := w) ?_ | with_reducible refine sG (w := w) ?_ (by assumption))⟩
            · rw [if_neg c22] at H
              have c22b0 : (a1_1 == 1) = false := beq_eq_false_iff_ne.mpr c22
              have c22b1 : (a1_1 != 1) = true := bne_iff_ne.mpr c22
              (first | rw [c22b0] | (simp only [i64_w, i32_w]; rw [c22b0]) | skip)
              have H' := Aside0.mk H
              clear H
              go_wp2
              go_meet
              case rel => exact ⟨_, (t160), (0), (by first | rfl | (simp; done) | (simp [*]; done)), (by first | rfl | (simp; done) | (simp [*]; done)), H', ⟨by have := HJ5.out; first | omega | exact Nat.le_refl _⟩, ⟨by (try refine sO ?_); exact BK156.out⟩, ⟨by (try refine sO ?_); exact BK157.out⟩, ⟨by repeat (first | exact sH HB.out | refine sN (w := w) ?_ | with_reducible refine sG (w := w) ?_ (by assumption))⟩⟩
          case rest =>
            clear HC19
            try clear c1
            try clear c2
            try clear p2
            try clear c3
            try clear c4
            try clear c4b0
            try clear c4b1
            try clear c9
            try clear c12
            try clear c15
            try clear c15b0
            try clear c15b1
            try clear c16
            try clear c18
            try clear c20
            try clear c22
            try clear c22b0
            try clear c22b1
            try clear c24
            try clear c24b0
            try clear c24b1
            try clear c25
            try clear c27
            try clear c28
            try clear c30
            try clear hcz10_0
            try clear hcz10_1
            try clear hcz10_2
            try clear hcz10_3
            try clear hcz12_0
            try clear hcz12_1
            try clear hcz12_2
            try clear hcz12_3
            try clear hcz13_0
            try clear hcz13_1
            try clear hcz13_2
            try clear hcz17_0
            try clear hcz17_1
            try clear hcz17_2
            try clear hcz21_0
            try clear hcz21_1
            try clear hcz21_2
            try clear hcz26_0
            try clear hcz26_1
            try clear hcz26_2
            try clear hcz26_3
            try clear hcz27_0
            try clear hcz27_1
            try clear hcz27_2
            try clear hcz29_0
            try clear hcz29_1
            try clear hcz29_2
            try clear hcz31_0
            try clear hcz31_1
            try clear hcz31_2
            try clear hcz31_3
            try clear hcz32_0
            try clear hcz32_1
            try clear hcz32_2
            try clear hcz34_0
            try clear hcz34_1
            try clear hcz34_2
            try clear hfz10_0
            try clear hfz10_1
            try clear hfz10_2
            try clear hfz10_3
            try clear hfz12_0
            try clear hfz12_1
            try clear hfz12_2
            try clear hfz12_3
            try clear hfz13_0
            try clear hfz13_1
            try clear hfz13_2
            try clear hfz17_0
            try clear hfz17_1
            try clear hfz17_2
            try clear hfz21_0
            try clear hfz21_1
            try clear hfz21_2
            try clear hfz26_0
            try clear hfz26_1
            try clear hfz26_2
            try clear hfz26_3
            try clear hfz27_0
            try clear hfz27_1
            try clear hfz27_2
            try clear hfz29_0
            try clear hfz29_1
            try clear hfz29_2
            try clear hfz31_0
            try clear hfz31_1
            try clear hfz31_2
            try clear hfz31_3
            try clear hfz32_0
            try clear hfz32_1
            try clear hfz32_2
            try clear hfz34_0
            try clear hfz34_1
            try clear hfz34_2
            try clear p2
            obtain ⟨kq, x7_18, x8_18, rfl, rfl, HA, HJ18, BK156, BK157, HB⟩ := hcut
            cases kq with
            | zero => exact absurd HA.out (by simp [desc_Check.j1])
            | succ kj18 =>
              have H := HA.out
              clear HA
              simp only [desc_Check.j1] at H
              by_cases c35 : a1_1 = 0
              · rw [if_pos c35] at H
                have c35b0 : (a1_1 == 0) = true := beq_iff_eq.mpr c35
                have c35b1 : (a1_1 != 0) = false := bne_eq_false_iff_eq.mpr c35
                clear c35
                replace H := Option.bind_eq_some_iff.mp H
                obtain ⟨⟨t163, t164⟩, A360, H⟩ := H
                try dsimp only at H
                have A36 := Aside0.mk A360
                clear A360
                by_cases c37 : t164 = 0
                · rw [if_pos c37] at H
                  have c37b0 : (t164 == 0) = true := beq_iff_eq.mpr c37
                  have c37b1 : (t164 != 0) = false := bne_eq_false_iff_eq.mpr c37
                  clear c37
                  by_cases c38 : t163 = (l1_2.length : Int)
                  · rw [if_pos c38] at H
                    have c38b0 : (t163 == (l1_2.length : Int)) = true := beq_iff_eq.mpr c38
                    have c38b1 : (t163 != (l1_2.length : Int)) = false := bne_eq_false_iff_eq.mpr c38
                    clear c38
                    replace H := Option.bind_eq_some_iff.mp H
                    obtain ⟨t165, A390, H⟩ := H
                    try dsimp only at H
                    have A39 := Aside0.mk A390
                    clear A390
                    by_cases c40 : t165 = true
                    · subst c40
                      have H1 : (some 0) = some r := by rw [if_pos rfl] at H; exact H
                      clear H
                      have H := H1
                      clear H1
                      obtain rfl := Option.some.inj H
                      have hnb41 := NB157_156.out
                      have hnc41 := NB156_157.out
                      obtain ⟨hcz42_0, hcz42_1, hcz42_2, hfz42_0, hfz42_1, hfz42_2⟩ := cs3 BK157.out; obtain ⟨hcz43_0, hcz43_1, hcz43_2, hcz43_3, hfz43_0, hfz43_1, hfz43_2, hfz43_3⟩ := cs4 BK156.out
                      go_wp2_with (first | ((with_reducible refine gate_callee (f := 29) rfl ?_); refine goesL_ (some 55) rfl rfl Try.func29 (by kernel_rfl) rfl #[.agg #[.int .i64 a0_0, .int .i64 a0_1, .int .i64 a0_2, .int .i64 a0_3], .int .i64 a1_0] rfl (by (try simp only [sM]); first | done | rfl | (simp only [sT]; rfl)) ?_; (with_reducible refine (layout_Stripes.calls a0_0 a0_1 a0_2 a0_3 a1_0 t163 t164 _ A36.out).mono ?_); rintro e w44 ⟨rfl, hb⟩; refine ⟨_, rfl, ?_⟩; replace BK156 := kB BK156 hb; replace BK157 := kB BK157 hb; replace HB := Aside0.mk (below_step (by repeat (first | exact sH HB.out | refine sN (w := w) ?_ | with_reducible refine sG (w := w) ?_ (by assumption))) hb); (try clear hb); (try clear hb2); (try clear hk); (try clear hi); obtain ⟨hcz45_0, hcz45_1, hcz45_2, hfz45_0, hfz45_1, hfz45_2⟩ := cs3 BK157.out; obtain ⟨hcz46_0, hcz46_1, hcz46_2, hcz46_3, hfz46_0, hfz46_1, hfz46_2, hfz46_3⟩ := cs4 BK156.out) | (go_at_call 32; (with_reducible refine (desc_may.calls kj18 a0_0 a0_1 a0_2 a0_3 _ _ l1_2 true _ ?side1 ?side2 A39.out).mono ?_); (case side1 => exact sC (Kd.C_below HR1_2.out HB.out)); (case side2 => exact HC1_2.out); rintro e w47 ⟨rfl, hb⟩; replace BK156 := kB BK156 hb; replace BK157 := kB BK157 hb; replace HB := Aside0.mk (below_step (by repeat (first | exact sH HB.out | refine sN (w := w) ?_ | with_reducible refine sG (w := w) ?_ (by assumption))) hb); (try clear hb); (try clear hb2); (try clear hk); (try clear hi)))
                      go_ret
                      exact ⟨by first | rfl | (simp [errW_none, errW_some] <;> rfl) | (simp [*, errW_none, errW_some] <;> rfl), by repeat (first | exact sH HB.out | refine sN (w := w) ?_ | with_reducible refine sG (w := w) ?_ (by assumption))⟩
                    · replace c40 := Bool.eq_false_iff.mpr c40
                      subst c40
                      have H1 : (some 150) = some r := by rw [if_neg (show ¬ (false = true) by decide)] at H; exact H
                      clear H
                      have H := H1
                      clear H1
                      obtain rfl := Option.some.inj H
                      have hnb48 := NB157_156.out
                      have hnc48 := NB156_157.out
                      obtain ⟨hcz49_0, hcz49_1, hcz49_2, hfz49_0, hfz49_1, hfz49_2⟩ := cs3 BK157.out; obtain ⟨hcz50_0, hcz50_1, hcz50_2, hcz50_3, hfz50_0, hfz50_1, hfz50_2, hfz50_3⟩ := cs4 BK156.out
                      go_wp2_with (first | ((with_reducible refine gate_callee (f := 29) rfl ?_); refine goesL_ (some 55) rfl rfl Try.func29 (by kernel_rfl) rfl #[.agg #[.int .i64 a0_0, .int .i64 a0_1, .int .i64 a0_2, .int .i64 a0_3], .int .i64 a1_0] rfl (by (try simp only [sM]); first | done | rfl | (simp only [sT]; rfl)) ?_; (with_reducible refine (layout_Stripes.calls a0_0 a0_1 a0_2 a0_3 a1_0 t163 t164 _ A36.out).mono ?_); rintro e w51 ⟨rfl, hb⟩; refine ⟨_, rfl, ?_⟩; replace BK156 := kB BK156 hb; replace BK157 := kB BK157 hb; replace HB := Aside0.mk (below_step (by repeat (first | exact sH HB.out | refine sN (w := w) ?_ | with_reducible refine sG (w := w) ?_ (by assumption))) hb); (try clear hb); (try clear hb2); (try clear hk); (try clear hi); obtain ⟨hcz52_0, hcz52_1, hcz52_2, hfz52_0, hfz52_1, hfz52_2⟩ := cs3 BK157.out; obtain ⟨hcz53_0, hcz53_1, hcz53_2, hcz53_3, hfz53_0, hfz53_1, hfz53_2, hfz53_3⟩ := cs4 BK156.out) | (go_at_call 32; (with_reducible refine (desc_may.calls kj18 a0_0 a0_1 a0_2 a0_3 _ _ l1_2 false _ ?side1 ?side2 A39.out).mono ?_); (case side1 => exact sC (Kd.C_below HR1_2.out HB.out)); (case side2 => exact HC1_2.out); rintro e w54 ⟨rfl, hb⟩; replace BK156 := kB BK156 hb; replace BK157 := kB BK157 hb; replace HB := Aside0.mk (below_step (by repeat (first | exact sH HB.out | refine sN (w := w) ?_ | with_reducible refine sG (w := w) ?_ (by assumption))) hb); (try clear hb); (try clear hb2); (try clear hk); (try clear hi)))
                      go_ret
                      exact ⟨by first | rfl | (simp [errW_none, errW_some] <;> rfl) | (simp [*, errW_none, errW_some] <;> rfl), by repeat (first | exact sH HB.out | refine sN (w := w) ?_ | with_reducible refine sG (w := w) ?_ (by assumption))⟩
                  · rw [if_neg c38] at H
                    have c38b0 : (t163 == (l1_2.length : Int)) = false := beq_eq_false_iff_ne.mpr c38
                    have c38b1 : (t163 != (l1_2.length : Int)) = true := bne_iff_ne.mpr c38
                    obtain rfl := Option.some.inj H
                    have hnb55 := NB157_156.out
                    have hnc55 := NB156_157.out
                    obtain ⟨hcz56_0, hcz56_1, hcz56_2, hfz56_0, hfz56_1, hfz56_2⟩ := cs3 BK157.out; obtain ⟨hcz57_0, hcz57_1, hcz57_2, hcz57_3, hfz57_0, hfz57_1, hfz57_2, hfz57_3⟩ := cs4 BK156.out
                    go_wp2_with (first | ((with_reducible refine gate_callee (f := 29) rfl ?_); refine goesL_ (some 55) rfl rfl Try.func29 (by kernel_rfl) rfl #[.agg #[.int .i64 a0_0, .int .i64 a0_1, .int .i64 a0_2, .int .i64 a0_3], .int .i64 a1_0] rfl (by (try simp only [sM]); first | done | rfl | (simp only [sT]; rfl)) ?_; (with_reducible refine (layout_Stripes.calls a0_0 a0_1 a0_2 a0_3 a1_0 t163 t164 _ A36.out).mono ?_); rintro e w58 ⟨rfl, hb⟩; refine ⟨_, rfl, ?_⟩; replace BK156 := kB BK156 hb; replace BK157 := kB BK157 hb; replace HB := Aside0.mk (below_step (by repeat (first | exact sH HB.out | refine sN (w := w) ?_ | with_reducible refine sG (w := w) ?_ (by assumption))) hb); (try clear hb); (try clear hb2); (try clear hk); (try clear hi); obtain ⟨hcz59_0, hcz59_1, hcz59_2, hfz59_0, hfz59_1, hfz59_2⟩ := cs3 BK157.out))
                    go_ret
                    exact ⟨by first | rfl | (simp [errW_none, errW_some] <;> rfl) | (simp [*, errW_none, errW_some] <;> rfl), by repeat (first | exact sH HB.out | refine sN (w := w) ?_ | with_reducible refine sG (w := w) ?_ (by assumption))⟩
                · rw [if_neg c37] at H
                  have c37b0 : (t164 == 0) = false := beq_eq_false_iff_ne.mpr c37
                  have c37b1 : (t164 != 0) = true := bne_iff_ne.mpr c37
                  obtain rfl := Option.some.inj H
                  have hnb60 := NB157_156.out
                  have hnc60 := NB156_157.out
                  obtain ⟨hcz61_0, hcz61_1, hcz61_2, hfz61_0, hfz61_1, hfz61_2⟩ := cs3 BK157.out; obtain ⟨hcz62_0, hcz62_1, hcz62_2, hcz62_3, hfz62_0, hfz62_1, hfz62_2, hfz62_3⟩ := cs4 BK156.out
                  go_wp2_with (first | ((with_reducible refine gate_callee (f := 29) rfl ?_); refine goesL_ (some 55) rfl rfl Try.func29 (by kernel_rfl) rfl #[.agg #[.int .i64 a0_0, .int .i64 a0_1, .int .i64 a0_2, .int .i64 a0_3], .int .i64 a1_0] rfl (by (try simp only [sM]); first | done | rfl | (simp only [sT]; rfl)) ?_; (with_reducible refine (layout_Stripes.calls a0_0 a0_1 a0_2 a0_3 a1_0 t163 t164 _ A36.out).mono ?_); rintro e w63 ⟨rfl, hb⟩; refine ⟨_, rfl, ?_⟩; replace BK156 := kB BK156 hb; replace BK157 := kB BK157 hb; replace HB := Aside0.mk (below_step (by repeat (first | exact sH HB.out | refine sN (w := w) ?_ | with_reducible refine sG (w := w) ?_ (by assumption))) hb); (try clear hb); (try clear hb2); (try clear hk); (try clear hi)))
                  go_ret
                  exact ⟨by first | rfl | (simp [errW_none, errW_some] <;> rfl) | (simp [*, errW_none, errW_some] <;> rfl), by repeat (first | exact sH HB.out | refine sN (w := w) ?_ | with_reducible refine sG (w := w) ?_ (by assumption))⟩
              · rw [if_neg c35] at H
                have c35b0 : (a1_1 == 0) = false := beq_eq_false_iff_ne.mpr c35
                have c35b1 : (a1_1 != 0) = true := bne_iff_ne.mpr c35
                by_cases c64 : x7_18 = 0
                · rw [if_pos c64] at H
                  have c64b0 : (x7_18 == 0) = true := beq_iff_eq.mpr c64
                  have c64b1 : (x7_18 != 0) = false := bne_eq_false_iff_eq.mpr c64
                  clear c64
                  by_cases c65 : x8_18 = (l1_2.length : Int)
                  · rw [if_pos c65] at H
                    have c65b0 : (x8_18 == (l1_2.length : Int)) = true := beq_iff_eq.mpr c65
                    have c65b1 : (x8_18 != (l1_2.length : Int)) = false := bne_eq_false_iff_eq.mpr c65
                    clear c65
                    replace H := Option.bind_eq_some_iff.mp H
                    obtain ⟨t166, A660, H⟩ := H
                    try dsimp only at H
                    have A66 := Aside0.mk A660
                    clear A660
                    by_cases c67 : t166 = true
                    · subst c67
                      have H1 : (some 0) = some r := by rw [if_pos rfl] at H; exact H
                      clear H
                      have H := H1
                      clear H1
                      obtain rfl := Option.some.inj H
                      have hnb68 := NB157_156.out
                      have hnc68 := NB156_157.out
                      obtain ⟨hcz69_0, hcz69_1, hcz69_2, hfz69_0, hfz69_1, hfz69_2⟩ := cs3 BK157.out; obtain ⟨hcz70_0, hcz70_1, hcz70_2, hcz70_3, hfz70_0, hfz70_1, hfz70_2, hfz70_3⟩ := cs4 BK156.out
                      go_wp2_with (first | (go_at_call 32; (with_reducible refine (desc_may.calls kj18 a0_0 a0_1 a0_2 a0_3 _ _ l1_2 true _ ?side1 ?side2 A66.out).mono ?_); (case side1 => exact sC (Kd.C_below HR1_2.out HB.out)); (case side2 => exact HC1_2.out); rintro e w71 ⟨rfl, hb⟩; replace BK156 := kB BK156 hb; replace BK157 := kB BK157 hb; replace HB := Aside0.mk (below_step (by repeat (first | exact sH HB.out | refine sN (w := w) ?_ | with_reducible refine sG (w := w) ?_ (by assumption))) hb); (try clear hb); (try clear hb2); (try clear hk); (try clear hi)))
                      go_ret
                      exact ⟨by first | rfl | (simp [errW_none, errW_some] <;> rfl) | (simp [*, errW_none, errW_some] <;> rfl), by repeat (first | exact sH HB.out | refine sN (w := w) ?_ | with_reducible refine sG (w := w) ?_ (by assumption))⟩
                    · replace c67 := Bool.eq_false_iff.mpr c67
                      subst c67
                      have H1 : (some 150) = some r := by rw [if_neg (show ¬ (false = true) by decide)] at H; exact H
                      clear H
                      have H := H1
                      clear H1
                      obtain rfl := Option.some.inj H
                      have hnb72 := NB157_156.out
                      have hnc72 := NB156_157.out
                      obtain ⟨hcz73_0, hcz73_1, hcz73_2, hfz73_0, hfz73_1, hfz73_2⟩ := cs3 BK157.out; obtain ⟨hcz74_0, hcz74_1, hcz74_2, hcz74_3, hfz74_0, hfz74_1, hfz74_2, hfz74_3⟩ := cs4 BK156.out
                      go_wp2_with (first | (go_at_call 32; (with_reducible refine (desc_may.calls kj18 a0_0 a0_1 a0_2 a0_3 _ _ l1_2 false _ ?side1 ?side2 A66.out).mono ?_); (case side1 => exact sC (Kd.C_below HR1_2.out HB.out)); (case side2 => exact HC1_2.out); rintro e w75 ⟨rfl, hb⟩; replace BK156 := kB BK156 hb; replace BK157 := kB BK157 hb; replace HB := Aside0.mk (below_step (by repeat (first | exact sH HB.out | refine sN (w := w) ?_ | with_reducible refine sG (w := w) ?_ (by assumption))) hb); (try clear hb); (try clear hb2); (try clear hk); (try clear hi)))
                      go_ret
                      exact ⟨by first | rfl | (simp [errW_none, errW_some] <;> rfl) | (simp [*, errW_none, errW_some] <;> rfl), by repeat (first | exact sH HB.out | refine sN (w := w) ?_ | with_reducible refine sG (w := w) ?_ (by assumption))⟩
                  · rw [if_neg c65] at H
                    have c65b0 : (x8_18 == (l1_2.length : Int)) = false := beq_eq_false_iff_ne.mpr c65
                    have c65b1 : (x8_18 != (l1_2.length : Int)) = true := bne_iff_ne.mpr c65
                    obtain rfl := Option.some.inj H
                    have hnb76 := NB157_156.out
                    have hnc76 := NB156_157.out
                    obtain ⟨hcz77_0, hcz77_1, hcz77_2, hfz77_0, hfz77_1, hfz77_2⟩ := cs3 BK157.out
                    go_wp2
                    go_ret
                    exact ⟨by first | rfl | (simp [errW_none, errW_some] <;> rfl) | (simp [*, errW_none, errW_some] <;> rfl), by repeat (first | exact sH HB.out | refine sN (w := w) ?_ | with_reducible refine sG (w := w) ?_ (by assumption))⟩
                · rw [if_neg c64] at H
                  have c64b0 : (x7_18 == 0) = false := beq_eq_false_iff_ne.mpr c64
                  have c64b1 : (x7_18 != 0) = true := bne_iff_ne.mpr c64
                  obtain rfl := Option.some.inj H
                  have hnb78 := NB157_156.out
                  have hnc78 := NB156_157.out
                  obtain ⟨hcz79_0, hcz79_1, hcz79_2, hfz79_0, hfz79_1, hfz79_2⟩ := cs3 BK157.out
                  go_wp2
                  go_ret
                  exact ⟨by first | rfl | (simp [errW_none, errW_some] <;> rfl) | (simp [*, errW_none, errW_some] <;> rfl), by repeat (first | exact sH HB.out | refine sN (w := w) ?_ | with_reducible refine sG (w := w) ?_ (by assumption))⟩
  · rw [if_neg c4] at H
    have c4b0 : (t158 == 0) = false := beq_eq_false_iff_ne.mpr c4
    have c4b1 : (t158 != 0) = true := bne_iff_ne.mpr c4
    obtain rfl := Option.some.inj H
    go_enter Try.func12, Try.ntmps12
    go_wp2_with (first | ((with_reducible refine gate_dst (N := 2) rfl ?_); (try (refine gate_guard (by rfl) ?_; dsimp only)); refine box_event rfl (N := 2) rfl (cs := #[.int .i64 a0_0, .int .i64 a0_1, .int .i64 a0_2, .int .i64 a0_3]) (t := 24) (by go_simp; try rfl) ?_; intro gb156 hg w80 hbox hb; have BK156 := Aside0.mk (hbox); have GW156 := Aside0.mk ((by rw [hg]; exact (sZ HB) : w.heap.size ≤ gb156)); have GE156 := Aside0.mk ((by rw [hg]; exact (sZ HB) : w.heap.size ≤ gb156)); replace HB := kH HB hb; clear hb hbox hg) | ((with_reducible refine gate_dst (N := 3) rfl ?_); (try (refine gate_guard (by rfl) ?_; dsimp only)); refine box_event rfl (N := 3) rfl (cs := #[.int .i64 a1_0, .int .i64 a1_1, .slice A1_2 l1_2.length c1_2]) (t := 35) (by go_simp; try rfl) ?_; intro gb157 hg w81 hbox hb; have BK157 := Aside0.mk (hbox); have GW157 := Aside0.mk ((by rw [hg]; exact (below_size (by repeat (first | exact sH HB.out | refine sN (w := w) ?_ | with_reducible refine sG (w := w) ?_ (by assumption)))) : w.heap.size ≤ gb157)); have GE157 := Aside0.mk ((by rw [hg]; exact (below_size (by repeat (first | exact sH HB.out | refine sN (w := w) ?_ | with_reducible refine sG (w := w) ?_ (by assumption)))) : w.heap.size ≤ gb157)); replace HB := Aside0.mk (below_step (by repeat (first | exact sH HB.out | refine sN (w := w) ?_ | with_reducible refine sG (w := w) ?_ (by assumption))) hb); have NB156_157 := Aside0.mk ((by rw [hg]; exact Nat.ne_of_lt (blk_lt (g := gb156) (o := .cells #[.int .i64 a0_0, .int .i64 a0_1, .int .i64 a0_2, .int .i64 a0_3] 24 (0, 0)) (by first | exact BK156.out | (refine sO ?_; exact BK156.out))) : gb156 ≠ gb157)); have NB157_156 := Aside0.mk ((by rw [hg]; exact Nat.ne_of_gt (blk_lt (g := gb156) (o := .cells #[.int .i64 a0_0, .int .i64 a0_1, .int .i64 a0_2, .int .i64 a0_3] 24 (0, 0)) (by first | exact BK156.out | (refine sO ?_; exact BK156.out))) : gb157 ≠ gb156)); replace BK156 := kB BK156 hb; clear hb hbox hg; have hnb82 := NB156_157.out; have hnc82 := NB157_156.out; obtain ⟨hcz83_0, hcz83_1, hcz83_2, hcz83_3, hfz83_0, hfz83_1, hfz83_2, hfz83_3⟩ := cs4 BK156.out) | ((with_reducible refine gate_callee (f := 27) rfl ?_); refine goesL_ (some 10) rfl rfl Try.func27 (by kernel_rfl) rfl #[.agg #[.int .i64 a0_0, .int .i64 a0_1, .int .i64 a0_2, .int .i64 a0_3]] rfl (by (try simp only [sM]); first | done | rfl | (simp only [sT]; rfl)) ?_; (with_reducible refine (layout_Check.calls a0_0 a0_1 a0_2 a0_3 t158 _ A3.out).mono ?_); rintro e w84 ⟨rfl, hb⟩; refine ⟨_, rfl, ?_⟩; replace BK156 := kB BK156 hb; replace BK157 := kB BK157 hb; replace HB := Aside0.mk (below_step (by repeat (first | exact sH HB.out | refine sN (w := w) ?_ | with_reducible refine sG (w := w) ?_ (by assumption))) hb); (try clear hb); (try clear hb2); (try clear hk); (try clear hi)))
    go_ret
    exact ⟨by first | rfl | (simp [errW_none, errW_some] <;> rfl) | (simp [*, errW_none, errW_some] <;> rfl), by repeat (first | exact sH HB.out | refine sN (w := w) ?_ | with_reducible refine sG (w := w) ?_ (by assumption))⟩

def desc_sized.f (a0_0 : Int) (a0_1 : Int) (a0_2 : Int) (a0_3 : Int) (l1 : List Int) : Option (Int) := (layout_Width.f a0_0 a0_1 a0_2 a0_3).bind fun bt168 => (if bt168.2 = 0 then (if (l1.length : Int) = bt168.1 then (some bt168.2) else (some 20)) else (some bt168.2))
set_option maxHeartbeats 8000000 in
set_option maxRecDepth 100000 in
theorem desc_sized.calls (a0_0 : Int) (a0_1 : Int) (a0_2 : Int) (a0_3 : Int) (A1 : Option Addr) (c1 : Nat) (l1 : List Int) (r : Int) (w : World) (hr1 : Kd.C (Kd.int .u8) w A1 l1.length l1) (hc1 : l1.length ≤ c1) (h : desc_sized.f a0_0 a0_1 a0_2 a0_3 l1 = some r) :
    Calls Try.prog 35 #[.agg #[.int .i64 a0_0, .int .i64 a0_1, .int .i64 a0_2, .int .i64 a0_3], .slice A1 l1.length c1] w fun e w' => e = .returned (.int .i64 r) ∧ Below w.heap.size w w' := by
  have hu24 := Try.underlying24
  have HR1 := Aside0.mk hr1
  have HC1 := Aside0.mk hc1
  clear hr1 hc1
  have HB := Aside0.mk (Below.refl w.heap.size w)
  have H : ((layout_Width.f a0_0 a0_1 a0_2 a0_3).bind fun bt168 => (if bt168.2 = 0 then (if (l1.length : Int) = bt168.1 then (some bt168.2) else (some 20)) else (some bt168.2))) = some r := h
  clear h
  replace H := Option.bind_eq_some_iff.mp H
  obtain ⟨⟨t168, t169⟩, A30, H⟩ := H
  try dsimp only at H
  have A3 := Aside0.mk A30
  clear A30
  by_cases c4 : t169 = 0
  · rw [if_pos c4] at H
    have c4b0 : (t169 == 0) = true := beq_iff_eq.mpr c4
    have c4b1 : (t169 != 0) = false := bne_eq_false_iff_eq.mpr c4
    clear c4
    by_cases c5 : (l1.length : Int) = t168
    · rw [if_pos c5] at H
      have c5b0 : ((l1.length : Int) == t168) = true := beq_iff_eq.mpr c5
      have c5b1 : ((l1.length : Int) != t168) = false := bne_eq_false_iff_eq.mpr c5
      clear c5
      obtain rfl := Option.some.inj H
      go_enter Try.func35, Try.ntmps35
      go_wp2_with (first | ((with_reducible refine gate_dst (N := 2) rfl ?_); (try (refine gate_guard (by rfl) ?_; dsimp only)); refine box_event rfl (N := 2) rfl (cs := #[.int .i64 a0_0, .int .i64 a0_1, .int .i64 a0_2, .int .i64 a0_3]) (t := 24) (by go_simp; try rfl) ?_; intro gb167 hg w6 hbox hb; have BK167 := Aside0.mk (hbox); have GW167 := Aside0.mk ((by rw [hg]; exact (sZ HB) : w.heap.size ≤ gb167)); have GE167 := Aside0.mk ((by rw [hg]; exact (sZ HB) : w.heap.size ≤ gb167)); replace HB := kH HB hb; clear hb hbox hg; obtain ⟨hcz7_0, hcz7_1, hcz7_2, hcz7_3, hfz7_0, hfz7_1, hfz7_2, hfz7_3⟩ := cs4 BK167.out) | ((with_reducible refine gate_callee (f := 26) rfl ?_); refine goesL_ (some 9) rfl rfl Try.func26 (by kernel_rfl) rfl #[.agg #[.int .i64 a0_0, .int .i64 a0_1, .int .i64 a0_2, .int .i64 a0_3]] rfl (by (try simp only [sM]); first | done | rfl | (simp only [sT]; rfl)) ?_; (with_reducible refine (layout_Width.calls a0_0 a0_1 a0_2 a0_3 t168 t169 _ A3.out).mono ?_); rintro e w8 ⟨rfl, hb⟩; refine ⟨_, rfl, ?_⟩; replace BK167 := kB BK167 hb; replace HB := Aside0.mk (below_step (by repeat (first | exact sH HB.out | refine sN (w := w) ?_ | with_reducible refine sG (w := w) ?_ (by assumption))) hb); (try clear hb); (try clear hb2); (try clear hk); (try clear hi)))
      go_ret
      exact ⟨by first | rfl | (simp [errW_none, errW_some] <;> rfl) | (simp [*, errW_none, errW_some] <;> rfl), by repeat (first | exact sH HB.out | refine sN (w := w) ?_ | with_reducible refine sG (w := w) ?_ (by assumption))⟩
    · rw [if_neg c5] at H
      have c5b0 : ((l1.length : Int) == t168) = false := beq_eq_false_iff_ne.mpr c5
      have c5b1 : ((l1.length : Int) != t168) = true := bne_iff_ne.mpr c5
      obtain rfl := Option.some.inj H
      go_enter Try.func35, Try.ntmps35
      go_wp2_with (first | ((with_reducible refine gate_dst (N := 2) rfl ?_); (try (refine gate_guard (by rfl) ?_; dsimp only)); refine box_event rfl (N := 2) rfl (cs := #[.int .i64 a0_0, .int .i64 a0_1, .int .i64 a0_2, .int .i64 a0_3]) (t := 24) (by go_simp; try rfl) ?_; intro gb167 hg w9 hbox hb; have BK167 := Aside0.mk (hbox); have GW167 := Aside0.mk ((by rw [hg]; exact (sZ HB) : w.heap.size ≤ gb167)); have GE167 := Aside0.mk ((by rw [hg]; exact (sZ HB) : w.heap.size ≤ gb167)); replace HB := kH HB hb; clear hb hbox hg; obtain ⟨hcz10_0, hcz10_1, hcz10_2, hcz10_3, hfz10_0, hfz10_1, hfz10_2, hfz10_3⟩ := cs4 BK167.out) | ((with_reducible refine gate_callee (f := 26) rfl ?_); refine goesL_ (some 9) rfl rfl Try.func26 (by kernel_rfl) rfl #[.agg #[.int .i64 a0_0, .int .i64 a0_1, .int .i64 a0_2, .int .i64 a0_3]] rfl (by (try simp only [sM]); first | done | rfl | (simp only [sT]; rfl)) ?_; (with_reducible refine (layout_Width.calls a0_0 a0_1 a0_2 a0_3 t168 t169 _ A3.out).mono ?_); rintro e w11 ⟨rfl, hb⟩; refine ⟨_, rfl, ?_⟩; replace BK167 := kB BK167 hb; replace HB := Aside0.mk (below_step (by repeat (first | exact sH HB.out | refine sN (w := w) ?_ | with_reducible refine sG (w := w) ?_ (by assumption))) hb); (try clear hb); (try clear hb2); (try clear hk); (try clear hi)))
      go_ret
      exact ⟨by first | rfl | (simp [errW_none, errW_some] <;> rfl) | (simp [*, errW_none, errW_some] <;> rfl), by repeat (first | exact sH HB.out | refine sN (w := w) ?_ | with_reducible refine sG (w := w) ?_ (by assumption))⟩
  · rw [if_neg c4] at H
    have c4b0 : (t169 == 0) = false := beq_eq_false_iff_ne.mpr c4
    have c4b1 : (t169 != 0) = true := bne_iff_ne.mpr c4
    obtain rfl := Option.some.inj H
    go_enter Try.func35, Try.ntmps35
    go_wp2_with (first | ((with_reducible refine gate_dst (N := 2) rfl ?_); (try (refine gate_guard (by rfl) ?_; dsimp only)); refine box_event rfl (N := 2) rfl (cs := #[.int .i64 a0_0, .int .i64 a0_1, .int .i64 a0_2, .int .i64 a0_3]) (t := 24) (by go_simp; try rfl) ?_; intro gb167 hg w12 hbox hb; have BK167 := Aside0.mk (hbox); have GW167 := Aside0.mk ((by rw [hg]; exact (sZ HB) : w.heap.size ≤ gb167)); have GE167 := Aside0.mk ((by rw [hg]; exact (sZ HB) : w.heap.size ≤ gb167)); replace HB := kH HB hb; clear hb hbox hg; obtain ⟨hcz13_0, hcz13_1, hcz13_2, hcz13_3, hfz13_0, hfz13_1, hfz13_2, hfz13_3⟩ := cs4 BK167.out) | ((with_reducible refine gate_callee (f := 26) rfl ?_); refine goesL_ (some 9) rfl rfl Try.func26 (by kernel_rfl) rfl #[.agg #[.int .i64 a0_0, .int .i64 a0_1, .int .i64 a0_2, .int .i64 a0_3]] rfl (by (try simp only [sM]); first | done | rfl | (simp only [sT]; rfl)) ?_; (with_reducible refine (layout_Width.calls a0_0 a0_1 a0_2 a0_3 t168 t169 _ A3.out).mono ?_); rintro e w14 ⟨rfl, hb⟩; refine ⟨_, rfl, ?_⟩; replace BK167 := kB BK167 hb; replace HB := Aside0.mk (below_step (by repeat (first | exact sH HB.out | refine sN (w := w) ?_ | with_reducible refine sG (w := w) ?_ (by assumption))) hb); (try clear hb); (try clear hb2); (try clear hk); (try clear hi)))
    go_ret
    exact ⟨by first | rfl | (simp [errW_none, errW_some] <;> rfl) | (simp [*, errW_none, errW_some] <;> rfl), by repeat (first | exact sH HB.out | refine sN (w := w) ?_ | with_reducible refine sG (w := w) ?_ (by assumption))⟩

def desc_number.l0 : Nat → Int → List Int → Int → Int → Option (Int)
  | 0, _, _, _, _ => none
  | k + 1, x3, x6, x7, x8 => if x8 < x7 then (if 0 ≤ x8 then (if x8 < (x6.length : Int) then (desc_number.l0 k (Go.bits .or .i64 (wrap64 (x3 * 256)) (wrap64 (rd x6 x8))) x6 x7 (wrap64 (x8 + 1))) else (none)) else (none)) else (some x3)
def desc_number.f (k : Nat) (l0 : List Int) : Option (Int) := desc_number.l0 k 0 l0 (l0.length : Int) 0
set_option maxHeartbeats 8000000 in
set_option maxRecDepth 100000 in
theorem desc_number.calls (k : Nat) (A0 : Option Addr) (c0 : Nat) (l0 : List Int) (r : Int) (w : World) (hr0 : Kd.C (Kd.int .u8) w A0 l0.length l0) (hc0 : l0.length ≤ c0) (h : desc_number.f k l0 = some r) :
    Calls Try.prog 39 #[.slice A0 l0.length c0] w fun e w' => e = .returned (.int .i64 r) ∧ Drawn0 w w' := by
  have HR0 := Aside0.mk hr0
  have HC0 := Aside0.mk hc0
  clear hr0 hc0
  have H : (desc_number.l0 k 0 l0 (l0.length : Int) 0) = some r := h
  clear h
  have H' := Aside0.mk H
  clear H
  go_enter Try.func39, Try.ntmps39
  go_wp2
  go_loopg [3, 8] k (fun kq v3 v8 w' => ∃ (x3_1 : Int) (x8_1 : Int), v3 = .int .i64 x3_1 ∧ v8 = .int .i64 x8_1 ∧ Aside0 (desc_number.l0 kq x3_1 l0 (l0.length : Int) x8_1 = some r) ∧ Aside0 (kq ≤ k) ∧ Drawn0 w w')
  case atStart => exact ⟨(0), (0), (by first | rfl | (simp; done) | (simp [*]; done)), (by first | rfl | (simp; done) | (simp [*]; done)), H', ⟨Nat.le_refl _⟩, by repeat (first | exact Drawn0.refl _ | apply Drawn0.step)⟩
  case round =>
    clear H'
    obtain ⟨x3_1, x8_1, rfl, rfl, HA, HK1, ⟨m1, rfl⟩⟩ := hrel
    cases gk with
    | zero => exact absurd HA.out (by simp [desc_number.l0])
    | succ k1 =>
      have H := HA.out
      clear HA
      simp only [desc_number.l0] at H
      by_cases c2 : x8_1 < (l0.length : Int)
      · rw [if_pos c2] at H
        have c2b0 : decide (x8_1 < (l0.length : Int)) = true := decide_eq_true c2
        clear c2
        by_cases c3 : 0 ≤ x8_1
        · rw [if_pos c3] at H
          have c3b0 : decide (0 ≤ x8_1) = true := decide_eq_true c3
          clear c3
          by_cases c4 : x8_1 < (l0.length : Int)
          · rw [if_pos c4] at H
            have c4b0 : decide (x8_1 < (l0.length : Int)) = true := decide_eq_true c4
            clear c4
            have H' := Aside0.mk H
            clear H
            have p170 : 0 ≤ (x8_1 : Int) := of_decide_eq_true (by first | (with_reducible assumption) | assumption)
            have q170 : x8_1 < (l0.length : Int) := of_decide_eq_true (by first | (with_reducible assumption) | assumption)
            obtain ⟨ad170, e170, hx170_0⟩ := Kd.at_int HR0.out x8_1 p170 q170
            cases e170
            replace p170 := eq_true p170
            replace q170 := eq_true q170
            go_wp2
            go_roundg k1
            case measure => have := HK1.out; omega
            case rel => exact ⟨(Go.bits .or .i64 (wrap64 (x3_1 * 256)) (wrap64 (rd l0 x8_1))), (wrap64 (x8_1 + 1)), (by first | rfl | (simp; done) | (simp [*]; done)), (by first | rfl | (simp; done) | (simp [*]; done)), H', ⟨by have := HK1.out; omega⟩, by repeat (first | exact Drawn0.refl _ | apply Drawn0.step)⟩
          · rw [if_neg c4] at H
            exact absurd H (by simp)
        · rw [if_neg c3] at H
          exact absurd H (by simp)
      · rw [if_neg c2] at H
        have c2b0 : decide (x8_1 < (l0.length : Int)) = false := decide_eq_false c2
        clear c2
        obtain rfl := Option.some.inj H
        go_wp2
        go_ret
        exact ⟨by first | rfl | (simp; done) | (simp [*]; done), by repeat (first | exact Drawn0.refl _ | apply Drawn0.step)⟩

end Go.Proofs.Ytdpllcmpndcbnaa.P

import Derived.Test.YtgcodjkedifpaaaP06LG
import Derived.Lib.Hide
namespace Go.Proofs.Ytgcodjkedifpaaa.P
open Go.RowKit Go.Proofs.YtgcodjkedifpaaaW.PrintWords Go.Proofs.YtgcodjkedifpaaaW.PrintLast Go.Proofs.YtgcodjkedifpaaaW.PrintMore
attribute [local go_sem] max2_int min2_int max_two min_two max_three min_three max_four min_four
set_option linter.unusedVariables false
set_option linter.unusedSimpArgs false
theorem ceil_bd {x y : Int} (hy : 0 < y) : (x + y - 1) / y * y < x + y ∧ x ≤ (x + y - 1) / y * y := by
  have h := Int.mul_ediv_add_emod (x + y - 1) y
  have h1 := Int.emod_nonneg (x + y - 1) (show y ≠ 0 by omega)
  have h2 := Int.emod_lt_of_pos (x + y - 1) hy
  have hc : y * ((x + y - 1) / y) = (x + y - 1) / y * y := Int.mul_comm _ _
  omega
theorem most_facts {W : Int} (h1 : 32 ≤ W) (h2 : W ≤ 768) : W ≤ mostOf W ∧ mostOf W ≤ (W - 7) / 6 * (W / 6) * W ∧ objL W (mostOf W) ≤ (W - 7) / 6 := by
  obtain ⟨c1, c2, c3, c4⟩ := mostOf_small (W := W) (by omega) h2
  have hm : mostOf W ≤ (W - 7) / 6 * (W / 6) * W := by unfold mostOf; omega
  have d1 : 4 ≤ (W - 7) / 6 := by omega
  have l1 : 5 ≤ W / 6 := by omega
  have dl : 4 * 5 ≤ (W - 7) / 6 * (W / 6) := Int.mul_le_mul d1 l1 (by omega) (by omega)
  have dw : 20 * W ≤ (W - 7) / 6 * (W / 6) * W := Int.mul_le_mul_of_nonneg_right (by omega) (by omega)
  have hw : W ≤ mostOf W := by unfold mostOf; omega
  refine ⟨hw, hm, ?_⟩
  have hS : objS W (mostOf W) ≤ (W - 7) / 6 * (W / 6) := by
    unfold objS
    refine Int.le_of_lt_add_one (Int.ediv_lt_of_lt_mul (by omega) ?_)
    rw [Int.add_mul]
    omega
  unfold objL
  split
  · omega
  · refine Int.le_of_lt_add_one (Int.ediv_lt_of_lt_mul (by omega) ?_)
    rw [Int.add_mul]
    omega
theorem objS_mono {W m n : Int} (hW : 0 < W) (h : m ≤ n) : objS W m ≤ objS W n := Int.ediv_le_ediv hW (by omega)
theorem objL_mono {W m n : Int} (hW : 32 ≤ W) (h0 : 0 ≤ m) (h : m ≤ n) : objL W m ≤ objL W n := by
  have hs := objS_mono (W := W) (by omega) h
  have h00 : 0 ≤ objS W m := Int.ediv_nonneg (by omega) (by omega)
  unfold objL
  split
  · split
    · omega
    · exact Int.ediv_nonneg (by omega) (by omega)
  · split
    · omega
    · exact Int.ediv_le_ediv (by omega) (by omega)
theorem objL_pos {W n : Int} (hW : 32 ≤ W) (h0 : 0 ≤ n) (h : (W - 7) / 6 < objS W n) : 1 ≤ objL W n ∧ objS W n ≤ objL W n * (W / 6) ∧ (objL W n - 1) * (W / 6) < objS W n := by
  have h00 : 0 ≤ objS W n := Int.ediv_nonneg (by omega) (by omega)
  obtain ⟨u1, u2⟩ := ceil_bd (x := objS W n) (y := W / 6) (by omega)
  unfold objL
  rw [if_neg (by omega)]
  refine ⟨?_, u2, ?_⟩
  · exact (Int.le_ediv_iff_mul_le (by omega)).mpr (by omega)
  · rw [Int.sub_mul]; omega
theorem LayoutGrows.walk (a b c d n1 n2 : Int) (w : World) :
    Calls Try.prog 7 #[.agg #[.int .i64 a, .int .i64 b, .int .i64 c, .int .i64 d], .int .i64 n1, .int .i64 n2] w fun e w' => e = .returned (.bool true) ∧ Below w.heap.size w w' := by
  by_cases hk' : okP a b c d = false
  · exact LG.bad a b c d n1 n2 w (by simp [layout_Width.f, hk']) (by simp [layout_Most.f, hk']) (by simp [layout_Direct.f, hk']) (by simp [layout_Leaf.f, hk'])
  have hk : okP a b c d = true := by simpa using hk'
  clear hk'
  have hw := okW hk
  obtain ⟨m1, m2, m3⟩ := most_facts hw.1 hw.2
  have mle := mostOf_le (a * c)
  have eM : lenE a b c d (mostOf (a * c)) = 0 := by unfold lenE; rw [if_pos hk, if_neg (by omega), if_neg (by omega)]
  have hW : layout_Width.f a b c d = some (a * c, 0) := by simp [layout_Width.f, hk]
  have hM : layout_Most.f a b c d = some (mostOf (a * c), 0) := by simp [layout_Most.f, hk]
  have hD : layout_Direct.f a b c d = some ((a * c - 7) / 6, 0) := by simp [layout_Direct.f, hk]
  have hL : layout_Leaf.f a b c d = some (a * c / 6, 0) := by simp [layout_Leaf.f, hk]
  have hT : layout_Leaves.f a b c d (mostOf (a * c)) = some (objL (a * c) (mostOf (a * c)), 0) := by rw [Leaves_ev, if_pos eM]
  have i3 : 1 ≤ (a * c - 7) / 6 := by omega
  have i4 : (a * c - 7) / 6 ≤ a * c / 6 := by omega
  by_cases e1 : lenE a b c d n1 = 0
  · by_cases e2 : lenE a b c d n2 = 0
    · obtain ⟨_, p0, p1⟩ := lenE_zero e1
      obtain ⟨_, q0, q1⟩ := lenE_zero e2
      obtain ⟨s0, s1, s2, s3⟩ := objS_bd (W := a * c) (n := n1) (by omega) (by omega) (by omega)
      obtain ⟨t0, t1, t2, t3⟩ := objS_bd (W := a * c) (n := n2) (by omega) (by omega) (by omega)
      obtain ⟨x0, x1⟩ := objL_bd (W := a * c) (n := n1) (by omega) (by omega) (by omega) (by omega)
      obtain ⟨y0, y1⟩ := objL_bd (W := a * c) (n := n2) (by omega) (by omega) (by omega) (by omega)
      have hs : layout_Stripes.f a b c d n1 = some (objS (a * c) n1, 0) := by rw [Stripes_ev, if_pos e1]
      have ht : layout_Stripes.f a b c d n2 = some (objS (a * c) n2, 0) := by rw [Stripes_ev, if_pos e2]
      have hx : layout_Leaves.f a b c d n1 = some (objL (a * c) n1, 0) := by rw [Leaves_ev, if_pos e1]
      have hy : layout_Leaves.f a b c d n2 = some (objL (a * c) n2, 0) := by rw [Leaves_ev, if_pos e2]
      have hq : layout_Rows.f a b c d n1 = some (1 + objS (a * c) n1 + objL (a * c) n1, 0) := by rw [Rows_ev, if_pos e1]
      have hr : layout_Rows.f a b c d n2 = some (1 + objS (a * c) n2 + objL (a * c) n2, 0) := by rw [Rows_ev, if_pos e2]
      have hdp : layout_Depth.f a b c d n1 = some (min (objL (a * c) n1) 1, 0) := by rw [Depth_ev, if_pos e1]
      have ps : (objS (a * c) n1 - 1) * (a * c) = objS (a * c) n1 * (a * c) - a * c := by rw [Int.sub_mul, Int.one_mul]
      have hsM := fun h => objS_mono (W := a * c) (m := n1) (n := n2) (by omega) h
      have hlM := fun h => objL_mono (W := a * c) (m := n1) (n := n2) (by omega) p0 h
      by_cases hsd : objS (a * c) n1 ≤ (a * c - 7) / 6
      · have ex : objL (a * c) n1 = 0 := by unfold objL; rw [if_pos hsd]
        rw [ex] at hx hq hdp hlM
        by_cases hg : n2 < n1
        · exact LG.main0gt a b c d n1 n2 _ _ _ _ _ _ _ _ _ _ w hW hM hD hL hT hs ht hx hy hq hr hdp m3 m1 i3 i4 s0 s1 t0 t1 y0 y1 (wid (by omega) (by omega)) (wid (by omega) (by omega)) s3 (by omega) hsd hg
        · have h1 := hsM (by omega)
          have h2 := hlM (by omega)
          exact LG.main0le a b c d n1 n2 _ _ _ _ _ _ _ _ _ _ w hW hM hD hL hT hs ht hx hy hq hr hdp m3 m1 i3 i4 s0 s1 t0 t1 y0 y1 (wid (by omega) (by omega)) (wid (by omega) (by omega)) s3 (by omega) hsd (by omega) h1 h2 (Lib.hid (by rw [Bool.or_eq_true, decide_eq_true_iff, decide_eq_true_iff]; omega))
      · obtain ⟨g1, g2, g3⟩ := objL_pos hw.1 p0 (show (a * c - 7) / 6 < objS (a * c) n1 by omega)
        rw [show min (objL (a * c) n1) 1 = 1 by omega] at hdp
        have px : (objL (a * c) n1 - 1) * (a * c / 6) = objL (a * c) n1 * (a * c / 6) - a * c / 6 := by rw [Int.sub_mul, Int.one_mul]
        have pb : objL (a * c) n1 * (a * c / 6) ≤ 1024 * 128 := Int.mul_le_mul x1 (by omega) (by omega) (by omega)
        by_cases hg : n2 < n1
        · exact LG.main1gt a b c d n1 n2 _ _ _ _ _ _ _ _ _ _ _ _ _ w hW hM hD hL hT hs ht hx hy hq hr hdp m3 m1 i3 i4 s0 s1 t0 t1 y0 y1 (wid (by omega) (by omega)) (wid (by omega) (by omega)) s3 (by omega) g1 x1 (wid (by omega) (by omega)) (wid (by omega) (by omega)) g2 g3 (by omega) hg
        · have h1 := hsM (by omega)
          have h2 := hlM (by omega)
          exact LG.main1le a b c d n1 n2 _ _ _ _ _ _ _ _ _ _ _ _ _ w hW hM hD hL hT hs ht hx hy hq hr hdp m3 m1 i3 i4 s0 s1 t0 t1 y0 y1 (wid (by omega) (by omega)) (wid (by omega) (by omega)) s3 (by omega) g1 x1 (wid (by omega) (by omega)) (wid (by omega) (by omega)) g2 g3 (by omega) (by omega) h1 h2 (Lib.hid (by rw [Bool.or_eq_true, decide_eq_true_iff, decide_eq_true_iff]; omega))
    · exact LG.err3 a b c d n1 n2 _ _ _ _ _ _ _ _ _ _ w hW hM hD hL hT (by rw [Stripes_ev, if_pos e1]) (by rw [Stripes_ev, if_neg e2]) (by rw [Leaves_ev, if_pos e1]) (by rw [Leaves_ev, if_neg e2]) (by rw [Rows_ev, if_pos e1]) (by rw [Rows_ev, if_neg e2]) (by rw [Depth_ev, if_pos e1]) m3 m1 i3 i4 (by simpa using e2) (by simpa using e2)
  · by_cases e2 : lenE a b c d n2 = 0
    · exact LG.err2 a b c d n1 n2 _ _ _ _ _ _ _ _ _ w hW hM hD hL hT (by rw [Stripes_ev, if_neg e1]) (by rw [Stripes_ev, if_pos e2]) (by rw [Leaves_ev, if_neg e1]) (by rw [Leaves_ev, if_pos e2]) (by rw [Rows_ev, if_neg e1]) (by rw [Rows_ev, if_pos e2]) (by rw [Depth_ev, if_neg e1]) m3 m1 i3 i4 (by simpa using e1) (by simpa using e1)
    · exact LG.err1 a b c d n1 n2 _ _ _ _ _ _ _ w hW hM hD hL hT (by rw [Stripes_ev, if_neg e1]) (by rw [Stripes_ev, if_neg e2]) (by rw [Leaves_ev, if_neg e1]) (by rw [Leaves_ev, if_neg e2]) (by rw [Rows_ev, if_neg e1]) (by rw [Rows_ev, if_neg e2]) (by rw [Depth_ev, if_neg e1]) m3 m1 i3 i4 (by simpa using e1) (by simpa using e1) (by simpa using e2) (by simpa using e2)
end Go.Proofs.Ytgcodjkedifpaaa.P

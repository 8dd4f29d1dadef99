import Derived.Test.YtgcodjkedifpaaaPx8
import Derived.Test.YtgcodjkedifpaaaPx3
namespace Go.Proofs.Ytgcodjkedifpaaa.P
open Go.RowKit Go.Proofs.YtgcodjkedifpaaaW.PrintWords Go.Proofs.YtgcodjkedifpaaaW.PrintLast Go.Proofs.YtgcodjkedifpaaaW.PrintMore
attribute [local go_sem] max2_int min2_int max_two min_two max_three min_three max_four min_four
set_option linter.unusedVariables false
set_option linter.unusedSimpArgs false
/-! What layout's and its reference's functions come to, in plain words. -/
theorem May_ev (a b c d : Int) : twoslotref06_May.f a b c d = some (okP a b c d) := by
  unfold twoslotref06_May.f
  by_cases h1 : a ≥ 1
  · rw [if_pos h1]
    by_cases h2 : a ≤ 12
    · rw [if_pos h2]
      by_cases h3 : b ≥ 0
      · rw [if_pos h3]
        by_cases h4 : b ≤ 4
        · rw [if_pos h4]
          by_cases h5 : c ≥ 8
          · rw [if_pos h5]
            by_cases h6 : c ≤ 64
            · rw [if_pos h6]
              obtain ⟨ml, mr⟩ := mul_small h1 h2 h5 h6
              rw [show wrap64 (a * c) = a * c from by unfold wrap64; omega]
              by_cases h7 : a * c ≥ 32
              · rw [if_pos h7]
                by_cases h8 : d ≥ 8
                · rw [if_pos h8]
                  congr 1
                  rw [Bool.eq_iff_iff, okP_iff, decide_eq_true_iff]
                  omega
                · rw [if_neg h8]; congr 1; symm; rw [Bool.eq_false_iff, Ne, okP_iff]; omega
              · rw [if_neg h7]; congr 1; symm; rw [Bool.eq_false_iff, Ne, okP_iff]; omega
            · rw [if_neg h6]; congr 1; symm; rw [Bool.eq_false_iff, Ne, okP_iff]; omega
          · rw [if_neg h5]; congr 1; symm; rw [Bool.eq_false_iff, Ne, okP_iff]; omega
        · rw [if_neg h4]; congr 1; symm; rw [Bool.eq_false_iff, Ne, okP_iff]; omega
      · rw [if_neg h3]; congr 1; symm; rw [Bool.eq_false_iff, Ne, okP_iff]; omega
    · rw [if_neg h2]; congr 1; symm; rw [Bool.eq_false_iff, Ne, okP_iff]; omega
  · rw [if_neg h1]; congr 1; symm; rw [Bool.eq_false_iff, Ne, okP_iff]; omega
theorem awake_ev : twoslotlaw06_awake.f = some true := by
  simp [twoslotlaw06_awake.f, layout_Width.f, okP]
theorem okW {a b c d : Int} (hk : okP a b c d = true) : 32 ≤ a * c ∧ a * c ≤ 768 := by
  obtain ⟨h1, h2, h3, h4, h5, h6, h7, h8, h9⟩ := okP_iff.mp hk
  exact ⟨h7, (mul_small h1 h2 h5 h6).2⟩
theorem refW_ev {a b c d : Int} (hk : okP a b c d = true) : twoslotref06_W.f a b c d = some (a * c) := by
  have := okW hk
  unfold twoslotref06_W.f
  rw [show wrap64 (a * c) = a * c from by unfold wrap64; omega]
theorem refD_ev {a b c d : Int} (hk : okP a b c d = true) : twoslotref06_D.f a b c d = some ((a * c - 7) / 6) := by
  have := okW hk
  unfold twoslotref06_D.f
  rw [refW_ev hk, Option.bind_some, show wrap64 (a * c - 7) = a * c - 7 from by unfold wrap64; omega, Int.tdiv_eq_ediv_of_nonneg (by omega), show wrap64 ((a * c - 7) / 6) = (a * c - 7) / 6 from by unfold wrap64; omega]
theorem refL_ev {a b c d : Int} (hk : okP a b c d = true) : twoslotref06_L.f a b c d = some (a * c / 6) := by
  have := okW hk
  unfold twoslotref06_L.f
  rw [refW_ev hk, Option.bind_some, Int.tdiv_eq_ediv_of_nonneg (by omega), show wrap64 (a * c / 6) = a * c / 6 from by unfold wrap64; omega]
theorem refM_ev {a b c d : Int} (hk : okP a b c d = true) : twoslotref06_M.f a b c d = some (mostOf (a * c)) := by
  have := okW hk
  obtain ⟨c1, c2, c3, c4⟩ := mostOf_small (W := a * c) (by omega) (by omega)
  unfold twoslotref06_M.f
  rw [refD_ev hk, Option.bind_some, refL_ev hk, Option.bind_some, refW_ev hk, Option.bind_some, show wrap64 ((a * c - 7) / 6 * (a * c / 6)) = (a * c - 7) / 6 * (a * c / 6) from by unfold wrap64; omega,
    show wrap64 ((a * c - 7) / 6 * (a * c / 6) * (a * c)) = (a * c - 7) / 6 * (a * c / 6) * (a * c) from by unfold wrap64; omega]
  congr 1
  unfold mn mostOf
  split <;> omega
theorem refCheck_ev (a b c d : Int) : twoslotref06_Check.f a b c d = some (if okP a b c d = true then 0 else 2) := by
  unfold twoslotref06_Check.f
  rw [May_ev, Option.bind_some]
  by_cases hk : okP a b c d = true
  · rw [if_pos hk, if_pos hk]
  · rw [if_neg hk, if_neg hk]
theorem refDrives_ev (a b c d : Int) : twoslotref06_Drives.f a b c d = some (if okP a b c d = true then (a + b, 0) else (0, 2)) := by
  unfold twoslotref06_Drives.f twoslotref06_asked.f
  rw [May_ev, Option.bind_some]
  by_cases hk : okP a b c d = true
  · obtain ⟨h1, h2, h3, h4, h5, h6, h7, h8, h9⟩ := okP_iff.mp hk
    rw [if_pos hk, if_pos hk, Option.bind_some, if_pos rfl]
    rw [show wrap64 (a + b) = a + b from by unfold wrap64; omega]
  · rw [if_neg hk, if_neg hk]; rfl
theorem refWidth_ev (a b c d : Int) : twoslotref06_Width.f a b c d = some (if okP a b c d = true then (a * c, 0) else (0, 2)) := by
  unfold twoslotref06_Width.f
  rw [May_ev, Option.bind_some]
  by_cases hk : okP a b c d = true
  · rw [if_pos hk, if_pos hk, refW_ev hk]; rfl
  · rw [if_neg hk, if_neg hk]
theorem refDirect_ev (a b c d : Int) : twoslotref06_Direct.f a b c d = some (if okP a b c d = true then ((a * c - 7) / 6, 0) else (0, 2)) := by
  unfold twoslotref06_Direct.f
  rw [May_ev, Option.bind_some]
  by_cases hk : okP a b c d = true
  · rw [if_pos hk, if_pos hk, refD_ev hk]; rfl
  · rw [if_neg hk, if_neg hk]
theorem refLeaf_ev (a b c d : Int) : twoslotref06_Leaf.f a b c d = some (if okP a b c d = true then (a * c / 6, 0) else (0, 2)) := by
  unfold twoslotref06_Leaf.f
  rw [May_ev, Option.bind_some]
  by_cases hk : okP a b c d = true
  · rw [if_pos hk, if_pos hk, refL_ev hk]; rfl
  · rw [if_neg hk, if_neg hk]
theorem refMost_ev (a b c d : Int) : twoslotref06_Most.f a b c d = some (if okP a b c d = true then (mostOf (a * c), 0) else (0, 2)) := by
  unfold twoslotref06_Most.f
  rw [May_ev, Option.bind_some]
  by_cases hk : okP a b c d = true
  · rw [if_pos hk, if_pos hk, refM_ev hk]; rfl
  · rw [if_neg hk, if_neg hk]
/-- The error of a length. -/
def lenE (a b c d n : Int) : Int := if okP a b c d = true then (if n < 0 then 2 else if n > mostOf (a * c) then 3 else 0) else 2
def objS (W n : Int) : Int := (n + W - 1) / W
def objL (W n : Int) : Int := if objS W n ≤ (W - 7) / 6 then 0 else (objS W n + W / 6 - 1) / (W / 6)
theorem mostOf_le (W : Int) : mostOf W ≤ 32768 := by unfold mostOf; omega
theorem lenE_zero {a b c d n : Int} (h : lenE a b c d n = 0) : okP a b c d = true ∧ 0 ≤ n ∧ n ≤ mostOf (a * c) := by
  unfold lenE at h
  by_cases hk : okP a b c d = true
  · rw [if_pos hk] at h
    by_cases h1 : n < 0
    · rw [if_pos h1] at h; omega
    · rw [if_neg h1] at h
      by_cases h2 : n > mostOf (a * c)
      · rw [if_pos h2] at h; omega
      · exact ⟨hk, by omega, by omega⟩
  · rw [if_neg hk] at h; omega
theorem lenE_vals (a b c d n : Int) : lenE a b c d n = 0 ∨ lenE a b c d n = 2 ∨ lenE a b c d n = 3 := by
  unfold lenE
  split
  · split
    · omega
    · split <;> omega
  · omega
theorem objS_bd {W n : Int} (hW : 32 ≤ W) (hn : 0 ≤ n) (hm : n ≤ 32768) : 0 ≤ objS W n ∧ objS W n ≤ 1024 ∧ objS W n * W < n + W ∧ n ≤ objS W n * W := by
  have h := Int.mul_ediv_add_emod (n + W - 1) W
  have h1 := Int.emod_nonneg (n + W - 1) (show W ≠ 0 by omega)
  have h2 := Int.emod_lt_of_pos (n + W - 1) (show 0 < W by omega)
  have h3 : 0 ≤ objS W n := Int.ediv_nonneg (by omega) (by omega)
  have hc : W * ((n + W - 1) / W) = objS W n * W := Int.mul_comm _ _
  have h4 : objS W n * 32 ≤ objS W n * W := Int.mul_le_mul_of_nonneg_left hW h3
  refine ⟨h3, ?_, by omega, by omega⟩
  by_cases hx : objS W n ≤ 1024
  · exact hx
  · exfalso
    have h5 : 1025 * W ≤ objS W n * W := Int.mul_le_mul_of_nonneg_right (by omega) (by omega)
    omega
theorem objL_bd {W n : Int} (hW : 32 ≤ W) (hW2 : W ≤ 768) (hn : 0 ≤ n) (hm : n ≤ 32768) : 0 ≤ objL W n ∧ objL W n ≤ 1024 := by
  obtain ⟨s0, s1, s2, s3⟩ := objS_bd hW hn hm
  unfold objL
  split
  · omega
  · have h3 : 0 ≤ (objS W n + W / 6 - 1) / (W / 6) := Int.ediv_nonneg (by omega) (by omega)
    refine ⟨h3, Int.le_of_lt_add_one (Int.ediv_lt_of_lt_mul (by omega) ?_)⟩
    have h5 : (1024 + 1) * 5 ≤ (1024 + 1) * (W / 6) := Int.mul_le_mul_of_nonneg_left (by omega) (by omega)
    omega
theorem up_ev {x y : Int} (hx : 0 ≤ x) (hx2 : x ≤ 40000) (hy : 1 ≤ y) (hy2 : y ≤ 1000) : layout_up.f x y = some ((x + y - 1) / y) := by
  have h3 : 0 ≤ (x + y - 1) / y := Int.ediv_nonneg (by omega) (by omega)
  have h4 : (x + y - 1) / y ≤ x + y - 1 := Int.ediv_le_self _ (by omega)
  unfold layout_up.f
  rw [if_neg (by omega), show wrap64 (y - 1) = y - 1 from by unfold wrap64; omega, show wrap64 (x + (y - 1)) = x + y - 1 from by unfold wrap64; omega, Int.tdiv_eq_ediv_of_nonneg (by omega)]
  rw [show wrap64 ((x + y - 1) / y) = (x + y - 1) / y from by unfold wrap64; omega]
theorem refup_ev {x y : Int} (hx : 0 ≤ x) (hx2 : x ≤ 40000) (hy : 1 ≤ y) (hy2 : y ≤ 1000) : twoslotref06_up.f x y = some ((x + y - 1) / y) := by
  have h3 : 0 ≤ (x + y - 1) / y := Int.ediv_nonneg (by omega) (by omega)
  have h4 : (x + y - 1) / y ≤ x + y - 1 := Int.ediv_le_self _ (by omega)
  unfold twoslotref06_up.f
  rw [if_neg (by omega), show wrap64 (x + y) = x + y from by unfold wrap64; omega, show wrap64 (x + y - 1) = x + y - 1 from by unfold wrap64; omega, Int.tdiv_eq_ediv_of_nonneg (by omega)]
  rw [show wrap64 ((x + y - 1) / y) = (x + y - 1) / y from by unfold wrap64; omega]
theorem object_ev (a b c d n : Int) : layout_object.f a b c d n = some (if lenE a b c d n = 0 then (objS (a * c) n, objL (a * c) n, 0) else (0, 0, lenE a b c d n)) := by
  unfold layout_object.f
  rw [show layout_Check.f a b c d = some (if okP a b c d = true then 0 else 2) from rfl, Option.bind_some]
  by_cases hk : okP a b c d = true
  · have hw := okW hk
    rw [if_pos hk, if_pos rfl]
    by_cases h1 : n < 0
    · have e : lenE a b c d n = 2 := by unfold lenE; rw [if_pos hk, if_pos h1]
      rw [if_pos h1, e, if_neg (by omega)]
    · rw [if_neg h1, layout_most.ev _ _ _ _ hk, Option.bind_some]
      by_cases h2 : n > mostOf (a * c)
      · have e : lenE a b c d n = 3 := by unfold lenE; rw [if_pos hk, if_neg h1, if_pos h2]
        rw [if_pos h2, e, if_neg (by omega)]
      · have hm := mostOf_le (a * c)
        have e : lenE a b c d n = 0 := by unfold lenE; rw [if_pos hk, if_neg h1, if_neg h2]
        obtain ⟨s0, s1, s2, s3⟩ := objS_bd (W := a * c) (n := n) (by omega) (by omega) (by omega)
        rw [if_neg h2, layout_width.ev _ _ _ _ hk, Option.bind_some, up_ev (by omega) (by omega) (by omega) (by omega), Option.bind_some, layout_direct.ev _ _ _ _ hk, Option.bind_some, e, if_pos rfl]
        by_cases h3 : (n + a * c - 1) / (a * c) > (a * c - 7) / 6
        · rw [if_pos h3, layout_leaf.ev _ _ _ _ hk, Option.bind_some]
          unfold objS at s0 s1
          rw [up_ev (by omega) (by omega) (by omega) (by omega), Option.bind_some]
          unfold objL objS
          rw [if_neg (by omega)]
        · rw [if_neg h3]
          unfold objL objS
          rw [if_pos (by omega)]
  · have e : lenE a b c d n = 2 := by unfold lenE; rw [if_neg hk]
    rw [if_neg hk, if_neg (by omega), e, if_neg (by omega)]
theorem Stripes_ev (a b c d n : Int) : layout_Stripes.f a b c d n = some (if lenE a b c d n = 0 then (objS (a * c) n, 0) else (0, lenE a b c d n)) := by
  unfold layout_Stripes.f
  rw [object_ev, Option.bind_some]
  split <;> rfl
theorem Leaves_ev (a b c d n : Int) : layout_Leaves.f a b c d n = some (if lenE a b c d n = 0 then (objL (a * c) n, 0) else (0, lenE a b c d n)) := by
  unfold layout_Leaves.f
  rw [object_ev, Option.bind_some]
  split <;> rfl
theorem mn_one {x : Int} : mn x 1 = min x 1 := by unfold mn; split <;> omega
theorem Depth_ev (a b c d n : Int) : layout_Depth.f a b c d n = some (if lenE a b c d n = 0 then (min (objL (a * c) n) 1, 0) else (0, lenE a b c d n)) := by
  unfold layout_Depth.f
  rw [object_ev, Option.bind_some]
  split
  · rw [mn_one]
  · rw [mn_one]; rfl
theorem objB {a b c d n : Int} (e : lenE a b c d n = 0) : 0 ≤ objS (a * c) n ∧ objS (a * c) n ≤ 1024 ∧ 0 ≤ objL (a * c) n ∧ objL (a * c) n ≤ 1024 := by
  obtain ⟨hk, h0, h1⟩ := lenE_zero e
  have hw := okW hk
  have hm := mostOf_le (a * c)
  obtain ⟨s0, s1, _, _⟩ := objS_bd (W := a * c) (n := n) (by omega) (by omega) (by omega)
  obtain ⟨l0, l1⟩ := objL_bd (W := a * c) (n := n) (by omega) (by omega) (by omega) (by omega)
  exact ⟨s0, s1, l0, l1⟩
theorem Rows_ev (a b c d n : Int) : layout_Rows.f a b c d n = some (if lenE a b c d n = 0 then (1 + objS (a * c) n + objL (a * c) n, 0) else (0, lenE a b c d n)) := by
  unfold layout_Rows.f
  rw [object_ev, Option.bind_some]
  by_cases e : lenE a b c d n = 0
  · obtain ⟨s0, s1, l0, l1⟩ := objB e
    rw [if_pos e, if_pos e]
    dsimp only
    rw [if_pos rfl, show wrap64 (objS (a * c) n + objL (a * c) n) = objS (a * c) n + objL (a * c) n from by unfold wrap64; omega, show wrap64 (objS (a * c) n + objL (a * c) n + 1) = 1 + objS (a * c) n + objL (a * c) n from by unfold wrap64; omega]
  · rw [if_neg e, if_neg e]
    dsimp only
    rw [if_neg e]
theorem reflen_ev (k : Nat) (a b c d n : Int) : twoslotref06_length.f (k + 1) a b c d n = some (lenE a b c d n) := by
  unfold twoslotref06_length.f
  rw [May_ev, Option.bind_some]
  by_cases hk : okP a b c d = true
  · rw [if_pos hk]
    simp only [twoslotref06_length.j0]
    unfold lenE
    rw [if_pos hk]
    by_cases h1 : n < 0
    · rw [if_pos (by simpa using h1), if_pos h1]
    · rw [if_neg (by simpa using h1), if_neg h1, refM_ev hk, Option.bind_some]
      split <;> rfl
  · rw [if_neg hk]
    simp only [twoslotref06_length.j0]
    unfold lenE
    rw [if_neg hk, if_pos trivial]
theorem refObject_ev {a b c d n : Int} (e : lenE a b c d n = 0) : twoslotref06_Object.f a b c d n = some (objS (a * c) n, objL (a * c) n) := by
  obtain ⟨hk, h0, h1⟩ := lenE_zero e
  have hw := okW hk
  have hm := mostOf_le (a * c)
  obtain ⟨s0, s1, s2, s3⟩ := objS_bd (W := a * c) (n := n) (by omega) (by omega) (by omega)
  unfold twoslotref06_Object.f
  rw [refW_ev hk, Option.bind_some, refup_ev (by omega) (by omega) (by omega) (by omega), Option.bind_some, refD_ev hk, Option.bind_some]
  by_cases h3 : (n + a * c - 1) / (a * c) ≤ (a * c - 7) / 6
  · rw [if_pos h3]
    unfold objL objS
    rw [if_pos h3]
  · rw [if_neg h3, refL_ev hk, Option.bind_some]
    unfold objS at s0 s1
    rw [refup_ev (by omega) (by omega) (by omega) (by omega), Option.bind_some]
    unfold objL objS
    rw [if_neg h3]
theorem refStripes_ev (k : Nat) (a b c d n : Int) : twoslotref06_Stripes.f (k + 1) a b c d n = some (if lenE a b c d n = 0 then (objS (a * c) n, 0) else (0, lenE a b c d n)) := by
  unfold twoslotref06_Stripes.f
  rw [reflen_ev, Option.bind_some]
  by_cases e : lenE a b c d n = 0
  · rw [if_pos e, if_pos e, refObject_ev e]; rfl
  · rw [if_neg e, if_neg e]
theorem refLeaves_ev (k : Nat) (a b c d n : Int) : twoslotref06_Leaves.f (k + 1) a b c d n = some (if lenE a b c d n = 0 then (objL (a * c) n, 0) else (0, lenE a b c d n)) := by
  unfold twoslotref06_Leaves.f
  rw [reflen_ev, Option.bind_some]
  by_cases e : lenE a b c d n = 0
  · rw [if_pos e, if_pos e, refObject_ev e]; rfl
  · rw [if_neg e, if_neg e]
theorem refDepth_ev (k : Nat) (a b c d n : Int) : twoslotref06_Depth.f (k + 1) a b c d n = some (if lenE a b c d n = 0 then (min (objL (a * c) n) 1, 0) else (0, lenE a b c d n)) := by
  unfold twoslotref06_Depth.f
  rw [reflen_ev, Option.bind_some]
  by_cases e : lenE a b c d n = 0
  · rw [if_pos e, if_pos e, refObject_ev e, Option.bind_some, mn_one]
  · rw [if_neg e, if_neg e]
theorem refRows_ev (k : Nat) (a b c d n : Int) : twoslotref06_Rows.f (k + 1) a b c d n = some (if lenE a b c d n = 0 then (1 + objS (a * c) n + objL (a * c) n, 0) else (0, lenE a b c d n)) := by
  unfold twoslotref06_Rows.f
  rw [reflen_ev, Option.bind_some]
  by_cases e : lenE a b c d n = 0
  · obtain ⟨s0, s1, l0, l1⟩ := objB e
    rw [if_pos e, if_pos e, refObject_ev e, Option.bind_some]
    dsimp only
    rw [show wrap64 (1 + objS (a * c) n) = 1 + objS (a * c) n from by unfold wrap64; omega, show wrap64 (1 + objS (a * c) n + objL (a * c) n) = 1 + objS (a * c) n + objL (a * c) n from by unfold wrap64; omega]
  · rw [if_neg e, if_neg e]
end Go.Proofs.Ytgcodjkedifpaaa.P

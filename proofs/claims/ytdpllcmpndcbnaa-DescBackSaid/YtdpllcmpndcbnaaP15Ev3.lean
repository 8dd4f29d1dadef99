import Derived.Test.YtdpllcmpndcbnaaP15Ev2
import Derived.Test.YtdpllcmpndcbnaaPx17
namespace Go.Proofs.Ytdpllcmpndcbnaa.P
open Go.RowKit Go.Proofs.YtdpllcmpndcbnaaW.PrintWords Go.Proofs.YtdpllcmpndcbnaaW.PrintLast Go.Proofs.YtdpllcmpndcbnaaW.PrintMore
attribute [local go_sem] max2_int min2_int max_two min_two max_three min_three max_four min_four
set_option linter.unusedVariables false
set_option linter.unusedSimpArgs false
theorem DescBack.ev (a b c d len dep : Int) (l : List S27) (x : List Int) (hB : IsB x) : ∃ k, twoslotlaw15_DescBack.f k a b c d len dep l x = some true := by
  refine ⟨80000, ?_⟩
  unfold twoslotlaw15_DescBack.f
  rw [alive_ev _ (by omega), Option.bind_some, if_pos rfl]
  have part2 : ∀ k, 70001 < k → twoslotlaw15_DescBack.j1 k x a b c d = some true := by
    intro k hk
    obtain ⟨k, rfl⟩ : ∃ m, k = m + 1 := ⟨k - 1, by omega⟩
    simp only [twoslotlaw15_DescBack.j1]
    rw [Parse_ev a b c d x k hB (by omega), Option.bind_some]
    by_cases hk1 : okP a b c d = true
    · rw [if_pos hk1]
      by_cases hx : (x.length : Int) = a * c
      · rw [if_pos hx]
        by_cases hp : 7 + 6 * rNum x ≤ (x.length : Int) ∧ fitB a b c d (rLen x) (rDep x) (rRefs x) = true ∧ bytesD a c (rLen x) (rDep x) (rRefs x) = x
        · rw [if_pos hp]
          dsimp only
          rw [if_pos rfl]
          have hl := (fit_room hp.2.1).2.2.2.2.2
          have e := Bytes_ev a b c d (rLen x) (rDep x) (rRefs x) k (by omega) (by omega)
          rw [if_pos (chkE_zero.mpr hp.2.1)] at e
          rw [e, Option.bind_some]
          dsimp only
          rw [if_pos rfl, hp.2.2]
          simp
        · rw [if_neg hp]
          dsimp only
          rw [if_neg (by omega), if_pos rfl, if_pos rfl]
          rfl
      · rw [if_neg hx]
        dsimp only
        rw [if_neg (by omega), if_pos rfl, if_pos rfl]
        rfl
    · rw [if_neg hk1]
      dsimp only
      rw [if_neg (by omega), if_pos rfl, if_pos rfl]
      rfl
  by_cases h1 : (l.length : Int) > 500
  · rw [if_pos h1]
    simp [twoslotlaw15_DescBack.j0]
  · rw [if_neg h1]
    rw [show (80000 : Nat) = 79999 + 1 from rfl]
    simp only [twoslotlaw15_DescBack.j0]
    by_cases h2 : (x.length : Int) > 5000
    · rw [if_pos (decide_eq_true h2)]
    · rw [if_neg (by simpa using h2), Bytes_ev a b c d len dep l 79999 (by omega) (by omega), Option.bind_some]
      by_cases h0 : chkE a b c d len dep l = 0
      · have hf := chkE_zero.mp h0
        obtain ⟨hk, g0, g1, g2, g3, g4⟩ := fit_room hf
        obtain ⟨b1, b2, b3, b4, b5⟩ := read_back hf
        rw [if_pos h0]
        dsimp only
        have eP := Parse_ev a b c d (bytesD a c len dep l) 79999 (wideL_isB (descL_isB _ _ _)) (by omega)
        rw [if_pos hk, if_pos b1, b2, b3, b4, b5, if_pos ⟨by omega, hf, rfl⟩] at eP
        rw [if_pos rfl, show layout_Width.f a b c d = some (a * c, 0) from by simp [layout_Width.f, hk], Option.bind_some, eP, Option.bind_some]
        dsimp only
        rw [if_pos rfl, if_pos rfl, if_pos b1, same_ev len dep l (by omega) 79999 (by omega), Option.bind_some, if_pos rfl]
        exact part2 79999 (by omega)
      · rw [if_neg h0]
        dsimp only
        rw [if_neg h0, if_pos (by simp)]
        exact part2 79999 (by omega)
theorem DescLeaves.ev (a b c d n : Int) (l : List S27) (x : List Int) (hB : IsB x) : ∃ k, twoslotlaw15_DescLeaves.f k a b c d l x n = some true := by
  refine ⟨80000, ?_⟩
  unfold twoslotlaw15_DescLeaves.f
  rw [alive_ev _ (by omega), Option.bind_some, if_pos rfl]
  have part2 : ∀ k, 70001 < k → twoslotlaw15_DescLeaves.j1 k x n a b c d = some true := by
    intro k hk
    obtain ⟨k, rfl⟩ : ∃ m, k = m + 1 := ⟨k - 1, by omega⟩
    simp only [twoslotlaw15_DescLeaves.j1]
    rw [Refs_ev a b c d n x k hB (by omega), Option.bind_some]
    by_cases hk1 : okP a b c d = true
    · rw [if_pos hk1]
      have hw := okW hk1
      by_cases hx : (x.length : Int) = a * c
      · rw [if_pos hx]
        by_cases hn : 1 ≤ n ∧ n ≤ a * c / 6
        · rw [if_pos hn]
          by_cases hp : (readL n.toNat x).all (refB d) = true ∧ wideL (a * c).toNat (refL (readL n.toNat x)) = x
          · rw [if_pos hp]
            dsimp only
            rw [if_pos rfl]
            have hl : (readL n.toNat x).length = n.toNat := readL_len _ _
            have e := Leaf_ev a b c d (readL n.toNat x) k (by omega) (by omega)
            rw [if_pos hk1, if_pos (show 1 ≤ ((readL n.toNat x).length : Int) ∧ ((readL n.toNat x).length : Int) ≤ a * c / 6 from ⟨by omega, by omega⟩), if_pos hp.1, hp.2] at e
            rw [e, Option.bind_some]
            dsimp only
            rw [if_pos rfl, if_pos rfl, hl]
            have : ((n.toNat : Nat) : Int) = n := by omega
            simp [this]
          · rw [if_neg hp]
            dsimp only
            rw [if_neg (by omega)]
            rfl
        · rw [if_neg hn]
          dsimp only
          rw [if_neg (by omega)]
          rfl
      · rw [if_neg hx]
        dsimp only
        rw [if_neg (by omega)]
        rfl
    · rw [if_neg hk1]
      dsimp only
      rw [if_neg (by omega)]
      rfl
  by_cases h1 : (l.length : Int) > 500
  · rw [if_pos h1]
    simp [twoslotlaw15_DescLeaves.j0]
  · rw [if_neg h1]
    rw [show (80000 : Nat) = 79999 + 1 from rfl]
    simp only [twoslotlaw15_DescLeaves.j0]
    by_cases h2 : (x.length : Int) > 5000
    · rw [if_pos (decide_eq_true h2)]
    · rw [if_neg (by simpa using h2), Leaf_ev a b c d l 79999 (by omega) (by omega), Option.bind_some]
      by_cases hk : okP a b c d = true
      · have hw := okW hk
        obtain ⟨o1, o2, o3, o4, o5, o6, o7, o8, o9⟩ := okP_iff.mp hk
        rw [if_pos hk]
        by_cases hn : 1 ≤ (l.length : Int) ∧ (l.length : Int) ≤ a * c / 6
        · rw [if_pos hn]
          by_cases ha : l.all (refB d) = true
          · rw [if_pos ha]
            dsimp only
            have hlen := wideL_len (a * c).toNat (refL l)
            have hfit := wideL_fits (n := (a * c).toNat) (l := refL l) (by rw [refL_len]; omega)
            have hrd : readL l.length (wideL (a * c).toNat (refL l)) = l := by rw [hfit]; exact readL_refL d (by omega) l _ ha
            have e := Refs_ev a b c d (l.length : Int) (wideL (a * c).toNat (refL l)) 79999 (wideL_isB (refL_isB _)) (by omega)
            rw [if_pos hk, if_pos (by rw [hlen]; omega), if_pos hn, show ((l.length : Int)).toNat = l.length by omega, hrd, if_pos ⟨ha, rfl⟩] at e
            rw [if_pos rfl, e, Option.bind_some]
            dsimp only
            rw [if_pos rfl, sameRefs_ev l (by omega) 79999 (by omega), Option.bind_some, if_pos rfl]
            exact part2 79999 (by omega)
          · rw [if_neg ha]
            dsimp only
            rw [if_neg (by omega), if_pos (by simp)]
            exact part2 79999 (by omega)
        · rw [if_neg hn]
          dsimp only
          rw [if_neg (by omega), if_pos (by simp)]
          exact part2 79999 (by omega)
      · rw [if_neg hk]
        dsimp only
        rw [if_neg (by omega), if_pos (by simp)]
        exact part2 79999 (by omega)
end Go.Proofs.Ytdpllcmpndcbnaa.P

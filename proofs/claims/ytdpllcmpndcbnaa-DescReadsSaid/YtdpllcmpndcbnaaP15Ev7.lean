import Derived.Test.YtdpllcmpndcbnaaP15Ev6
import Derived.Test.YtdpllcmpndcbnaaPx17
namespace Go.Proofs.Ytdpllcmpndcbnaa.P
open Go.RowKit Go.Proofs.YtdpllcmpndcbnaaW.PrintWords Go.Proofs.YtdpllcmpndcbnaaW.PrintLast Go.Proofs.YtdpllcmpndcbnaaW.PrintMore
attribute [local go_sem] max2_int min2_int max_two min_two max_three min_three max_four min_four
set_option linter.unusedVariables false
set_option linter.unusedSimpArgs false
theorem strOfNums_size (l : List Int) : (strOfNums l).size = l.length := by
  unfold strOfNums
  simp [ByteArray.size]
theorem bytesOf_str {l : List Int} (hB : IsB l) : bytesOf (strOfNums l) = l := by
  unfold bytesOf strOfNums
  simp only [List.map_map]
  conv => rhs; rw [← List.map_id l]
  refine List.map_congr_left fun x hx => ?_
  have := hB x hx
  simp only [Function.comp, UInt8.toNat_ofNat', id]
  omega
theorem reads_l1 (x1 x8 : List Int) (x10 x12 x14 x16 : Int) (a b c d : Int) (y0 y1 z0 z1 : Int) (zl : List S27) (r : Option Bool) (K : Nat)
    (hr : ∀ k, K ≤ k → ∀ y2, twoslotlaw15_DescReads.l1 (k + 1) x1 x8 x10 x12 x14 x16 true (y2.length : Int) a b c d y0 y1 y2 z0 z1 zl = r) : ∀ (q i k : Nat) (y2 : List S27), i ≤ y2.length → y2.length - i = q → y2.length ≤ 100000 → q + K < k →
    twoslotlaw15_DescReads.l1 k x1 x8 x10 x12 x14 x16 true (i : Int) a b c d y0 y1 y2 z0 z1 zl = r := by
  intro q
  induction q with
  | zero =>
    intro i k y2 hi hq hl hk
    obtain ⟨k, rfl⟩ : ∃ m, k = m + 1 := ⟨k - 1, by omega⟩
    have := hr k (by omega) y2
    rwa [show y2.length = i by omega] at this
  | succ q ih =>
    intro i k y2 hi hq hl hk
    obtain ⟨k, rfl⟩ : ∃ m, k = m + 1 := ⟨k - 1, by omega⟩
    simp only [twoslotlaw15_DescReads.l1]
    rw [if_pos (by omega), if_pos (by omega), wrap_idx (by omega)]
    exact ih (i + 1) k _ (by rw [List.length_set]; omega) (by rw [List.length_set]; omega) (by rw [List.length_set]; omega) (by omega)
theorem reads_l0 (x1 x8 : List Int) (x10 x12 x14 x16 : Int) (a b c d : Int) (y0 y1 z0 z1 : Int) (y2 zl : List S27) (r : Option Bool) (K : Nat)
    (hr : ∀ k, K ≤ k → twoslotlaw15_DescReads.l1 k x1 x8 x10 x12 x14 x16 true 0 a b c d y0 y1 y2 z0 z1 zl = r) : ∀ (q i k : Nat) (x11 : List S27), i ≤ x11.length → x11.length - i = q → x11.length ≤ 100000 → q + K < k →
    twoslotlaw15_DescReads.l0 k x1 x8 x10 x11 x12 x14 x16 true (i : Int) a b c d y0 y1 y2 z0 z1 zl = r := by
  intro q
  induction q with
  | zero =>
    intro i k y2 hi hq hl hk
    obtain ⟨k, rfl⟩ : ∃ m, k = m + 1 := ⟨k - 1, by omega⟩
    simp only [twoslotlaw15_DescReads.l0]
    rw [if_neg (by omega)]
    exact hr k (by omega)
  | succ q ih =>
    intro i k x11 hi hq hl hk
    obtain ⟨k, rfl⟩ : ∃ m, k = m + 1 := ⟨k - 1, by omega⟩
    simp only [twoslotlaw15_DescReads.l0]
    rw [if_pos (by omega), if_pos (by omega), wrap_idx (by omega)]
    exact ih (i + 1) k _ (by rw [List.length_set]; omega) (by rw [List.length_set]; omega) (by rw [List.length_set]; omega) (by omega)
theorem DescReads.ev (a b c d n : Int) (x : List Int) (hB : IsB x) : ∃ k, twoslotlaw15_DescReads.f k a b c d x n = some true := by
  refine ⟨400000, ?_⟩
  unfold twoslotlaw15_DescReads.f
  rw [alive_ev _ (by omega), Option.bind_some, if_pos rfl]
  by_cases h1 : (x.length : Int) > 5000
  · rw [if_pos h1]
  · rw [if_neg h1]
    have hc : conv_bytes.f (strOfNums x) = some x := by
      unfold conv_bytes.f
      rw [if_pos (by rw [strOfNums_size]; omega), bytesOf_str hB]
    have hP := fun k (hk : 70000 < k) => Parse_ev a b c d x k hB hk
    have hR := Refs_ev a b c d n x 400000 hB (by omega)
    have hP2 := rParse_ev a b c d x 400000 hB (by omega)
    have hR2 := rRefs_ev a b c d n x 400000 hB (by omega)
    generalize hq : (if okP a b c d = true then (if (x.length : Int) = a * c then (if 7 + 6 * rNum x ≤ (x.length : Int) ∧ fitB a b c d (rLen x) (rDep x) (rRefs x) = true ∧ bytesD a c (rLen x) (rDep x) (rRefs x) = x then (rLen x, rDep x, rRefs x, (0 : Int)) else (0, 0, [], 150)) else (0, 0, [], 20)) else (0, 0, [], 2)) = pv at hP hP2
    have hpl : pv.2.2.1.length ≤ 100000 := by
      rw [← hq]
      have hr : (rRefs x).length = (rNum x).toNat := readL_len _ _
      split
      · split
        · split
          · rename_i h
            show (rRefs x).length ≤ 100000
            omega
          · simp
        · simp
      · simp
    generalize hs : (if okP a b c d = true then (if (x.length : Int) = a * c then (if 1 ≤ n ∧ n ≤ a * c / 6 then (if (readL n.toNat x).all (refB d) = true ∧ wideL (a * c).toNat (refL (readL n.toNat x)) = x then (readL n.toNat x, (0 : Int)) else ([], 150)) else ([], 20)) else ([], 20)) else ([], 2)) = rv at hR hR2
    have hrl : rv.1.length ≤ 100000 := by
      rw [← hs]
      have hr : (readL n.toNat x).length = n.toNat := readL_len _ _
      split
      · rename_i hok
        have hw := okW hok
        split
        · split
          · split
            · show (readL n.toNat x).length ≤ 100000
              omega
            · simp
          · simp
        · simp
      · simp
    obtain ⟨p0, p1, p2, p3⟩ := pv
    obtain ⟨r0, r1⟩ := rv
    rw [hc, Option.bind_some, hP 400000 (by omega), Option.bind_some, hR, Option.bind_some, hP2, Option.bind_some, hR2, Option.bind_some]
    dsimp only at hpl hrl ⊢
    rw [same_ev p0 p1 p2 hpl 400000 (by omega), Option.bind_some, if_pos rfl, sameRefs_ev r0 hrl 400000 (by omega), Option.bind_some]
    rw [show (400000 : Nat) = 399999 + 1 from rfl]
    simp only [twoslotlaw15_DescReads.j0]
    refine reads_l0 x x p3 r1 p3 r1 a b c d p0 p1 p0 p1 p2 p2 (some true) 210001 ?_ r0.length 0 399999 r0 (by omega) (by omega) hrl (by omega)
    intro k hk
    refine reads_l1 x x p3 r1 p3 r1 a b c d p0 p1 p0 p1 p2 (some true) 110000 ?_ p2.length 0 k p2 (by omega) (by omega) hpl (by omega)
    intro k hk y2
    simp only [twoslotlaw15_DescReads.l1]
    obtain ⟨k, rfl⟩ : ∃ m, k = m + 1 := ⟨k - 1, by omega⟩
    rw [if_neg (by omega), hP (k + 1) (by omega), Option.bind_some, if_pos trivial]
    dsimp only
    rw [same_ev p0 p1 p2 hpl (k + 1) (by omega), Option.bind_some]
    simp
end Go.Proofs.Ytdpllcmpndcbnaa.P

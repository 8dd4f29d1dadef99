import Derived.Test.YtdpllcmpndcbnaaP15Ev2
import Derived.Test.YtdpllcmpndcbnaaPx18
namespace Go.Proofs.Ytdpllcmpndcbnaa.P
open Go.RowKit Go.Proofs.YtdpllcmpndcbnaaW.PrintWords Go.Proofs.YtdpllcmpndcbnaaW.PrintLast Go.Proofs.YtdpllcmpndcbnaaW.PrintMore
attribute [local go_sem] max2_int min2_int max_two min_two max_three min_three max_four min_four
set_option linter.unusedVariables false
set_option linter.unusedSimpArgs false
theorem fits_loop (a b c d len dep chk : Int) (l : List S27) (hl : l.length ≤ 100000) : ∀ (q i k : Nat) (fl : Bool), i ≤ l.length → l.length - i = q → q < k →
    twoslotlaw15_DescFits.l0 k chk fl (i : Int) a b c d len dep l = some (if (fl && (l.drop i).all (refB d)) = true then chk == 0 else chk == 150) := by
  intro q
  induction q with
  | zero =>
    intro i k fl hi hq hk
    obtain ⟨k, rfl⟩ : ∃ m, k = m + 1 := ⟨k - 1, by omega⟩
    simp only [twoslotlaw15_DescFits.l0]
    rw [if_neg (by omega), List.drop_of_length_le (by omega)]
    cases fl <;> simp
  | succ q ih =>
    intro i k fl hi hq hk
    obtain ⟨k, rfl⟩ : ∃ m, k = m + 1 := ⟨k - 1, by omega⟩
    have hlt : i < l.length := by omega
    simp only [twoslotlaw15_DescFits.l0]
    have ih' := fun fl' => ih (i + 1) k fl' (by omega) (by omega) (by omega)
    rw [if_pos (by omega), rdRef_nat l i hlt, List.drop_eq_getElem_cons hlt, List.all_cons, wrap_idx (by omega)]
    cases fl with
    | false =>
      rw [if_neg (by decide), ih']
      simp
    | true =>
      rw [if_pos rfl, if_pos (by omega)]
      by_cases h1 : l[i].f0 ≥ 0
      · rw [if_pos h1]
        by_cases h2 : l[i].f0 < d
        · rw [if_pos h2]
          by_cases h3 : l[i].f1 ≥ 1
          · rw [if_pos h3, ih', show refB d l[i] = decide (l[i].f1 ≤ 1073741824) from by unfold refB; simp [h1, h2, h3]]
            simp
          · rw [if_neg h3, ih', show refB d l[i] = false from by unfold refB; exact decide_eq_false (by omega)]
            simp
        · rw [if_neg h2, ih', show refB d l[i] = false from by unfold refB; exact decide_eq_false (by omega)]
          simp
      · rw [if_neg h1, ih', show refB d l[i] = false from by unfold refB; exact decide_eq_false (by omega)]
        simp
theorem fits_j1 (a b c d len dep chk : Int) (l : List S27) (hl : l.length ≤ 100000) (fl : Bool) (k : Nat) (hk : l.length + 1 < k) :
    twoslotlaw15_DescFits.j1 k chk fl a b c d len dep l = some (if (fl && l.all (refB d)) = true then chk == 0 else chk == 150) := by
  obtain ⟨k, rfl⟩ : ∃ m, k = m + 1 := ⟨k - 1, by omega⟩
  simp only [twoslotlaw15_DescFits.j1]
  have := fits_loop a b c d len dep chk l hl l.length 0 k fl (by omega) (by omega) (by omega)
  rwa [List.drop_zero] at this
theorem fits_j0 (a b c d len dep chk x7 x8 x9 x10 : Int) (l : List S27) (hl : l.length ≤ 100000) (k : Nat) (hk : l.length + 2 < k) :
    twoslotlaw15_DescFits.j0 k chk x7 x8 x9 x10 a b c d len dep l = some (if (decide (x8 = 0 ∧ x10 = 0 ∧ x7 = dep ∧ x9 = (l.length : Int)) && l.all (refB d)) = true then chk == 0 else chk == 150) := by
  obtain ⟨k, rfl⟩ : ∃ m, k = m + 1 := ⟨k - 1, by omega⟩
  have hj := fun fl => fits_j1 a b c d len dep chk l hl fl k (by omega)
  simp only [twoslotlaw15_DescFits.j0]
  by_cases h1 : x8 = 0
  · rw [if_pos h1]
    by_cases h2 : x10 = 0
    · rw [if_pos h2]
      by_cases h3 : x7 = dep
      · rw [if_pos h3, hj, show decide (x8 = 0 ∧ x10 = 0 ∧ x7 = dep ∧ x9 = (l.length : Int)) = (x9 == (l.length : Int)) from by simp [h1, h2, h3]; rfl]
      · rw [if_neg h3, hj, decide_eq_false (fun h => h3 h.2.2.1)]
    · rw [if_neg h2, hj, decide_eq_false (fun h => h2 h.2.1)]
  · rw [if_neg h1, hj, decide_eq_false (fun h => h1 h.1)]
theorem DescFits.ev (a b c d len dep : Int) (l : List S27) : ∃ k, twoslotlaw15_DescFits.f k a b c d len dep l = some true := by
  refine ⟨80000, ?_⟩
  unfold twoslotlaw15_DescFits.f
  rw [alive_ev _ (by omega), Option.bind_some, if_pos rfl]
  by_cases h1 : (l.length : Int) > 500
  · rw [if_pos h1]
  · rw [if_neg h1, Check_ev a b c d len dep l 80000 (by omega) (by omega), Option.bind_some, show layout_Check.f a b c d = some (if okP a b c d = true then 0 else 2) from rfl, Option.bind_some]
    unfold chkE
    by_cases hk : okP a b c d = true
    · rw [if_pos hk, if_pos rfl, if_pos hk, Depth_ev, Option.bind_some, Stripes_ev, Option.bind_some]
      have hj := fun x7 x8 x9 x10 => fits_j0 a b c d len dep (if fitB a b c d len dep l = true then 0 else 150) x7 x8 x9 x10 l (by omega) 80000 (by omega)
      have fin : ∀ F : Bool, F = fitB a b c d len dep l → some (if F = true then (if fitB a b c d len dep l = true then (0 : Int) else 150) == 0 else (if fitB a b c d len dep l = true then (0 : Int) else 150) == 150) = some true := by
        intro F hF
        subst hF
        by_cases hf : fitB a b c d len dep l = true
        · rw [if_pos hf, if_pos hf]; rfl
        · rw [if_neg hf, if_neg hf]; rfl
      by_cases he : lenE a b c d len = 0
      · rw [if_pos he, if_pos he]
        dsimp only
        have hb := objB he
        by_cases hd : min (objL (a * c) len) 1 = 1
        · rw [if_pos hd, Leaves_ev, if_pos he, Option.bind_some]
          dsimp only
          rw [hj]
          refine fin _ ?_
          unfold fitB
          congr 1
          refine decide_eq_decide.mpr ⟨fun h => ⟨he, h.2.2.1, ?_⟩, fun h => ⟨rfl, rfl, h.2.1, ?_⟩⟩
          · rw [if_pos (by omega)]; exact h.2.2.2.symm
          · have := h.2.2; rw [if_pos (by omega)] at this; exact this.symm
        · rw [if_neg hd, hj]
          refine fin _ ?_
          unfold fitB
          congr 1
          refine decide_eq_decide.mpr ⟨fun h => ⟨he, h.2.2.1, ?_⟩, fun h => ⟨rfl, rfl, h.2.1, ?_⟩⟩
          · rw [if_neg (by omega)]; exact h.2.2.2.symm
          · have := h.2.2; rw [if_neg (by omega)] at this; exact this.symm
      · rw [if_neg he, if_neg he]
        dsimp only
        rw [if_neg (by omega), hj]
        refine fin _ ?_
        unfold fitB
        congr 1
        exact decide_eq_decide.mpr ⟨fun h => absurd h.1 he, fun h => absurd h.1 he⟩
    · rw [if_neg hk, if_neg (by omega), if_neg hk]
      rfl
end Go.Proofs.Ytdpllcmpndcbnaa.P

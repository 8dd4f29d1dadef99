import Derived.Test.YtmhfgcmgeglmhaaDoorP21P
import Derived.Test.YtmhfgcmgeglmhaaDoorPx4
import Derived.Test.YtmhfgcmgeglmhaaDoorPx8
namespace Go.Proofs.YtmhfgcmgeglmhaaDoor.P
open Go.RowKit Go.Proofs.YtmhfgcmgeglmhaaDoorW.PrintWords Go.Proofs.YtmhfgcmgeglmhaaDoorW.PrintLast Go.Proofs.YtmhfgcmgeglmhaaDoorW.PrintMore
attribute [local go_sem] max2_int min2_int max_two min_two max_three min_three max_four min_four
set_option linter.unusedVariables false
set_option linter.unusedSimpArgs false

/-! ### the document's Less -/
theorem toB_get (s : ByteArray) (i : Nat) (h : i < s.size) : bt s (i : Int) = ((toB s)[i]'(by unfold toB; rw [data_length]; exact h)).toNat := by
  unfold bt
  rw [dif_pos (by simpa using h)]
  rfl
theorem toB_len (s : ByteArray) : (toB s).length = s.size := data_length s
theorem less_loop (a b : ByteArray) (ha : a.size ≤ 1000000) (hb : b.size ≤ 1000000) : ∀ (q i k : Nat), i ≤ a.size → i ≤ b.size → a.size - i = q → q < k → twoslotref21_Less.l0 k a b (i : Int) = some (bl ((toB a).drop i) ((toB b).drop i)) := by
  intro q
  induction q with
  | zero =>
    intro i k hi hj hq hk
    obtain ⟨k, rfl⟩ : ∃ m, k = m + 1 := ⟨k - 1, by omega⟩
    have e : i = a.size := by omega
    subst e
    simp only [twoslotref21_Less.l0]
    rw [if_neg (by omega), if_pos (by trivial)]
    have e1 : (toB a).drop a.size = [] := List.drop_of_length_le (by rw [toB_len]; exact Nat.le_refl _)
    rw [e1]
    by_cases h : a.size < b.size
    · rw [List.drop_eq_getElem_cons (by rw [toB_len]; exact h), decide_eq_true (by omega)]
      rfl
    · rw [List.drop_of_length_le (by rw [toB_len]; omega), decide_eq_false (by omega)]
      rfl
  | succ q ih =>
    intro i k hi hj hq hk
    obtain ⟨k, rfl⟩ : ∃ m, k = m + 1 := ⟨k - 1, by omega⟩
    have hia : i < a.size := by omega
    simp only [twoslotref21_Less.l0]
    rw [if_pos (by omega)]
    by_cases hib : i < b.size
    · rw [if_pos (by omega), if_pos (by omega)]
      rw [List.drop_eq_getElem_cons (by rw [toB_len]; exact hia), List.drop_eq_getElem_cons (l := toB b) (by rw [toB_len]; exact hib)]
      have ea := toB_get a i hia
      have eb := toB_get b i hib
      by_cases he : bt a (i : Int) = bt b (i : Int)
      · rw [if_pos he, show wrap64 ((i : Int) + 1) = ((i + 1 : Nat) : Int) by unfold wrap64; omega, ih (i + 1) k (by omega) (by omega) (by omega) (by omega)]
        rw [ea, eb] at he
        have he2 := UInt8.toNat_inj.mp (Int.ofNat_inj.mp he)
        rw [he2]
        simp [bl, Op.bytesLess]
      · rw [if_neg he, if_neg (by omega), if_neg (by omega)]
        rw [ea, eb] at he ⊢
        congr 1
        have hne : ¬ (toB a)[i]'(by rw [toB_len]; exact hia) = (toB b)[i]'(by rw [toB_len]; exact hib) := fun h => he (by rw [h])
        simp only [bl, Op.bytesLess, UInt8.lt_iff_toNat_lt, beq_eq_false_iff_ne.mpr hne, Bool.false_and, Bool.or_false]
        simp
    · rw [if_neg (by omega), if_neg (by omega), if_pos (by omega), decide_eq_false (by omega)]
      rw [List.drop_of_length_le (l := toB b) (by rw [toB_len]; omega), List.drop_eq_getElem_cons (by rw [toB_len]; exact hia)]
      rfl
theorem less_ev (a b : ByteArray) (ha : a.size ≤ 1000000) (hb : b.size ≤ 1000000) (k : Nat) (hk : a.size < k) : twoslotref21_Less.f k a b = some (lessB a b) := by
  unfold twoslotref21_Less.f
  have := less_loop a b ha hb a.size 0 k (by omega) (by omega) (by omega) hk
  simpa [lessB] using this
theorem may_ev (s : ByteArray) : twoslotref21_May.f s = some (mayB s) := by
  unfold twoslotref21_May.f mayB
  by_cases h : (s.size : Int) ≥ 1
  · rw [if_pos h]
    congr 1
    by_cases h2 : s.size ≤ 24
    · rw [decide_eq_true (by omega), decide_eq_true (by omega)]
    · rw [decide_eq_false (by omega), decide_eq_false (by omega)]
  · rw [if_neg h, decide_eq_false (by omega)]
/-! ### the row in memory -/
theorem own_setCells {base e g n cap : Nat} : ∀ (vs : List Value) (o : Nat) (W : World) (xs : List Value), W.ownsRow base e 1 (.slice (some ⟨g, 0, none⟩) n cap) n xs → o + vs.length ≤ n → (W.setCells g o vs).ownsRow base e 1 (.slice (some ⟨g, 0, none⟩) n cap) n (xs.take o ++ vs ++ xs.drop (o + vs.length)) ∧ W.grownBy (W.setCells g o vs) (some g)
  | [], o, W, xs => fun h _ => ⟨by simpa [World.setCells] using h, World.grownBy.refl _ _⟩
  | v :: r, o, W, xs => fun h ho => by
    have hl : xs.length = n := by have := h.1; simpa using this
    have hs := h.stored o v
    have ih := own_setCells r (o + 1) (W.setCell ⟨g, o, none⟩ v) (xs.set o v) hs.1 (by simp at ho; omega)
    have e : (xs.set o v).take (o + 1) ++ r ++ (xs.set o v).drop (o + 1 + r.length) = xs.take o ++ (v :: r) ++ xs.drop (o + (v :: r).length) := by
      have hlo : o < xs.length := by simp at ho; omega
      rw [List.take_succ_eq_append_getElem (by simpa using hlo), List.getElem_set_self, List.take_set_of_le (Nat.le_refl _), List.drop_set_of_lt (by omega)]
      simp only [List.append_assoc, List.cons_append, List.nil_append, List.length_cons]
      rw [show o + 1 + r.length = o + (r.length + 1) by omega]
    rw [e] at ih
    exact ⟨ih.1, World.grownBy.trans hs.2 ih.2⟩
end Go.Proofs.YtmhfgcmgeglmhaaDoor.P

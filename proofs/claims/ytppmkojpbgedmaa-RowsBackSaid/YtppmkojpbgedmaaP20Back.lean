import Derived.Test.YtppmkojpbgedmaaP20Ev
import Derived.Test.YtppmkojpbgedmaaPx14
namespace Go.Proofs.Ytppmkojpbgedmaa.P
open Go.RowKit Go.Proofs.YtppmkojpbgedmaaW.PrintWords Go.Proofs.YtppmkojpbgedmaaW.PrintLast Go.Proofs.YtppmkojpbgedmaaW.PrintMore
attribute [local go_sem] max2_int min2_int max_two min_two max_three min_three max_four min_four
set_option linter.unusedVariables false
set_option linter.unusedSimpArgs false
/-! ### RowsBack: plain -/
theorem takeV_err {a b c d : Int} {l : List Int} {n : Int} (h : (takeV a b c d l n).2.2 ≠ 0) : (takeV a b c d l n).1 = [] ∧ (takeV a b c d l n).2.1 = [] := by
  unfold takeV at *
  split at h
  · split at h
    · split at h
      · rename_i h1 h2 h3
        rw [if_pos h1, if_pos h2, if_pos h3]; exact ⟨rfl, rfl⟩
      · split at h
        · rename_i h1 h2 h3 h4
          rw [if_pos h1, if_pos h2, if_neg h3, if_pos h4]; exact ⟨rfl, rfl⟩
        · exact absurd rfl h
    · rename_i h1 h2
      rw [if_pos h1, if_neg h2]; exact ⟨rfl, rfl⟩
  · rename_i h1
    rw [if_neg h1]; exact ⟨rfl, rfl⟩
theorem takeV_ok {a b c d : Int} {l : List Int} {n : Int} (h : (takeV a b c d l n).2.2 = 0) : okP a b c d = true ∧ lv d l = 0 ∧ 0 ≤ n ∧ n ≤ (l.length : Int) ∧ takeV a b c d l n = (l.take n.toNat, l.drop n.toNat, 0) := by
  unfold takeV at *
  split at h
  · split at h
    · split at h
      · exact absurd h (by decide)
      · split at h
        · exact absurd h (by decide)
        · rename_i h1 h2 h3 h4
          rw [if_pos h1, if_pos h2, if_neg h3, if_neg h4]
          exact ⟨h1, h2, by omega, by omega, rfl⟩
    · rename_i h2
      exact absurd h h2
  · exact absurd h (by decide)
theorem takeV_is {a b c d : Int} {l : List Int} {n : Int} (hp : okP a b c d = true) (hl : lv d l = 0) (h0 : 0 ≤ n) (h1 : n ≤ (l.length : Int)) : takeV a b c d l n = (l.take n.toNat, l.drop n.toNat, 0) := by
  unfold takeV
  rw [if_pos hp, if_pos hl, if_neg (by omega), if_neg (by omega)]
theorem lv_sub {d : Int} {l l' : List Int} (h : lv d l = 0) (hs : l'.Sublist l) : lv d l' = 0 :=
  lv_ok (Nat.le_trans hs.length_le (lv_len h).1) (okL_sub (lv_len h).2 hs)
theorem srt_back {l : List Int} (h : l.Pairwise (· < ·)) (n : Nat) : srt (l.drop n ++ l.take n) = l := by
  refine srt_eq ?_ (h.imp (fun h => Int.le_of_lt h))
  conv => lhs; rw [← List.take_append_drop n l]
  exact List.perm_append_comm
theorem giveV_back {a b c d : Int} {l : List Int} (n : Nat) (hp : okP a b c d = true) (hl : lv d l = 0) : giveV a b c d (l.drop n) (l.take n) = (l, 0) := by
  have hw := (okL_iff.mp (lv_len hl).2).2
  unfold giveV
  rw [if_pos hp, if_pos (lv_sub hl (List.drop_sublist _ _)), if_pos (lv_sub hl (List.take_sublist _ _)), srt_back hw, compact_strict hw, if_neg]
  rw [List.length_append, List.length_drop, List.length_take]
  omega
theorem rd_take (l : List Int) (n i : Nat) (h : i < n) : rd (l.take n) (i : Int) = rd l (i : Int) := by
  rw [rdn, rdn, List.getD_eq_getElem?_getD, List.getD_eq_getElem?_getD, List.getElem?_take_of_lt h]
theorem rd_drop (l : List Int) (n i : Nat) : rd (l.drop n) (i : Int) = rd l ((n + i : Nat) : Int) := by
  rw [rdn, rdn, List.getD_eq_getElem?_getD, List.getD_eq_getElem?_getD, List.getElem?_drop]
theorem back_end (a b c d : Int) (l : List Int) (n : Nat) (m : Int) (hm : m ≤ 3000) (hl : l.length ≤ 2000) (hn : n ≤ l.length) (hp : okP a b c d = true) (hv : lv d l = 0) (k : Nat) (hk : 5000 ≤ k) :
    ((rows_Take.f k a b c d (l.drop n) m).bind fun bt553 => (if bt553.2.2 = 0 then ((rows_Take.f k a b c d l (wrap64 ((n : Int) + m))).bind fun bt560 => (if ([] : List Int).length + (l.take n).length < 17592186044416 then ((some (([] : List Int) ++ (l.take n) : List Int)).bind fun y567 => (if y567.length + bt553.1.length < 17592186044416 then (if bt560.2.2 = 0 then ((twoslotref07_Same.f k bt560.1 (y567 ++ bt553.1)).bind fun t573 => (if t573 = true then ((twoslotref07_Same.f k bt560.2.1 bt553.2.1).bind fun t574 => (some t574)) else (none))) else (none)) else (none))) else (none))) else (if m < 0 then (some true) else (some (decide (m > ((l.drop n).length : Int))))))) = some true := by
  have hd : (l.drop n).length ≤ 2000 := by rw [List.length_drop]; omega
  have ht : (l.take n).length ≤ 2000 := by rw [List.length_take]; omega
  have hvd := lv_sub hv (List.drop_sublist n l)
  rw [take_ev a b c d (l.drop n) m k (.inl (by omega)), Option.bind_some]
  by_cases h0 : m < 0
  · have e : takeV a b c d (l.drop n) m = ([], [], 2) := by unfold takeV; rw [if_pos hp, if_pos hvd, if_pos h0]
    rw [e]
    simp only []
    rw [if_neg (by decide), if_pos h0]
  by_cases h1 : m > ((l.drop n).length : Int)
  · have e : takeV a b c d (l.drop n) m = ([], [], 4) := by unfold takeV; rw [if_pos hp, if_pos hvd, if_neg h0, if_pos h1]
    rw [e]
    simp only []
    rw [if_neg (by decide), if_neg h0, decide_eq_true h1]
  · rw [takeV_is hp hvd (by omega) (by omega)]
    simp only []
    have hml : (l.drop n).length = l.length - n := List.length_drop
    have hw : wrap64 ((n : Int) + m) = (n : Int) + m := by unfold wrap64; omega
    rw [if_pos (by trivial), hw, take_ev a b c d l _ k (.inl (by omega)), Option.bind_some, takeV_is hp hv (by omega) (by omega)]
    have e2 : ((n : Int) + m).toNat = n + m.toNat := by omega
    have e3 : l.take (n + m.toNat) = l.take n ++ (l.drop n).take m.toNat := List.take_add
    have e4 : l.drop (n + m.toNat) = (l.drop n).drop m.toNat := by rw [List.drop_drop]
    have ht2 : ((l.drop n).take m.toNat).length ≤ 2000 := by rw [List.length_take]; omega
    have hd2 : ((l.drop n).drop m.toNat).length ≤ 2000 := by rw [List.length_drop]; omega
    rw [if_pos (by simp only [List.length_nil]; omega), Option.bind_some, List.nil_append]
    simp only []
    rw [if_pos (by omega), if_pos (by trivial), e2, e3, e4, same_ev _ (by rw [List.length_append]; omega) k (by rw [List.length_append]; omega), Option.bind_some, if_pos (by trivial), same_ev _ (by omega) k (by omega), Option.bind_some]
theorem back_loop (a b c d : Int) (l : List Int) (n : Nat) (m : Int) (hm : m ≤ 3000) (hl : l.length ≤ 2000) (hn : n ≤ l.length) (hp : okP a b c d = true) (hv : lv d l = 0) :
    ∀ (q i k : Nat), i ≤ l.length → l.length - i = q → q + 5000 < k → twoslotlaw20_RowsBack.l0 k l (n : Int) m (l.take n) (l.drop n) (i : Int) a b c d = some true := by
  intro q
  induction q with
  | zero =>
    intro i k hi hq hk
    obtain ⟨k, rfl⟩ : ∃ x, k = x + 1 := ⟨k - 1, by omega⟩
    simp only [twoslotlaw20_RowsBack.l0]
    rw [if_neg (by omega)]
    exact back_end a b c d l n m hm hl hn hp hv k (by omega)
  | succ q ih =>
    intro i k hi hq hk
    obtain ⟨k, rfl⟩ : ∃ x, k = x + 1 := ⟨k - 1, by omega⟩
    have hstep : twoslotlaw20_RowsBack.l0 k l (n : Int) m (l.take n) (l.drop n) (wrap64 ((i : Int) + 1)) a b c d = some true := by
      rw [show wrap64 ((i : Int) + 1) = ((i + 1 : Nat) : Int) by unfold wrap64; omega]
      exact ih (i + 1) k (by omega) (by omega) (by omega)
    simp only [twoslotlaw20_RowsBack.l0]
    rw [if_pos (by omega)]
    by_cases h : i < n
    · rw [if_pos (by omega), if_pos (by omega), if_pos (by rw [List.length_take]; omega), if_pos (rd_take l n i h), if_neg (by omega), hstep]
    · have e : wrap64 ((i : Int) - (n : Int)) = ((i - n : Nat) : Int) := by unfold wrap64; omega
      rw [if_neg (by omega), if_pos (by omega), e, if_pos (by omega), if_pos (by rw [List.length_drop]; omega), if_pos (by omega), if_pos (by rw [rd_drop, show n + (i - n) = i by omega]), hstep]
theorem RowsBack.ev (a b c d : Int) (l : List Int) (n m : Int) : twoslotlaw20_RowsBack.f 9000 a b c d l n m = some true := by
  unfold twoslotlaw20_RowsBack.f
  rw [alive_ev 9000 (by omega), Option.bind_some, if_pos (by trivial)]
  have hj : ∀ x, twoslotlaw20_RowsBack.j0 9000 l n m true a b c d = some x → x = true := by
    intro x h
    simp only [twoslotlaw20_RowsBack.j0, if_true] at h
    exact (Option.some.inj h).symm
  have hj : twoslotlaw20_RowsBack.j0 9000 l n m true a b c d = some true := by
    show twoslotlaw20_RowsBack.j0 (8999 + 1) l n m true a b c d = some true
    simp only [twoslotlaw20_RowsBack.j0, if_true]
  by_cases h1 : (l.length : Int) > 2000
  · rw [if_pos h1, hj]
  rw [if_neg h1]
  by_cases h2 : n > 3000
  · rw [if_pos h2, hj]
  rw [if_neg h2]
  by_cases h3 : m > 3000
  · rw [decide_eq_true h3, hj]
  rw [decide_eq_false h3]
  show twoslotlaw20_RowsBack.j0 (8999 + 1) l n m false a b c d = some true
  have hl : l.length ≤ 2000 := by omega
  simp only [twoslotlaw20_RowsBack.j0]
  rw [if_neg (by decide), take_ev a b c d l n 8999 (.inl (by omega)), Option.bind_some]
  by_cases he : (takeV a b c d l n).2.2 = 0
  · obtain ⟨hp, hv, h4, h5, e⟩ := takeV_ok he
    obtain ⟨q, rfl⟩ : ∃ q : Nat, n = q := ⟨n.toNat, by omega⟩
    rw [if_pos he, e]
    simp only [Int.toNat_natCast]
    rw [give_ev a b c d _ _ 8999 (.inl (by rw [List.length_drop]; omega)) (.inl (by rw [List.length_take]; omega)), Option.bind_some, giveV_back q hp hv]
    simp only []
    rw [if_pos (by trivial), same_ev l (by omega) 8999 (by omega), Option.bind_some, if_pos (by trivial)]
    have eb : ((((l.take q).length : Nat) : Int) != (q : Int)) = false := by
      rw [List.length_take]
      simp
      omega
    rw [eb]
    show twoslotlaw20_RowsBack.j1 (8998 + 1) l (q : Int) m (l.take q) (l.drop q) false a b c d = some true
    simp only [twoslotlaw20_RowsBack.j1]
    rw [if_neg (by decide)]
    exact back_loop a b c d l q m (by omega) hl (by omega) hp hv l.length 0 8998 (by omega) (by omega) (by omega)
  · rw [if_neg he]
    obtain ⟨e1, e2⟩ := takeV_err he
    rw [e1, e2]
    rfl
end Go.Proofs.Ytppmkojpbgedmaa.P

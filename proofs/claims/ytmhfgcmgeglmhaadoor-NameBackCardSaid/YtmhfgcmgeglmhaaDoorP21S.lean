import Derived.Test.YtmhfgcmgeglmhaaDoorP21R
namespace Go.Proofs.YtmhfgcmgeglmhaaDoor.P
open Go.RowKit Go.Proofs.YtmhfgcmgeglmhaaDoorW.PrintWords Go.Proofs.YtmhfgcmgeglmhaaDoorW.PrintLast Go.Proofs.YtmhfgcmgeglmhaaDoorW.PrintMore
attribute [local go_sem] max2_int min2_int max_two min_two max_three min_three max_four min_four
set_option linter.unusedVariables false
set_option linter.unusedSimpArgs false

/-! ### NameBack -/
theorem quotedL_print (s : ByteArray) : ∀ x ∈ quotedL s, 33 ≤ x ∧ x ≤ 126 := by
  intro x hx
  unfold quotedL at hx
  simp only [List.mem_append, List.mem_flatMap, List.mem_singleton] at hx
  rcases hx with (hx | ⟨c, hc, hx⟩) | hx
  · omega
  · have := isB_bytesOf s c hc
    exact shownL_print this.1 this.2 x hx
  · omega
theorem quotedL_len (s : ByteArray) : (quotedL s).length ≤ 4 * s.size + 2 := by
  have hle : ∀ l : List Int, (l.flatMap shownL).length ≤ 4 * l.length := by
    intro l
    induction l with
    | nil => simp
    | cons c l ih =>
      have := shownL_len1 c
      rw [List.flatMap_cons, List.length_append, List.length_cons]
      omega
  have hle2 := hle (bytesOf s)
  rw [bytesOf_length] at hle2
  unfold quotedL
  rw [List.length_append, List.length_append, List.length_singleton]
  omega
theorem back3 (m : Nat) (t : ByteArray) (ht : t.size ≤ 5000) : twoslotlaw21_NameBack.j3 (m + 1) t = some true := by
  obtain ⟨p, a, e, h⟩ := plain_some t (by omega)
  rw [twoslotlaw21_NameBack.j3, h, Option.bind_some]
  rcases plain_facts t p a e h with ⟨rfl, rfl, h1, h2⟩ | ⟨rfl, rfl, h1, h2, h3⟩
  · rw [if_neg (show ¬ ((6 : Int) = 0) by omega), if_pos (by rw [ByteArray.toList_eq]), if_pos h1]
    rw [decide_eq_true h2]
  · rw [if_pos rfl]
    unfold name_Quote.f
    rw [if_pos ⟨h1, h2⟩, Option.bind_some, if_pos rfl, h3, if_pos rfl]
    rfl
theorem back_loop (t q : ByteArray) (hq : ∀ i : Nat, i < q.size → 33 ≤ bt q (i : Int) ∧ bt q (i : Int) ≤ 126) (hs : q.size ≤ 5000) (ht : t.size ≤ 5000) : ∀ (n i K : Nat), i ≤ q.size → q.size - i = n → n + 2 ≤ K → twoslotlaw21_NameBack.l0 K t q (i : Int) = some true := by
  intro n
  induction n with
  | zero =>
    intro i K hi hn hK
    obtain ⟨K, rfl⟩ : ∃ m, K = m + 1 + 1 := ⟨K - 2, by omega⟩
    rw [twoslotlaw21_NameBack.l0, if_neg (by omega)]
    exact back3 K t ht
  | succ n ih =>
    intro i K hi hn hK
    obtain ⟨K, rfl⟩ : ∃ m, K = m + 1 := ⟨K - 1, by omega⟩
    have := hq i (by omega)
    rw [twoslotlaw21_NameBack.l0, if_pos (by omega), if_pos (by omega), if_neg (by omega), if_neg (by omega)]
    rw [show wrap64 ((i : Int) + 1) = ((i + 1 : Nat) : Int) by unfold wrap64; omega]
    exact ih (i + 1) K (by omega) (by omega) (by omega)
theorem back0 (K : Nat) (s t : ByteArray) (hs : s.size ≤ 5000) (ht : t.size ≤ 5000) : twoslotlaw21_NameBack.j0 (K + 200) s t false = some true := by
  rw [show K + 200 = (K + 199) + 1 by omega, twoslotlaw21_NameBack.j0, if_neg (by simp)]
  by_cases h : 1 ≤ s.size ∧ s.size ≤ 24
  · have hq : name_Quote.f s = some (strOfNums (quotedL s), 0) := by unfold name_Quote.f; rw [if_pos h]
    rw [hq, Option.bind_some, if_pos rfl, plain_quote s h.1 h.2, Option.bind_some, if_pos rfl, if_pos rfl]
    rw [show (s.toList != s.toList) = false by simp]
    rw [show K + 199 = (K + 198) + 1 by omega, twoslotlaw21_NameBack.j1, if_neg (by simp)]
    have hsz : (strOfNums (quotedL s)).size = (quotedL s).length := by rw [← bytesOf_length, nums_bytes (isB_quotedL s)]
    have := quotedL_len s
    show twoslotlaw21_NameBack.l0 (K + 198) t (strOfNums (quotedL s)) ((0 : Nat) : Int) = some true
    refine back_loop t _ (fun i hi => ?_) (by omega) ht _ 0 _ (by omega) rfl (by omega)
    rw [bt_strOfNums _ (fun x hx => by have := quotedL_print s x hx; omega) i (by omega)]
    exact quotedL_print s _ (List.getElem_mem _)
  · have hq : name_Quote.f s = some (⟨#[]⟩, 6) := by unfold name_Quote.f; rw [if_neg h]
    have hc : name_Check.f s = some 6 := by
      unfold name_Check.f
      by_cases h1 : (s.size : Int) < 1
      · rw [if_pos h1]
      · rw [if_neg h1, if_pos (by omega)]
    rw [hq, Option.bind_some, if_neg (show ¬ ((6 : Int) = 0) by omega), if_pos (by rw [ByteArray.toList_eq]), hc, Option.bind_some, if_pos rfl]
    exact back3 _ t ht
theorem nameBack_pure : twoslotlaw21_NameBack.Pure := by
  intro s t _ _
  refine ⟨1000, ?_⟩
  unfold twoslotlaw21_NameBack.f
  rw [alive_ev 1000 (by omega), Option.bind_some, if_pos rfl]
  have j0t : twoslotlaw21_NameBack.j0 1000 s t true = some true := by
    rw [show 1000 = 999 + 1 from rfl, twoslotlaw21_NameBack.j0, if_pos rfl]
  by_cases h : (s.size : Int) > 5000
  · rw [if_pos h]
    exact j0t
  · rw [if_neg h]
    by_cases h2 : (t.size : Int) > 5000
    · rw [decide_eq_true h2]
      exact j0t
    · rw [decide_eq_false h2]
      exact back0 800 s t (by omega) (by omega)
end Go.Proofs.YtmhfgcmgeglmhaaDoor.P

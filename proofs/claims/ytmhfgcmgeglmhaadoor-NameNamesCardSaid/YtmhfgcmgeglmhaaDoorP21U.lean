import Derived.Test.YtmhfgcmgeglmhaaDoorP21T
namespace Go.Proofs.YtmhfgcmgeglmhaaDoor.P
open Go.RowKit Go.Proofs.YtmhfgcmgeglmhaaDoorW.PrintWords Go.Proofs.YtmhfgcmgeglmhaaDoorW.PrintLast Go.Proofs.YtmhfgcmgeglmhaaDoorW.PrintMore
attribute [local go_sem] max2_int min2_int max_two min_two max_three min_three max_four min_four
set_option linter.unusedVariables false
set_option linter.unusedSimpArgs false

/-! ### NameSorts, NameRow -/
theorem same_loop (l : List ByteArray) (hl : l.length ≤ 100000) : ∀ (n i K : Nat), i ≤ l.length → l.length - i = n → n + 1 ≤ K → twoslotref21_Same.l0 K l l (i : Int) = some true := by
  intro n
  induction n with
  | zero =>
    intro i K hi hn hK
    obtain ⟨K, rfl⟩ : ∃ m, K = m + 1 := ⟨K - 1, by omega⟩
    rw [twoslotref21_Same.l0, if_neg (by omega)]
  | succ n ih =>
    intro i K hi hn hK
    obtain ⟨K, rfl⟩ : ∃ m, K = m + 1 := ⟨K - 1, by omega⟩
    rw [twoslotref21_Same.l0, if_pos (by omega), if_pos (by omega), if_pos (by omega), if_pos rfl]
    rw [show wrap64 ((i : Int) + 1) = ((i + 1 : Nat) : Int) by unfold wrap64; omega]
    exact ih (i + 1) K (by omega) (by omega) (by omega)
theorem same_refl (l : List ByteArray) (hl : l.length ≤ 100000) (k : Nat) (hk : l.length + 1 ≤ k) : twoslotref21_Same.f k l l = some true := by
  unfold twoslotref21_Same.f
  rw [if_pos rfl]
  exact same_loop l hl l.length 0 k (by omega) rfl hk
theorem rowB_len (l : List ByteArray) : (rowB l).length ≤ l.length := by
  have : ∀ (l acc : List ByteArray), (l.foldl insB acc).length ≤ acc.length + l.length := by
    intro l
    induction l with
    | nil => intro acc; simp
    | cons x l ih =>
      intro acc
      have h1 := ih (insB acc x)
      have h2 := insB_len acc x
      rw [List.foldl_cons, List.length_cons]
      omega
  have h := this l []
  simpa [rowB] using h
/-- What both make of a list of names. -/
def sortP (l : List ByteArray) : List ByteArray × Int := if l.length > 65536 then ([], 20) else if badAny l = true then ([], 6) else (rowB l, 0)
theorem sortP_len (l : List ByteArray) : (sortP l).1.length ≤ l.length := by
  unfold sortP
  split
  · simp
  · split
    · simp
    · exact rowB_len l
theorem sortP_bad {l : List ByteArray} (h : l.length ≤ 65536) (hb : badAny l = true) : sortP l = ([], 6) := by
  unfold sortP
  rw [if_neg (by omega), if_pos hb]
theorem sortP_ok {l : List ByteArray} (h : l.length ≤ 65536) (hb : badAny l = false) : sortP l = (rowB l, 0) := by
  unfold sortP
  rw [if_neg (by omega), if_neg (by rw [hb]; simp)]
theorem nameSort_ev (l : List ByteArray) : name_Sort.f l = some (sortP l) := sort_ev l
theorem refSort_ev (l : List ByteArray) : twoslotref21_Sort.f l = some (sortP l) := rfl
theorem sorts_loop (l : List ByteArray) (hl : l.length ≤ 500) : ∀ (n i : Nat) (xs : List ByteArray) (K : Nat), i ≤ xs.length → xs.length ≤ 500 → xs.length - i = n → n + 600 ≤ K → twoslotlaw21_NameSorts.l0 K l l xs (sortP l).1 (sortP l).2 true (i : Int) = some true := by
  intro n
  induction n with
  | zero =>
    intro i xs K hi hx hn hK
    obtain ⟨K, rfl⟩ : ∃ m, K = m + 1 := ⟨K - 1, by omega⟩
    have := sortP_len l
    rw [twoslotlaw21_NameSorts.l0, if_neg (by omega), nameSort_ev, Option.bind_some, if_pos rfl, same_refl _ (by omega) _ (by omega), Option.bind_some, if_pos rfl, if_pos rfl, same_refl _ (by omega) _ (by omega), Option.bind_some]
  | succ n ih =>
    intro i xs K hi hx hn hK
    obtain ⟨K, rfl⟩ : ∃ m, K = m + 1 := ⟨K - 1, by omega⟩
    rw [twoslotlaw21_NameSorts.l0, if_pos (by omega), if_pos (by omega)]
    rw [show wrap64 ((i : Int) + 1) = ((i + 1 : Nat) : Int) by unfold wrap64; omega]
    exact ih (i + 1) _ K (by rw [List.length_set]; omega) (by rw [List.length_set]; omega) (by rw [List.length_set]; omega) (by omega)
theorem nameSorts_ev (l : List ByteArray) : twoslotlaw21_NameSorts.f 2000 l = some true := by
  unfold twoslotlaw21_NameSorts.f
  rw [alive_ev 2000 (by omega), Option.bind_some, if_pos rfl]
  by_cases h : (l.length : Int) > 500
  · rw [if_pos h]
  · have := sortP_len l
    rw [if_neg h, if_pos (by simp; omega), List.nil_append, Option.bind_some, nameSort_ev, Option.bind_some, refSort_ev, Option.bind_some, same_refl _ (by omega) _ (by omega), Option.bind_some, if_pos rfl]
    rw [show ((sortP l).2 == (sortP l).2) = true by simp, show 2000 = 1999 + 1 from rfl, twoslotlaw21_NameSorts.j0]
    exact sorts_loop l (by omega) _ 0 _ 1999 (by omega) (by omega) rfl (by omega)
theorem NameSorts.walk (A0 : Option Addr) (c0 : Nat) (l0 : List ByteArray) (w : World) (hV : VarsOk w) (hr0 : Kd.C Kd.string w A0 l0.length l0) (hc0 : l0.length ≤ c0) :
    Calls Tryd.prog 5 #[.slice A0 l0.length c0] w fun e w' => e = .returned (.bool true) ∧ Below w.heap.size w w' := by
  refine (twoslotlaw21_NameSorts.calls 2000 A0 c0 l0 true w hr0 hc0 hV (nameSorts_ev l0)).mono ?_
  rintro e w' ⟨rfl, hd⟩
  exact ⟨rfl, hd⟩
theorem rdOf_get (l : List ByteArray) (i : Nat) (h : i < l.length) : rdOf ByteArray.empty l (i : Int) = l[i] := by simp [rdOf, h]
theorem row_l1 (l s : List ByteArray) (hl : l.length ≤ 300) (i : Nat) (hi : i < s.length) : ∀ (n j : Nat) (met : Bool) (K : Nat), j ≤ l.length → l.length - j = n → n + 1 ≤ K → (met = true ∨ ∃ j', j ≤ j' ∧ ∃ h : j' < l.length, l[j'] = s[i]) →
    twoslotlaw21_NameRow.l1 K l s (i : Int) met (j : Int) = twoslotlaw21_NameRow.l0 (K - n - 1) l s (wrap64 ((i : Int) + 1)) := by
  intro n
  induction n with
  | zero =>
    intro j met K hj hn hK hc
    obtain ⟨K, rfl⟩ : ∃ m, K = m + 1 := ⟨K - 1, by omega⟩
    have hm : met = true := by
      rcases hc with h | ⟨j', h1, h2, _⟩
      · exact h
      · omega
    rw [twoslotlaw21_NameRow.l1, if_neg (by omega), if_pos hm]
    rfl
  | succ n ih =>
    intro j met K hj hn hK hc
    obtain ⟨K, rfl⟩ : ∃ m, K = m + 1 := ⟨K - 1, by omega⟩
    have e : wrap64 ((j : Int) + 1) = ((j + 1 : Nat) : Int) := by unfold wrap64; omega
    have ek : K + 1 - (n + 1) - 1 = K - n - 1 := by omega
    rw [twoslotlaw21_NameRow.l1, if_pos (by omega), e, ek]
    cases met with
    | true =>
      rw [if_pos rfl]
      exact ih (j + 1) true K (by omega) (by omega) (by omega) (.inl rfl)
    | false =>
      rw [if_neg (by simp), if_pos (by omega), if_pos (by omega), if_pos (by omega), rdOf_get l j (by omega), rdOf_get s i hi]
      refine ih (j + 1) _ K (by omega) (by omega) (by omega) ?_
      rcases hc with h | ⟨j', h1, h2, h3⟩
      · simp at h
      · rcases Nat.lt_or_ge j j' with h4 | h4
        · exact .inr ⟨j', h4, h2, h3⟩
        · have : j' = j := by omega
          subst this
          exact .inl (by rw [h3]; simp)
theorem row_l3 (l s : List ByteArray) (hs : s.length ≤ 300) (i : Nat) (hi : i < l.length) : ∀ (n j : Nat) (met : Bool) (K : Nat), j ≤ s.length → s.length - j = n → n + 1 ≤ K → (met = true ∨ ∃ j', j ≤ j' ∧ ∃ h : j' < s.length, l[i] = s[j']) →
    twoslotlaw21_NameRow.l3 K l s (i : Int) met (j : Int) = twoslotlaw21_NameRow.l2 (K - n - 1) l s (wrap64 ((i : Int) + 1)) := by
  intro n
  induction n with
  | zero =>
    intro j met K hj hn hK hc
    obtain ⟨K, rfl⟩ : ∃ m, K = m + 1 := ⟨K - 1, by omega⟩
    have hm : met = true := by
      rcases hc with h | ⟨j', h1, h2, _⟩
      · exact h
      · omega
    rw [twoslotlaw21_NameRow.l3, if_neg (by omega), if_pos hm]
    rfl
  | succ n ih =>
    intro j met K hj hn hK hc
    obtain ⟨K, rfl⟩ : ∃ m, K = m + 1 := ⟨K - 1, by omega⟩
    have e : wrap64 ((j : Int) + 1) = ((j + 1 : Nat) : Int) := by unfold wrap64; omega
    have ek : K + 1 - (n + 1) - 1 = K - n - 1 := by omega
    rw [twoslotlaw21_NameRow.l3, if_pos (by omega), e, ek]
    cases met with
    | true =>
      rw [if_pos rfl]
      exact ih (j + 1) true K (by omega) (by omega) (by omega) (.inl rfl)
    | false =>
      rw [if_neg (by simp), if_pos (by omega), if_pos (by omega), if_pos (by omega), rdOf_get l i hi, rdOf_get s j (by omega)]
      refine ih (j + 1) _ K (by omega) (by omega) (by omega) ?_
      rcases hc with h | ⟨j', h1, h2, h3⟩
      · simp at h
      · rcases Nat.lt_or_ge j j' with h4 | h4
        · exact .inr ⟨j', h4, h2, h3⟩
        · have : j' = j := by omega
          subst this
          exact .inl (by rw [h3]; simp)
theorem rowB_rowB (l : List ByteArray) : rowB (rowB l) = rowB l := by
  have e1 := rowB_eq (rowB l)
  have e2 := rowB_eq l
  have hs : setB (rowB l) = setB l := by
    refine srt_unique (setB_srt _) (setB_srt _) (fun x => ?_)
    rw [mem_setB, mem_setB, List.mem_map, List.mem_map]
    constructor
    · rintro ⟨a, h1, h2⟩
      exact ⟨a, (mem_rowB l a).mp h1, h2⟩
    · rintro ⟨a, h1, h2⟩
      exact ⟨a, (mem_rowB l a).mpr h1, h2⟩
  rw [e1, hs, ← e2]
set_option maxRecDepth 20000 in
theorem row_l2 (l : List ByteArray) (hl : l.length ≤ 300) (hb : badAny l = false) : ∀ (n i K : Nat), i ≤ l.length → l.length - i = n → n * 302 + 400 ≤ K → twoslotlaw21_NameRow.l2 K l (rowB l) (i : Int) = some true := by
  have hlen := rowB_len l
  intro n
  induction n with
  | zero =>
    intro i K hi hn hK
    obtain ⟨K, rfl⟩ : ∃ m, K = m + 1 := ⟨K - 1, by omega⟩
    have hb2 : badAny (rowB l) = false := by
      unfold badAny at hb ⊢
      rw [List.any_eq_false] at hb ⊢
      exact fun x hx => hb x ((mem_rowB l x).mp hx)
    have hp : sortP (rowB l) = (rowB l, 0) := by
      unfold sortP
      rw [if_neg (by omega), if_neg (by rw [hb2]; simp), rowB_rowB]
    rw [twoslotlaw21_NameRow.l2, if_neg (by omega), nameSort_ev, Option.bind_some, hp, if_pos rfl, same_refl (rowB l) (by omega) _ (by omega), Option.bind_some]
  | succ n ih =>
    intro i K hi hn hK
    obtain ⟨K, rfl⟩ : ∃ m, K = m + 1 := ⟨K - 1, by omega⟩
    rw [twoslotlaw21_NameRow.l2, if_pos (by omega)]
    have hm := (mem_rowB l l[i]).mpr (List.getElem_mem (by omega))
    obtain ⟨j, hj, he⟩ := List.getElem_of_mem hm
    have h3 := row_l3 l (rowB l) (by omega) i (by omega) (rowB l).length 0 false K (by omega) (by omega) (by omega) (.inr ⟨j, by omega, hj, he.symm⟩)
    rw [Int.natCast_zero] at h3
    rw [h3, show wrap64 ((i : Int) + 1) = ((i + 1 : Nat) : Int) by unfold wrap64; omega]
    exact ih (i + 1) _ (by omega) (by omega) (by omega)
set_option maxRecDepth 20000 in
theorem row_l0 (l : List ByteArray) (hl : l.length ≤ 300) (hb : badAny l = false) : ∀ (n i K : Nat), i ≤ (rowB l).length → (rowB l).length - i = n → n * 303 + 100000 ≤ K → twoslotlaw21_NameRow.l0 K l (rowB l) (i : Int) = some true := by
  have hlen := rowB_len l
  intro n
  induction n with
  | zero =>
    intro i K hi hn hK
    obtain ⟨K, rfl⟩ : ∃ m, K = m + 1 := ⟨K - 1, by omega⟩
    rw [twoslotlaw21_NameRow.l0, if_neg (by omega)]
    exact row_l2 l hl hb l.length 0 K (by omega) (by omega) (by omega)
  | succ n ih =>
    intro i K hi hn hK
    obtain ⟨K, rfl⟩ : ∃ m, K = m + 1 + 1 := ⟨K - 2, by omega⟩
    have hii : i < (rowB l).length := by omega
    have hm := (mem_rowB l (rowB l)[i]).mp (List.getElem_mem hii)
    obtain ⟨j, hj, he⟩ := List.getElem_of_mem hm
    have h3 := row_l1 l (rowB l) hl i hii l.length 0 false K (by omega) (by omega) (by omega) (.inr ⟨j, by omega, hj, he⟩)
    rw [Int.natCast_zero] at h3
    have hj1 : twoslotlaw21_NameRow.j1 (K + 1) l (rowB l) (i : Int) false = some true := by
      rw [twoslotlaw21_NameRow.j1, if_neg (by simp), h3, show wrap64 ((i : Int) + 1) = ((i + 1 : Nat) : Int) by unfold wrap64; omega]
      exact ih (i + 1) _ (by omega) (by omega) (by omega)
    rw [twoslotlaw21_NameRow.l0, if_pos (by omega)]
    by_cases h0 : (i : Int) > 0
    · have e : wrap64 ((i : Int) - 1) = ((i - 1 : Nat) : Int) := by unfold wrap64; omega
      have hlt : lessB (rowB l)[i - 1] (rowB l)[i] = true := by
        have := List.pairwise_iff_getElem.mp (rowB_srt l) (i - 1) i (by omega) hii (by omega)
        exact this
      rw [if_pos h0, e, if_pos (by omega), if_pos (by omega), if_pos (by omega), rdOf_get _ (i - 1) (by omega), rdOf_get _ i hii, nameLess_ev, Option.bind_some, hlt]
      exact hj1
    · rw [if_neg h0]
      exact hj1
theorem nameRow_ev (l : List ByteArray) : twoslotlaw21_NameRow.f 200000 l = some true := by
  unfold twoslotlaw21_NameRow.f
  rw [alive_ev 200000 (by omega), Option.bind_some, if_pos rfl]
  by_cases h : (l.length : Int) > 300
  · rw [if_pos h]
  · have hlen := rowB_len l
    rw [if_neg h, nameSort_ev, Option.bind_some]
    by_cases hb : badAny l = true
    · rw [sortP_bad (by omega) hb, if_neg (show ¬ ((6 : Int) = 0) by omega)]
      rfl
    · have hb2 : badAny l = false := by simpa using hb
      rw [sortP_ok (by omega) hb2, if_pos rfl]
      exact row_l0 l (by omega) hb2 _ 0 200000 (by omega) rfl (by omega)
theorem NameRow.walk (A0 : Option Addr) (c0 : Nat) (l0 : List ByteArray) (w : World) (hV : VarsOk w) (hr0 : Kd.C Kd.string w A0 l0.length l0) (hc0 : l0.length ≤ c0) :
    Calls Tryd.prog 8 #[.slice A0 l0.length c0] w fun e w' => e = .returned (.bool true) ∧ Below w.heap.size w w' := by
  refine (twoslotlaw21_NameRow.calls 200000 A0 c0 l0 true w hr0 hc0 hV (nameRow_ev l0)).mono ?_
  rintro e w' ⟨rfl, hd⟩
  exact ⟨rfl, hd⟩
end Go.Proofs.YtmhfgcmgeglmhaaDoor.P

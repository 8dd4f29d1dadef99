import Derived.Test.YtppmkojpbgedmaaPx9
namespace Go.Proofs.Ytppmkojpbgedmaa.P
open Go.RowKit Go.Proofs.YtppmkojpbgedmaaW.PrintWords Go.Proofs.YtppmkojpbgedmaaW.PrintLast Go.Proofs.YtppmkojpbgedmaaW.PrintMore
attribute [local go_sem] max2_int min2_int max_two min_two max_three min_three max_four min_four
set_option linter.unusedVariables false
set_option linter.unusedSimpArgs false
/-! ### what the listed lists are; taking and giving: plain -/
def okAt (d : Int) (l : List Int) (i : Nat) : Bool := decide (0 ≤ l.getD i 0) && decide (l.getD i 0 < d) && (decide (i = 0) || decide (l.getD (i - 1) 0 < l.getD i 0))
def okFrom (d : Int) (l : List Int) (i : Nat) : Bool := (List.range' i (l.length - i)).all (okAt d l)
def okL (d : Int) (l : List Int) : Bool := okFrom d l 0
theorem okFrom_step (d : Int) (l : List Int) (i : Nat) (h : i < l.length) : okFrom d l i = (okAt d l i && okFrom d l (i + 1)) := by
  unfold okFrom
  rw [show l.length - i = (l.length - (i + 1)) + 1 by omega, List.range'_succ, List.all_cons]
theorem rdn (l : List Int) (i : Nat) : rd l (i : Int) = l.getD i 0 := rfl
theorem listed_loop (a b c d : Int) (l : List Int) (hl : l.length ≤ 100000) : ∀ (q i k : Nat), i ≤ l.length → l.length - i = q → q < k → rows_listed.l0 k l l (l.length : Int) (i : Int) a b c d = some (if okFrom d l i = true then 0 else 200) := by
  intro q
  induction q with
  | zero =>
    intro i k hi hq hk
    obtain ⟨k, rfl⟩ : ∃ n, k = n + 1 := ⟨k - 1, by omega⟩
    simp only [rows_listed.l0]
    rw [if_neg (by omega)]
    rw [if_pos (by unfold okFrom; rw [hq]; rfl)]
  | succ q ih =>
    intro i k hi hq hk
    obtain ⟨k, rfl⟩ : ∃ n, k = n + 1 := ⟨k - 1, by omega⟩
    have hlt : i < l.length := by omega
    simp only [rows_listed.l0]
    rw [if_pos (by omega), if_pos (by omega), if_pos (by omega), rdn]
    rw [okFrom_step d l i hlt]
    have hstep : rows_listed.l0 k l l (l.length : Int) (wrap64 ((i : Int) + 1)) a b c d = some (if okFrom d l (i + 1) = true then 0 else 200) := by
      rw [show wrap64 ((i : Int) + 1) = ((i + 1 : Nat) : Int) by unfold wrap64; omega]
      exact ih (i + 1) k (by omega) (by omega) (by omega)
    by_cases h1 : l.getD i 0 < 0
    · rw [if_pos h1, show okAt d l i = false by unfold okAt; rw [show decide (0 ≤ l.getD i 0) = false from decide_eq_false (by omega)]; rfl]
      rfl
    rw [if_neg h1]
    by_cases h2 : l.getD i 0 ≥ d
    · rw [if_pos h2, show okAt d l i = false by unfold okAt; rw [show decide (l.getD i 0 < d) = false from decide_eq_false (by omega), Bool.and_false]; rfl]
      rfl
    rw [if_neg h2]
    have e1 : decide (0 ≤ l.getD i 0) = true := decide_eq_true (by omega)
    have e2 : decide (l.getD i 0 < d) = true := decide_eq_true (by omega)
    by_cases h3 : (i : Int) > 0
    · rw [if_pos h3]
      have e : wrap64 ((i : Int) - 1) = ((i - 1 : Nat) : Int) := by unfold wrap64; omega
      rw [if_pos (by rw [e]; omega), if_pos (by rw [e]; omega), e, rdn]
      have e0 : decide (i = 0) = false := decide_eq_false (by omega)
      by_cases h4 : l.getD i 0 ≤ l.getD (i - 1) 0
      · rw [if_pos h4, if_neg]
        have e4 : decide (l.getD (i - 1) 0 < l.getD i 0) = false := decide_eq_false (by omega)
        unfold okAt
        rw [e0, e4]
        simp
      · rw [if_neg h4, hstep]
        have e4 : decide (l.getD (i - 1) 0 < l.getD i 0) = true := decide_eq_true (by omega)
        unfold okAt
        rw [e0, e1, e2, e4]
        simp
    · rw [if_neg h3, hstep]
      have e0 : decide (i = 0) = true := decide_eq_true (by omega)
      unfold okAt
      rw [e0, e1, e2]
      simp
def lv (d : Int) (l : List Int) : Int := if 65536 < l.length then 20 else if okL d l = true then 0 else 200
theorem listed_ev (a b c d : Int) (l : List Int) (k : Nat) (hk : l.length < k ∨ 65536 < l.length) : rows_listed.f k a b c d l = some (lv d l) := by
  unfold rows_listed.f lv
  by_cases h : 65536 < l.length
  · rw [if_pos (by omega), if_pos h]
  · rw [if_neg (by omega), if_neg h]
    exact listed_loop a b c d l (by omega) l.length 0 k (by omega) (by omega) (by omega)
theorem lv_len {d : Int} {l : List Int} (h : lv d l = 0) : l.length ≤ 65536 ∧ okL d l = true := by
  unfold lv at h
  split at h
  · omega
  · split at h
    · rename_i h1 h2
      exact ⟨by omega, h2⟩
    · omega
theorem lv_ok {d : Int} {l : List Int} (h1 : l.length ≤ 65536) (h2 : okL d l = true) : lv d l = 0 := by
  unfold lv
  rw [if_neg (by omega), if_pos h2]
theorem okL_at {d : Int} {l : List Int} : okL d l = true ↔ ∀ i, i < l.length → okAt d l i = true := by
  unfold okL okFrom
  rw [List.all_eq_true]
  constructor
  · intro h i hi
    exact h i (by rw [List.mem_range'_1]; omega)
  · intro h i hi
    rw [List.mem_range'_1] at hi
    exact h i (by omega)
theorem okAt_iff {d : Int} {l : List Int} {i : Nat} : okAt d l i = true ↔ 0 ≤ l.getD i 0 ∧ l.getD i 0 < d ∧ (i = 0 ∨ l.getD (i - 1) 0 < l.getD i 0) := by
  unfold okAt
  simp [Bool.and_eq_true, and_assoc]
theorem getD_at {l : List Int} {i : Nat} (h : i < l.length) : l.getD i 0 = l[i] := by simp [h]
theorem okL_iff {d : Int} {l : List Int} : okL d l = true ↔ (∀ x ∈ l, 0 ≤ x ∧ x < d) ∧ l.Pairwise (· < ·) := by
  rw [okL_at]
  constructor
  · intro h
    refine ⟨fun x hx => ?_, ?_⟩
    · obtain ⟨i, hi, rfl⟩ := List.getElem_of_mem hx
      have := okAt_iff.mp (h i hi)
      rw [getD_at hi] at this
      exact ⟨this.1, this.2.1⟩
    · rw [List.pairwise_iff_getElem]
      have key : ∀ n i j (hi : i < l.length) (hj : j < l.length), j = i + 1 + n → l[i] < l[j] := by
        intro n
        induction n with
        | zero =>
          intro i j hi hj e
          have := (okAt_iff.mp (h j hj)).2.2
          rw [getD_at hj, getD_at (show j - 1 < l.length by omega)] at this
          rcases this with h0 | h0
          · omega
          · have e2 : j - 1 = i := by omega
            simpa [e2] using h0
        | succ n ih =>
          intro i j hi hj e
          have h1 := ih i (j - 1) hi (by omega) (by omega)
          have := (okAt_iff.mp (h j hj)).2.2
          rw [getD_at hj, getD_at (show j - 1 < l.length by omega)] at this
          rcases this with h0 | h0
          · omega
          · omega
      intro i j hi hj hij
      exact key (j - i - 1) i j hi hj (by omega)
  · rintro ⟨h1, h2⟩ i hi
    rw [okAt_iff, getD_at hi]
    refine ⟨(h1 _ (List.getElem_mem hi)).1, (h1 _ (List.getElem_mem hi)).2, ?_⟩
    by_cases h0 : i = 0
    · exact .inl h0
    · rw [getD_at (show i - 1 < l.length by omega)]
      exact .inr (List.pairwise_iff_getElem.mp h2 (i - 1) i (by omega) hi (by omega))
theorem okL_sub {d : Int} {l l' : List Int} (h : okL d l = true) (hs : l'.Sublist l) : okL d l' = true := by
  rw [okL_iff] at *
  exact ⟨fun x hx => h.1 x (hs.subset hx), h.2.sublist hs⟩
def takeV (a b c d : Int) (l : List Int) (n : Int) : List Int × List Int × Int := if okP a b c d = true then (if lv d l = 0 then (if n < 0 then ([], [], 2) else if n > (l.length : Int) then ([], [], 4) else (l.take n.toNat, l.drop n.toNat, 0)) else ([], [], lv d l)) else ([], [], 2)
theorem clone_ev (l : List Int) (h : l.length ≤ 200000) : slices_Clone_int_int.f l = some l := by
  unfold slices_Clone_int_int.f
  rw [if_pos (by omega)]
theorem check_ev (a b c d : Int) : layout_Check.f a b c d = some (if okP a b c d = true then 0 else 2) := rfl
theorem take_ev (a b c d : Int) (l : List Int) (n : Int) (k : Nat) (hk : l.length < k ∨ 65536 < l.length) : rows_Take.f k a b c d l n = some (takeV a b c d l n) := by
  unfold rows_Take.f takeV
  rw [check_ev, Option.bind_some]
  by_cases hp : okP a b c d = true
  · simp only [if_pos hp, if_true]
    rw [listed_ev a b c d l k hk, Option.bind_some]
    by_cases hz : lv d l = 0
    · simp only [if_pos hz]
      have hl := (lv_len hz).1
      by_cases h0 : n < 0
      · rw [if_pos h0, if_pos h0]
      rw [if_neg h0, if_neg h0]
      by_cases h1 : n > (l.length : Int)
      · rw [if_pos h1, if_pos h1]
      rw [if_neg h1, if_neg h1, if_pos (by omega), if_pos (by omega), clone_ev _ (by rw [List.length_take]; omega), Option.bind_some, clone_ev _ (by rw [List.length_drop]; omega), Option.bind_some]
    · simp only [if_neg hz]
  · simp only [if_neg hp]
    rw [if_neg (by decide)]
def srt (l : List Int) : List Int := l.mergeSort fun x y => decide (x ≤ y)
def giveV (a b c d : Int) (l m : List Int) : List Int × Int := if okP a b c d = true then (if lv d l = 0 then (if lv d m = 0 then (if ((Go.Lib.compact (srt (l ++ m))).length : Int) < ((l ++ m).length : Int) then ([], 200) else (srt (l ++ m), 0)) else ([], lv d m)) else ([], lv d l)) else ([], 2)
theorem give_ev (a b c d : Int) (l m : List Int) (k : Nat) (hk : l.length < k ∨ 65536 < l.length) (hm : m.length < k ∨ 65536 < m.length) : rows_Give.f k a b c d l m = some (giveV a b c d l m) := by
  unfold rows_Give.f giveV
  rw [check_ev, Option.bind_some]
  by_cases hp : okP a b c d = true
  · simp only [if_pos hp, if_true]
    rw [listed_ev a b c d l k hk, Option.bind_some]
    by_cases hz : lv d l = 0
    · simp only [if_pos hz]
      rw [listed_ev a b c d m k hm, Option.bind_some]
      by_cases hy : lv d m = 0
      · simp only [if_pos hy]
        have h1 := (lv_len hz).1
        have h2 := (lv_len hy).1
        have e1 : slices_Concat_int_int.f [l, m] = some (l ++ m) := by
          unfold slices_Concat_int_int.f
          simp only [List.flatten_cons, List.flatten_nil, List.append_nil]
          rw [if_pos ⟨by rw [List.length_append]; omega, by simp⟩]
        have hlen : (l ++ m).length ≤ 200000 := by rw [List.length_append]; omega
        have e2 : slices_Sort_int_int.f (l ++ m) = some (srt (l ++ m)) := by
          unfold slices_Sort_int_int.f
          rw [if_pos (by omega)]
          rfl
        have hs : (srt (l ++ m)).length = (l ++ m).length := List.length_mergeSort _
        have e3 : slices_Compact_int_int.f (srt (l ++ m)) = some (Go.Lib.compact (srt (l ++ m))) := by
          unfold slices_Compact_int_int.f
          rw [if_pos (by omega)]
        rw [e1, Option.bind_some, e2, Option.bind_some, clone_ev _ (by omega), Option.bind_some, e3, Option.bind_some]
        split <;> rfl
      · simp only [if_neg hy]
    · simp only [if_neg hz]
  · simp only [if_neg hp]
    rw [if_neg (by decide)]
theorem same_loop (l : List Int) (hl : l.length ≤ 100000) : ∀ (q i k : Nat), i ≤ l.length → l.length - i = q → q < k → twoslotref07_Same.l0 k l l (i : Int) = some true := by
  intro q
  induction q with
  | zero =>
    intro i k hi hq hk
    obtain ⟨k, rfl⟩ : ∃ n, k = n + 1 := ⟨k - 1, by omega⟩
    simp only [twoslotref07_Same.l0]
    rw [if_neg (by omega)]
  | succ q ih =>
    intro i k hi hq hk
    obtain ⟨k, rfl⟩ : ∃ n, k = n + 1 := ⟨k - 1, by omega⟩
    simp only [twoslotref07_Same.l0]
    rw [if_pos (by omega), if_pos (by omega), if_pos (by omega), if_pos trivial, show wrap64 ((i : Int) + 1) = ((i + 1 : Nat) : Int) by unfold wrap64; omega]
    exact ih (i + 1) k (by omega) (by omega) (by omega)
theorem same_ev (l : List Int) (hl : l.length ≤ 100000) (k : Nat) (hk : l.length < k) : twoslotref07_Same.f k l l = some true := by
  unfold twoslotref07_Same.f
  rw [if_pos rfl]
  exact same_loop l hl l.length 0 k (by omega) (by omega) hk
theorem srt_eq {l l' : List Int} (hp : l'.Perm l) (hs : l'.Pairwise (· ≤ ·)) : srt l = l' := by
  refine List.Perm.eq_of_pairwise (le := fun x y : Int => x ≤ y) (fun x y _ _ h1 h2 => Int.le_antisymm h1 h2) ?_ hs ((List.mergeSort_perm _ _).trans hp.symm)
  have h := List.pairwise_mergeSort (le := fun x y : Int => decide (x ≤ y)) (fun x y z h1 h2 => by simp at *; omega) (fun x y => by simp; omega) l
  exact h.imp (fun h => by simpa using h)
theorem compact_strict {l : List Int} (h : l.Pairwise (· < ·)) : Go.Lib.compact l = l := by
  unfold Go.Lib.compact Go.Lib.compactUpTo
  rw [List.filter_eq_self.mpr]
  · refine List.ext_getElem (by simp) (fun i h1 h2 => ?_)
    simp [h2]
  · intro i hi
    rw [List.mem_range] at hi
    by_cases h0 : i < 1
    · exact Go.Lib.keeps_lt_one _ _ h0
    · refine Go.Lib.keeps_pos ?_
      have := List.pairwise_iff_getElem.mp h (i - 1) i (by omega) hi (by omega)
      simp [hi, show i - 1 < l.length by omega]
      omega
theorem sample_ev : twoslotlaw20_sample.f = some (2, 1, 16, 8) := rfl
theorem alive_ev (k : Nat) (hk : 20 ≤ k) : twoslotlaw20_alive.f k = some true := by
  unfold twoslotlaw20_alive.f
  rw [sample_ev, Option.bind_some]
  simp only []
  have hs1 : srt ([1, 5] ++ [2]) = [1, 2, 5] := srt_eq (by decide) (by decide)
  have hs2 : srt ([1, 5] ++ [5]) = [1, 5, 5] := srt_eq (by decide) (by decide)
  have hc1 : Go.Lib.compact [1, 2, 5] = ([1, 2, 5] : List Int) := compact_strict (by decide)
  have hc2 : (Go.Lib.compact ([1, 5, 5] : List Int)).length = 2 := by decide
  have ef : rows_Free.f 2 1 16 8 [3, 0, 3] = some ([1, 2, 4, 5, 6, 7], 0) := by decide
  have hp : okP 2 1 16 8 = true := by decide
  have h125 : lv 8 [1, 2, 5] = 0 := by decide
  have h15 : lv 8 [1, 5] = 0 := by decide
  have h1 : lv 8 [1] = 0 := by decide
  have h2 : lv 8 [2] = 0 := by decide
  have h5 : lv 8 [5] = 0 := by decide
  have t1 : takeV 2 1 16 8 [1, 2, 5] 2 = ([1, 2], [5], 0) := by unfold takeV; rw [if_pos hp, if_pos h125]; rfl
  have t2 : takeV 2 1 16 8 [1] 2 = ([], [], 4) := by unfold takeV; rw [if_pos hp, if_pos h1]; rfl
  have g1 : giveV 2 1 16 8 [1, 5] [2] = ([1, 2, 5], 0) := by unfold giveV; rw [if_pos hp, if_pos h15, if_pos h2, hs1, hc1, if_neg (by decide)]
  have g2 : giveV 2 1 16 8 [1, 5] [5] = ([], 200) := by unfold giveV; rw [if_pos hp, if_pos h15, if_pos h5, hs2, hc2, if_pos (by decide)]
  rw [ef, Option.bind_some, take_ev 2 1 16 8 [1, 2, 5] 2 k (.inl (by simp; omega)), Option.bind_some, give_ev 2 1 16 8 [1, 5] [2] k (.inl (by simp; omega)) (.inl (by simp; omega)), Option.bind_some, take_ev 2 1 16 8 [1] 2 k (.inl (by simp; omega)), Option.bind_some, give_ev 2 1 16 8 [1, 5] [5] k (.inl (by simp; omega)) (.inl (by simp; omega)), Option.bind_some, t1, t2, g1, g2]
  simp only [if_true]
  obtain ⟨k, rfl⟩ : ∃ n, k = n + 1 := ⟨k - 1, by omega⟩
  rw [show ((200 : Int) != 200) = false from rfl]
  simp only [twoslotlaw20_alive.j0]
  rw [if_neg (by decide), same_ev _ (by simp) k (by simp; omega), Option.bind_some, if_pos rfl, same_ev _ (by simp) k (by simp; omega), Option.bind_some, if_pos rfl, same_ev _ (by simp) k (by simp; omega), Option.bind_some, if_pos rfl, same_ev _ (by simp) k (by simp; omega), Option.bind_some]
theorem freeOf_congr {k : Nat} {l l' : List Int} (h : ∀ i : Nat, i < k → ((i : Int) ∈ l ↔ (i : Int) ∈ l')) : freeOf k l = freeOf k l' := by
  unfold freeOf
  congr 1
  refine List.filter_congr (fun i hi => ?_)
  rw [List.mem_range] at hi
  have := h i hi
  by_cases h1 : (i : Int) ∈ l
  · have h2 := this.mp h1
    simp [h1, h2]
  · have h2 : ¬ (i : Int) ∈ l' := fun h => h1 (this.mpr h)
    simp [h1, h2]
end Go.Proofs.Ytppmkojpbgedmaa.P

import Derived.Test.YtppmkojpbgedmaaP20Ev
import Derived.Test.YtppmkojpbgedmaaPx15
namespace Go.Proofs.Ytppmkojpbgedmaa.P
open Go.RowKit Go.Proofs.YtppmkojpbgedmaaW.PrintWords Go.Proofs.YtppmkojpbgedmaaW.PrintLast Go.Proofs.YtppmkojpbgedmaaW.PrintMore
attribute [local go_sem] max2_int min2_int max_two min_two max_three min_three max_four min_four
set_option linter.unusedVariables false
set_option linter.unusedSimpArgs false
/-! ### RowsFree: plain -/
theorem mem_freeOf {k : Nat} {l : List Int} {x : Int} : x ∈ freeOf k l ↔ ∃ i : Nat, i < k ∧ x = (i : Int) ∧ ¬ (i : Int) ∈ l := by
  unfold freeOf
  rw [List.mem_map]
  constructor
  · rintro ⟨i, hi, rfl⟩
    rw [List.mem_filter, List.mem_range] at hi
    exact ⟨i, hi.1, rfl, by simpa using hi.2⟩
  · rintro ⟨i, hi, rfl, hn⟩
    exact ⟨i, by rw [List.mem_filter, List.mem_range]; exact ⟨hi, by simpa using hn⟩, rfl⟩
theorem mem_freeOf' {k i : Nat} {l : List Int} (h : i < k) : (i : Int) ∈ freeOf k l ↔ ¬ (i : Int) ∈ l := by
  rw [mem_freeOf]
  constructor
  · rintro ⟨j, _, e, hn⟩
    rwa [e]
  · intro hn
    exact ⟨i, h, rfl, hn⟩
theorem freeOf_thrice (D : Nat) (l : List Int) : freeOf D (freeOf D (freeOf D l)) = freeOf D l :=
  freeOf_congr (fun i hi => by rw [mem_freeOf' hi, mem_freeOf' hi]; exact Decidable.not_not)
theorem freeOf_count (D : Nat) (l : List Int) : ∀ k, k ≤ D → (freeOf k (freeOf D l)).length + (freeOf k l).length = k := by
  intro k
  induction k with
  | zero => intro _; rfl
  | succ k ih =>
    intro hk
    have := ih (by omega)
    by_cases h : (k : Int) ∈ l
    · rw [freeOf_in h, freeOf_out (by rw [mem_freeOf' (by omega)]; exact fun hh => hh h), List.length_append]
      simp only [List.length_singleton]
      omega
    · rw [freeOf_out h, freeOf_in ((mem_freeOf' (by omega)).mpr h), List.length_append]
      simp only [List.length_singleton]
      omega
theorem freeOf_pre (l : List Int) (k : Nat) : ∀ n, ∃ r, freeOf (k + n) l = freeOf k l ++ r := by
  intro n
  induction n with
  | zero => exact ⟨[], (List.append_nil _).symm⟩
  | succ n ih =>
    obtain ⟨r, e⟩ := ih
    by_cases h : ((k + n : Nat) : Int) ∈ l
    · exact ⟨r, by rw [← Nat.add_assoc, freeOf_in h, e]⟩
    · exact ⟨r ++ [((k + n : Nat) : Int)], by rw [← Nat.add_assoc, freeOf_out h, e, List.append_assoc]⟩
theorem freeOf_here (l : List Int) (i D : Nat) (hi : i < D) (h : ¬ (i : Int) ∈ l) : (freeOf i l).length < (freeOf D l).length ∧ rd (freeOf D l) ((freeOf i l).length : Int) = (i : Int) := by
  obtain ⟨r, e⟩ := freeOf_pre l (i + 1) (D - (i + 1))
  rw [show i + 1 + (D - (i + 1)) = D by omega, freeOf_out h, List.append_assoc] at e
  rw [e]
  constructor
  · rw [List.length_append, List.length_append]
    simp only [List.length_singleton]
    omega
  · rw [rdn, List.getD_eq_getElem?_getD, List.getElem?_append_right (by omega)]
    simp
theorem inAll_free (D : Nat) (l : List Int) : inAll (D : Int) (freeOf D l) = true := by
  unfold inAll
  rw [List.all_eq_true]
  intro x hx
  obtain ⟨i, hi, rfl, _⟩ := mem_freeOf.mp hx
  rw [Bool.and_eq_true, decide_eq_true_eq, decide_eq_true_eq]
  omega
theorem free_ok (a b c : Int) (D : Nat) (l : List Int) (hp : okP a b c (D : Int) = true) (hl : l.length ≤ 65536) (hi : inAll (D : Int) l = true) : rows_Free.f a b c (D : Int) l = some (freeOf D l, 0) := by
  unfold rows_Free.f
  rw [if_pos hp, if_neg (by omega), if_pos hi, Int.toNat_natCast]
theorem free_end (a b c : Int) (D : Nat) (l : List Int) (hp : okP a b c (D : Int) = true) (hD : D ≤ 256) (k : Nat) (hk : 3000 ≤ k) :
    twoslotlaw20_RowsFree.l0 (k + 1) l (freeOf D l) ((freeOf D l).length : Int) (D : Int) a b c (D : Int) = some true := by
  have h1 := freeOf_len D l
  have h2 := freeOf_len D (freeOf D l)
  have h3 := freeOf_count D l D (Nat.le_refl _)
  simp only [twoslotlaw20_RowsFree.l0]
  rw [if_neg (by omega), if_pos (by trivial), free_ok a b c D _ hp (by omega) (inAll_free D l), Option.bind_some]
  simp only []
  rw [free_ok a b c D _ hp (by omega) (inAll_free D _), Option.bind_some, freeOf_thrice]
  simp only []
  rw [if_pos (by trivial), if_pos (by trivial), if_pos (by unfold wrap64; omega), same_ev _ (by omega) k (by omega), Option.bind_some]
theorem free_inner (a b c : Int) (D i : Nat) (l : List Int) (hi : i < D) (hD : D ≤ 256) (hl : l.length ≤ 2000) (m : Nat)
    (hn : ∀ k, m ≤ k → twoslotlaw20_RowsFree.l0 k l (freeOf D l) ((freeOf (i + 1) l).length : Int) (((i + 1 : Nat)) : Int) a b c (D : Int) = some true) :
    ∀ (q j k : Nat) (met : Bool), j ≤ l.length → l.length - j = q → (met = true ↔ (i : Int) ∈ l.take j) → q + m < k → twoslotlaw20_RowsFree.l1 k l (freeOf D l) ((freeOf i l).length : Int) (i : Int) met (j : Int) a b c (D : Int) = some true := by
  intro q
  induction q with
  | zero =>
    intro j k met hj hq hm hk
    obtain ⟨k, rfl⟩ : ∃ x, k = x + 1 := ⟨k - 1, by omega⟩
    rw [List.take_of_length_le (by omega)] at hm
    simp only [twoslotlaw20_RowsFree.l1]
    rw [if_neg (by omega)]
    have hw : wrap64 ((i : Int) + 1) = ((i + 1 : Nat) : Int) := by unfold wrap64; omega
    have hfl := freeOf_len i l
    by_cases h : met = true
    · rw [if_pos h, hw]
      have e := freeOf_in (hm.mp h)
      rw [← e]
      exact hn k (by omega)
    · have hnm : ¬ (i : Int) ∈ l := fun hh => h (hm.mpr hh)
      obtain ⟨h1, h2⟩ := freeOf_here l i D hi hnm
      rw [if_neg h, if_neg (by omega), if_pos (by omega), if_pos (by omega), if_pos h2, hw, show wrap64 (((freeOf i l).length : Int) + 1) = (((freeOf (i + 1) l).length : Nat) : Int) by rw [freeOf_out hnm, List.length_append]; unfold wrap64; simp only [List.length_singleton]; omega]
      exact hn k (by omega)
  | succ q ih =>
    intro j k met hj hq hm hk
    obtain ⟨k, rfl⟩ : ∃ x, k = x + 1 := ⟨k - 1, by omega⟩
    have hlt : j < l.length := by omega
    have hw : wrap64 ((j : Int) + 1) = ((j + 1 : Nat) : Int) := by unfold wrap64; omega
    have ht : l.take (j + 1) = l.take j ++ [l[j]] := List.take_succ_eq_append_getElem hlt
    simp only [twoslotlaw20_RowsFree.l1]
    rw [if_pos (by omega), hw]
    by_cases h : met = true
    · rw [if_pos h]
      refine ih (j + 1) k true (by omega) (by omega) ?_ (by omega)
      rw [ht, List.mem_append]
      exact ⟨fun _ => .inl (hm.mp h), fun _ => rfl⟩
    · rw [if_neg h, if_pos (by omega)]
      refine ih (j + 1) k _ (by omega) (by omega) ?_ (by omega)
      rw [ht, List.mem_append, rdn, getD_at hlt, beq_iff_eq, List.mem_singleton]
      constructor
      · intro e
        exact .inr e.symm
      · rintro (e | e)
        · exact absurd (hm.mpr e) h
        · exact e.symm
set_option maxRecDepth 100000 in
theorem free_outer (a b c : Int) (D : Nat) (l : List Int) (hp : okP a b c (D : Int) = true) (hD : D ≤ 256) (hl : l.length ≤ 2000) :
    ∀ (q i k : Nat), i ≤ D → D - i = q → q * (l.length + 3) + 4000 < k → twoslotlaw20_RowsFree.l0 k l (freeOf D l) ((freeOf i l).length : Int) (i : Int) a b c (D : Int) = some true := by
  intro q
  induction q with
  | zero =>
    intro i k hi hq hk
    obtain ⟨k, rfl⟩ : ∃ x, k = x + 1 := ⟨k - 1, by omega⟩
    obtain rfl : i = D := by omega
    exact free_end a b c i l hp hD k (by omega)
  | succ q ih =>
    intro i k hi hq hk
    rw [Nat.succ_mul] at hk
    obtain ⟨k, rfl⟩ : ∃ x, k = x + 1 := ⟨k - 1, by omega⟩
    simp only [twoslotlaw20_RowsFree.l0]
    rw [if_pos (by omega)]
    generalize q * (l.length + 3) = Q at hk ih
    have h1 : l.length + (Q + 4001) < k := by omega
    have h2 : ∀ k, Q + 4001 ≤ k → twoslotlaw20_RowsFree.l0 k l (freeOf D l) ((freeOf (i + 1) l).length : Int) (((i + 1 : Nat)) : Int) a b c (D : Int) = some true := fun k hk => ih (i + 1) k (by omega) (by omega) (by omega)
    refine free_inner a b c D i l (by omega) hD hl (Q + 4001) h2 l.length 0 k false (Nat.zero_le _) (Nat.sub_zero _) ?_ h1
    simp
theorem RowsFree.ev0 (a b c d : Int) (l : List Int) (K : Nat) (hK : 600000 ≤ K) : twoslotlaw20_RowsFree.f K a b c d l = some true := by
  unfold twoslotlaw20_RowsFree.f
  rw [alive_ev K (by omega), Option.bind_some, if_pos rfl]
  by_cases h1 : (l.length : Int) > 2000
  · rw [if_pos h1]
  rw [if_neg h1]
  by_cases hp : okP a b c d = true
  · have hd := okP_iff.mp hp
    obtain ⟨D, rfl⟩ : ∃ D : Nat, d = D := ⟨d.toNat, by omega⟩
    by_cases hi : inAll (D : Int) l = true
    · rw [free_ok a b c D l hp (by omega) hi, Option.bind_some]
      simp only []
      rw [if_pos (by trivial)]
      refine free_outer a b c D l hp (by omega) (by omega) D 0 K (by omega) (by omega) ?_
      have : D * (l.length + 3) ≤ 256 * 2003 := Nat.mul_le_mul (by omega) (by omega)
      omega
    · have e : rows_Free.f a b c (D : Int) l = some ([], 200) := by
        unfold rows_Free.f
        rw [if_pos hp, if_neg (by omega), if_neg hi]
      rw [e, Option.bind_some]
      rfl
  · have e : rows_Free.f a b c d l = some ([], 2) := by
      unfold rows_Free.f
      rw [if_neg hp]
    rw [e, Option.bind_some]
    rfl
theorem RowsFree.ev (a b c d : Int) (l : List Int) : ∃ K, twoslotlaw20_RowsFree.f K a b c d l = some true := ⟨_, RowsFree.ev0 a b c d l 600000 (Nat.le_refl _)⟩
end Go.Proofs.Ytppmkojpbgedmaa.P

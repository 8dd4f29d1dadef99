import Derived.Test.YtcnmocbiekfpbaaPx15
import Derived.Test.YtcnmocbiekfpbaaPx28
namespace Go.Proofs.Ytcnmocbiekfpbaa.P
open Go.RowKit Go.Proofs.YtcnmocbiekfpbaaW.PrintWords Go.Proofs.YtcnmocbiekfpbaaW.PrintLast Go.Proofs.YtcnmocbiekfpbaaW.PrintMore
attribute [local go_sem] max2_int min2_int max_two min_two max_three min_three max_four min_four
set_option linter.unusedVariables false
set_option linter.unusedSimpArgs false
/-! ### Compact of sorted ints; rows put in one by one -/
theorem ib_get {zs : List Int} {j : Nat} (h : j < zs.length) : zs.toArray[j]! = zs[j] := by
  rw [getElem!_pos zs.toArray j (by simpa using h)]
  simp
theorem compactUpTo_int (zs : List Int) (hs : zs.Pairwise (· ≤ ·)) : ∀ m, m ≤ zs.length → (Go.Lib.compactUpTo zs.toArray m).Pairwise (· < ·) ∧ (∀ x, x ∈ Go.Lib.compactUpTo zs.toArray m ↔ x ∈ zs.take m) := by
  intro m
  induction m with
  | zero => intro _; exact ⟨by simp [Go.Lib.compactUpTo], by simp [Go.Lib.compactUpTo]⟩
  | succ m ih =>
    intro hm
    obtain ⟨i1, i2⟩ := ih (by omega)
    have hlt : m < zs.length := by omega
    have ht : zs.take (m + 1) = zs.take m ++ [zs[m]] := List.take_succ_eq_append_getElem hlt
    have hle : ∀ x ∈ zs.take m, x ≤ zs[m] := by
      intro x hx
      obtain ⟨j, hj, e⟩ := List.getElem_of_mem hx
      rw [List.length_take] at hj
      have := List.pairwise_iff_getElem.mp hs j m (by omega) hlt (by omega)
      rw [List.getElem_take] at e
      rw [← e]
      exact this
    have hle2 : 0 < m → ∀ x ∈ zs.take m, x ≤ zs.toArray[m - 1]! := by
      intro h0 x hx
      rw [ib_get (by omega)]
      obtain ⟨j, hj, e⟩ := List.getElem_of_mem hx
      rw [List.length_take] at hj
      rw [List.getElem_take] at e
      rw [← e]
      by_cases hj2 : j = m - 1
      · subst hj2; exact Int.le_refl _
      · exact List.pairwise_iff_getElem.mp hs j (m - 1) (by omega) (by omega) (by omega)
    rw [Go.Lib.compactUpTo_succ, ib_get hlt]
    refine ⟨?_, ?_⟩
    · by_cases hk : Go.Lib.keeps zs.toArray m = true
      · rw [if_pos hk]
        refine List.pairwise_append.mpr ⟨i1, by simp, fun x hx y hy => ?_⟩
        have hy : y = zs[m] := by simpa using hy
        subst hy
        have hx := (i2 x).mp hx
        have h1 := hle x hx
        have h0 : 0 < m := by
          rcases Nat.eq_zero_or_pos m with h | h
          · subst h; simp at hx
          · exact h
        have h2 := hle2 h0 x hx
        have h3 : zs.toArray[m - 1]! ≤ zs[m] := by
          rw [ib_get (by omega)]
          exact List.pairwise_iff_getElem.mp hs (m - 1) m (by omega) hlt (by omega)
        have hne : zs[m] ≠ zs.toArray[m - 1]! := by
          intro he
          rw [Go.Lib.keeps_neg h0 (by rw [ib_get hlt]; exact he)] at hk
          cases hk
        omega
      · rw [if_neg hk, List.append_nil]; exact i1
    · intro x
      rw [ht]
      by_cases hk : Go.Lib.keeps zs.toArray m = true
      · rw [if_pos hk, List.mem_append, List.mem_append, i2 x]
      · rw [if_neg hk, List.append_nil, i2 x, List.mem_append]
        constructor
        · exact .inl
        · rintro (h | h)
          · exact h
          · have h : x = zs[m] := by simpa using h
            have h0 : 0 < m := by
              rcases Nat.eq_zero_or_pos m with h | h
              · subst h; exact absurd (Go.Lib.keeps_lt_one _ 0 (by omega)) hk
              · exact h
            have he : zs.toArray[m]! = zs.toArray[m - 1]! := by
              by_cases he : zs.toArray[m]! = zs.toArray[m - 1]!
              · exact he
              · exact absurd (Go.Lib.keeps_pos he) hk
            rw [ib_get hlt, ib_get (by omega)] at he
            rw [h, he]
            exact List.mem_take_iff_getElem.mpr ⟨m - 1, by omega, rfl⟩
theorem strict_ext : ∀ (a b : List Int), a.Pairwise (· < ·) → b.Pairwise (· < ·) → (∀ x, x ∈ a ↔ x ∈ b) → a = b
  | [], b, _, _, h => by
    cases b with
    | nil => rfl
    | cons y b => exact absurd ((h y).mpr (by simp)) (by simp)
  | x :: a, [], _, _, h => absurd ((h x).mp (by simp)) (by simp)
  | x :: a, y :: b, ha, hb, h => by
    rw [List.pairwise_cons] at ha hb
    have e : x = y := by
      rcases List.mem_cons.mp ((h x).mp (by simp)) with e | e
      · exact e
      · rcases List.mem_cons.mp ((h y).mpr (by simp)) with e2 | e2
        · exact e2.symm
        · have h1 := hb.1 x e
          have h2 := ha.1 y e2
          omega
    subst e
    rw [strict_ext a b ha.2 hb.2 (fun z => ?_)]
    constructor
    · intro hz
      rcases List.mem_cons.mp ((h z).mp (List.mem_cons_of_mem _ hz)) with e | e
      · subst e; have := ha.1 z hz; omega
      · exact e
    · intro hz
      rcases List.mem_cons.mp ((h z).mpr (List.mem_cons_of_mem _ hz)) with e | e
      · subst e; have := hb.1 z hz; omega
      · exact e
theorem insB_srt : ∀ (k : Nat) (A B : List Int) (x : Int), A.length = k → (A ++ B).Pairwise (· < ·) → x ∉ A → (∀ b ∈ B, x < b) → (insB (A ++ x :: B) k).Pairwise (· < ·)
  | 0, A, B, x, hk, hp, hx, hb => by
    obtain rfl := List.eq_nil_of_length_eq_zero hk
    unfold insB
    exact List.pairwise_cons.mpr ⟨hb, hp⟩
  | k + 1, A, B, x, hk, hp, hx, hb => by
    have hne : A ≠ [] := fun e => by subst e; simp at hk
    have hA : A = A.dropLast ++ [A.getLast hne] := (List.dropLast_concat_getLast hne).symm
    obtain ⟨A2, a, rfl⟩ : ∃ A2 a, A = A2 ++ [a] := ⟨_, _, hA⟩
    have hk2 : A2.length = k := by simpa using hk
    have e0 : (A2 ++ [a]) ++ x :: B = A2 ++ a :: x :: B := by simp
    rw [e0]
    have r0 : rdOf 0 (A2 ++ a :: x :: B) ((k : Nat) : Int) = a := by
      rw [rd_nat (by simp; omega), List.getElem_append_right (by omega)]
      simp [hk2]
    have r1 : rdOf 0 (A2 ++ a :: x :: B) ((k + 1 : Nat) : Int) = x := by
      rw [rd_nat (by simp; omega), List.getElem_append_right (by omega)]
      simp [hk2]
    unfold insB
    rw [r0, r1]
    have hax : a ≠ x := fun e => hx (by simp [e])
    by_cases h : x < a
    · rw [if_pos h]
      have es : ((A2 ++ a :: x :: B).set (k + 1) a).set k x = A2 ++ x :: (a :: B) := by
        subst hk2
        simp
      rw [es]
      refine insB_srt k A2 (a :: B) x hk2 (by simpa using hp) (fun hx2 => hx (by simp [hx2])) ?_
      intro b hb2
      rcases List.mem_cons.mp hb2 with e | e
      · subst e; exact h
      · exact hb b e
    · rw [if_neg h]
      have hp2 : (A2 ++ a :: B).Pairwise (· < ·) := by simpa using hp
      rw [List.pairwise_append] at hp2 ⊢
      obtain ⟨p1, p2, p3⟩ := hp2
      rw [List.pairwise_cons] at p2
      refine ⟨p1, ?_, ?_⟩
      · refine List.pairwise_cons.mpr ⟨?_, List.pairwise_cons.mpr ⟨hb, p2.2⟩⟩
        intro b hb2
        rcases List.mem_cons.mp hb2 with e | e
        · subst e; omega
        · exact p2.1 b e
      · intro c hc b hb2
        rcases List.mem_cons.mp hb2 with e | e
        · subst e; exact p3 c hc b (by simp)
        · rcases List.mem_cons.mp e with e | e
          · subst e; have := p3 c hc a (by simp); omega
          · exact p3 c hc b (by simp [e])
theorem metStep_srt {o : List Int} (h : o.Pairwise (· < ·)) (x : Int) : (metStep o x).Pairwise (· < ·) := by
  unfold metStep
  by_cases hx : x ∈ o
  · rw [if_pos hx]; exact h
  · rw [if_neg hx]
    exact insB_srt o.length o [] x rfl (by simpa using h) hx (by simp)
theorem metFold_srt : ∀ (l : List S35) (o : List Int), o.Pairwise (· < ·) → (l.foldl (fun o x => metStep o x.f1) o).Pairwise (· < ·) ∧ ∀ y, y ∈ l.foldl (fun o x => metStep o x.f1) o ↔ y ∈ o ∨ y ∈ l.map (·.f1)
  | [], o, h => ⟨h, fun y => by simp⟩
  | x :: l, o, h => by
    obtain ⟨h1, h2⟩ := metFold_srt l (metStep o x.f1) (metStep_srt h _)
    refine ⟨h1, fun y => ?_⟩
    show y ∈ l.foldl _ (metStep o x.f1) ↔ _
    rw [h2 y, metStep_mem]
    simp only [List.map_cons, List.mem_cons]
    constructor
    · rintro ((h | h) | h)
      · exact .inl h
      · exact .inr (.inl h)
      · exact .inr (.inr h)
    · rintro (h | h | h)
      · exact .inl (.inl h)
      · exact .inl (.inr h)
      · exact .inr h
def srt9 (l : List Int) : List Int := l.mergeSort fun x y => decide (x ≤ y)
theorem sorted_srt9 (l : List Int) : (srt9 l).Pairwise (· ≤ ·) := by
  have h := List.pairwise_mergeSort (le := fun x y : Int => decide (x ≤ y)) (fun x y z h1 h2 => by simp at *; omega) (fun x y => by simp; omega) l
  exact h.imp (fun h => by simpa using h)
theorem met_eq (l : List S35) : Go.Lib.compact (srt9 (l.map (·.f1))) = metRows l := by
  have h := compactUpTo_int (srt9 (l.map (·.f1))) (sorted_srt9 _) _ (Nat.le_refl _)
  have h2 := metFold_srt l [] List.Pairwise.nil
  refine strict_ext _ _ h.1 h2.1 (fun x => ?_)
  unfold metRows
  rw [h2.2 x]
  have h3 := h.2 x
  rw [List.take_length] at h3
  refine h3.trans ?_
  rw [show x ∈ srt9 (l.map (·.f1)) ↔ x ∈ l.map (·.f1) from (List.mergeSort_perm _ _).mem_iff]
  simp
/-! ### image.Rows -/
theorem compact_len9 (l : List Int) : (Go.Lib.compact l).length ≤ l.length := Go.Lib.compact_length_le l
theorem rows9_loop (l : List S35) (hl : l.length ≤ 65536) (d : Nat) : ∀ (k i : Nat) (acc : List Int), i + d = l.length → acc = (l.take i).map (·.f1) → d < k →
    image_Rows.l0 k acc l (l.length : Int) (i : Int) = ((slices_Sort_int_int.f (l.map (·.f1))).bind fun t => (slices_Compact_int_int.f t).bind fun u => some (u, 0)) := by
  induction d with
  | zero =>
    intro k i acc hi ha hk
    obtain ⟨k, rfl⟩ : ∃ m, k = m + 1 := ⟨k - 1, by omega⟩
    simp only [image_Rows.l0]
    rw [if_neg (by omega), ha, List.take_of_length_le (by omega)]
  | succ d ih =>
    intro k i acc hi ha hk
    obtain ⟨k, rfl⟩ : ∃ m, k = m + 1 := ⟨k - 1, by omega⟩
    have hlt : i < l.length := by omega
    have hal : acc.length = i := by rw [ha, List.length_map, List.length_take]; omega
    simp only [image_Rows.l0]
    rw [if_pos (by omega), if_pos (by omega), if_pos (by omega), if_pos (by omega), show wrap64 ((i : Int) + 1) = ((i + 1 : Nat) : Int) by unfold wrap64; omega]
    refine ih k (i + 1) _ (by omega) ?_ (by omega)
    rw [List.take_succ_eq_append_getElem hlt, List.map_append, ha]
    congr 1
    unfold rd_T35
    rw [Int.toNat_natCast, List.getD_eq_getElem?_getD, List.getElem?_eq_getElem hlt]
    rfl
theorem rows9_ev (l : List S35) (hl : l.length ≤ 65536) (k : Nat) (hk : l.length < k) : image_Rows.f k l = some (metRows l, 0) := by
  unfold image_Rows.f
  rw [if_neg (by omega)]
  refine (rows9_loop l hl l.length k 0 [] (by omega) rfl hk).trans ?_
  have h1 : slices_Sort_int_int.f (l.map (·.f1)) = some (srt9 (l.map (·.f1))) := by
    unfold slices_Sort_int_int.f
    rw [if_pos (by rw [List.length_map]; omega)]
    rfl
  have hs : (srt9 (l.map (·.f1))).length = l.length := by
    unfold srt9
    rw [List.length_mergeSort, List.length_map]
  have h2 : slices_Compact_int_int.f (srt9 (l.map (·.f1))) = some (metRows l) := by
    unfold slices_Compact_int_int.f
    rw [if_pos (by omega), met_eq]
  rw [h1, Option.bind_some, h2, Option.bind_some]
theorem metRows_len (l : List S35) : (metRows l).length ≤ l.length := by
  rw [← met_eq]
  have h1 := compact_len9 (srt9 (l.map (·.f1)))
  have hs : (srt9 (l.map (·.f1))).length = l.length := by
    unfold srt9
    rw [List.length_mergeSort, List.length_map]
  omega
end Go.Proofs.Ytcnmocbiekfpbaa.P

import Derived.Test.YtmhfgcmgeglmhaaDoorP21G
import Derived.Sort.Walk0
import Derived.Lib.SlicesCompact
namespace Go.Proofs.YtmhfgcmgeglmhaaDoor.P
open Go.RowKit Go.Proofs.YtmhfgcmgeglmhaaDoorW.PrintWords Go.Proofs.YtmhfgcmgeglmhaaDoorW.PrintLast Go.Proofs.YtmhfgcmgeglmhaaDoorW.PrintMore
attribute [local go_sem] max2_int min2_int max_two min_two max_three min_three max_four min_four
set_option linter.unusedVariables false
set_option linter.unusedSimpArgs false

/-! ### strings in their order -/
def bl (x y : List UInt8) : Bool := Op.bytesLess x y
theorem bl_irrefl : ∀ x, bl x x = false
  | [] => rfl
  | a :: x => by
    have ih := bl_irrefl x
    unfold bl at ih ⊢
    simp [Op.bytesLess, ih]
theorem bl_trans : ∀ x y z, bl x y = true → bl y z = true → bl x z = true
  | _, [], _ => fun h => by simp [bl, Op.bytesLess] at h
  | _, _ :: _, [] => fun _ h => by simp [bl, Op.bytesLess] at h
  | [], _ :: _, _ :: _ => fun _ _ => rfl
  | a :: x, b :: y, c :: z => fun h1 h2 => by
    have ih := bl_trans x y z
    unfold bl at ih h1 h2 ⊢
    simp only [Op.bytesLess, Bool.or_eq_true, decide_eq_true_eq, Bool.and_eq_true, beq_iff_eq] at h1 h2 ⊢
    rcases h1 with h1 | ⟨rfl, h1⟩
    · rcases h2 with h2 | ⟨rfl, h2⟩
      · exact .inl (UInt8.lt_trans h1 h2)
      · exact .inl h1
    · rcases h2 with h2 | ⟨rfl, h2⟩
      · exact .inl h2
      · exact .inr ⟨rfl, ih h1 h2⟩
theorem bl_tri : ∀ x y, bl x y = false → bl y x = false → x = y
  | [], [] => fun _ _ => rfl
  | [], _ :: _ => fun h _ => by simp [bl, Op.bytesLess] at h
  | _ :: _, [] => fun _ h => by simp [bl, Op.bytesLess] at h
  | a :: x, b :: y => fun h1 h2 => by
    have ih := bl_tri x y
    unfold bl at ih h1 h2
    simp only [Op.bytesLess, Bool.or_eq_false_iff, decide_eq_false_iff_not, Bool.and_eq_false_iff, beq_eq_false_iff_ne, ne_eq] at h1 h2
    have e : a = b := by
      have e1 : ¬ a.toNat < b.toNat := fun h => h1.1 (UInt8.lt_iff_toNat_lt.mpr h)
      have e2 : ¬ b.toNat < a.toNat := fun h => h2.1 (UInt8.lt_iff_toNat_lt.mpr h)
      exact UInt8.toNat_inj.mp (by omega)
    subst e
    congr 1
    refine ih ?_ ?_
    · rcases h1.2 with h | h
      · exact absurd rfl h
      · exact h
    · rcases h2.2 with h | h
      · exact absurd rfl h
      · exact h
theorem bl_asymm {x y : List UInt8} (h : bl x y = true) : bl y x = false := by
  cases hh : bl y x with
  | false => rfl
  | true => have := bl_trans x y x h hh; rw [bl_irrefl] at this; cases this
theorem le_bl (x y : List UInt8) : decide (x ≤ y) = !bl y x := by
  have h := bytesLess_eq y x
  unfold bl
  rw [h]
  by_cases h1 : y < x
  · rw [decide_eq_true h1]; exact decide_eq_false (fun h2 => h2 h1)
  · rw [decide_eq_false h1]; exact decide_eq_true (fun h2 => h1 h2)
abbrev Srt (l : List (List UInt8)) : Prop := l.Pairwise fun a b => bl a b = true
theorem srt_unique : ∀ {l m : List (List UInt8)}, Srt l → Srt m → (∀ x, x ∈ l ↔ x ∈ m) → l = m
  | [], [] => fun _ _ _ => rfl
  | [], b :: m => fun _ _ h => by have := (h b).mpr (by simp); simp at this
  | a :: l, [] => fun _ _ h => by have := (h a).mp (by simp); simp at this
  | a :: l, b :: m => fun h1 h2 h => by
    have hl := List.pairwise_cons.mp h1
    have hm := List.pairwise_cons.mp h2
    have e : a = b := by
      rcases List.mem_cons.mp ((h a).mp (by simp)) with e | e
      · exact e
      · rcases List.mem_cons.mp ((h b).mpr (by simp)) with e2 | e2
        · exact e2.symm
        · have h3 := hm.1 a e
          have h4 := hl.1 b e2
          rw [bl_asymm h3] at h4
          cases h4
    subst e
    congr 1
    refine srt_unique hl.2 hm.2 (fun x => ?_)
    constructor
    · intro hx
      rcases List.mem_cons.mp ((h x).mp (List.mem_cons_of_mem _ hx)) with e | e
      · subst e; have := hl.1 x hx; rw [bl_irrefl] at this; cases this
      · exact e
    · intro hx
      rcases List.mem_cons.mp ((h x).mpr (List.mem_cons_of_mem _ hx)) with e | e
      · subst e; have := hm.1 x hx; rw [bl_irrefl] at this; cases this
      · exact e
/-! ### Compact of what is sorted -/
theorem get_bang {zs : List (List UInt8)} {j : Nat} (h : j < zs.length) : zs.toArray[j]! = zs[j] := by
  rw [getElem!_pos zs.toArray j (by simpa using h)]
  simp
theorem compactUpTo_srt (zs : List (List UInt8)) (hs : zs.Pairwise fun a b => decide (a ≤ b) = true) : ∀ m, m ≤ zs.length → Srt (Go.Lib.compactUpTo zs.toArray m) ∧ (∀ x, x ∈ Go.Lib.compactUpTo zs.toArray m ↔ x ∈ zs.take m) ∧ (∀ x ∈ zs.take m, ∀ h : 0 < m, x = zs.toArray[m - 1]! ∨ bl x zs.toArray[m - 1]! = true) := by
  intro m
  induction m with
  | zero => intro _; exact ⟨by simp [Go.Lib.compactUpTo], by simp [Go.Lib.compactUpTo], fun x hx => by simp at hx⟩
  | succ m ih =>
    intro hm
    obtain ⟨i1, i2, i3⟩ := ih (by omega)
    have hlt : m < zs.length := by omega
    have ht : zs.take (m + 1) = zs.take m ++ [zs[m]] := List.take_succ_eq_append_getElem hlt
    have hle : ∀ x ∈ zs.take m, bl zs[m] x = false := by
      intro x hx
      obtain ⟨j, hj, e⟩ := List.getElem_of_mem hx
      rw [List.length_take] at hj
      have := List.pairwise_iff_getElem.mp hs j m (by omega) hlt (by omega)
      rw [le_bl] at this
      rw [List.getElem_take] at e
      rw [← e]
      simpa using this
    have hmem : ∀ x ∈ zs.take (m + 1), x = zs[m] ∨ bl x zs[m] = true := by
      intro x hx
      rw [ht] at hx
      rcases List.mem_append.mp hx with hx | hx
      · cases hb : bl x zs[m] with
        | true => exact .inr rfl
        | false => exact .inl (bl_tri _ _ hb (hle x hx))
      · exact .inl (by simpa using hx)
    rw [Go.Lib.compactUpTo_succ, get_bang hlt]
    refine ⟨?_, ?_, fun x hx _ => by rw [show m + 1 - 1 = m by omega, get_bang hlt]; exact hmem x hx⟩
    · by_cases hk : Go.Lib.keeps zs.toArray m = true
      · rw [if_pos hk]
        refine List.pairwise_append.mpr ⟨i1, by simp, fun x hx y hy => ?_⟩
        have hy : y = zs[m] := by simpa using hy
        subst hy
        have hx := (i2 x).mp hx
        rcases hmem x (by rw [ht]; exact List.mem_append_left _ hx) with e | e
        · exfalso
          have h0 : 0 < m := by
            rcases Nat.eq_zero_or_pos m with h | h
            · subst h; simp at hx
            · exact h
          have hne : zs.toArray[m]! ≠ zs.toArray[m - 1]! := by
            intro he
            rw [Go.Lib.keeps_neg h0 he] at hk
            cases hk
          rw [get_bang hlt] at hne
          have h1 := i3 x hx h0
          have h2 := hle zs.toArray[m - 1]! (by rw [get_bang (by omega)]; exact List.mem_take_iff_getElem.mpr ⟨m - 1, by omega, rfl⟩)
          rcases h1 with h1 | h1
          · exact hne (e.symm.trans h1)
          · rw [← e] at h2; rw [h1] at h2; cases h2
        · exact e
      · rw [if_neg hk, List.append_nil]; exact i1
    · intro x
      rw [ht]
      by_cases hk : Go.Lib.keeps zs.toArray m = true
      · rw [if_pos hk, List.mem_append, List.mem_append, i2 x]
      · rw [if_neg hk, List.append_nil, i2 x, List.mem_append]
        constructor
        · exact .inl
        · rintro (h | h)
          · exact h
          · have h : x = zs[m] := by simpa using h
            have h0 : 0 < m := by
              rcases Nat.eq_zero_or_pos m with h | h
              · subst h; exact absurd (Go.Lib.keeps_lt_one _ 0 (by omega)) hk
              · exact h
            have he : zs.toArray[m]! = zs.toArray[m - 1]! := by
              by_cases he : zs.toArray[m]! = zs.toArray[m - 1]!
              · exact he
              · exact absurd (Go.Lib.keeps_pos he) hk
            rw [get_bang hlt, get_bang (by omega)] at he
            rw [h, he]
            exact List.mem_take_iff_getElem.mpr ⟨m - 1, by omega, rfl⟩
theorem compact_srt (zs : List (List UInt8)) (hs : zs.Pairwise fun a b => decide (a ≤ b) = true) : Srt (Go.Lib.compact zs) ∧ ∀ x, x ∈ Go.Lib.compact zs ↔ x ∈ zs := by
  have h := compactUpTo_srt zs hs zs.length (Nat.le_refl _)
  exact ⟨h.1, fun x => by have := h.2.1 x; rwa [List.take_length] at this⟩
theorem sorted_sortB (l : List ByteArray) : (sortB l).Pairwise fun a b => decide (a ≤ b) = true := by
  unfold sortB
  refine List.pairwise_mergeSort (fun a b c h1 h2 => ?_) (fun a b => ?_) _
  · rw [le_bl] at h1 h2 ⊢
    simp only [Bool.not_eq_eq_eq_not, Bool.not_true] at h1 h2 ⊢
    cases hc : bl c a with
    | false => rfl
    | true =>
      exfalso
      cases hab : bl a b with
      | true => have := bl_trans c a b hc hab; rw [h2] at this; cases this
      | false => have e := bl_tri _ _ hab h1; subst e; rw [h2] at hc; cases hc
  · rw [le_bl, le_bl]
    cases h : bl b a with
    | false => rfl
    | true => rw [bl_asymm h]; rfl
theorem mem_sortB (l : List ByteArray) (x : List UInt8) : x ∈ sortB l ↔ x ∈ l.map toB := by
  unfold sortB
  exact (List.mergeSort_perm _ _).mem_iff
def setB (l : List ByteArray) : List (List UInt8) := Go.Lib.compact (sortB l)
theorem setB_srt (l : List ByteArray) : Srt (setB l) := (compact_srt _ (sorted_sortB l)).1
theorem mem_setB (l : List ByteArray) (x : List UInt8) : x ∈ setB l ↔ x ∈ l.map toB := ((compact_srt _ (sorted_sortB l)).2 x).trans (mem_sortB l x)
/-! ### the document's row: binary search, insertion -/
def lessB (a b : ByteArray) : Bool := bl (toB a) (toB b)
def posB (acc : List ByteArray) (x : ByteArray) : Nat := (acc.takeWhile fun a => lessB a x).length
theorem posB_le (acc : List ByteArray) (x : ByteArray) : posB acc x ≤ acc.length := (List.takeWhile_sublist _).length_le
def insB (acc : List ByteArray) (x : ByteArray) : List ByteArray := if acc[posB acc x]? = some x then acc else acc.take (posB acc x) ++ [x] ++ acc.drop (posB acc x)
abbrev SrtB (l : List ByteArray) : Prop := l.Pairwise fun a b => lessB a b = true
theorem posB_iff {acc : List ByteArray} (hs : SrtB acc) (x : ByteArray) {m : Nat} (hm : m < acc.length) : lessB acc[m] x = true ↔ m < posB acc x := by
  unfold posB
  induction acc generalizing m with
  | nil => simp at hm
  | cons a acc ih =>
    have hp := List.pairwise_cons.mp hs
    cases hl : lessB a x with
    | true =>
      rw [List.takeWhile_cons_of_pos (by simpa using hl), List.length_cons]
      cases m with
      | zero => simp [hl]
      | succ m =>
        have := ih hp.2 (m := m) (by simpa using hm)
        simp only [List.getElem_cons_succ]
        rw [this]
        omega
    | false =>
      rw [List.takeWhile_cons_of_neg (by simp [hl])]
      simp only [List.length_nil, Nat.not_lt_zero, iff_false, Bool.not_eq_true]
      cases m with
      | zero => simpa using hl
      | succ m =>
        simp only [List.getElem_cons_succ]
        cases hc : lessB (acc[m]'(by simpa using hm)) x with
        | false => rfl
        | true =>
          have h1 := hp.1 _ (List.getElem_mem (by simpa using hm : m < acc.length))
          have := bl_trans _ _ _ h1 hc
          unfold lessB at hl
          rw [hl] at this
          cases this
theorem toB_inj {a b : ByteArray} (h : toB a = toB b) : a = b := by rw [← ofB_toB a, ← ofB_toB b, h]
theorem insB_srt {acc : List ByteArray} (hs : SrtB acc) (x : ByteArray) : SrtB (insB acc x) := by
  unfold insB
  by_cases he : acc[posB acc x]? = some x
  · rw [if_pos he]; exact hs
  · rw [if_neg he, List.append_assoc]
    have h1 : ∀ y ∈ acc.take (posB acc x), lessB y x = true := by
      intro y hy
      obtain ⟨j, hj, e⟩ := List.getElem_of_mem hy
      rw [List.length_take] at hj
      rw [List.getElem_take] at e
      rw [← e]
      exact (posB_iff hs x (by omega)).mpr (by omega)
    have h2 : ∀ y ∈ acc.drop (posB acc x), lessB x y = true := by
      intro y hy
      obtain ⟨j, hj, e⟩ := List.getElem_of_mem hy
      rw [List.length_drop] at hj
      rw [List.getElem_drop] at e
      have hn : ∀ i, (hi : i < acc.length) → posB acc x ≤ i → lessB acc[i] x = false := fun i hi h => by
        cases hc : lessB acc[i] x with
        | false => rfl
        | true => have := (posB_iff hs x hi).mp hc; omega
      have hp : posB acc x < acc.length := by omega
      have h0 : lessB x acc[posB acc x] = true := by
        cases hc : lessB x acc[posB acc x] with
        | true => rfl
        | false =>
          exfalso
          apply he
          rw [List.getElem?_eq_getElem hp]
          exact congrArg some (toB_inj (bl_tri _ _ (hn _ hp (Nat.le_refl _)) hc))
      subst e
      rcases Nat.eq_zero_or_pos j with hj0 | hj0
      · subst hj0; simpa using h0
      · exact bl_trans _ _ _ h0 (List.pairwise_iff_getElem.mp hs (posB acc x) (posB acc x + j) hp (by omega) (by omega))
    refine List.pairwise_append.mpr ⟨hs.sublist (List.take_sublist _ _), List.pairwise_append.mpr ⟨by simp, hs.sublist (List.drop_sublist _ _), fun y hy z hz => ?_⟩, fun y hy z hz => ?_⟩
    · have : y = x := by simpa using hy
      subst this
      exact h2 z hz
    · rcases List.mem_append.mp hz with hz | hz
      · have : z = x := by simpa using hz
        subst this
        exact h1 y hy
      · exact bl_trans _ _ _ (h1 y hy) (h2 z hz)
theorem mem_insB (acc : List ByteArray) (x y : ByteArray) : y ∈ insB acc x ↔ y ∈ acc ∨ y = x := by
  unfold insB
  by_cases he : acc[posB acc x]? = some x
  · rw [if_pos he]
    constructor
    · exact .inl
    · rintro (h | h)
      · exact h
      · rw [h]; exact List.mem_of_getElem? he
  · rw [if_neg he]
    conv => rhs; rw [← List.take_append_drop (posB acc x) acc]
    simp only [List.mem_append, List.mem_singleton]
    constructor
    · rintro ((h | h) | h)
      · exact .inl (.inl h)
      · exact .inr h
      · exact .inl (.inr h)
    · rintro ((h | h) | h)
      · exact .inl (.inl h)
      · exact .inr h
      · exact .inl (.inr h)
def rowB (l : List ByteArray) : List ByteArray := l.foldl insB []
theorem rowB_step (l : List ByteArray) (k : Nat) (hk : k < l.length) : rowB (l.take (k + 1)) = insB (rowB (l.take k)) l[k] := by
  unfold rowB
  rw [List.take_succ_eq_append_getElem hk, List.foldl_append]
  rfl
theorem foldl_facts : ∀ (l acc : List ByteArray), SrtB acc → SrtB (l.foldl insB acc) ∧ ∀ y, y ∈ l.foldl insB acc ↔ y ∈ acc ∨ y ∈ l
  | [], acc => fun h => ⟨h, fun y => by simp⟩
  | x :: l, acc => fun h => by
    obtain ⟨a, b⟩ := foldl_facts l (insB acc x) (insB_srt h x)
    refine ⟨a, fun y => ?_⟩
    rw [List.foldl_cons, b y, mem_insB, List.mem_cons]
    constructor
    · rintro ((h | h) | h)
      · exact .inl h
      · exact .inr (.inl h)
      · exact .inr (.inr h)
    · rintro (h | h | h)
      · exact .inl (.inl h)
      · exact .inl (.inr h)
      · exact .inr h
theorem rowB_srt (l : List ByteArray) : SrtB (rowB l) := (foldl_facts l [] List.Pairwise.nil).1
theorem mem_rowB (l : List ByteArray) (y : ByteArray) : y ∈ rowB l ↔ y ∈ l := by
  have := (foldl_facts l [] List.Pairwise.nil).2 y
  simpa [rowB] using this
theorem rowB_eq (l : List ByteArray) : rowB l = (setB l).map ofB := by
  have h : (rowB l).map toB = setB l := by
    refine srt_unique ?_ (setB_srt l) (fun x => ?_)
    · exact List.pairwise_map.mpr (rowB_srt l)
    · rw [mem_setB, List.mem_map, List.mem_map]
      constructor
      · rintro ⟨y, hy, e⟩
        exact ⟨y, (mem_rowB l y).mp hy, e⟩
      · rintro ⟨y, hy, e⟩
        exact ⟨y, (mem_rowB l y).mpr hy, e⟩
  rw [← h, List.map_map]
  conv => lhs; rw [← List.map_id (rowB l)]
  exact List.map_congr_left (fun s _ => (ofB_toB s).symm)
theorem insB_len (acc : List ByteArray) (x : ByteArray) : (insB acc x).length ≤ acc.length + 1 := by
  unfold insB
  have := posB_le acc x
  split
  · omega
  · simp
    omega
end Go.Proofs.YtmhfgcmgeglmhaaDoor.P

import Derived.Test.YtppmkojpbgedmaaP20Ev
import Derived.Test.YtppmkojpbgedmaaPx11
import Derived.Test.YtppmkojpbgedmaaPx12
namespace Go.Proofs.Ytppmkojpbgedmaa.P
open Go.RowKit Go.Proofs.YtppmkojpbgedmaaW.PrintWords Go.Proofs.YtppmkojpbgedmaaW.PrintLast Go.Proofs.YtppmkojpbgedmaaW.PrintMore
attribute [local go_sem] max2_int min2_int max_two min_two max_three min_three max_four min_four
set_option linter.unusedVariables false
set_option linter.unusedSimpArgs false
/-! whether parameters may be -/
theorem May_ev (a b c d : Int) : twoslotref06_May.f a b c d = some (okP a b c d) := by
  unfold twoslotref06_May.f
  by_cases h1 : a ≥ 1
  · rw [if_pos h1]
    by_cases h2 : a ≤ 12
    · rw [if_pos h2]
      by_cases h3 : b ≥ 0
      · rw [if_pos h3]
        by_cases h4 : b ≤ 4
        · rw [if_pos h4]
          by_cases h5 : c ≥ 8
          · rw [if_pos h5]
            by_cases h6 : c ≤ 64
            · rw [if_pos h6]
              obtain ⟨ml, mr⟩ := mul_small h1 h2 h5 h6
              rw [show wrap64 (a * c) = a * c from by unfold wrap64; omega]
              by_cases h7 : a * c ≥ 32
              · rw [if_pos h7]
                by_cases h8 : d ≥ 8
                · rw [if_pos h8]
                  congr 1
                  rw [Bool.eq_iff_iff, okP_iff, decide_eq_true_iff]
                  omega
                · rw [if_neg h8]; congr 1; symm; rw [Bool.eq_false_iff, Ne, okP_iff]; omega
              · rw [if_neg h7]; congr 1; symm; rw [Bool.eq_false_iff, Ne, okP_iff]; omega
            · rw [if_neg h6]; congr 1; symm; rw [Bool.eq_false_iff, Ne, okP_iff]; omega
          · rw [if_neg h5]; congr 1; symm; rw [Bool.eq_false_iff, Ne, okP_iff]; omega
        · rw [if_neg h4]; congr 1; symm; rw [Bool.eq_false_iff, Ne, okP_iff]; omega
      · rw [if_neg h3]; congr 1; symm; rw [Bool.eq_false_iff, Ne, okP_iff]; omega
    · rw [if_neg h2]; congr 1; symm; rw [Bool.eq_false_iff, Ne, okP_iff]; omega
  · rw [if_neg h1]; congr 1; symm; rw [Bool.eq_false_iff, Ne, okP_iff]; omega
/-! ### the document's answers: plain -/
def okAtR (rise : Bool) (d : Int) (l : List Int) (i : Nat) : Bool := decide (0 ≤ l.getD i 0) && decide (l.getD i 0 < d) && (!rise || (decide (i = 0) || decide (l.getD (i - 1) 0 < l.getD i 0)))
def okFromR (rise : Bool) (d : Int) (l : List Int) (i : Nat) : Bool := (List.range' i (l.length - i)).all (okAtR rise d l)
theorem okFromR_step (rise : Bool) (d : Int) (l : List Int) (i : Nat) (h : i < l.length) : okFromR rise d l i = (okAtR rise d l i && okFromR rise d l (i + 1)) := by
  unfold okFromR
  rw [show l.length - i = (l.length - (i + 1)) + 1 by omega, List.range'_succ, List.all_cons]
/-- Marked: just what stands in l is marked. -/
def Marks (d : Int) (l : List Int) (m : List Bool) : Prop := (m.length : Int) = d ∧ ∀ i : Nat, (i : Int) < d → m.getD i false = decide ((i : Int) ∈ l)
theorem Marks.step {d : Int} {l : List Int} {m : List Bool} {x : Int} (h : Marks d l m) (h0 : 0 ≤ x) (h1 : x < d) : Marks d (l ++ [x]) (m.set x.toNat true) := by
  refine ⟨by rw [List.length_set]; exact h.1, fun i hi => ?_⟩
  rw [List.getD_eq_getElem?_getD, List.getElem?_set]
  by_cases e : x.toNat = i
  · rw [if_pos e, if_pos (by have := h.1; omega)]
    have : (i : Int) = x := by omega
    simp [this]
  · rw [if_neg e, ← List.getD_eq_getElem?_getD, h.2 i hi]
    have : ¬ (i : Int) = x := by omega
    simp [this]
theorem marked_loop (rise : Bool) (a b c d : Int) (l : List Int) (hl : l.length ≤ 100000) : ∀ (q i k : Nat) (m : List Bool), i ≤ l.length → l.length - i = q → q < k → Marks d (l.take i) m →
    (okFromR rise d l i = true → ∃ m', twoslotref20_marked.l0 k l rise m (i : Int) a b c d = some (m', 0) ∧ Marks d l m') ∧ (okFromR rise d l i = false → twoslotref20_marked.l0 k l rise m (i : Int) a b c d = some ([], 200)) := by
  intro q
  induction q with
  | zero =>
    intro i k m hi hq hk hm
    obtain ⟨k, rfl⟩ : ∃ n, k = n + 1 := ⟨k - 1, by omega⟩
    simp only [twoslotref20_marked.l0]
    rw [if_neg (by omega)]
    rw [List.take_of_length_le (by omega)] at hm
    refine ⟨fun _ => ⟨m, rfl, hm⟩, fun h => ?_⟩
    unfold okFromR at h
    rw [hq] at h
    cases h
  | succ q ih =>
    intro i k m hi hq hk hm
    obtain ⟨k, rfl⟩ : ∃ n, k = n + 1 := ⟨k - 1, by omega⟩
    have hlt : i < l.length := by omega
    simp only [twoslotref20_marked.l0]
    rw [if_pos (by omega), if_pos (by omega), rdn, okFromR_step rise d l i hlt]
    have ht : l.take (i + 1) = l.take i ++ [l.getD i 0] := by rw [getD_at hlt]; exact List.take_succ_eq_append_getElem hlt
    have hstep := fun (h0 : 0 ≤ l.getD i 0) (h1 : l.getD i 0 < d) => ih (i + 1) k (m.set (l.getD i 0).toNat true) (by omega) (by omega) (by omega) (by rw [ht]; exact hm.step h0 h1)
    rw [show wrap64 ((i : Int) + 1) = ((i + 1 : Nat) : Int) by unfold wrap64; omega]
    have hml := hm.1
    by_cases h1 : l.getD i 0 < 0
    · have e : okAtR rise d l i = false := by unfold okAtR; rw [show decide (0 ≤ l.getD i 0) = false from decide_eq_false (by omega)]; rfl
      rw [if_pos h1, e]
      exact ⟨fun h => (by cases h), fun _ => rfl⟩
    rw [if_neg h1]
    by_cases h2 : l.getD i 0 ≥ d
    · have e : okAtR rise d l i = false := by unfold okAtR; rw [show decide (l.getD i 0 < d) = false from decide_eq_false (by omega), Bool.and_false]; rfl
      rw [if_pos h2, e]
      exact ⟨fun h => (by cases h), fun _ => rfl⟩
    rw [if_neg h2]
    have e1 : decide (0 ≤ l.getD i 0) = true := decide_eq_true (by omega)
    have e2 : decide (l.getD i 0 < d) = true := decide_eq_true (by omega)
    have hs := hstep (by omega) (by omega)
    by_cases hr : rise = true
    · subst hr
      rw [if_pos rfl]
      by_cases h3 : (i : Int) > 0
      · have e : wrap64 ((i : Int) - 1) = ((i - 1 : Nat) : Int) := by unfold wrap64; omega
        rw [if_pos h3, if_pos (by rw [e]; omega), if_pos (by rw [e]; omega), e, rdn]
        have e0 : decide (i = 0) = false := decide_eq_false (by omega)
        by_cases h4 : l.getD i 0 ≤ l.getD (i - 1) 0
        · have e4 : decide (l.getD (i - 1) 0 < l.getD i 0) = false := decide_eq_false (by omega)
          have e5 : okAtR true d l i = false := by unfold okAtR; rw [e0, e4]; simp
          rw [if_pos h4, e5]
          exact ⟨fun h => (by cases h), fun _ => rfl⟩
        · have e4 : decide (l.getD (i - 1) 0 < l.getD i 0) = true := decide_eq_true (by omega)
          have e5 : okAtR true d l i = true := by unfold okAtR; rw [e0, e1, e2, e4]; rfl
          rw [if_neg h4, if_pos (by omega), if_pos (by omega), e5, Bool.true_and]
          exact hs
      · have e0 : decide (i = 0) = true := decide_eq_true (by omega)
        have e5 : okAtR true d l i = true := by unfold okAtR; rw [e0, e1, e2]; rfl
        rw [if_neg h3, if_pos (by omega), if_pos (by omega), e5, Bool.true_and]
        exact hs
    · have hr2 : rise = false := by simpa using hr
      subst hr2
      have e5 : okAtR false d l i = true := by unfold okAtR; rw [e1, e2]; rfl
      rw [if_neg (by decide), if_pos (by omega), if_pos (by omega), e5, Bool.true_and]
      exact hs
theorem marked_ev (rise : Bool) (a b c d : Int) (l : List Int) (hd0 : 0 ≤ d) (hd1 : d ≤ 256) (hl : l.length ≤ 2000) (k : Nat) (hk : l.length < k) :
    (okFromR rise d l 0 = true → ∃ m, twoslotref20_marked.f k a b c d l rise = some (m, 0) ∧ Marks d l m) ∧ (okFromR rise d l 0 = false → twoslotref20_marked.f k a b c d l rise = some ([], 200)) := by
  unfold twoslotref20_marked.f
  rw [if_neg (by omega), if_pos hd0, if_pos (by omega)]
  refine marked_loop rise a b c d l (by omega) l.length 0 k _ (by omega) (by omega) hk ?_
  refine ⟨by rw [List.length_replicate]; omega, fun i hi => ?_⟩
  rw [List.getD_eq_getElem?_getD, List.getElem?_replicate, if_pos (show i < d.toNat by omega)]
  simp
theorem okFromR_true (d : Int) (l : List Int) : okFromR true d l 0 = okL d l := rfl
theorem okFromR_false (d : Int) (l : List Int) : okFromR false d l 0 = inAll d l := by
  rw [Bool.eq_iff_iff]
  unfold okFromR inAll
  rw [List.all_eq_true, List.all_eq_true]
  constructor
  · intro h x hx
    obtain ⟨i, hi, rfl⟩ := List.getElem_of_mem hx
    have := h i (by rw [List.mem_range'_1]; omega)
    unfold okAtR at this
    rw [getD_at hi] at this
    simpa using this
  · intro h i hi
    rw [List.mem_range'_1] at hi
    have := h l[i] (List.getElem_mem (by omega))
    unfold okAtR
    rw [getD_at (show i < l.length by omega)]
    simpa using this
theorem rdOfn (m : List Bool) (i : Nat) : rdOf false m (i : Int) = m.getD i false := rfl
theorem rfree_loop (a b c d : Int) (l : List Int) (m : List Bool) (hm : Marks d l m) (hd1 : d ≤ 256) : ∀ (q i k : Nat), (i : Int) ≤ d → d.toNat - i = q → q < k → twoslotref20_Free.l0 k m (freeOf i l) (i : Int) a b c d = some (freeOf d.toNat l, 0) := by
  intro q
  induction q with
  | zero =>
    intro i k hi hq hk
    obtain ⟨k, rfl⟩ : ∃ n, k = n + 1 := ⟨k - 1, by omega⟩
    simp only [twoslotref20_Free.l0]
    rw [if_neg (by omega), show i = d.toNat by omega]
  | succ q ih =>
    intro i k hi hq hk
    obtain ⟨k, rfl⟩ : ∃ n, k = n + 1 := ⟨k - 1, by omega⟩
    have hml := hm.1
    have hlt : (i : Int) < d := by omega
    simp only [twoslotref20_Free.l0]
    rw [if_pos hlt, if_pos (by omega), if_pos (by omega), rdOfn, hm.2 i hlt, show wrap64 ((i : Int) + 1) = ((i + 1 : Nat) : Int) by unfold wrap64; omega]
    have hs := ih (i + 1) k (by omega) (by omega) (by omega)
    have hfl := freeOf_len i l
    by_cases h : (i : Int) ∈ l
    · rw [if_pos (decide_eq_true h), ← freeOf_in h]
      exact hs
    · rw [if_neg (by simpa using h), if_pos (by omega), ← freeOf_out h]
      exact hs
def freeV (a b c d : Int) (l : List Int) : List Int × Int := if okP a b c d = true then (if inAll d l = true then (freeOf d.toNat l, 0) else ([], 200)) else ([], 2)
theorem free_ev (a b c d : Int) (l : List Int) (hl : l.length ≤ 2000) : rows_Free.f a b c d l = some (freeV a b c d l) := by
  unfold rows_Free.f freeV
  rw [if_neg (show ¬ 65536 < l.length by omega)]
theorem rfree_ev (a b c d : Int) (l : List Int) (hl : l.length ≤ 2000) (k : Nat) (hk : 2500 ≤ k) : twoslotref20_Free.f k a b c d l = some (freeV a b c d l) := by
  unfold twoslotref20_Free.f freeV
  rw [May_ev, Option.bind_some]
  by_cases hp : okP a b c d = true
  · have hd := okP_iff.mp hp
    rw [if_pos hp, if_pos hp]
    have hm := marked_ev false a b c d l (by omega) (by omega) hl k (by omega)
    rw [okFromR_false] at hm
    by_cases h : inAll d l = true
    · obtain ⟨m, e, hM⟩ := hm.1 h
      rw [e, Option.bind_some, if_pos h]
      simp only []
      rw [if_pos (by trivial)]
      exact rfree_loop a b c d l m hM (by omega) d.toNat 0 k (by omega) (by omega) (by omega)
    · rw [hm.2 (by simpa using h), Option.bind_some, if_neg h]
      simp only []
      rw [if_neg (by decide)]
  · rw [if_neg hp, if_neg hp]
theorem rtake_ev (a b c d : Int) (l : List Int) (n : Int) (hl : l.length ≤ 2000) (k : Nat) (hk : 2500 ≤ k) : twoslotref20_Take.f k a b c d l n = some (takeV a b c d l n) := by
  unfold twoslotref20_Take.f takeV
  rw [May_ev, Option.bind_some]
  by_cases hp : okP a b c d = true
  · have hd := okP_iff.mp hp
    rw [if_pos hp, if_pos hp]
    have hm := marked_ev true a b c d l (by omega) (by omega) hl k (by omega)
    rw [okFromR_true] at hm
    by_cases h : okL d l = true
    · obtain ⟨m, e, hM⟩ := hm.1 h
      rw [e, Option.bind_some, if_pos (lv_ok (by omega) h)]
      simp only []
      rw [if_pos (by trivial)]
      by_cases h0 : n < 0
      · rw [if_pos h0, if_pos h0]
      rw [if_neg h0, if_neg h0]
      by_cases h1 : n > (l.length : Int)
      · rw [if_pos h1, if_pos h1]
      rw [if_neg h1, if_neg h1, if_pos (by omega), if_pos (by omega), if_pos (by rw [List.length_take]; simp only [List.length_nil]; omega), if_pos (by rw [List.length_drop]; simp only [List.length_nil]; omega), List.nil_append, List.nil_append]
    · have hv : lv d l = 200 := by unfold lv; rw [if_neg (by omega), if_neg h]
      rw [hm.2 (by simpa using h), Option.bind_some, hv]
      simp only []
      rw [if_neg (by decide), if_neg (by decide)]
  · rw [if_neg hp, if_neg hp]
/-- Those of the first k numbers that are in l or in m. -/
def bothOf (k : Nat) (l m : List Int) : List Int := ((List.range k).filter fun i : Nat => l.contains (i : Int) || m.contains (i : Int)).map fun i : Nat => (i : Int)
theorem bothOf_in {k : Nat} {l m : List Int} (h : (k : Int) ∈ l ∨ (k : Int) ∈ m) : bothOf (k + 1) l m = bothOf k l m ++ [(k : Int)] := by
  unfold bothOf
  rcases h with h | h <;> simp [List.range_succ, h]
theorem bothOf_out {k : Nat} {l m : List Int} (h1 : ¬ (k : Int) ∈ l) (h2 : ¬ (k : Int) ∈ m) : bothOf (k + 1) l m = bothOf k l m := by simp [bothOf, List.range_succ, h1, h2]
theorem bothOf_len (k : Nat) (l m : List Int) : (bothOf k l m).length ≤ k := by
  unfold bothOf
  rw [List.length_map]
  exact Nat.le_trans (List.length_filter_le _ _) (by simp)
theorem mem_bothOf {k : Nat} {l m : List Int} {x : Int} : x ∈ bothOf k l m ↔ ∃ i : Nat, i < k ∧ x = (i : Int) ∧ ((i : Int) ∈ l ∨ (i : Int) ∈ m) := by
  unfold bothOf
  rw [List.mem_map]
  constructor
  · rintro ⟨i, hi, rfl⟩
    rw [List.mem_filter, List.mem_range] at hi
    exact ⟨i, hi.1, rfl, by simpa using hi.2⟩
  · rintro ⟨i, hi, rfl, hn⟩
    exact ⟨i, by rw [List.mem_filter, List.mem_range]; exact ⟨hi, by simpa using hn⟩, rfl⟩
theorem bothOf_pw (k : Nat) (l m : List Int) : (bothOf k l m).Pairwise (· < ·) := by
  unfold bothOf
  rw [List.pairwise_map]
  exact (List.pairwise_lt_range.filter _).imp (fun h => by omega)
theorem rgive_loop (a b c d : Int) (l m : List Int) (ml mm : List Bool) (hl : Marks d l ml) (hm : Marks d m mm) (hd1 : d ≤ 256) : ∀ (q i k : Nat), (i : Int) ≤ d → d.toNat - i = q → 2 * q < k →
    ((∀ j : Nat, i ≤ j → (j : Int) < d → ¬ ((j : Int) ∈ l ∧ (j : Int) ∈ m)) → twoslotref20_Give.l0 k ml mm (bothOf i l m) (i : Int) a b c d = some (bothOf d.toNat l m, 0)) ∧
    ((∃ j : Nat, i ≤ j ∧ (j : Int) < d ∧ (j : Int) ∈ l ∧ (j : Int) ∈ m) → twoslotref20_Give.l0 k ml mm (bothOf i l m) (i : Int) a b c d = some ([], 200)) := by
  intro q
  induction q with
  | zero =>
    intro i k hi hq hk
    obtain ⟨k, rfl⟩ : ∃ n, k = n + 1 := ⟨k - 1, by omega⟩
    simp only [twoslotref20_Give.l0]
    rw [if_neg (by omega), show i = d.toNat by omega]
    refine ⟨fun _ => rfl, ?_⟩
    rintro ⟨j, h1, h2, _⟩
    omega
  | succ q ih =>
    intro i k hi hq hk
    obtain ⟨k, rfl⟩ : ∃ n, k = n + 2 := ⟨k - 2, by omega⟩
    have h1 := hl.1
    have h2 := hm.1
    have hlt : (i : Int) < d := by omega
    have hb := bothOf_len i l m
    have hs := ih (i + 1) k (by omega) (by omega) (by omega)
    have hw : wrap64 ((i : Int) + 1) = ((i + 1 : Nat) : Int) := by unfold wrap64; omega
    simp only [twoslotref20_Give.l0, twoslotref20_Give.j1]
    rw [if_pos hlt, if_pos (by omega), if_pos (by omega), rdOfn, rdOfn, hl.2 i hlt, hm.2 i hlt, hw]
    by_cases hil : (i : Int) ∈ l
    · rw [if_pos (decide_eq_true hil), if_pos (by omega)]
      by_cases him : (i : Int) ∈ m
      · rw [if_pos (decide_eq_true him)]
        exact ⟨fun h => absurd ⟨hil, him⟩ (h i (Nat.le_refl _) hlt), fun _ => rfl⟩
      · rw [if_neg (by simpa using him), if_pos (by omega), if_pos (by omega), if_pos (decide_eq_true hil), if_pos (by omega), ← bothOf_in (.inl hil)]
        refine ⟨fun h => hs.1 (fun j hj => h j (by omega)), ?_⟩
        rintro ⟨j, h3, h4, h5, h6⟩
        refine hs.2 ⟨j, ?_, h4, h5, h6⟩
        by_cases e : j = i
        · subst e
          exact absurd h6 him
        · omega
    · rw [if_neg (by simpa using hil), if_neg (by decide), if_pos (by omega), if_pos (by omega), if_neg (by simpa using hil), if_pos (by omega)]
      have hex : (∃ j : Nat, i ≤ j ∧ (j : Int) < d ∧ (j : Int) ∈ l ∧ (j : Int) ∈ m) → ∃ j : Nat, i + 1 ≤ j ∧ (j : Int) < d ∧ (j : Int) ∈ l ∧ (j : Int) ∈ m := by
        rintro ⟨j, h3, h4, h5, h6⟩
        refine ⟨j, ?_, h4, h5, h6⟩
        by_cases e : j = i
        · subst e
          exact absurd h5 hil
        · omega
      by_cases him : (i : Int) ∈ m
      · rw [if_pos (decide_eq_true him), if_pos (by omega), ← bothOf_in (.inr him)]
        exact ⟨fun h => hs.1 (fun j hj => h j (by omega)), fun h => hs.2 (hex h)⟩
      · rw [if_neg (by simpa using him), ← bothOf_out hil him]
        exact ⟨fun h => hs.1 (fun j hj => h j (by omega)), fun h => hs.2 (hex h)⟩
theorem pw_nodup {l : List Int} (h : l.Pairwise (· < ·)) : l.Nodup := h.imp (fun h => by omega)
theorem sorted_srt (l : List Int) : (srt l).Pairwise (· ≤ ·) := by
  have h := List.pairwise_mergeSort (le := fun x y : Int => decide (x ≤ y)) (fun x y z h1 h2 => by simp at *; omega) (fun x y => by simp; omega) l
  exact h.imp (fun h => by simpa using h)
theorem strict_of {s : List Int} (h : ∀ i (hi : i + 1 < s.length), s[i] < s[i + 1]) : s.Pairwise (· < ·) := by
  rw [List.pairwise_iff_getElem]
  have key : ∀ n i j (hi : i < s.length) (hj : j < s.length), j = i + 1 + n → s[i] < s[j] := by
    intro n
    induction n with
    | zero =>
      intro i j hi hj e
      subst e
      exact h i hj
    | succ n ih =>
      intro i j hi hj e
      have h1 := ih i (i + 1 + n) hi (by omega) rfl
      subst e
      have h2 := h (i + 1 + n) hj
      exact Int.lt_trans h1 h2
  intro i j hi hj hij
  exact key (j - i - 1) i j hi hj (by omega)
theorem compact_short {s : List Int} (hs : s.Pairwise (· ≤ ·)) (hn : ¬ s.Nodup) : (Go.Lib.compact s).length < s.length := by
  unfold Go.Lib.compact Go.Lib.compactUpTo
  rw [List.length_map]
  have hex : ∃ i, i + 1 < s.length ∧ s[i]! = s[i + 1]! := by
    apply Classical.byContradiction
    intro hno
    refine hn (pw_nodup (strict_of (fun i hi => ?_)))
    have h1 := List.pairwise_iff_getElem.mp hs i (i + 1) (by omega) hi (by omega)
    have h2 : s[i] ≠ s[i + 1] := fun e => hno ⟨i, hi, by rw [getElem!_pos s i (by omega), getElem!_pos s (i + 1) hi]; exact e⟩
    omega
  obtain ⟨i, hi, e⟩ := hex
  have := (List.length_filter_lt_length_iff_exists (p := Go.Lib.keeps s.toArray) (l := List.range s.length)).mpr ⟨i + 1, List.mem_range.mpr hi, by
    rw [Go.Lib.keeps_neg (by omega)]
    · simp
    · simpa using e.symm⟩
  simpa using this
theorem giveV_both {a b c d : Int} {l m : List Int} (hp : okP a b c d = true) (hl : lv d l = 0) (hm : lv d m = 0) : giveV a b c d l m = if (∃ x, x ∈ l ∧ x ∈ m) then ([], 200) else (bothOf d.toNat l m, 0) := by
  have h1 := okL_iff.mp (lv_len hl).2
  have h2 := okL_iff.mp (lv_len hm).2
  have hlen : (srt (l ++ m)).length = (l ++ m).length := List.length_mergeSort _
  unfold giveV
  rw [if_pos hp, if_pos hl, if_pos hm]
  by_cases hx : ∃ x, x ∈ l ∧ x ∈ m
  · obtain ⟨x, hx1, hx2⟩ := hx
    rw [if_pos (show ∃ x, x ∈ l ∧ x ∈ m from ⟨x, hx1, hx2⟩)]
    have hn : ¬ (srt (l ++ m)).Nodup := by
      rw [List.Perm.nodup_iff (show (srt (l ++ m)).Perm (l ++ m) from List.mergeSort_perm _ _), List.nodup_append]
      exact fun h => h.2.2 x hx1 x hx2 rfl
    have := compact_short (sorted_srt (l ++ m)) hn
    rw [if_pos (by omega)]
  · rw [if_neg hx]
    have e : srt (l ++ m) = bothOf d.toNat l m := by
      refine srt_eq ?_ ((bothOf_pw _ _ _).imp (fun h => Int.le_of_lt h))
      rw [List.perm_ext_iff_of_nodup (pw_nodup (bothOf_pw _ _ _)) (List.nodup_append.mpr ⟨pw_nodup h1.2, pw_nodup h2.2, fun x hx1 y hy e => hx ⟨x, hx1, by rw [e]; exact hy⟩⟩)]
      intro x
      rw [mem_bothOf, List.mem_append]
      constructor
      · rintro ⟨i, _, rfl, h⟩
        exact h
      · intro h
        have hr : 0 ≤ x ∧ x < d := by
          rcases h with h | h
          · exact h1.1 x h
          · exact h2.1 x h
        exact ⟨x.toNat, by omega, by omega, by rw [show ((x.toNat : Nat) : Int) = x by omega]; exact h⟩
    rw [e] at hlen ⊢
    rw [compact_strict (bothOf_pw _ _ _), if_neg (by omega)]
theorem rgive_ev (a b c d : Int) (l m : List Int) (hl : l.length ≤ 2000) (hm : m.length ≤ 2000) (k : Nat) (hk : 2500 ≤ k) : twoslotref20_Give.f k a b c d l m = some (giveV a b c d l m) := by
  unfold twoslotref20_Give.f
  rw [May_ev, Option.bind_some]
  by_cases hp : okP a b c d = true
  · have hd := okP_iff.mp hp
    rw [if_pos hp]
    have e1 := marked_ev true a b c d l (by omega) (by omega) hl k (by omega)
    have e2 := marked_ev true a b c d m (by omega) (by omega) hm k (by omega)
    rw [okFromR_true] at e1 e2
    by_cases h1 : okL d l = true
    · obtain ⟨ml, e1, hM1⟩ := e1.1 h1
      rw [e1, Option.bind_some]
      simp only []
      rw [if_pos (by trivial)]
      by_cases h2 : okL d m = true
      · obtain ⟨mm, e2, hM2⟩ := e2.1 h2
        rw [e2, Option.bind_some, giveV_both hp (lv_ok (by omega) h1) (lv_ok (by omega) h2)]
        simp only []
        rw [if_pos (by trivial)]
        have hg := rgive_loop a b c d l m ml mm hM1 hM2 (by omega) d.toNat 0 k (by omega) (by omega) (by omega)
        by_cases hx : ∃ x, x ∈ l ∧ x ∈ m
        · rw [if_pos hx]
          obtain ⟨x, hx1, hx2⟩ := hx
          have hr := (okL_iff.mp h1).1 x hx1
          refine hg.2 ⟨x.toNat, Nat.zero_le _, by omega, ?_⟩
          rw [show ((x.toNat : Nat) : Int) = x by omega]
          exact ⟨hx1, hx2⟩
        · rw [if_neg hx]
          exact hg.1 (fun j _ _ h => hx ⟨_, h⟩)
      · have hv : lv d m = 200 := by unfold lv; rw [if_neg (by omega), if_neg h2]
        rw [e2.2 (by simpa using h2), Option.bind_some]
        unfold giveV
        rw [if_pos hp, if_pos (lv_ok (by omega) h1), hv]
        simp only []
        rw [if_neg (by decide), if_neg (by decide)]
    · have hv : lv d l = 200 := by unfold lv; rw [if_neg (by omega), if_neg h1]
      rw [e1.2 (by simpa using h1), Option.bind_some]
      unfold giveV
      rw [if_pos hp, hv]
      simp only []
      rw [if_neg (by decide), if_neg (by decide)]
  · unfold giveV
    rw [if_neg hp, if_neg hp]
theorem spoil_loop : ∀ (q i k : Nat) (x : List Int), x.length ≤ 100000 → i ≤ x.length → x.length - i = q → q < k → twoslotlaw20_spoil.l0 k x (i : Int) = some () := by
  intro q
  induction q with
  | zero =>
    intro i k x hx hi hq hk
    obtain ⟨k, rfl⟩ : ∃ m, k = m + 1 := ⟨k - 1, by omega⟩
    simp only [twoslotlaw20_spoil.l0]
    rw [if_neg (by omega), Option.bind_some, if_pos (by simp; omega), if_pos (by rw [List.length_append]; simp; omega)]
  | succ q ih =>
    intro i k x hx hi hq hk
    obtain ⟨k, rfl⟩ : ∃ m, k = m + 1 := ⟨k - 1, by omega⟩
    simp only [twoslotlaw20_spoil.l0]
    rw [if_pos (by omega), if_pos (by omega), show wrap64 ((i : Int) + 1) = ((i + 1 : Nat) : Int) by unfold wrap64; omega]
    exact ih (i + 1) k _ (by rw [List.length_set]; exact hx) (by rw [List.length_set]; omega) (by rw [List.length_set]; omega) (by omega)
theorem spoil_ev (x : List Int) (hx : x.length ≤ 100000) (k : Nat) (hk : x.length < k) : twoslotlaw20_spoil.f k x = some () := by
  unfold twoslotlaw20_spoil.f
  exact spoil_loop x.length 0 k x hx (by omega) (by omega) hk
end Go.Proofs.Ytppmkojpbgedmaa.P

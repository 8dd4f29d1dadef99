import Derived.Test.YtcnmocbiekfpbaaPx16
import Derived.Test.YtcnmocbiekfpbaaPx27
import Derived.Test.YtcnmocbiekfpbaaP9V
import Derived.Test.YtcnmocbiekfpbaaP9M
import Derived.Test.YtcnmocbiekfpbaaPx30
import Derived.Laws.BitsLemmas
namespace Go.Proofs.Ytcnmocbiekfpbaa.P
open Go.RowKit Go.Proofs.YtcnmocbiekfpbaaW.PrintWords Go.Proofs.YtcnmocbiekfpbaaW.PrintLast Go.Proofs.YtcnmocbiekfpbaaW.PrintMore
attribute [local go_sem] max2_int min2_int max_two min_two max_three min_three max_four min_four
set_option linter.unusedVariables false
set_option linter.unusedSimpArgs false
/-! ### Diff, Row, likeness -/
def eqB (x y : List Int) : Bool := (strOfNums x).toList == (strOfNums y).toList
theorem eqB_refl (x : List Int) : eqB x x = true := by unfold eqB; exact beq_self_eq_true _
theorem eqB_iff {x y : List Int} : eqB x y = true ↔ (strOfNums x).toList = (strOfNums y).toList := by unfold eqB; exact beq_iff_eq
theorem and1_ev {i : Nat} (h : i ≤ 8192) : Go.bits .and .i64 (i : Int) 1 = ((i % 2 : Nat) : Int) := by
  have hw : ∀ n : Int, 0 ≤ n → n < 2 ^ 20 → IntKind.i64.wrap n = n := by
    intro n h0 h1
    have : (2 : Int) ^ 20 = 1048576 := by decide
    have e : IntKind.i64.wrap n = wrap64 n := by unfold wrap64; simp [IntKind.wrap, IntKind.bits, IntKind.signed]; omega
    rw [e]
    unfold wrap64
    omega
  have h2 : (2 : Int) ^ 20 = 1048576 := by decide
  have := bits_mask .i64 20 (by decide) hw 1 (by decide) (i : Int) (by omega) (by omega)
  refine (show Go.bits .and .i64 (i : Int) 1 = Go.bits .and .i64 (i : Int) (2 ^ 1 - 1) from rfl).trans (this.trans ?_)
  show (i : Int) % 2 = _
  omega
/-- The raw write that makes slot i be y. -/
def putAt (D : Nat) (i : Nat) (y : List Int) : S35 := ⟨((i / 2 / D : Nat) : Int), ((i / 2 % D : Nat) : Int), ((i % 2 : Nat) : Int), y⟩
def diffsFrom (D : Nat) (s t : List (List Int)) : Nat → Nat → Option (List S35)
  | 0, _ => some []
  | q + 1, i => if eqB (s.getD i []) (t.getD i []) = true then diffsFrom D s t q (i + 1) else if (t.getD i []).length = 0 then none else (diffsFrom D s t q (i + 1)).map (fun l => putAt D i (t.getD i []) :: l)
theorem diff_loop (a b c : Int) (D : Nat) (hD : 0 < D) (hD2 : D ≤ 256) (s t : List (List Int)) (hl : t.length ≤ 8192) (hs : s.length = t.length) (ht : ∀ x ∈ t, x.length ≤ 140) (q : Nat) : ∀ (k i : Nat) (acc : List S35), i + q = t.length → acc.length ≤ i → q < k →
    image_Diff.l0 k acc t (t.length : Int) (i : Int) a b c (D : Int) s = some (match diffsFrom D s t q i with | none => ([], 90) | some l => (acc ++ l, 0)) := by
  induction q with
  | zero =>
    intro k i acc hi ha hk
    obtain ⟨k, rfl⟩ : ∃ m, k = m + 1 := ⟨k - 1, by omega⟩
    simp only [image_Diff.l0, diffsFrom]
    rw [if_neg (by omega), List.append_nil]
  | succ q ih =>
    intro k i acc hi ha hk
    obtain ⟨k, rfl⟩ : ∃ m, k = m + 1 := ⟨k - 1, by omega⟩
    have hlt : i < t.length := by omega
    have e1 : rd_L1 s (i : Int) = s.getD i [] := by unfold rd_L1; rw [Int.toNat_natCast]
    have e2 : rd_L1 t (i : Int) = t.getD i [] := by unfold rd_L1; rw [Int.toNat_natCast]
    have hy : (t.getD i []).length ≤ 140 := by
      rw [List.getD_eq_getElem?_getD, List.getElem?_eq_getElem hlt]
      exact ht _ (List.getElem_mem hlt)
    simp only [image_Diff.l0, diffsFrom]
    rw [if_pos (by omega), if_pos (by omega), if_pos (by omega), if_pos (by omega), e1, e2, show bytes_Equal.f (s.getD i []) (t.getD i []) = some (eqB (s.getD i []) (t.getD i [])) from rfl, Option.bind_some, next9 hlt (by omega)]
    by_cases h : eqB (s.getD i []) (t.getD i []) = true
    · rw [if_pos h, if_pos h]
      exact ih k (i + 1) acc (by omega) (by omega) (by omega)
    · rw [if_neg h, if_neg h]
      by_cases h0 : (t.getD i []).length = 0
      · rw [if_pos (by omega), if_pos h0]
      · rw [if_neg (by omega), if_neg h0, if_neg (by omega), taken9 hy, Option.bind_some, if_pos (by omega)]
        have e3 : wrap64 (Int.tdiv (i : Int) 2) = ((i / 2 : Nat) : Int) := by
          rw [Int.tdiv_eq_ediv_of_nonneg (by omega)]
          unfold wrap64
          omega
        have e4 : wrap64 (Int.tdiv ((i / 2 : Nat) : Int) (D : Int)) = ((i / 2 / D : Nat) : Int) := by
          have e5 : ((i / 2 : Nat) : Int) / (D : Int) = ((i / 2 / D : Nat) : Int) := by simp
          have := Nat.div_le_self (i / 2) D
          rw [Int.tdiv_eq_ediv_of_nonneg (by omega), e5]
          generalize i / 2 / D = z at *
          unfold wrap64
          omega
        have e6 : Int.tmod ((i / 2 : Nat) : Int) (D : Int) = ((i / 2 % D : Nat) : Int) := by
          rw [Int.tmod_eq_emod_of_nonneg (by omega)]
          simp
        rw [e3, e4, e6, and1_ev (by omega), ih k (i + 1) _ (by omega) (by rw [List.length_append]; simp; omega) (by omega)]
        cases diffsFrom D s t q (i + 1) with
        | none => rfl
        | some l => simp [putAt]
theorem diffs_mem (D : Nat) (s t : List (List Int)) : ∀ (q i : Nat) (l : List S35), diffsFrom D s t q i = some l → ∀ x, x ∈ l ↔ ∃ j, i ≤ j ∧ j < i + q ∧ eqB (s.getD j []) (t.getD j []) = false ∧ x = putAt D j (t.getD j []) := by
  intro q
  induction q with
  | zero =>
    intro i l h x
    obtain rfl := Option.some.inj h
    constructor
    · intro h; cases h
    · rintro ⟨j, h1, h2, _⟩; omega
  | succ q ih =>
    intro i l h x
    unfold diffsFrom at h
    by_cases he : eqB (s.getD i []) (t.getD i []) = true
    · rw [if_pos he] at h
      rw [ih (i + 1) l h x]
      constructor
      · rintro ⟨j, h1, h2, h3⟩; exact ⟨j, by omega, by omega, h3⟩
      · rintro ⟨j, h1, h2, h3, h4⟩
        refine ⟨j, ?_, by omega, h3, h4⟩
        by_cases e : j = i
        · subst e; rw [he] at h3; cases h3
        · omega
    · rw [if_neg he] at h
      by_cases h0 : (t.getD i []).length = 0
      · rw [if_pos h0] at h; cases h
      · rw [if_neg h0] at h
        obtain ⟨m, hm, rfl⟩ := Option.map_eq_some_iff.mp h
        rw [List.mem_cons, ih (i + 1) m hm x]
        constructor
        · rintro (rfl | ⟨j, h1, h2, h3⟩)
          · exact ⟨i, by omega, by omega, by simpa using he, rfl⟩
          · exact ⟨j, by omega, by omega, h3⟩
        · rintro ⟨j, h1, h2, h3, h4⟩
          by_cases e : j = i
          · subst e; exact .inl h4
          · exact .inr ⟨j, by omega, by omega, h3, h4⟩
theorem diffs_len (D : Nat) (s t : List (List Int)) : ∀ (q i : Nat) (l : List S35), diffsFrom D s t q i = some l → l.length ≤ q ∧ ∀ x ∈ l, x.f3.length ≠ 0 := by
  intro q
  induction q with
  | zero =>
    intro i l h
    obtain rfl := Option.some.inj h
    exact ⟨Nat.le_refl _, fun x h => by cases h⟩
  | succ q ih =>
    intro i l h
    unfold diffsFrom at h
    by_cases he : eqB (s.getD i []) (t.getD i []) = true
    · rw [if_pos he] at h
      have := ih _ _ h
      exact ⟨by omega, this.2⟩
    · rw [if_neg he] at h
      by_cases h0 : (t.getD i []).length = 0
      · rw [if_pos h0] at h; cases h
      · rw [if_neg h0] at h
        obtain ⟨m, hm, rfl⟩ := Option.map_eq_some_iff.mp h
        have := ih _ _ hm
        refine ⟨by simp; omega, fun x hx => ?_⟩
        rcases List.mem_cons.mp hx with rfl | hx
        · exact h0
        · exact this.2 x hx
theorem idx_putAt (D i : Nat) (y : List Int) : (idxV (D : Int) (putAt D i y)).toNat = i := by
  have h1 := Nat.div_add_mod (i / 2) D
  have h2 : idxV (D : Int) (putAt D i y) = (((i / 2 / D * D + i / 2 % D) * 2 + i % 2 : Nat) : Int) := by
    unfold idxV putAt
    push_cast
    rfl
  rw [h2, Int.toNat_natCast, Nat.mul_comm (i / 2 / D) D, h1]
  omega
/-- Behind the differences from slot i on. -/
theorem puts_get (D : Nat) (s t : List (List Int)) : ∀ (q i : Nat) (l : List S35) (u : List (List Int)), diffsFrom D s t q i = some l → i + q ≤ u.length → ∀ j, j < u.length →
    (putsV (D : Int) l u).getD j [] = if i ≤ j ∧ j < i + q ∧ eqB (s.getD j []) (t.getD j []) = false then t.getD j [] else u.getD j [] := by
  intro q
  induction q with
  | zero =>
    intro i l u h hu j hj
    obtain rfl := Option.some.inj h
    rw [if_neg (by omega)]
    rfl
  | succ q ih =>
    intro i l u h hu j hj
    unfold diffsFrom at h
    by_cases he : eqB (s.getD i []) (t.getD i []) = true
    · rw [if_pos he] at h
      rw [ih (i + 1) l u h (by omega) j hj]
      by_cases e : j = i
      · subst e
        rw [if_neg (by omega), if_neg (fun hh => by rw [he] at hh; cases hh.2.2)]
      · by_cases c : i + 1 ≤ j ∧ j < i + 1 + q ∧ eqB (s.getD j []) (t.getD j []) = false
        · rw [if_pos c, if_pos ⟨by omega, by omega, c.2.2⟩]
        · rw [if_neg c, if_neg (fun hh => c ⟨by omega, by omega, hh.2.2⟩)]
    · rw [if_neg he] at h
      by_cases h0 : (t.getD i []).length = 0
      · rw [if_pos h0] at h; cases h
      · rw [if_neg h0] at h
        obtain ⟨m, hm, rfl⟩ := Option.map_eq_some_iff.mp h
        have hp : putsV (D : Int) (putAt D i (t.getD i []) :: m) u = putsV (D : Int) m (u.set i (t.getD i [])) := by
          show putsV (D : Int) m (putV (D : Int) u (putAt D i (t.getD i []))) = _
          unfold putV
          rw [idx_putAt]
          rfl
        rw [hp, ih (i + 1) m (u.set i (t.getD i [])) hm (by rw [List.length_set]; omega) j (by rw [List.length_set]; exact hj)]
        by_cases e : j = i
        · subst e
          rw [if_neg (by omega), if_pos ⟨by omega, by omega, by simpa using he⟩]
          simp [List.getD_eq_getElem?_getD, hj]
        · have eu : (u.set i (t.getD i [])).getD j [] = u.getD j [] := by simp [List.getD_eq_getElem?_getD, List.getElem?_set_ne (show i ≠ j by omega)]
          rw [eu]
          by_cases c : i + 1 ≤ j ∧ j < i + 1 + q ∧ eqB (s.getD j []) (t.getD j []) = false
          · rw [if_pos c, if_pos ⟨by omega, by omega, c.2.2⟩]
          · rw [if_neg c, if_neg (fun hh => c ⟨by omega, by omega, hh.2.2⟩)]
def allE : List (List Int) → List (List Int) → Bool
  | [], [] => true
  | x :: l, y :: m => eqB x y && allE l m
  | _, _ => false
theorem eqF_ev (k : Nat) : ∀ l m : List (List Int), l.length = m.length → eqF k l m = some (allE l m)
  | [], [], _ => rfl
  | x :: l, y :: m, h => by
    unfold eqF allE
    rw [show bytes_Equal.f x y = some (eqB x y) from rfl, Option.bind_some, eqF_ev k l m (by simpa using h)]
    cases eqB x y <;> rfl
theorem allE_iff : ∀ l m : List (List Int), l.length = m.length → (allE l m = true ↔ ∀ j, j < l.length → eqB (l.getD j []) (m.getD j []) = true)
  | [], [], _ => ⟨fun _ j hj => (by cases hj), fun _ => rfl⟩
  | x :: l, y :: m, h => by
    unfold allE
    rw [Bool.and_eq_true, allE_iff l m (by simpa using h)]
    constructor
    · rintro ⟨h1, h2⟩ j hj
      cases j with
      | zero => exact h1
      | succ j => exact h2 j (by simpa using hj)
    · intro h
      exact ⟨h 0 (by simp), fun j hj => h (j + 1) (by simpa using hj)⟩
theorem same9_ev (a b c d : Int) (s t : List (List Int)) (hl : s.length = t.length) (h2 : s.length ≤ 1000000) (k : Nat) : image_Same.f k a b c d s a b c d t = some (allE s t) := by
  unfold image_Same.f
  rw [if_pos ⟨rfl, rfl, rfl, rfl⟩, if_pos ⟨hl, h2⟩, eqF_ev k s t hl]
/-- A row's slots. -/
def rowV (a b d : Int) (s : List (List Int)) (r : Nat) : List S59 := rowOf (fun i => (i * d.toNat + r) * 2) s (a + b).toNat
theorem rowAt_ev {a b c d : Int} (hp : okP a b c d = true) {r i : Nat} (hr : (r : Int) < d) (hi : (i : Int) < a + b) : rowAt d (r : Int) i = (((i * d.toNat + r) * 2 : Nat) : Int) ∧ (((i * d.toNat + r) * 2 + 2 : Nat) : Int) ≤ nV a b d := by
  obtain ⟨h1, h2, h3, h4, h5, h6, h7, h8⟩ := okP_bd hp
  obtain ⟨D, rfl⟩ : ∃ D : Nat, d = (D : Int) := ⟨d.toNat, by omega⟩
  rw [Int.toNat_natCast]
  have l0 : (i : Int) * (D : Int) ≤ (a + b - 1) * (D : Int) := Int.mul_le_mul_of_nonneg_right (by omega) (by omega)
  have l1 : (a + b - 1) * (D : Int) = (a + b) * (D : Int) - D := by rw [Int.sub_mul, Int.one_mul]
  have l2 := nV_bd hp
  have l3 : ((i * D : Nat) : Int) = (i : Int) * (D : Int) := by push_cast; rfl
  have l4 : 0 ≤ (i : Int) * (D : Int) := Int.mul_nonneg (by omega) (by omega)
  unfold rowAt nV
  rw [show wrap64 ((i : Int) * (D : Int)) = (i : Int) * (D : Int) from by unfold wrap64; omega, show wrap64 ((i : Int) * (D : Int) + (r : Int)) = (i : Int) * (D : Int) + (r : Int) from by unfold wrap64; omega, show wrap64 (((i : Int) * (D : Int) + (r : Int)) * 2) = ((i : Int) * (D : Int) + (r : Int)) * 2 from by unfold wrap64; omega]
  constructor
  · rw [← l3]; push_cast; rfl
  · push_cast
    rw [← l3] at *
    push_cast at *
    omega
theorem rowOf_congr {f g : Nat → Nat} {s : List (List Int)} {n : Nat} (h : ∀ i, i < n → f i = g i) : rowOf f s n = rowOf g s n := by
  unfold rowOf
  refine List.map_congr_left (fun i hi => ?_)
  rw [h i (List.mem_range.mp hi)]
theorem row9_ev {a b c d : Int} {s : List (List Int)} (hc : chkV a b c d s = 0) {r : Nat} (hr : (r : Int) < d) (k : Nat) (hk : 9000 ≤ k) : image_Row.f k a b c d s (r : Int) = some (rowV a b d s r, 0) := by
  obtain ⟨hp, hn, _⟩ := chkV_zero hc
  obtain ⟨h1, h2, h3, h4, h5, h6, h7, h8⟩ := okP_bd hp
  have hl := chk_len hc
  have hsh := chk_short hc
  have hw : wrap64 (a + b) = a + b := by unfold wrap64; omega
  unfold image_Row.f
  rw [check9_ev _ _ _ _ _ k hk, Option.bind_some, hc, if_pos rfl, if_neg (by omega), if_pos, hw]
  · unfold rowV
    rw [rowOf_congr (g := fun i => (i * d.toNat + r) * 2)]
    intro i hi
    unfold image_Row.at_
    rw [(rowAt_ev hp hr (by omega)).1, Int.toNat_natCast]
  · unfold image_Row.fine
    rw [hw, Bool.and_eq_true, Bool.and_eq_true]
    refine ⟨decide_eq_true ⟨by omega, by omega, by omega⟩, List.all_eq_true.mpr (fun x hx => decide_eq_true (by have := hsh x hx; omega)), List.all_eq_true.mpr (fun i hi => decide_eq_true ?_)⟩
    have hi := List.mem_range.mp hi
    have h := rowAt_ev hp hr (i := i) (by omega)
    rw [h.1, Int.toNat_natCast]
    omega
/-! ### ImageDiffs -/
def eqP (x y : S59) : Bool := eqB x.f0 y.f0 && eqB x.f1 y.f1
def allP : List S59 → List S59 → Bool
  | x :: l, y :: m => eqP x y && allP l m
  | _, _ => true
theorem allP_cons (x y : S59) (l m : List S59) : allP (x :: l) (y :: m) = (eqP x y && allP l m) := rfl
theorem rd59_nat {l : List S59} {i : Nat} (h : i < l.length) : rd_T59 l (i : Int) = l[i] := by
  unfold rd_T59
  rw [Int.toNat_natCast, List.getD_eq_getElem?_getD, List.getElem?_eq_getElem h]
  rfl
theorem pairs_loop (x y : List S59) (hxy : x.length = y.length) (hl : x.length ≤ 1000) (q : Nat) : ∀ (k i : Nat), i + q = x.length → q < k → twoslotref09_SamePairs.l0 k x y (i : Int) = some (allP (x.drop i) (y.drop i)) := by
  induction q with
  | zero =>
    intro k i hi hk
    obtain ⟨k, rfl⟩ : ∃ m, k = m + 1 := ⟨k - 1, by omega⟩
    simp only [twoslotref09_SamePairs.l0]
    rw [if_neg (by omega), List.drop_of_length_le (by omega)]
    rfl
  | succ q ih =>
    intro k i hi hk
    obtain ⟨k, rfl⟩ : ∃ m, k = m + 1 := ⟨k - 1, by omega⟩
    have hx : i < x.length := by omega
    have hy : i < y.length := by omega
    simp only [twoslotref09_SamePairs.l0]
    rw [if_pos (by omega), if_pos (by omega), if_pos (by omega), rd59_nat hx, rd59_nat hy, next9 hx (by omega), ih k (i + 1) (by omega) (by omega), List.drop_eq_getElem_cons hx, List.drop_eq_getElem_cons hy]
    rw [allP_cons]
    unfold eqP
    by_cases h0 : (strOfNums x[i].f0).toList = (strOfNums y[i].f0).toList
    · rw [if_pos h0, eqB_iff.mpr h0, Bool.true_and]
      by_cases h1 : (strOfNums x[i].f1).toList = (strOfNums y[i].f1).toList
      · rw [if_pos h1, eqB_iff.mpr h1, Bool.true_and]
      · rw [if_neg h1, show eqB x[i].f1 y[i].f1 = false from by rw [Bool.eq_false_iff]; exact fun h => h1 (eqB_iff.mp h), Bool.false_and]
    · rw [if_neg h0, show eqB x[i].f0 y[i].f0 = false from by rw [Bool.eq_false_iff]; exact fun h => h0 (eqB_iff.mp h), Bool.false_and, Bool.false_and]
theorem pairs_ev (x y : List S59) (hxy : x.length = y.length) (hl : x.length ≤ 1000) (k : Nat) (hk : 9000 ≤ k) : twoslotref09_SamePairs.f k x y = some (allP x y) := by
  unfold twoslotref09_SamePairs.f
  rw [if_pos (by omega)]
  exact pairs_loop x y hxy hl x.length k 0 (by omega) (by omega)
theorem allP_iff : ∀ x y : List S59, x.length = y.length → (allP x y = true ↔ ∀ i, (hx : i < x.length) → (hy : i < y.length) → eqP x[i] y[i] = true)
  | [], [], _ => ⟨fun _ i hi => (by cases hi), fun _ => rfl⟩
  | x :: l, y :: m, h => by
    rw [allP_cons, Bool.and_eq_true, allP_iff l m (by simpa using h)]
    constructor
    · rintro ⟨h1, h2⟩ i hx hy
      cases i with
      | zero => exact h1
      | succ i => exact h2 i (by simpa using hx) (by simpa using hy)
    · intro h
      exact ⟨h 0 (by simp) (by simp), fun i hx hy => h (i + 1) (by simpa using hx) (by simpa using hy)⟩
theorem rowV_len (a b d : Int) (s : List (List Int)) (r : Nat) : (rowV a b d s r).length = (a + b).toNat := rowOf_len _ _ _
theorem rowV_get (a b d : Int) (s : List (List Int)) (r i : Nat) (h : i < (rowV a b d s r).length) : (rowV a b d s r)[i] = ⟨s.getD ((i * d.toNat + r) * 2) [], s.getD ((i * d.toNat + r) * 2 + 1) []⟩ := by
  simp [rowV, rowOf]
/-- A row differs just if one of its slots does. -/
theorem row_diff {a b c d : Int} {s t : List (List Int)} (hs : chkV a b c d s = 0) {r : Nat} (hr : (r : Int) < d) :
    allP (rowV a b d s r) (rowV a b d t r) = false ↔ ∃ j, j < s.length ∧ eqB (s.getD j []) (t.getD j []) = false ∧ j / 2 % d.toNat = r := by
  obtain ⟨hp, hn, _⟩ := chkV_zero hs
  obtain ⟨h1, h2, h3, h4, h5, h6, h7, h8⟩ := okP_bd hp
  obtain ⟨D, rfl⟩ : ∃ D : Nat, d = (D : Int) := ⟨d.toNat, by omega⟩
  obtain ⟨m, hm⟩ : ∃ m : Nat, a + b = (m : Int) := ⟨(a + b).toNat, by omega⟩
  have hlen : s.length = m * D * 2 := by
    unfold nV at hn
    rw [hm] at hn
    have : (((m * D * 2 : Nat)) : Int) = (m : Int) * (D : Int) * 2 := by push_cast; rfl
    omega
  have hmN : (a + b).toNat = m := by omega
  have hD : 0 < D := by omega
  rw [Int.toNat_natCast]
  have hiff := allP_iff (rowV a b (D : Int) s r) (rowV a b (D : Int) t r) (by rw [rowV_len, rowV_len])
  constructor
  · intro hf
    apply Classical.byContradiction
    intro hno
    have : allP (rowV a b (D : Int) s r) (rowV a b (D : Int) t r) = true := by
      refine hiff.mpr (fun i hx hy => ?_)
      rw [rowV_get, rowV_get, Int.toNat_natCast]
      rw [rowV_len, hmN] at hx
      have hb : i * D + r < m * D := by
        have : (i + 1) * D ≤ m * D := Nat.mul_le_mul_right D hx
        rw [Nat.add_mul, Nat.one_mul] at this
        omega
      have e0 : (i * D + r) * 2 / 2 % D = r := by
        rw [Nat.mul_div_cancel _ (by omega), Nat.mul_comm i D, Nat.mul_add_mod]
        exact Nat.mod_eq_of_lt (by omega)
      have e1 : ((i * D + r) * 2 + 1) / 2 % D = r := by
        rw [show ((i * D + r) * 2 + 1) / 2 = (i * D + r) * 2 / 2 by omega]
        exact e0
      unfold eqP
      rw [Bool.and_eq_true]
      constructor
      · cases hq : eqB (s.getD ((i * D + r) * 2) []) (t.getD ((i * D + r) * 2) []) with
        | true => rfl
        | false => exact absurd ⟨_, by omega, hq, e0⟩ hno
      · cases hq : eqB (s.getD ((i * D + r) * 2 + 1) []) (t.getD ((i * D + r) * 2 + 1) []) with
        | true => rfl
        | false => exact absurd ⟨_, by omega, hq, e1⟩ hno
    rw [this] at hf
    cases hf
  · rintro ⟨j, hj, hq, he⟩
    rw [Bool.eq_false_iff]
    intro htr
    have hi : j / 2 / D < m := by
      rw [Nat.div_lt_iff_lt_mul hD]
      omega
    have hx : j / 2 / D < (rowV a b (D : Int) s r).length := by rw [rowV_len, hmN]; exact hi
    have h := hiff.mp htr (j / 2 / D) hx (by rw [rowV_len, hmN]; exact hi)
    rw [rowV_get, rowV_get, Int.toNat_natCast] at h
    have hdm := Nat.div_add_mod (j / 2) D
    rw [he, Nat.mul_comm] at hdm
    unfold eqP at h
    rw [Bool.and_eq_true, hdm] at h
    have h2 : j = j / 2 * 2 ∨ j = j / 2 * 2 + 1 := by omega
    rcases h2 with h2 | h2
    · rw [h2, h.1] at hq
      cases hq
    · rw [h2, h.2] at hq
      cases hq
def cntB (R : List Int) (r : Nat) : Nat := (R.filter (fun x => decide (x < (r : Int)))).length
theorem cnt_at : ∀ (R : List Int), R.Pairwise (· < ·) → ∀ r : Nat, (r : Int) ∈ R → ∃ h : cntB R r < R.length, R[cntB R r] = (r : Int)
  | [], _, _, h => by cases h
  | x :: R, hp, r, h => by
    rw [List.pairwise_cons] at hp
    rcases List.mem_cons.mp h with e | e
    · subst e
      have h0 : cntB ((r : Int) :: R) r = 0 := by
        unfold cntB
        rw [List.filter_cons_of_neg (by simp), List.filter_eq_nil_iff.mpr (fun y hy => by have := hp.1 y hy; simp; omega)]
        rfl
      exact ⟨by rw [h0]; simp, by simp [h0]⟩
    · have hx := hp.1 _ e
      obtain ⟨h1, h2⟩ := cnt_at R hp.2 r e
      have h0 : cntB (x :: R) r = cntB R r + 1 := by
        unfold cntB
        rw [List.filter_cons_of_pos (by simpa using hx)]
        rfl
      exact ⟨by rw [h0]; simpa using h1, by simp only [h0, List.getElem_cons_succ]; exact h2⟩
theorem cnt_step (R : List Int) (hp : R.Pairwise (· < ·)) (r : Nat) : cntB R (r + 1) = cntB R r + (if (r : Int) ∈ R then 1 else 0) := by
  induction R with
  | nil => rfl
  | cons x R ih =>
    rw [List.pairwise_cons] at hp
    have ih := ih hp.2
    have f1 : x < ((r + 1 : Nat) : Int) → (x :: R).filter (fun x : Int => decide (x < ((r + 1 : Nat) : Int))) = x :: R.filter (fun x : Int => decide (x < ((r + 1 : Nat) : Int))) := fun h => List.filter_cons_of_pos (p := fun x : Int => decide (x < ((r + 1 : Nat) : Int))) (decide_eq_true h)
    unfold cntB at ih ⊢
    by_cases h1 : x < (r : Int)
    · rw [f1 (by omega), List.filter_cons_of_pos (by simpa using h1), List.length_cons, List.length_cons, ih]
      have : ((r : Int) ∈ x :: R) ↔ ((r : Int) ∈ R) := by
        rw [List.mem_cons]
        exact ⟨fun h => h.resolve_left (by omega), .inr⟩
      by_cases hr : (r : Int) ∈ R
      · rw [if_pos hr, if_pos (this.mpr hr)]; try omega
      · rw [if_neg hr, if_neg (fun h => hr (this.mp h))]; try omega
    · have hnil : ∀ y ∈ R, ¬ (y < ((r + 1 : Nat) : Int)) := fun y hy => by have := hp.1 y hy; omega
      have hnR : ¬ (r : Int) ∈ R := fun h => by have := hp.1 _ h; omega
      have e0 : R.filter (fun x => decide (x < ((r + 1 : Nat) : Int))) = [] := List.filter_eq_nil_iff.mpr (fun y hy => by simpa using hnil y hy)
      have e1 : R.filter (fun x => decide (x < (r : Int))) = [] := List.filter_eq_nil_iff.mpr (fun y hy => by have := hnil y hy; simp only [decide_eq_true_eq]; omega)
      by_cases h2 : x = (r : Int)
      · rw [f1 (by omega), List.filter_cons_of_neg (by simpa using h1), e0, e1, if_pos (by rw [h2]; simp)]
        rfl
      · have hnx : ¬ (r : Int) ∈ x :: R := fun h => by
          rcases List.mem_cons.mp h with h | h
          · exact h2 h.symm
          · exact hnR h
        rw [List.filter_cons_of_neg (by simp only [decide_eq_true_eq]; omega), List.filter_cons_of_neg (by simpa using h1), e0, e1, if_neg hnx]
        rfl
theorem cnt_all (R : List Int) (r : Nat) (h : ∀ x ∈ R, x < (r : Int)) : cntB R r = R.length := by
  unfold cntB
  rw [List.filter_eq_self.mpr (fun x hx => by simpa using h x hx)]
theorem wrap_at {a b c d : Int} (hp : okP a b c d = true) {r i : Nat} (hr : (r : Int) < d) (hi : (i : Int) < a + b) : wrap64 (wrap64 (wrap64 ((i : Int) * d) + (r : Int)) * 2) = (((i * d.toNat + r) * 2 : Nat) : Int) ∧ wrap64 ((((i * d.toNat + r) * 2 : Nat) : Int) + 1) = (((i * d.toNat + r) * 2 + 1 : Nat) : Int) ∧ (((i * d.toNat + r) * 2 + 2 : Nat) : Int) ≤ nV a b d := by
  obtain ⟨h1, h2⟩ := rowAt_ev hp hr hi
  have := nV_bd hp
  refine ⟨h1, ?_, h2⟩
  unfold nV at h2
  generalize (i * d.toNat + r) * 2 = z at *
  unfold wrap64
  omega
set_option maxRecDepth 100000 in
theorem diffs_l1 (R : List Int) (x11 : Int) (r : Nat) {a b c d : Int} {s : List (List Int)} (hc : chkV a b c d s = 0) (hr : (r : Int) < d) (y : List S59) (a1 b1 c1 d1 : Int) (t : List (List Int)) (q : Nat) : ∀ (e i : Nat), i + q = (a + b).toNat →
    twoslotlaw09_ImageDiffs.l1 (e + q + 1) R x11 (r : Int) (rowV a b d s r) y (i : Int) a b c d s a1 b1 c1 d1 t =
    ((twoslotref09_SamePairs.f e (rowV a b d s r) y).bind fun z => (if z = true then (twoslotlaw09_ImageDiffs.l0 e R x11 (wrap64 ((r : Int) + 1)) a b c d s a1 b1 c1 d1 t) else (if x11 ≥ (R.length : Int) then (none) else (if 0 ≤ x11 then (if x11 < (R.length : Int) then (if (rd R x11) = (r : Int) then (twoslotlaw09_ImageDiffs.l0 e R (wrap64 (x11 + 1)) (wrap64 ((r : Int) + 1)) a b c d s a1 b1 c1 d1 t) else (none)) else (none)) else (none))))) := by
  obtain ⟨hp, hn, _⟩ := chkV_zero hc
  obtain ⟨h1, h2, h3, h4, h5, h6, h7, h8⟩ := okP_bd hp
  have hrl := rowV_len a b d s r
  induction q with
  | zero =>
    intro e i hi
    rw [Nat.add_zero, twoslotlaw09_ImageDiffs.l1, if_neg (by omega)]
  | succ q ih =>
    intro e i hi
    have hlt : i < (rowV a b d s r).length := by omega
    obtain ⟨w1, w2, w3⟩ := wrap_at hp hr (i := i) (by omega)
    have ex : rd_L1 s (((i * d.toNat + r) * 2 : Nat) : Int) = s.getD ((i * d.toNat + r) * 2) [] := by unfold rd_L1; rw [Int.toNat_natCast]
    have ey : rd_L1 s (((i * d.toNat + r) * 2 + 1 : Nat) : Int) = s.getD ((i * d.toNat + r) * 2 + 1) [] := by unfold rd_L1; rw [Int.toNat_natCast]
    rw [show e + (q + 1) + 1 = (e + q + 1) + 1 by omega, twoslotlaw09_ImageDiffs.l1, if_pos (by omega), if_pos (by omega), w1, w2, if_pos (by omega), if_pos (by omega), rd59_nat hlt, rowV_get, ex, if_pos rfl, if_pos (by omega), if_pos (by omega), ey, if_pos rfl, next9 hlt (by omega)]
    exact ih e (i + 1) (by omega)
set_option maxRecDepth 100000 in
theorem diffs_l0 {a b c d : Int} {s t : List (List Int)} (hs : chkV a b c d s = 0) (ht : chkV a b c d t = 0) (R : List Int) (hR : R.Pairwise (· < ·)) (hR2 : R.length ≤ 10000) (hmem : ∀ r : Nat, (r : Int) < d → ((r : Int) ∈ R ↔ allP (rowV a b d s r) (rowV a b d t r) = false)) (hlt : ∀ x ∈ R, x < d) : ∀ (q k r : Nat), r + q = d.toNat → q * 100 + 20000 ≤ k →
    twoslotlaw09_ImageDiffs.l0 k R (cntB R r : Int) (r : Int) a b c d s a b c d t = some true := by
  obtain ⟨hp, hn, _⟩ := chkV_zero hs
  obtain ⟨h1, h2, h3, h4, h5, h6, h7, h8⟩ := okP_bd hp
  intro q
  induction q with
  | zero =>
    intro k r hr hk
    obtain ⟨k, rfl⟩ : ∃ m, k = m + 1 := ⟨k - 1, by omega⟩
    rw [twoslotlaw09_ImageDiffs.l0, if_neg (by omega), cnt_all R r (fun x hx => by have := hlt x hx; omega), beq_self_eq_true]
  | succ q ih =>
    intro k r hr hk
    have hrd : (r : Int) < d := by omega
    obtain ⟨e, rfl⟩ : ∃ e, k = (e + (a + b).toNat + 1) + 1 + 1 := ⟨k - 3 - (a + b).toNat, by omega⟩
    have hw : wrap64 (a + b) = a + b := by unfold wrap64; omega
    have hl0 : ((rowV a b d s r).length : Int) = a + b := by rw [rowV_len]; omega
    rw [twoslotlaw09_ImageDiffs.l0, if_pos hrd, row9_ev hs hrd _ (by omega), Option.bind_some, row9_ev ht hrd _ (by omega), Option.bind_some]
    dsimp only
    rw [if_pos rfl, if_pos rfl, hw, hl0, show ((a + b) != (a + b)) = false from by simp, twoslotlaw09_ImageDiffs.j4, if_neg (by decide)]
    refine (diffs_l1 R (cntB R r : Int) r hs hrd (rowV a b d t r) a b c d t (a + b).toNat e 0 (by omega)).trans ?_
    have hpl := rowV_len a b d s r
    rw [pairs_ev _ _ (by rw [rowV_len, rowV_len]) (by omega) e (by omega), Option.bind_some, show wrap64 ((r : Int) + 1) = ((r + 1 : Nat) : Int) from by unfold wrap64; omega]
    have hst := cnt_step R hR r
    cases hz : allP (rowV a b d s r) (rowV a b d t r) with
    | true =>
      rw [if_neg (fun h => by rw [(hmem r hrd).mp h] at hz; cases hz)] at hst
      rw [if_pos rfl, ← show cntB R (r + 1) = cntB R r from hst]
      exact ih e (r + 1) (by omega) (by omega)
    | false =>
      have hin := (hmem r hrd).mpr hz
      rw [if_pos hin] at hst
      obtain ⟨g1, g2⟩ := cnt_at R hR r hin
      have hrdv : rd R (cntB R r : Int) = (r : Int) := by
        unfold rd
        rw [Int.toNat_natCast, List.getD_eq_getElem?_getD, List.getElem?_eq_getElem g1]
        exact g2
      rw [if_neg (by decide), if_neg (by omega), if_pos (by omega), if_pos (by omega), if_pos hrdv, show wrap64 ((cntB R r : Int) + 1) = (cntB R (r + 1) : Int) from by rw [hst]; unfold wrap64; omega]
      exact ih e (r + 1) (by omega) (by omega)
theorem diffs_self (D : Nat) (s : List (List Int)) : ∀ q i, diffsFrom D s s q i = some []
  | 0, _ => rfl
  | q + 1, i => by
    unfold diffsFrom
    rw [if_pos (eqB_refl _)]
    exact diffs_self D s q (i + 1)
theorem ne4 (a b c d a1 b1 c1 d1 : Int) : ((!(a == a1) || (!(b == b1) || (!(c == c1) || (!(d == d1))))) = true) ↔ ¬ (a = a1 ∧ b = b1 ∧ c = c1 ∧ d = d1) := by
  simp only [Bool.or_eq_true, Bool.not_eq_true', beq_eq_false_iff_ne]
  constructor
  · rintro (h | h | h | h) ⟨e1, e2, e3, e4⟩ <;> contradiction
  · intro h
    by_cases e1 : a = a1
    · by_cases e2 : b = b1
      · by_cases e3 : c = c1
        · exact .inr (.inr (.inr (fun e4 => h ⟨e1, e2, e3, e4⟩)))
        · exact .inr (.inr (.inl e3))
      · exact .inr (.inl e2)
    · exact .inl e1
theorem diff9_ev {a b c d : Int} {s t : List (List Int)} (hs : chkV a b c d s = 0) (ht : chkV a b c d t = 0) (k : Nat) (hk : 9000 ≤ k) :
    image_Diff.f k a b c d s a b c d t = some (match diffsFrom d.toNat s t t.length 0 with | none => ([], 90) | some l => (l, 0)) := by
  obtain ⟨hp, hn, _⟩ := chkV_zero hs
  obtain ⟨_, hn2, _⟩ := chkV_zero ht
  obtain ⟨h1, h2, h3, h4, h5, h6, h7, h8⟩ := okP_bd hp
  obtain ⟨D, rfl⟩ : ∃ D : Nat, d = (D : Int) := ⟨d.toNat, by omega⟩
  unfold image_Diff.f
  rw [check9_ev _ _ _ _ _ k hk, Option.bind_some, hs, if_pos rfl, check9_ev _ _ _ _ _ k hk, Option.bind_some, ht, if_pos rfl, if_neg (fun h => (ne4 _ _ _ _ _ _ _ _).mp h ⟨rfl, rfl, rfl, rfl⟩), Int.toNat_natCast]
  have hl := chk_len ht
  refine (diff_loop a b c D (by omega) (by omega) s t hl (by omega) (chk_short ht) t.length k 0 [] (by omega) (Nat.le_refl _) (by omega)).trans ?_
  cases diffsFrom D s t t.length 0 <;> rfl
theorem eqB_none {s t : List (List Int)} {q : Nat} {D : Nat} {l : List S35} (h : diffsFrom D s t q 0 = some l) : l = [] ↔ ∀ j, j < q → eqB (s.getD j []) (t.getD j []) = true := by
  have hm := diffs_mem D s t q 0 l h
  constructor
  · intro e j hj
    cases hq : eqB (s.getD j []) (t.getD j []) with
    | true => rfl
    | false =>
      have := (hm (putAt D j (t.getD j []))).mpr ⟨j, by omega, by omega, hq, rfl⟩
      rw [e] at this
      cases this
  · intro h2
    cases l with
    | nil => rfl
    | cons x l =>
      obtain ⟨j, h3, h4, h5, _⟩ := (hm x).mp (by simp)
      rw [h2 j (by omega)] at h5
      cases h5
set_option maxRecDepth 100000 in
theorem diffs_j1 {a b c d : Int} {s : List (List Int)} (hs : chkV a b c d s = 0) (a1 b1 c1 d1 : Int) (t : List (List Int)) (k : Nat) (hk : 100000 ≤ k) :
    twoslotlaw09_ImageDiffs.j1 k false a b c d s a1 b1 c1 d1 t = some true := by
  obtain ⟨k, rfl⟩ : ∃ m, k = m + 1 := ⟨k - 1, by omega⟩
  obtain ⟨hp, hn, _⟩ := chkV_zero hs
  obtain ⟨h1, h2, h3, h4, h5, h6, h7, h8⟩ := okP_bd hp
  have hl := chk_len hs
  rw [twoslotlaw09_ImageDiffs.j1, if_neg (by decide)]
  by_cases ht : chkV a1 b1 c1 d1 t = 0
  · by_cases hP : a = a1 ∧ b = b1 ∧ c = c1 ∧ d = d1
    · obtain ⟨rfl, rfl, rfl, rfl⟩ := hP
      have hlt := chk_len ht
      have hn2 := (chkV_zero ht).2.1
      have hst : s.length = t.length := by omega
      rw [diff9_ev hs ht k (by omega), Option.bind_some]
      cases hd : diffsFrom d.toNat s t t.length 0 with
      | none => rfl
      | some l =>
        dsimp only
        obtain ⟨D, rfl⟩ : ∃ D : Nat, d = (D : Int) := ⟨d.toNat, by omega⟩
        rw [Int.toNat_natCast] at hd
        have hD : 0 < D := by omega
        have hm := diffs_mem D s t t.length 0 l hd
        obtain ⟨hll, hnz⟩ := diffs_len D s t t.length 0 l hd
        obtain ⟨m, hmab⟩ : ∃ m : Nat, a + b = (m : Int) := ⟨(a + b).toNat, by omega⟩
        have hlen : s.length = m * D * 2 := by
          unfold nV at hn
          rw [hmab] at hn
          have : (((m * D * 2 : Nat)) : Int) = (m : Int) * (D : Int) * 2 := by push_cast; rfl
          omega
        have hmay : ∀ x ∈ l, mayV a b c (D : Int) x = true := by
          intro x hx
          obtain ⟨j, _, hj, hq, rfl⟩ := (hm x).mp hx
          have hj1 : j / 2 / D < m := by
            rw [Nat.div_lt_iff_lt_mul hD]
            omega
          have hj2 : j / 2 % D < D := Nat.mod_lt _ hD
          have hz := (chkV_zero ht).2.2 (t.getD j []) (by
            rw [List.getD_eq_getElem?_getD, List.getElem?_eq_getElem (by omega)]
            exact List.getElem_mem (by omega))
          have hz2 := hnz _ hx
          unfold putAt at hz2
          unfold mayV putAt
          dsimp only
          dsimp only at hz2
          generalize j / 2 / D = z1 at hj1 ⊢
          generalize j / 2 % D = z2 at hj2 ⊢
          refine decide_eq_true ⟨by omega, by omega, by omega, by omega, by omega, by omega, ?_⟩
          omega
        have hav : afterV a b c (D : Int) s l (l.length : Int) = (a, b, c, (D : Int), putsV (D : Int) l s, 0) := by
          unfold afterV
          rw [if_pos hs, if_neg (by omega), if_pos (List.all_eq_true.mpr hmay), if_neg (by omega), Int.toNat_natCast, List.take_length]
        rw [if_pos rfl, after9_ev _ _ _ _ _ _ _ k (by omega), Option.bind_some, hav]
        dsimp only
        have hcl : (putsV (D : Int) l s).length = s.length := putsV_len _ _ _
        have hce : allE (putsV (D : Int) l s) t = true := by
          refine (allE_iff _ _ (by omega)).mpr (fun j hj => ?_)
          rw [puts_get D s t t.length 0 l s hd (by omega) j (by omega)]
          cases hq : eqB (s.getD j []) (t.getD j []) with
          | true => rw [if_neg (fun h => by cases h.2.2)]; exact hq
          | false => rw [if_pos ⟨by omega, by omega, rfl⟩]; exact eqB_refl _
        rw [if_pos rfl, same9_ev _ _ _ _ _ _ (by omega) (by omega) k, Option.bind_some, hce, if_pos rfl, same9_ev _ _ _ _ _ _ hst (by omega) k, Option.bind_some]
        have hbb : (((l.length : Int) == 0) != allE s t) = false := by
          have h3 := eqB_none hd
          have h4 := allE_iff s t hst
          rw [hst] at h4
          cases hz : allE s t with
          | true =>
            have := h3.mpr (h4.mp hz)
            subst this
            rfl
          | false =>
            have : l ≠ [] := fun e => by
              have := h4.mpr (h3.mp e)
              rw [hz] at this
              cases this
            have hpos : (l.length : Int) ≠ 0 := by
              have := List.length_pos_iff.mpr this
              omega
            rw [beq_false_of_ne hpos]
            rfl
        obtain ⟨k, rfl⟩ : ∃ m, k = m + 1 := ⟨k - 1, by omega⟩
        rw [hbb, twoslotlaw09_ImageDiffs.j2, if_neg (by decide), rows9_ev l (by omega) k (by omega), Option.bind_some]
        dsimp only
        have hsrt := metFold_srt l [] List.Pairwise.nil
        have hmm : ∀ y, y ∈ metRows l ↔ y ∈ l.map (·.f1) := fun y => (hsrt.2 y).trans (by simp)
        have hf1 : ∀ y, y ∈ metRows l ↔ ∃ j, j < s.length ∧ eqB (s.getD j []) (t.getD j []) = false ∧ ((j / 2 % D : Nat) : Int) = y := by
          intro y
          rw [hmm y, List.mem_map]
          constructor
          · rintro ⟨x, hx, rfl⟩
            obtain ⟨j, _, hj, hq, rfl⟩ := (hm x).mp hx
            exact ⟨j, by omega, hq, rfl⟩
          · rintro ⟨j, hj, hq, rfl⟩
            exact ⟨_, (hm _).mpr ⟨j, by omega, by omega, hq, rfl⟩, rfl⟩
        have hc0 : cntB (metRows l) 0 = 0 := by
          unfold cntB
          rw [List.filter_eq_nil_iff.mpr (fun y hy => by
            obtain ⟨j, _, _, rfl⟩ := (hf1 y).mp hy
            simp only [decide_eq_true_eq]
            generalize j / 2 % D = z2
            omega)]
          rfl
        have hfin := diffs_l0 hs ht (metRows l) hsrt.1 (by have := metRows_len l; omega) (fun r hr => by
          rw [hf1, row_diff hs hr, Int.toNat_natCast]
          constructor
          · rintro ⟨j, g1, g2, g3⟩; exact ⟨j, g1, g2, by omega⟩
          · rintro ⟨j, g1, g2, g3⟩; exact ⟨j, g1, g2, by omega⟩) (fun x hx => by
          obtain ⟨j, _, _, rfl⟩ := (hf1 x).mp hx
          have := Nat.mod_lt (j / 2) hD
          omega) D k 0 (by omega) (by omega)
        rw [hc0] at hfin
        exact hfin
    · have e : image_Diff.f k a b c d s a1 b1 c1 d1 t = some ([], 90) := by
        unfold image_Diff.f
        rw [check9_ev _ _ _ _ _ k (by omega), Option.bind_some, hs, if_pos rfl, check9_ev _ _ _ _ _ k (by omega), Option.bind_some, ht, if_pos rfl, if_pos ((ne4 _ _ _ _ _ _ _ _).mpr hP)]
      rw [e]
      rfl
  · have e : image_Diff.f k a b c d s a1 b1 c1 d1 t = some ([], chkV a1 b1 c1 d1 t) := by
      unfold image_Diff.f
      rw [check9_ev _ _ _ _ _ k (by omega), Option.bind_some, hs, if_pos rfl, check9_ev _ _ _ _ _ k (by omega), Option.bind_some, if_neg ht]
    rw [e, Option.bind_some]
    dsimp only
    rw [if_neg ht]
    rfl
set_option maxRecDepth 100000 in
theorem ImageDiffs.ev (a b c d : Int) (s : List (List Int)) (a1 b1 c1 d1 : Int) (t : List (List Int)) : twoslotlaw09_ImageDiffs.f 200000 a b c d s a1 b1 c1 d1 t = some true := by
  have hj : ∀ (K : Nat) (z : Bool), 150000 ≤ K → twoslotlaw09_ImageDiffs.j0 K z a b c d s a1 b1 c1 d1 t = some true := by
    intro K z hK
    obtain ⟨k, rfl⟩ : ∃ m, K = m + 1 := ⟨K - 1, by omega⟩
    rw [twoslotlaw09_ImageDiffs.j0]
    cases z with
    | true => rw [if_pos rfl]
    | false =>
      rw [if_neg (by decide)]
      by_cases hs : chkV a b c d s = 0
      · have hl := chk_len hs
        rw [diff9_ev hs hs k (by omega), diffs_self, Option.bind_some]
        dsimp only
        rw [if_pos rfl, if_pos (by simp), same9_refl _ _ _ _ _ (by omega) k, Option.bind_some]
        exact diffs_j1 hs a1 b1 c1 d1 t k (by omega)
      · have e : image_Diff.f k a b c d s a b c d s = some ([], chkV a b c d s) := by
          unfold image_Diff.f
          rw [check9_ev _ _ _ _ _ k (by omega), Option.bind_some, if_neg hs]
        rw [e, Option.bind_some]
        dsimp only
        rw [if_neg hs, if_pos (by simp), check9_ev _ _ _ _ _ k (by omega), Option.bind_some, beq_self_eq_true]
  unfold twoslotlaw09_ImageDiffs.f twoslotlaw09_much.f
  rw [show twoslotlaw09_alive.f = some true from rfl, Option.bind_some, if_pos rfl, Option.bind_some]
  by_cases h1 : (s.length : Int) > 2000
  · rw [decide_eq_true h1, if_pos rfl]
    exact hj _ true (by omega)
  · rw [decide_eq_false h1, if_neg (by decide), Option.bind_some]
    exact hj _ _ (by omega)
end Go.Proofs.Ytcnmocbiekfpbaa.P

import Derived.Test.YtcnmocbiekfpbaaP9V
import Derived.Test.YtcnmocbiekfpbaaP0Sep
import Derived.Test.YtcnmocbiekfpbaaPx15
import Derived.Test.YtcnmocbiekfpbaaPx16
import Derived.Test.YtcnmocbiekfpbaaPx19
import Derived.Test.YtcnmocbiekfpbaaPx20
import Derived.Test.YtcnmocbiekfpbaaPx21
import Derived.Test.YtcnmocbiekfpbaaPx24
import Derived.Test.YtcnmocbiekfpbaaPx25
import Derived.Test.YtcnmocbiekfpbaaPx26
import Derived.Test.YtcnmocbiekfpbaaPx27
import Derived.Test.YtcnmocbiekfpbaaPx28
import Derived.Laws.BitsLemmas
namespace Go.Proofs.Ytcnmocbiekfpbaa.P
open Go.RowKit Go.Proofs.YtcnmocbiekfpbaaW.PrintWords Go.Proofs.YtcnmocbiekfpbaaW.PrintLast Go.Proofs.YtcnmocbiekfpbaaW.PrintMore
attribute [local go_sem] max2_int min2_int max_two min_two max_three min_three max_four min_four
set_option linter.unusedVariables false
set_option linter.unusedSimpArgs false
/-! ### The document's functions -/
theorem may6_ev (a b c d : Int) : twoslotref06_May.f a b c d = some (okP a b c d) := by
  unfold twoslotref06_May.f okP
  by_cases h1 : a ≥ 1
  · rw [if_pos h1]
    by_cases h2 : a ≤ 12
    · rw [if_pos h2]
      by_cases h3 : b ≥ 0
      · rw [if_pos h3]
        by_cases h4 : b ≤ 4
        · rw [if_pos h4]
          by_cases h5 : c ≥ 8
          · rw [if_pos h5]
            by_cases h6 : c ≤ 64
            · rw [if_pos h6]
              have l0 : 0 ≤ a * c := Int.mul_nonneg (by omega) (by omega)
              have l1 : a * c ≤ 12 * 64 := Int.mul_le_mul h2 h6 (by omega) (by omega)
              rw [show wrap64 (a * c) = a * c from by unfold wrap64; omega]
              by_cases h7 : a * c ≥ 32
              · rw [if_pos h7]
                by_cases h8 : d ≥ 8
                · rw [if_pos h8]
                  by_cases h9 : d ≤ 256
                  · rw [decide_eq_true h9, decide_eq_true (by omega)]
                  · rw [decide_eq_false h9, decide_eq_false (by omega)]
                · rw [if_neg h8, decide_eq_false (by omega)]
              · rw [if_neg h7, decide_eq_false (by omega)]
            · rw [if_neg h6, decide_eq_false (by omega)]
          · rw [if_neg h5, decide_eq_false (by omega)]
        · rw [if_neg h4, decide_eq_false (by omega)]
      · rw [if_neg h3, decide_eq_false (by omega)]
    · rw [if_neg h2, decide_eq_false (by omega)]
  · rw [if_neg h1, decide_eq_false (by omega)]
theorem size6_ev {a b c d : Int} (h : okP a b c d = true) : twoslotref06_Size.f a b c d = some (szV a b c) := by
  obtain ⟨h1, h2, h3, h4, h5, h6, h7, h8⟩ := okP_bd h
  unfold twoslotref06_Size.f twoslotref06_N.f szV
  rw [Option.bind_some, show wrap64 (a + b) = a + b from by unfold wrap64; omega, show wrap64 (4 * (a + b)) = 4 * (a + b) from by unfold wrap64; omega, show wrap64 (12 + 4 * (a + b)) = 12 + 4 * (a + b) from by unfold wrap64; omega, show wrap64 (12 + 4 * (a + b) + c) = 12 + 4 * (a + b) + c from by unfold wrap64; omega]
theorem rcheck_loop {a b c d : Int} (hk : okP a b c d = true) (sl : List (List Int)) (hl : sl.length ≤ 8192) (q : Nat) : ∀ (k i : Nat), i + q = sl.length → q < k →
    twoslotref09_Check.l0 k (i : Int) a b c d sl = some (if (sl.drop i).all (okS (szV a b c)) = true then 0 else 90) := by
  induction q with
  | zero =>
    intro k i hi hk2
    obtain ⟨k, rfl⟩ : ∃ m, k = m + 1 := ⟨k - 1, by omega⟩
    rw [twoslotref09_Check.l0, if_neg (by omega), List.drop_of_length_le (by omega)]
    rfl
  | succ q ih =>
    intro k i hi hk2
    obtain ⟨k, rfl⟩ : ∃ m, k = m + 1 := ⟨k - 1, by omega⟩
    have hlt : i < sl.length := by omega
    have hd : sl.drop i = sl[i] :: sl.drop (i + 1) := List.drop_eq_getElem_cons hlt
    rw [twoslotref09_Check.l0, if_pos (by omega), if_pos (by omega), rdL_nat hlt, next9 hlt (by omega), size6_ev hk, Option.bind_some, ih k (i + 1) (by omega) (by omega), hd, List.all_cons]
    by_cases h0 : (sl[i].length : Int) = 0
    · rw [if_pos h0, show okS (szV a b c) sl[i] = true from decide_eq_true (.inl h0), Bool.true_and]
    · rw [if_neg h0]
      by_cases h1 : (sl[i].length : Int) = szV a b c
      · rw [if_pos h1, show okS (szV a b c) sl[i] = true from decide_eq_true (.inr h1), Bool.true_and]
      · rw [if_neg h1, show okS (szV a b c) sl[i] = false from decide_eq_false (by omega), Bool.false_and, if_neg (by decide)]
theorem rcheck_ev (a b c d : Int) (sl : List (List Int)) (k : Nat) (hk : 9000 ≤ k) : twoslotref09_Check.f k a b c d sl = some (chkV a b c d sl) := by
  unfold twoslotref09_Check.f twoslotref06_N.f chkV
  rw [may6_ev, Option.bind_some]
  by_cases h : okP a b c d = true
  · obtain ⟨h1, h2, h3, h4, h5, h6, h7, h8⟩ := okP_bd h
    rw [if_pos h, if_pos h, Option.bind_some, show wrap64 (a + b) = a + b from by unfold wrap64; omega, wrap_nV h]
    by_cases hl : (sl.length : Int) = nV a b d
    · have := nV_bd h
      rw [if_pos hl, if_pos hl]
      refine (rcheck_loop h sl (by unfold nV at hl; omega) sl.length k 0 (by omega) (by unfold nV at hl; omega)).trans ?_
      rw [List.drop_zero]
    · rw [if_neg hl, if_neg hl]
  · rw [if_neg h, if_neg h]
theorem rtwin_loop (sl : List (List Int)) (hl : sl.length ≤ 8192) (hs : ∀ x ∈ sl, x.length < 140737488355328) (a b c d a1 b1 c1 d1 : Int) (q : Nat) : ∀ (k i : Nat) (out : List (List Int)), i + q = sl.length → out = sl.take i → q < k →
    twoslotref09_Twin.l0 k (i : Int) a b c d sl a1 b1 c1 d1 out = some (a1, b1, c1, d1, sl) := by
  induction q with
  | zero =>
    intro k i out hi ho hk2
    obtain ⟨k, rfl⟩ : ∃ m, k = m + 1 := ⟨k - 1, by omega⟩
    rw [twoslotref09_Twin.l0, if_neg (by omega), ho, List.take_of_length_le (by omega)]
  | succ q ih =>
    intro k i out hi ho hk2
    obtain ⟨k, rfl⟩ : ∃ m, k = m + 1 := ⟨k - 1, by omega⟩
    have hlt : i < sl.length := by omega
    have hx := hs _ (List.getElem_mem hlt)
    have hol : out.length = i := by rw [ho, List.length_take]; omega
    rw [twoslotref09_Twin.l0, if_pos (by omega), if_pos (by omega), rdL_nat hlt, if_pos (by simpa using hx), if_pos (by omega), next9 hlt (by omega)]
    exact ih k (i + 1) _ (by omega) (by rw [List.take_succ_eq_append_getElem hlt, ho]; rfl) (by omega)
theorem rtwin_ev (a b c d : Int) (sl : List (List Int)) (hl : sl.length ≤ 8192) (hs : ∀ x ∈ sl, x.length < 140737488355328) (k : Nat) (hk : 9000 ≤ k) : twoslotref09_Twin.f k a b c d sl = some (a, b, c, d, sl) := by
  unfold twoslotref09_Twin.f
  exact rtwin_loop sl hl hs a b c d a b c d sl.length k 0 [] (by omega) rfl (by omega)
theorem rtwinp_loop (l : List S35) (hl : l.length ≤ 8192) (hs : ∀ x ∈ l, x.f3.length < 140737488355328) (q : Nat) : ∀ (k i : Nat) (out : List S35), i + q = l.length → out = l.take i → q < k →
    twoslotref09_TwinPuts.l0 k l out (i : Int) = some l := by
  induction q with
  | zero =>
    intro k i out hi ho hk2
    obtain ⟨k, rfl⟩ : ∃ m, k = m + 1 := ⟨k - 1, by omega⟩
    rw [twoslotref09_TwinPuts.l0, if_neg (by omega), ho, List.take_of_length_le (by omega)]
  | succ q ih =>
    intro k i out hi ho hk2
    obtain ⟨k, rfl⟩ : ∃ m, k = m + 1 := ⟨k - 1, by omega⟩
    have hlt : i < l.length := by omega
    have hx := hs _ (List.getElem_mem hlt)
    have hol : out.length = i := by rw [ho, List.length_take]; omega
    rw [twoslotref09_TwinPuts.l0, if_pos (by omega), if_pos (by omega), rdT_nat hlt, if_pos (by simpa using hx), if_pos (by omega), next9 hlt (by omega)]
    exact ih k (i + 1) _ (by omega) (by rw [List.take_succ_eq_append_getElem hlt, ho]; rfl) (by omega)
theorem rtwinp_ev (l : List S35) (hl : l.length ≤ 8192) (hs : ∀ x ∈ l, x.f3.length < 140737488355328) (k : Nat) (hk : 9000 ≤ k) : twoslotref09_TwinPuts.f k l = some l := by
  unfold twoslotref09_TwinPuts.f
  exact rtwinp_loop l hl hs l.length k 0 [] (by omega) rfl (by omega)
theorem number_ev {a b c d : Int} (hp : okP a b c d = true) (x : S35) : twoslotref09_Number.f a b c d x.f0 x.f1 x.f2 = some (if 0 ≤ x.f0 ∧ x.f0 < a + b ∧ 0 ≤ x.f1 ∧ x.f1 < d ∧ 0 ≤ x.f2 ∧ x.f2 < 2 then idxV d x else -1) := by
  obtain ⟨h1, h2, h3, h4, h5, h6, h7, h8⟩ := okP_bd hp
  unfold twoslotref09_Number.f twoslotref06_N.f
  rw [Option.bind_some, show wrap64 (a + b) = a + b from by unfold wrap64; omega]
  by_cases g1 : x.f0 < 0
  · rw [if_pos g1, if_neg (by omega)]
  · rw [if_neg g1]
    by_cases g2 : x.f0 ≥ a + b
    · rw [if_pos g2, if_neg (by omega)]
    · rw [if_neg g2]
      by_cases g3 : x.f1 < 0
      · rw [if_pos g3, if_neg (by omega)]
      · rw [if_neg g3]
        by_cases g4 : x.f1 ≥ d
        · rw [if_pos g4, if_neg (by omega)]
        · rw [if_neg g4]
          by_cases g5 : x.f2 < 0
          · rw [if_pos g5, if_neg (by omega)]
          · rw [if_neg g5]
            by_cases g6 : x.f2 > 1
            · rw [if_pos g6, if_neg (by omega)]
            · rw [if_neg g6, if_pos (by omega)]
              have l0 : 0 ≤ x.f0 * d := Int.mul_nonneg (by omega) (by omega)
              have l1 : x.f0 * d ≤ (a + b - 1) * d := Int.mul_le_mul_of_nonneg_right (by omega) (by omega)
              have l2 : (a + b - 1) * d = (a + b) * d - d := by rw [Int.sub_mul, Int.one_mul]
              have l3 := nV_bd hp
              unfold idxV
              rw [show wrap64 (x.f0 * d) = x.f0 * d from by unfold wrap64; omega, show wrap64 (x.f0 * d + x.f1) = x.f0 * d + x.f1 from by unfold wrap64; omega, show wrap64 ((x.f0 * d + x.f1) * 2) = (x.f0 * d + x.f1) * 2 from by unfold wrap64; omega, show wrap64 ((x.f0 * d + x.f1) * 2 + x.f2) = (x.f0 * d + x.f1) * 2 + x.f2 from by unfold wrap64; omega]
theorem rmay_ev {a b c d : Int} (hp : okP a b c d = true) (x : S35) : twoslotref09_May.f a b c d x.f0 x.f1 x.f2 x.f3 = some (mayV a b c d x) := by
  obtain ⟨h1, h2, h3, h4, h5, h6, h7, h8⟩ := okP_bd hp
  unfold twoslotref09_May.f mayV
  rw [number_ev hp, Option.bind_some]
  by_cases g : 0 ≤ x.f0 ∧ x.f0 < a + b ∧ 0 ≤ x.f1 ∧ x.f1 < d ∧ 0 ≤ x.f2 ∧ x.f2 < 2
  · have l0 : 0 ≤ x.f0 * d := Int.mul_nonneg (by omega) (by omega)
    rw [if_pos g, if_pos (show idxV d x ≥ 0 by unfold idxV; omega), size6_ev hp, Option.bind_some]
    by_cases g6 : (x.f3.length : Int) = szV a b c
    · rw [g6, beq_self_eq_true, decide_eq_true (by omega)]
    · rw [beq_false_of_ne g6, decide_eq_false (by omega)]
  · rw [if_neg g, if_neg (by omega), decide_eq_false (by omega)]
theorem rsame_loop (s : List (List Int)) (hl : s.length ≤ 100000) (a b c d a1 b1 c1 d1 : Int) (q : Nat) : ∀ (k i : Nat), i + q = s.length → q < k → twoslotref09_Same.l0 k (i : Int) a b c d s a1 b1 c1 d1 s = some true := by
  induction q with
  | zero =>
    intro k i hi hk
    obtain ⟨k, rfl⟩ : ∃ m, k = m + 1 := ⟨k - 1, by omega⟩
    rw [twoslotref09_Same.l0, if_neg (by omega)]
  | succ q ih =>
    intro k i hi hk
    obtain ⟨k, rfl⟩ : ∃ m, k = m + 1 := ⟨k - 1, by omega⟩
    rw [twoslotref09_Same.l0, if_pos (by omega), if_pos (by omega), if_pos (by omega), if_pos rfl, next9 (show i < s.length by omega) (by omega)]
    exact ih k (i + 1) (by omega) (by omega)
theorem rsame_refl (a b c d : Int) (s : List (List Int)) (hl : s.length ≤ 100000) (k : Nat) (hk : 200000 ≤ k) : twoslotref09_Same.f k a b c d s a b c d s = some true := by
  obtain ⟨k, rfl⟩ : ∃ m, k = m + 1 := ⟨k - 1, by omega⟩
  unfold twoslotref09_Same.f
  rw [if_neg (by simp), show ((s.length : Int) != (s.length : Int)) = false from by simp, twoslotref09_Same.j0, if_neg (by decide)]
  exact rsame_loop s hl a b c d a b c d s.length k 0 (by omega) (by omega)
theorem rsamep_loop (l : List S35) (hl : l.length ≤ 100000) (q : Nat) : ∀ (k i : Nat), i + q = l.length → q < k → twoslotref09_SamePuts.l0 k l l (i : Int) = some true := by
  induction q with
  | zero =>
    intro k i hi hk
    obtain ⟨k, rfl⟩ : ∃ m, k = m + 1 := ⟨k - 1, by omega⟩
    rw [twoslotref09_SamePuts.l0, if_neg (by omega)]
  | succ q ih =>
    intro k i hi hk
    obtain ⟨k, rfl⟩ : ∃ m, k = m + 1 := ⟨k - 1, by omega⟩
    rw [twoslotref09_SamePuts.l0, if_pos (by omega), if_pos (by omega), if_pos (by omega), if_pos rfl, if_pos rfl, if_pos rfl, if_pos rfl, next9 (show i < l.length by omega) (by omega)]
    exact ih k (i + 1) (by omega) (by omega)
theorem rsamep_refl (l : List S35) (hl : l.length ≤ 100000) (k : Nat) (hk : 200000 ≤ k) : twoslotref09_SamePuts.f k l l = some true := by
  unfold twoslotref09_SamePuts.f
  rw [if_pos rfl]
  exact rsamep_loop l hl l.length k 0 (by omega) (by omega)
theorem scratch_loop (N : Nat) (hN : N ≤ 100000) (q : Nat) : ∀ (k i : Nat) (x : List Int), x.length = N → i + q = N → q < k → twoslotlaw09_scratch.l0 k x (i : Int) = some () := by
  induction q with
  | zero =>
    intro k i x hx hi hk
    obtain ⟨k, rfl⟩ : ∃ m, k = m + 1 := ⟨k - 1, by omega⟩
    rw [twoslotlaw09_scratch.l0, if_neg (by omega), Option.bind_some, if_pos (by show x.length + 8 < _; omega), if_pos (by rw [List.length_append]; simp; omega)]
  | succ q ih =>
    intro k i x hx hi hk
    obtain ⟨k, rfl⟩ : ∃ m, k = m + 1 := ⟨k - 1, by omega⟩
    rw [twoslotlaw09_scratch.l0, if_pos (by omega), if_pos (by omega), next9 (show i < N by omega) (by omega)]
    exact ih k (i + 1) _ (by rw [List.length_set]; exact hx) (by omega) (by omega)
theorem scratch_ev (x : List Int) (hx : x.length ≤ 100000) (k : Nat) (hk : 200000 ≤ k) : twoslotlaw09_scratch.f k x = some () := by
  unfold twoslotlaw09_scratch.f
  exact scratch_loop x.length hx x.length k 0 x rfl (by omega) (by omega)
/-! ### Diff, Row, likeness -/
def eqB (x y : List Int) : Bool := (strOfNums x).toList == (strOfNums y).toList
theorem eqB_refl (x : List Int) : eqB x x = true := by unfold eqB; exact beq_self_eq_true _
theorem eqB_iff {x y : List Int} : eqB x y = true ↔ (strOfNums x).toList = (strOfNums y).toList := by unfold eqB; exact beq_iff_eq
theorem and1_ev {i : Nat} (h : i ≤ 8192) : Go.bits .and .i64 (i : Int) 1 = ((i % 2 : Nat) : Int) := by
  have hw : ∀ n : Int, 0 ≤ n → n < 2 ^ 20 → IntKind.i64.wrap n = n := by
    intro n h0 h1
    have : (2 : Int) ^ 20 = 1048576 := by decide
    have e : IntKind.i64.wrap n = wrap64 n := by unfold wrap64; simp [IntKind.wrap, IntKind.bits, IntKind.signed]; omega
    rw [e]
    unfold wrap64
    omega
  have h2 : (2 : Int) ^ 20 = 1048576 := by decide
  have := bits_mask .i64 20 (by decide) hw 1 (by decide) (i : Int) (by omega) (by omega)
  refine (show Go.bits .and .i64 (i : Int) 1 = Go.bits .and .i64 (i : Int) (2 ^ 1 - 1) from rfl).trans (this.trans ?_)
  show (i : Int) % 2 = _
  omega
/-- The raw write that makes slot i be y. -/
def putAt (D : Nat) (i : Nat) (y : List Int) : S35 := ⟨((i / 2 / D : Nat) : Int), ((i / 2 % D : Nat) : Int), ((i % 2 : Nat) : Int), y⟩
def diffsFrom (D : Nat) (s t : List (List Int)) : Nat → Nat → Option (List S35)
  | 0, _ => some []
  | q + 1, i => if eqB (s.getD i []) (t.getD i []) = true then diffsFrom D s t q (i + 1) else if (t.getD i []).length = 0 then none else (diffsFrom D s t q (i + 1)).map (fun l => putAt D i (t.getD i []) :: l)
theorem diff_loop (a b c : Int) (D : Nat) (hD : 0 < D) (hD2 : D ≤ 256) (s t : List (List Int)) (hl : t.length ≤ 8192) (hs : s.length = t.length) (ht : ∀ x ∈ t, x.length ≤ 140) (q : Nat) : ∀ (k i : Nat) (acc : List S35), i + q = t.length → acc.length ≤ i → q < k →
    image_Diff.l0 k acc t (t.length : Int) (i : Int) a b c (D : Int) s = some (match diffsFrom D s t q i with | none => ([], 90) | some l => (acc ++ l, 0)) := by
  induction q with
  | zero =>
    intro k i acc hi ha hk
    obtain ⟨k, rfl⟩ : ∃ m, k = m + 1 := ⟨k - 1, by omega⟩
    simp only [image_Diff.l0, diffsFrom]
    rw [if_neg (by omega), List.append_nil]
  | succ q ih =>
    intro k i acc hi ha hk
    obtain ⟨k, rfl⟩ : ∃ m, k = m + 1 := ⟨k - 1, by omega⟩
    have hlt : i < t.length := by omega
    have e1 : rd_L1 s (i : Int) = s.getD i [] := by unfold rd_L1; rw [Int.toNat_natCast]
    have e2 : rd_L1 t (i : Int) = t.getD i [] := by unfold rd_L1; rw [Int.toNat_natCast]
    have hy : (t.getD i []).length ≤ 140 := by
      rw [List.getD_eq_getElem?_getD, List.getElem?_eq_getElem hlt]
      exact ht _ (List.getElem_mem hlt)
    simp only [image_Diff.l0, diffsFrom]
    rw [if_pos (by omega), if_pos (by omega), if_pos (by omega), if_pos (by omega), e1, e2, show bytes_Equal.f (s.getD i []) (t.getD i []) = some (eqB (s.getD i []) (t.getD i [])) from rfl, Option.bind_some, next9 hlt (by omega)]
    by_cases h : eqB (s.getD i []) (t.getD i []) = true
    · rw [if_pos h, if_pos h]
      exact ih k (i + 1) acc (by omega) (by omega) (by omega)
    · rw [if_neg h, if_neg h]
      by_cases h0 : (t.getD i []).length = 0
      · rw [if_pos (by omega), if_pos h0]
      · rw [if_neg (by omega), if_neg h0, if_neg (by omega), taken9 hy, Option.bind_some, if_pos (by omega)]
        have e3 : wrap64 (Int.tdiv (i : Int) 2) = ((i / 2 : Nat) : Int) := by
          rw [Int.tdiv_eq_ediv_of_nonneg (by omega)]
          unfold wrap64
          omega
        have e4 : wrap64 (Int.tdiv ((i / 2 : Nat) : Int) (D : Int)) = ((i / 2 / D : Nat) : Int) := by
          have e5 : ((i / 2 : Nat) : Int) / (D : Int) = ((i / 2 / D : Nat) : Int) := by simp
          have := Nat.div_le_self (i / 2) D
          rw [Int.tdiv_eq_ediv_of_nonneg (by omega), e5]
          generalize i / 2 / D = z at *
          unfold wrap64
          omega
        have e6 : Int.tmod ((i / 2 : Nat) : Int) (D : Int) = ((i / 2 % D : Nat) : Int) := by
          rw [Int.tmod_eq_emod_of_nonneg (by omega)]
          simp
        rw [e3, e4, e6, and1_ev (by omega), ih k (i + 1) _ (by omega) (by rw [List.length_append]; simp; omega) (by omega)]
        cases diffsFrom D s t q (i + 1) with
        | none => rfl
        | some l => simp [putAt]
theorem diffs_mem (D : Nat) (s t : List (List Int)) : ∀ (q i : Nat) (l : List S35), diffsFrom D s t q i = some l → ∀ x, x ∈ l ↔ ∃ j, i ≤ j ∧ j < i + q ∧ eqB (s.getD j []) (t.getD j []) = false ∧ x = putAt D j (t.getD j []) := by
  intro q
  induction q with
  | zero =>
    intro i l h x
    obtain rfl := Option.some.inj h
    constructor
    · intro h; cases h
    · rintro ⟨j, h1, h2, _⟩; omega
  | succ q ih =>
    intro i l h x
    unfold diffsFrom at h
    by_cases he : eqB (s.getD i []) (t.getD i []) = true
    · rw [if_pos he] at h
      rw [ih (i + 1) l h x]
      constructor
      · rintro ⟨j, h1, h2, h3⟩; exact ⟨j, by omega, by omega, h3⟩
      · rintro ⟨j, h1, h2, h3, h4⟩
        refine ⟨j, ?_, by omega, h3, h4⟩
        by_cases e : j = i
        · subst e; rw [he] at h3; cases h3
        · omega
    · rw [if_neg he] at h
      by_cases h0 : (t.getD i []).length = 0
      · rw [if_pos h0] at h; cases h
      · rw [if_neg h0] at h
        obtain ⟨m, hm, rfl⟩ := Option.map_eq_some_iff.mp h
        rw [List.mem_cons, ih (i + 1) m hm x]
        constructor
        · rintro (rfl | ⟨j, h1, h2, h3⟩)
          · exact ⟨i, by omega, by omega, by simpa using he, rfl⟩
          · exact ⟨j, by omega, by omega, h3⟩
        · rintro ⟨j, h1, h2, h3, h4⟩
          by_cases e : j = i
          · subst e; exact .inl h4
          · exact .inr ⟨j, by omega, by omega, h3, h4⟩
theorem diffs_len (D : Nat) (s t : List (List Int)) : ∀ (q i : Nat) (l : List S35), diffsFrom D s t q i = some l → l.length ≤ q ∧ ∀ x ∈ l, x.f3.length ≠ 0 := by
  intro q
  induction q with
  | zero =>
    intro i l h
    obtain rfl := Option.some.inj h
    exact ⟨Nat.le_refl _, fun x h => by cases h⟩
  | succ q ih =>
    intro i l h
    unfold diffsFrom at h
    by_cases he : eqB (s.getD i []) (t.getD i []) = true
    · rw [if_pos he] at h
      have := ih _ _ h
      exact ⟨by omega, this.2⟩
    · rw [if_neg he] at h
      by_cases h0 : (t.getD i []).length = 0
      · rw [if_pos h0] at h; cases h
      · rw [if_neg h0] at h
        obtain ⟨m, hm, rfl⟩ := Option.map_eq_some_iff.mp h
        have := ih _ _ hm
        refine ⟨by simp; omega, fun x hx => ?_⟩
        rcases List.mem_cons.mp hx with rfl | hx
        · exact h0
        · exact this.2 x hx
theorem idx_putAt (D i : Nat) (y : List Int) : (idxV (D : Int) (putAt D i y)).toNat = i := by
  have h1 := Nat.div_add_mod (i / 2) D
  have h2 : idxV (D : Int) (putAt D i y) = (((i / 2 / D * D + i / 2 % D) * 2 + i % 2 : Nat) : Int) := by
    unfold idxV putAt
    push_cast
    rfl
  rw [h2, Int.toNat_natCast, Nat.mul_comm (i / 2 / D) D, h1]
  omega
/-- Behind the differences from slot i on. -/
theorem puts_get (D : Nat) (s t : List (List Int)) : ∀ (q i : Nat) (l : List S35) (u : List (List Int)), diffsFrom D s t q i = some l → i + q ≤ u.length → ∀ j, j < u.length →
    (putsV (D : Int) l u).getD j [] = if i ≤ j ∧ j < i + q ∧ eqB (s.getD j []) (t.getD j []) = false then t.getD j [] else u.getD j [] := by
  intro q
  induction q with
  | zero =>
    intro i l u h hu j hj
    obtain rfl := Option.some.inj h
    rw [if_neg (by omega)]
    rfl
  | succ q ih =>
    intro i l u h hu j hj
    unfold diffsFrom at h
    by_cases he : eqB (s.getD i []) (t.getD i []) = true
    · rw [if_pos he] at h
      rw [ih (i + 1) l u h (by omega) j hj]
      by_cases e : j = i
      · subst e
        rw [if_neg (by omega), if_neg (fun hh => by rw [he] at hh; cases hh.2.2)]
      · by_cases c : i + 1 ≤ j ∧ j < i + 1 + q ∧ eqB (s.getD j []) (t.getD j []) = false
        · rw [if_pos c, if_pos ⟨by omega, by omega, c.2.2⟩]
        · rw [if_neg c, if_neg (fun hh => c ⟨by omega, by omega, hh.2.2⟩)]
    · rw [if_neg he] at h
      by_cases h0 : (t.getD i []).length = 0
      · rw [if_pos h0] at h; cases h
      · rw [if_neg h0] at h
        obtain ⟨m, hm, rfl⟩ := Option.map_eq_some_iff.mp h
        have hp : putsV (D : Int) (putAt D i (t.getD i []) :: m) u = putsV (D : Int) m (u.set i (t.getD i [])) := by
          show putsV (D : Int) m (putV (D : Int) u (putAt D i (t.getD i []))) = _
          unfold putV
          rw [idx_putAt]
          rfl
        rw [hp, ih (i + 1) m (u.set i (t.getD i [])) hm (by rw [List.length_set]; omega) j (by rw [List.length_set]; exact hj)]
        by_cases e : j = i
        · subst e
          rw [if_neg (by omega), if_pos ⟨by omega, by omega, by simpa using he⟩]
          simp [List.getD_eq_getElem?_getD, hj]
        · have eu : (u.set i (t.getD i [])).getD j [] = u.getD j [] := by simp [List.getD_eq_getElem?_getD, List.getElem?_set_ne (show i ≠ j by omega)]
          rw [eu]
          by_cases c : i + 1 ≤ j ∧ j < i + 1 + q ∧ eqB (s.getD j []) (t.getD j []) = false
          · rw [if_pos c, if_pos ⟨by omega, by omega, c.2.2⟩]
          · rw [if_neg c, if_neg (fun hh => c ⟨by omega, by omega, hh.2.2⟩)]
def allE : List (List Int) → List (List Int) → Bool
  | [], [] => true
  | x :: l, y :: m => eqB x y && allE l m
  | _, _ => false
theorem eqF_ev (k : Nat) : ∀ l m : List (List Int), l.length = m.length → eqF k l m = some (allE l m)
  | [], [], _ => rfl
  | x :: l, y :: m, h => by
    unfold eqF allE
    rw [show bytes_Equal.f x y = some (eqB x y) from rfl, Option.bind_some, eqF_ev k l m (by simpa using h)]
    cases eqB x y <;> rfl
theorem allE_iff : ∀ l m : List (List Int), l.length = m.length → (allE l m = true ↔ ∀ j, j < l.length → eqB (l.getD j []) (m.getD j []) = true)
  | [], [], _ => ⟨fun _ j hj => (by cases hj), fun _ => rfl⟩
  | x :: l, y :: m, h => by
    unfold allE
    rw [Bool.and_eq_true, allE_iff l m (by simpa using h)]
    constructor
    · rintro ⟨h1, h2⟩ j hj
      cases j with
      | zero => exact h1
      | succ j => exact h2 j (by simpa using hj)
    · intro h
      exact ⟨h 0 (by simp), fun j hj => h (j + 1) (by simpa using hj)⟩
theorem same9_ev (a b c d : Int) (s t : List (List Int)) (hl : s.length = t.length) (h2 : s.length ≤ 1000000) (k : Nat) : image_Same.f k a b c d s a b c d t = some (allE s t) := by
  unfold image_Same.f
  rw [if_pos ⟨rfl, rfl, rfl, rfl⟩, if_pos ⟨hl, h2⟩, eqF_ev k s t hl]
/-- A row's slots. -/
def rowV (a b d : Int) (s : List (List Int)) (r : Nat) : List S59 := rowOf (fun i => (i * d.toNat + r) * 2) s (a + b).toNat
theorem rowAt_ev {a b c d : Int} (hp : okP a b c d = true) {r i : Nat} (hr : (r : Int) < d) (hi : (i : Int) < a + b) : rowAt d (r : Int) i = (((i * d.toNat + r) * 2 : Nat) : Int) ∧ (((i * d.toNat + r) * 2 + 2 : Nat) : Int) ≤ nV a b d := by
  obtain ⟨h1, h2, h3, h4, h5, h6, h7, h8⟩ := okP_bd hp
  obtain ⟨D, rfl⟩ : ∃ D : Nat, d = (D : Int) := ⟨d.toNat, by omega⟩
  rw [Int.toNat_natCast]
  have l0 : (i : Int) * (D : Int) ≤ (a + b - 1) * (D : Int) := Int.mul_le_mul_of_nonneg_right (by omega) (by omega)
  have l1 : (a + b - 1) * (D : Int) = (a + b) * (D : Int) - D := by rw [Int.sub_mul, Int.one_mul]
  have l2 := nV_bd hp
  have l3 : ((i * D : Nat) : Int) = (i : Int) * (D : Int) := by push_cast; rfl
  have l4 : 0 ≤ (i : Int) * (D : Int) := Int.mul_nonneg (by omega) (by omega)
  unfold rowAt nV
  rw [show wrap64 ((i : Int) * (D : Int)) = (i : Int) * (D : Int) from by unfold wrap64; omega, show wrap64 ((i : Int) * (D : Int) + (r : Int)) = (i : Int) * (D : Int) + (r : Int) from by unfold wrap64; omega, show wrap64 (((i : Int) * (D : Int) + (r : Int)) * 2) = ((i : Int) * (D : Int) + (r : Int)) * 2 from by unfold wrap64; omega]
  constructor
  · rw [← l3]; push_cast; rfl
  · push_cast
    rw [← l3] at *
    push_cast at *
    omega
theorem rowOf_congr {f g : Nat → Nat} {s : List (List Int)} {n : Nat} (h : ∀ i, i < n → f i = g i) : rowOf f s n = rowOf g s n := by
  unfold rowOf
  refine List.map_congr_left (fun i hi => ?_)
  rw [h i (List.mem_range.mp hi)]
theorem row9_ev {a b c d : Int} {s : List (List Int)} (hc : chkV a b c d s = 0) {r : Nat} (hr : (r : Int) < d) (k : Nat) (hk : 9000 ≤ k) : image_Row.f k a b c d s (r : Int) = some (rowV a b d s r, 0) := by
  obtain ⟨hp, hn, _⟩ := chkV_zero hc
  obtain ⟨h1, h2, h3, h4, h5, h6, h7, h8⟩ := okP_bd hp
  have hl := chk_len hc
  have hsh := chk_short hc
  have hw : wrap64 (a + b) = a + b := by unfold wrap64; omega
  unfold image_Row.f
  rw [check9_ev _ _ _ _ _ k hk, Option.bind_some, hc, if_pos rfl, if_neg (by omega), if_pos, hw]
  · unfold rowV
    rw [rowOf_congr (g := fun i => (i * d.toNat + r) * 2)]
    intro i hi
    unfold image_Row.at_
    rw [(rowAt_ev hp hr (by omega)).1, Int.toNat_natCast]
  · unfold image_Row.fine
    rw [hw, Bool.and_eq_true, Bool.and_eq_true]
    refine ⟨decide_eq_true ⟨by omega, by omega, by omega⟩, List.all_eq_true.mpr (fun x hx => decide_eq_true (by have := hsh x hx; omega)), List.all_eq_true.mpr (fun i hi => decide_eq_true ?_)⟩
    have hi := List.mem_range.mp hi
    have h := rowAt_ev hp hr (i := i) (by omega)
    rw [h.1, Int.toNat_natCast]
    omega
/-! ### ImageDiffs -/
def eqP (x y : S59) : Bool := eqB x.f0 y.f0 && eqB x.f1 y.f1
def allP : List S59 → List S59 → Bool
  | x :: l, y :: m => eqP x y && allP l m
  | _, _ => true
theorem allP_cons (x y : S59) (l m : List S59) : allP (x :: l) (y :: m) = (eqP x y && allP l m) := rfl
theorem rd59_nat {l : List S59} {i : Nat} (h : i < l.length) : rd_T59 l (i : Int) = l[i] := by
  unfold rd_T59
  rw [Int.toNat_natCast, List.getD_eq_getElem?_getD, List.getElem?_eq_getElem h]
  rfl
theorem pairs_loop (x y : List S59) (hxy : x.length = y.length) (hl : x.length ≤ 1000) (q : Nat) : ∀ (k i : Nat), i + q = x.length → q < k → twoslotref09_SamePairs.l0 k x y (i : Int) = some (allP (x.drop i) (y.drop i)) := by
  induction q with
  | zero =>
    intro k i hi hk
    obtain ⟨k, rfl⟩ : ∃ m, k = m + 1 := ⟨k - 1, by omega⟩
    simp only [twoslotref09_SamePairs.l0]
    rw [if_neg (by omega), List.drop_of_length_le (by omega)]
    rfl
  | succ q ih =>
    intro k i hi hk
    obtain ⟨k, rfl⟩ : ∃ m, k = m + 1 := ⟨k - 1, by omega⟩
    have hx : i < x.length := by omega
    have hy : i < y.length := by omega
    simp only [twoslotref09_SamePairs.l0]
    rw [if_pos (by omega), if_pos (by omega), if_pos (by omega), rd59_nat hx, rd59_nat hy, next9 hx (by omega), ih k (i + 1) (by omega) (by omega), List.drop_eq_getElem_cons hx, List.drop_eq_getElem_cons hy]
    rw [allP_cons]
    unfold eqP
    by_cases h0 : (strOfNums x[i].f0).toList = (strOfNums y[i].f0).toList
    · rw [if_pos h0, eqB_iff.mpr h0, Bool.true_and]
      by_cases h1 : (strOfNums x[i].f1).toList = (strOfNums y[i].f1).toList
      · rw [if_pos h1, eqB_iff.mpr h1, Bool.true_and]
      · rw [if_neg h1, show eqB x[i].f1 y[i].f1 = false from by rw [Bool.eq_false_iff]; exact fun h => h1 (eqB_iff.mp h), Bool.false_and]
    · rw [if_neg h0, show eqB x[i].f0 y[i].f0 = false from by rw [Bool.eq_false_iff]; exact fun h => h0 (eqB_iff.mp h), Bool.false_and, Bool.false_and]
theorem pairs_ev (x y : List S59) (hxy : x.length = y.length) (hl : x.length ≤ 1000) (k : Nat) (hk : 9000 ≤ k) : twoslotref09_SamePairs.f k x y = some (allP x y) := by
  unfold twoslotref09_SamePairs.f
  rw [if_pos (by omega)]
  exact pairs_loop x y hxy hl x.length k 0 (by omega) (by omega)
theorem allP_iff : ∀ x y : List S59, x.length = y.length → (allP x y = true ↔ ∀ i, (hx : i < x.length) → (hy : i < y.length) → eqP x[i] y[i] = true)
  | [], [], _ => ⟨fun _ i hi => (by cases hi), fun _ => rfl⟩
  | x :: l, y :: m, h => by
    rw [allP_cons, Bool.and_eq_true, allP_iff l m (by simpa using h)]
    constructor
    · rintro ⟨h1, h2⟩ i hx hy
      cases i with
      | zero => exact h1
      | succ i => exact h2 i (by simpa using hx) (by simpa using hy)
    · intro h
      exact ⟨h 0 (by simp) (by simp), fun i hx hy => h (i + 1) (by simpa using hx) (by simpa using hy)⟩
theorem rowV_len (a b d : Int) (s : List (List Int)) (r : Nat) : (rowV a b d s r).length = (a + b).toNat := rowOf_len _ _ _
theorem rowV_get (a b d : Int) (s : List (List Int)) (r i : Nat) (h : i < (rowV a b d s r).length) : (rowV a b d s r)[i] = ⟨s.getD ((i * d.toNat + r) * 2) [], s.getD ((i * d.toNat + r) * 2 + 1) []⟩ := by
  simp [rowV, rowOf]
/-- A row differs just if one of its slots does. -/
theorem ne4 (a b c d a1 b1 c1 d1 : Int) : ((!(a == a1) || (!(b == b1) || (!(c == c1) || (!(d == d1))))) = true) ↔ ¬ (a = a1 ∧ b = b1 ∧ c = c1 ∧ d = d1) := by
  simp only [Bool.or_eq_true, Bool.not_eq_true', beq_eq_false_iff_ne]
  constructor
  · rintro (h | h | h | h) ⟨e1, e2, e3, e4⟩ <;> contradiction
  · intro h
    by_cases e1 : a = a1
    · by_cases e2 : b = b1
      · by_cases e3 : c = c1
        · exact .inr (.inr (.inr (fun e4 => h ⟨e1, e2, e3, e4⟩)))
        · exact .inr (.inr (.inl e3))
      · exact .inr (.inl e2)
    · exact .inl e1
theorem diff9_ev {a b c d : Int} {s t : List (List Int)} (hs : chkV a b c d s = 0) (ht : chkV a b c d t = 0) (k : Nat) (hk : 9000 ≤ k) :
    image_Diff.f k a b c d s a b c d t = some (match diffsFrom d.toNat s t t.length 0 with | none => ([], 90) | some l => (l, 0)) := by
  obtain ⟨hp, hn, _⟩ := chkV_zero hs
  obtain ⟨_, hn2, _⟩ := chkV_zero ht
  obtain ⟨h1, h2, h3, h4, h5, h6, h7, h8⟩ := okP_bd hp
  obtain ⟨D, rfl⟩ : ∃ D : Nat, d = (D : Int) := ⟨d.toNat, by omega⟩
  unfold image_Diff.f
  rw [check9_ev _ _ _ _ _ k hk, Option.bind_some, hs, if_pos rfl, check9_ev _ _ _ _ _ k hk, Option.bind_some, ht, if_pos rfl, if_neg (fun h => (ne4 _ _ _ _ _ _ _ _).mp h ⟨rfl, rfl, rfl, rfl⟩), Int.toNat_natCast]
  have hl := chk_len ht
  refine (diff_loop a b c D (by omega) (by omega) s t hl (by omega) (chk_short ht) t.length k 0 [] (by omega) (Nat.le_refl _) (by omega)).trans ?_
  cases diffsFrom D s t t.length 0 <;> rfl
/-! ### ImageRows -/
def rowsV (a b c d : Int) (s : List (List Int)) (n : Int) : List S59 × Int := if chkV a b c d s = 0 then (if n < 0 ∨ d ≤ n then ([], 2) else (rowV a b d s n.toNat, 0)) else ([], chkV a b c d s)
theorem rowI_ev (a b c d : Int) (s : List (List Int)) (n : Int) (k : Nat) (hk : 9000 ≤ k) : image_Row.f k a b c d s n = some (rowsV a b c d s n) := by
  unfold rowsV
  by_cases hc : chkV a b c d s = 0
  · rw [if_pos hc]
    by_cases hn : n < 0 ∨ d ≤ n
    · rw [if_pos hn]
      unfold image_Row.f
      rw [check9_ev _ _ _ _ _ k hk, Option.bind_some, if_pos hc, if_pos hn]
    · rw [if_neg hn]
      obtain ⟨r, rfl⟩ : ∃ r : Nat, n = (r : Int) := ⟨n.toNat, by omega⟩
      rw [Int.toNat_natCast]
      exact row9_ev hc (by omega) k hk
  · rw [if_neg hc]
    unfold image_Row.f
    rw [check9_ev _ _ _ _ _ k hk, Option.bind_some, if_neg hc]
theorem pairsR_loop {a b c d : Int} {s : List (List Int)} (hc : chkV a b c d s = 0) {r : Nat} (hr : (r : Int) < d) : ∀ (q k i : Nat), i + q = (a + b).toNat → q < k →
    twoslotref09_Pairs.l0 k (r : Int) (rowOf (fun i => (i * d.toNat + r) * 2) s i) (i : Int) a b c d s = some (rowV a b d s r) := by
  obtain ⟨hp, hn, _⟩ := chkV_zero hc
  obtain ⟨h1, h2, h3, h4, h5, h6, h7, h8⟩ := okP_bd hp
  have hw : wrap64 (a + b) = a + b := by unfold wrap64; omega
  intro q
  induction q with
  | zero =>
    intro k i hi hk
    obtain ⟨k, rfl⟩ : ∃ m, k = m + 1 := ⟨k - 1, by omega⟩
    obtain rfl : i = (a + b).toNat := by omega
    simp only [twoslotref09_Pairs.l0, twoslotref06_N.f]
    rw [Option.bind_some, hw, if_neg (by omega)]
    rfl
  | succ q ih =>
    intro k i hi hk
    obtain ⟨k, rfl⟩ : ∃ m, k = m + 1 := ⟨k - 1, by omega⟩
    have hlt : (i : Int) < a + b := by omega
    have e0 := number_ev hp (⟨(i : Int), (r : Int), 0, []⟩ : S35)
    dsimp only at e0
    rw [if_pos ⟨by omega, hlt, by omega, hr, by omega, by omega⟩] at e0
    have e1 : idxV d (⟨(i : Int), (r : Int), 0, []⟩ : S35) = (((i * d.toNat + r) * 2 : Nat) : Int) := by
      unfold idxV
      dsimp only
      obtain ⟨D, rfl⟩ : ∃ D : Nat, d = (D : Int) := ⟨d.toNat, by omega⟩
      rw [Int.toNat_natCast, Int.add_zero]
      push_cast
      rfl
    rw [e1] at e0
    clear e1
    have g2 : (i * d.toNat + r) * 2 + 2 ≤ s.length := by
      have h := (rowAt_ev hp hr hlt).2
      rw [← hn] at h
      exact Int.ofNat_le.mp h
    have e2 := rowOf_succ (fun i => (i * d.toNat + r) * 2) s i
    have hsl := chk_len hc
    have hL := rowOf_len (fun i => (i * d.toNat + r) * 2) s i
    have IH := ih k (i + 1) (by omega) (by omega)
    rw [e2] at IH
    try dsimp only at e2 IH
    simp only [twoslotref09_Pairs.l0, twoslotref06_N.f]
    rw [Option.bind_some, hw, if_pos hlt, e0, Option.bind_some]
    clear e0 hn hp ih e2
    have hir : i ≤ 8192 := by omega
    clear h1 h2 h3 h4 h5 h6 h7 h8 hlt hw hr
    generalize (i * d.toNat + r) * 2 = z at *
    have e3 : wrap64 ((z : Int) + 1) = ((z + 1 : Nat) : Int) := by unfold wrap64; omega
    have f1 : (0 : Int) ≤ (z : Int) := by omega
    have f2 : (z : Int) < (s.length : Int) := by omega
    have f3 : (0 : Int) ≤ ((z + 1 : Nat) : Int) := by omega
    have f4 : ((z + 1 : Nat) : Int) < (s.length : Int) := by omega
    have f5 : (rowOf (fun i => (i * d.toNat + r) * 2) s i).length < 2932031007402 := by rw [hL]; omega
    rw [e3, if_pos f1, if_pos f2, if_pos f3, if_pos f4, if_pos f5]
    have r1 : rd_L1 s (z : Int) = s.getD z [] := by unfold rd_L1; rw [Int.toNat_natCast]
    have r2 : rd_L1 s ((z + 1 : Nat) : Int) = s.getD (z + 1) [] := by unfold rd_L1; rw [Int.toNat_natCast]
    have e4 : wrap64 ((i : Int) + 1) = ((i + 1 : Nat) : Int) := by unfold wrap64; omega
    rw [r1, r2, e4]
    exact IH
theorem rowR_ev (a b c d : Int) (s : List (List Int)) (n : Int) (k : Nat) (hk : 200000 ≤ k) : twoslotref09_Row.f k a b c d s n = some (rowsV a b c d s n) := by
  obtain ⟨k, rfl⟩ : ∃ m, k = m + 1 := ⟨k - 1, by omega⟩
  unfold rowsV twoslotref09_Row.f
  rw [rcheck_ev _ _ _ _ _ _ (by omega), Option.bind_some]
  by_cases hc : chkV a b c d s = 0
  · rw [if_pos hc, if_pos hc]
    by_cases h1 : n < 0
    · rw [if_pos h1, if_pos (.inl h1), twoslotref09_Row.j0, if_pos rfl]
    · rw [if_neg h1, twoslotref09_Row.j0]
      by_cases h2 : d ≤ n
      · rw [decide_eq_true (show n ≥ d from h2), if_pos rfl, if_pos (.inr h2)]
      · rw [decide_eq_false (show ¬ n ≥ d from h2), if_neg (by decide), if_neg (by omega), rtwin_ev a b c d s (chk_len hc) (fun x hx => by have := chk_short hc x hx; omega) k (by omega), Option.bind_some]
        dsimp only
        obtain ⟨r, rfl⟩ : ∃ r : Nat, n = (r : Int) := ⟨n.toNat, by omega⟩
        have hb := okP_bd (chkV_zero hc).1
        unfold twoslotref09_Pairs.f
        have := pairsR_loop hc (r := r) (by omega) (a + b).toNat k 0 (by omega) (by omega)
        rw [show rowOf (fun i => (i * d.toNat + r) * 2) s 0 = [] from rfl] at this
        rw [show ((0 : Nat) : Int) = 0 from rfl] at this
        rw [this, Option.bind_some, Int.toNat_natCast]
  · rw [if_neg hc, if_neg hc]
def diffV (a b c d : Int) (s : List (List Int)) (a1 b1 c1 d1 : Int) (t : List (List Int)) : List S35 × Int :=
  if chkV a b c d s = 0 then (if chkV a1 b1 c1 d1 t = 0 then (if a = a1 ∧ b = b1 ∧ c = c1 ∧ d = d1 then (match diffsFrom d.toNat s t t.length 0 with | none => ([], 90) | some l => (l, 0)) else ([], 90)) else ([], chkV a1 b1 c1 d1 t)) else ([], chkV a b c d s)
theorem diffI_ev (a b c d : Int) (s : List (List Int)) (a1 b1 c1 d1 : Int) (t : List (List Int)) (k : Nat) (hk : 9000 ≤ k) : image_Diff.f k a b c d s a1 b1 c1 d1 t = some (diffV a b c d s a1 b1 c1 d1 t) := by
  unfold diffV
  by_cases hs : chkV a b c d s = 0
  · rw [if_pos hs]
    by_cases ht : chkV a1 b1 c1 d1 t = 0
    · rw [if_pos ht]
      by_cases hp : a = a1 ∧ b = b1 ∧ c = c1 ∧ d = d1
      · rw [if_pos hp]
        obtain ⟨rfl, rfl, rfl, rfl⟩ := hp
        exact diff9_ev hs ht k hk
      · rw [if_neg hp]
        unfold image_Diff.f
        rw [check9_ev _ _ _ _ _ k hk, Option.bind_some, if_pos hs, check9_ev _ _ _ _ _ k hk, Option.bind_some, if_pos ht, if_pos ((ne4 _ _ _ _ _ _ _ _).mpr hp)]
    · rw [if_neg ht]
      unfold image_Diff.f
      rw [check9_ev _ _ _ _ _ k hk, Option.bind_some, if_pos hs, check9_ev _ _ _ _ _ k hk, Option.bind_some, if_neg ht]
  · rw [if_neg hs]
    unfold image_Diff.f
    rw [check9_ev _ _ _ _ _ k hk, Option.bind_some, if_neg hs]
theorem diffR_loop (a b c : Int) (D : Nat) (hD : 0 < D) (hD2 : D ≤ 256) (s t : List (List Int)) (hl : t.length ≤ 8192) (hs : s.length = t.length) (ht : ∀ x ∈ t, x.length ≤ 140) (a1 b1 c1 d1 : Int) (q : Nat) : ∀ (k i : Nat) (acc : List S35), i + q = t.length → acc.length ≤ i → q < k →
    twoslotref09_Diff.l0 k acc (i : Int) a b c (D : Int) s a1 b1 c1 d1 t = some (match diffsFrom D s t q i with | none => ([], 90) | some l => (acc ++ l, 0)) := by
  induction q with
  | zero =>
    intro k i acc hi ha hk
    obtain ⟨k, rfl⟩ : ∃ m, k = m + 1 := ⟨k - 1, by omega⟩
    simp only [twoslotref09_Diff.l0, diffsFrom]
    rw [if_neg (by omega), List.append_nil]
  | succ q ih =>
    intro k i acc hi ha hk
    obtain ⟨k, rfl⟩ : ∃ m, k = m + 1 := ⟨k - 1, by omega⟩
    have hlt : i < t.length := by omega
    have e1 : rd_L1 s (i : Int) = s.getD i [] := by unfold rd_L1; rw [Int.toNat_natCast]
    have e2 : rd_L1 t (i : Int) = t.getD i [] := by unfold rd_L1; rw [Int.toNat_natCast]
    have hy : (t.getD i []).length ≤ 140 := by
      rw [List.getD_eq_getElem?_getD, List.getElem?_eq_getElem hlt]
      exact ht _ (List.getElem_mem hlt)
    simp only [twoslotref09_Diff.l0, diffsFrom]
    rw [if_pos (by omega), if_pos (by omega), if_pos (by omega), e1, e2, next9 hlt (by omega)]
    by_cases h : eqB (s.getD i []) (t.getD i []) = true
    · rw [if_pos (eqB_iff.mp h), if_pos h]
      exact ih k (i + 1) acc (by omega) (by omega) (by omega)
    · rw [if_neg (fun h2 => h (eqB_iff.mpr h2)), if_neg h]
      by_cases h0 : (t.getD i []).length = 0
      · rw [if_pos (by omega), if_pos h0]
      · rw [if_neg (by omega), if_neg h0, if_neg (by omega), if_pos (by show 0 + _ < _; omega), if_pos (by omega), List.nil_append]
        have e3 : wrap64 (Int.tdiv (i : Int) 2) = ((i / 2 : Nat) : Int) := by
          rw [Int.tdiv_eq_ediv_of_nonneg (by omega)]
          unfold wrap64
          omega
        have e4 : wrap64 (Int.tdiv ((i / 2 : Nat) : Int) (D : Int)) = ((i / 2 / D : Nat) : Int) := by
          have e5 : ((i / 2 : Nat) : Int) / (D : Int) = ((i / 2 / D : Nat) : Int) := by simp
          have := Nat.div_le_self (i / 2) D
          rw [Int.tdiv_eq_ediv_of_nonneg (by omega), e5]
          generalize i / 2 / D = z at *
          unfold wrap64
          omega
        have e6 : Int.tmod ((i / 2 : Nat) : Int) (D : Int) = ((i / 2 % D : Nat) : Int) := by
          rw [Int.tmod_eq_emod_of_nonneg (by omega)]
          simp
        have e7 : Int.tmod (i : Int) 2 = ((i % 2 : Nat) : Int) := by
          rw [Int.tmod_eq_emod_of_nonneg (by omega)]
          simp
        rw [e3, e4, e6, e7, ih k (i + 1) _ (by omega) (by rw [List.length_append]; simp; omega) (by omega)]
        cases diffsFrom D s t q (i + 1) with
        | none => rfl
        | some l => simp [putAt]
theorem diffR_ev (a b c d : Int) (s : List (List Int)) (a1 b1 c1 d1 : Int) (t : List (List Int)) (k : Nat) (hk : 9000 ≤ k) : twoslotref09_Diff.f k a b c d s a1 b1 c1 d1 t = some (diffV a b c d s a1 b1 c1 d1 t) := by
  unfold diffV twoslotref09_Diff.f
  rw [rcheck_ev _ _ _ _ _ k hk, Option.bind_some]
  by_cases hs : chkV a b c d s = 0
  · rw [if_pos hs, if_pos hs, rcheck_ev _ _ _ _ _ k hk, Option.bind_some]
    by_cases ht : chkV a1 b1 c1 d1 t = 0
    · rw [if_pos ht, if_pos ht]
      by_cases hp : a = a1 ∧ b = b1 ∧ c = c1 ∧ d = d1
      · rw [if_pos hp, if_neg (fun h => (ne4 _ _ _ _ _ _ _ _).mp h hp)]
        obtain ⟨rfl, rfl, rfl, rfl⟩ := hp
        obtain ⟨hp, hn, _⟩ := chkV_zero hs
        obtain ⟨_, hn2, _⟩ := chkV_zero ht
        obtain ⟨h1, h2, h3, h4, h5, h6, h7, h8⟩ := okP_bd hp
        obtain ⟨D, rfl⟩ : ∃ D : Nat, d = (D : Int) := ⟨d.toNat, by omega⟩
        have hl := chk_len ht
        rw [Int.toNat_natCast]
        refine (diffR_loop a b c D (by omega) (by omega) s t hl (by omega) (chk_short ht) a b c (D : Int) t.length k 0 [] (by omega) (Nat.le_refl _) (by omega)).trans ?_
        cases diffsFrom D s t t.length 0 <;> rfl
      · rw [if_neg hp, if_pos ((ne4 _ _ _ _ _ _ _ _).mpr hp)]
    · rw [if_neg ht, if_neg ht]
  · rw [if_neg hs, if_neg hs]
def blankV (a b c d : Int) : Int × Int × Int × Int × List (List Int) × Int := if okP a b c d = true then (a, b, c, d, List.replicate (nV a b d).toNat [], 0) else (0, 0, 0, 0, [], 2)
theorem blankI_ev (a b c d : Int) : image_Blank.f a b c d = some (blankV a b c d) := by
  unfold image_Blank.f layout_Drives.f blankV
  rw [Option.bind_some]
  by_cases h : okP a b c d = true
  · have := nV_bd h
    have hN : nV a b d = (a + b) * d * 2 := rfl
    rw [if_pos h, if_pos h]
    dsimp only
    rw [if_pos rfl, wrap_nV h, if_pos (by omega), if_pos (by omega)]
  · rw [if_neg h, if_neg h]
    dsimp only
    rw [if_neg (by decide)]
theorem blankR_ev (a b c d : Int) : twoslotref09_Blank.f a b c d = some (blankV a b c d) := by
  unfold twoslotref09_Blank.f twoslotref06_N.f blankV
  rw [may6_ev, Option.bind_some]
  by_cases h : okP a b c d = true
  · obtain ⟨h1, h2, h3, h4, h5, h6, h7, h8⟩ := okP_bd h
    have := nV_bd h
    have hN : nV a b d = (a + b) * d * 2 := rfl
    rw [if_pos h, if_pos h, Option.bind_some, show wrap64 (a + b) = a + b from by unfold wrap64; omega, wrap_nV h, if_pos (by omega), if_pos (by omega)]
  · rw [if_neg h, if_neg h]
theorem allE_cons (x y : List Int) (l m : List (List Int)) : allE (x :: l) (y :: m) = (eqB x y && allE l m) := rfl
theorem rsame2_loop (s t : List (List Int)) (hst : s.length = t.length) (hl : s.length ≤ 100000) (a b c d a1 b1 c1 d1 : Int) (q : Nat) : ∀ (k i : Nat), i + q = s.length → q < k → twoslotref09_Same.l0 k (i : Int) a b c d s a1 b1 c1 d1 t = some (allE (s.drop i) (t.drop i)) := by
  induction q with
  | zero =>
    intro k i hi hk
    obtain ⟨k, rfl⟩ : ∃ m, k = m + 1 := ⟨k - 1, by omega⟩
    rw [twoslotref09_Same.l0, if_neg (by omega), List.drop_of_length_le (by omega), List.drop_of_length_le (by omega)]
    rfl
  | succ q ih =>
    intro k i hi hk
    obtain ⟨k, rfl⟩ : ∃ m, k = m + 1 := ⟨k - 1, by omega⟩
    have hx : i < s.length := by omega
    have hy : i < t.length := by omega
    rw [twoslotref09_Same.l0, if_pos (by omega), if_pos (by omega), if_pos (by omega), rdL_nat hx, rdL_nat hy, next9 hx (by omega), ih k (i + 1) (by omega) (by omega), List.drop_eq_getElem_cons hx, List.drop_eq_getElem_cons hy, allE_cons]
    by_cases h : (strOfNums s[i]).toList = (strOfNums t[i]).toList
    · rw [if_pos h, eqB_iff.mpr h, Bool.true_and]
    · rw [if_neg h, show eqB s[i] t[i] = false from by rw [Bool.eq_false_iff]; exact fun h2 => h (eqB_iff.mp h2), Bool.false_and]
def smV (a b c d : Int) (s : List (List Int)) (a1 b1 c1 d1 : Int) (t : List (List Int)) : Bool := if a = a1 ∧ b = b1 ∧ c = c1 ∧ d = d1 then (if s.length = t.length then allE s t else false) else false
theorem smI_ev (a b c d : Int) (s : List (List Int)) (a1 b1 c1 d1 : Int) (t : List (List Int)) (hl : s.length ≤ 2000) (k : Nat) : image_Same.f k a b c d s a1 b1 c1 d1 t = some (smV a b c d s a1 b1 c1 d1 t) := by
  unfold smV image_Same.f
  by_cases hp : a = a1 ∧ b = b1 ∧ c = c1 ∧ d = d1
  · rw [if_pos hp, if_pos hp]
    by_cases h : s.length = t.length
    · rw [if_pos ⟨h, by omega⟩, eqF_ev _ _ _ h, if_pos h]
    · rw [if_neg (fun h2 => h h2.1), if_neg h, if_neg h]
  · rw [if_neg hp, if_neg hp]
theorem smR_ev (a b c d : Int) (s : List (List Int)) (a1 b1 c1 d1 : Int) (t : List (List Int)) (hl : s.length ≤ 2000) (k : Nat) (hk : 9000 ≤ k) : twoslotref09_Same.f k a b c d s a1 b1 c1 d1 t = some (smV a b c d s a1 b1 c1 d1 t) := by
  obtain ⟨k, rfl⟩ : ∃ m, k = m + 1 := ⟨k - 1, by omega⟩
  unfold smV twoslotref09_Same.f
  by_cases hp : a = a1 ∧ b = b1 ∧ c = c1 ∧ d = d1
  · rw [if_pos hp, if_neg (fun h => (ne4 _ _ _ _ _ _ _ _).mp h hp)]
    by_cases h : s.length = t.length
    · rw [if_pos h, show ((s.length : Int) != (t.length : Int)) = false from by rw [h]; simp, twoslotref09_Same.j0, if_neg (by decide)]
      exact rsame2_loop s t h (by omega) a b c d a1 b1 c1 d1 s.length k 0 (by omega) (by omega)
    · rw [if_neg h, show ((s.length : Int) != (t.length : Int)) = true from by rw [bne_iff_ne]; omega, twoslotref09_Same.j0, if_pos rfl]
  · rw [if_neg hp, if_pos ((ne4 _ _ _ _ _ _ _ _).mpr hp), twoslotref09_Same.j0, if_pos rfl]
theorem getD_short {s : List (List Int)} (h : ∀ x ∈ s, x.length ≤ 140) (j : Nat) : (s.getD j []).length ≤ 140 := by
  rw [List.getD_eq_getElem?_getD]
  by_cases hj : j < s.length
  · rw [List.getElem?_eq_getElem hj]
    exact h _ (List.getElem_mem hj)
  · rw [List.getElem?_eq_none (by omega)]
    exact Nat.zero_le _
theorem rowsV_short (a b c d : Int) (s : List (List Int)) (n : Int) : (∀ x ∈ (rowsV a b c d s n).1, x.f0.length ≤ 140 ∧ x.f1.length ≤ 140) ∧ (rowsV a b c d s n).1.length ≤ 1000 := by
  unfold rowsV
  by_cases hc : chkV a b c d s = 0
  · rw [if_pos hc]
    by_cases hn : n < 0 ∨ d ≤ n
    · rw [if_pos hn]
      exact ⟨fun x hx => (nomatch hx), Nat.zero_le _⟩
    · rw [if_neg hn]
      have hb := okP_bd (chkV_zero hc).1
      refine ⟨fun x hx => ?_, by show (rowV a b d s n.toNat).length ≤ 1000; rw [rowV_len]; omega⟩
      obtain ⟨i, hi, rfl⟩ := List.mem_iff_getElem.mp hx
      have e := rowV_get a b d s n.toNat i hi
      rw [e]
      exact ⟨getD_short (chk_short hc) _, getD_short (chk_short hc) _⟩
  · rw [if_neg hc]
    exact ⟨fun x hx => (nomatch hx), Nat.zero_le _⟩
theorem row2_short {rs : List S59} (h : ∀ x ∈ rs, x.f0.length ≤ 140 ∧ x.f1.length ≤ 140) (m : Nat) : (row2 rs m).length ≤ 140 := by
  unfold row2
  have key : (rs.getD (m / 2) z59).f0.length ≤ 140 ∧ (rs.getD (m / 2) z59).f1.length ≤ 140 := by
    rw [List.getD_eq_getElem?_getD]
    by_cases hj : m / 2 < rs.length
    · rw [List.getElem?_eq_getElem hj]
      exact h _ (List.getElem_mem hj)
    · rw [List.getElem?_eq_none (by omega)]
      exact ⟨Nat.zero_le _, Nat.zero_le _⟩
  split
  · exact key.1
  · exact key.2
theorem diffV_short (a b c d : Int) (s : List (List Int)) (a1 b1 c1 d1 : Int) (t : List (List Int)) : (∀ x ∈ (diffV a b c d s a1 b1 c1 d1 t).1, x.f3.length ≤ 140) ∧ (diffV a b c d s a1 b1 c1 d1 t).1.length ≤ 8192 := by
  have nil : ∀ e : Int, (∀ x ∈ ((([] : List S35), e) : List S35 × Int).1, x.f3.length ≤ 140) ∧ ((([] : List S35), e) : List S35 × Int).1.length ≤ 8192 := fun e => ⟨fun x hx => (nomatch hx), Nat.zero_le _⟩
  unfold diffV
  by_cases hs : chkV a b c d s = 0
  · rw [if_pos hs]
    by_cases ht : chkV a1 b1 c1 d1 t = 0
    · rw [if_pos ht]
      by_cases hp : a = a1 ∧ b = b1 ∧ c = c1 ∧ d = d1
      · rw [if_pos hp]
        cases hd : diffsFrom d.toNat s t t.length 0 with
        | none => exact nil 90
        | some l =>
          dsimp only
          have h1 := diffs_len d.toNat s t _ _ _ hd
          have h2 := chk_len ht
          refine ⟨fun x hx => ?_, by omega⟩
          obtain ⟨j, _, _, _, rfl⟩ := (diffs_mem d.toNat s t _ _ _ hd x).mp hx
          exact getD_short (chk_short ht) j
      · rw [if_neg hp]; exact nil _
    · rw [if_neg ht]; exact nil _
  · rw [if_neg hs]; exact nil _
theorem put_short {l : List S35} (h : ∀ x ∈ l, x.f3.length ≤ 140) (m : Nat) : (l.getD m z35).f3.length ≤ 140 := by
  rw [List.getD_eq_getElem?_getD]
  by_cases hj : m < l.length
  · rw [List.getElem?_eq_getElem hj]
    exact h _ (List.getElem_mem hj)
  · rw [List.getElem?_eq_none (by omega)]
    exact Nat.zero_le _
theorem pairs_refl (x : List S59) (hl : x.length ≤ 1000) (k : Nat) (hk : 9000 ≤ k) : twoslotref09_SamePairs.f k x x = some true := by
  rw [pairs_ev x x rfl hl k hk]
  refine congrArg some ((allP_iff x x rfl).mpr (fun i hx hy => ?_))
  unfold eqP
  rw [eqB_refl, eqB_refl]
  rfl
end Go.Proofs.Ytcnmocbiekfpbaa.P

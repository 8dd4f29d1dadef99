import Derived.Test.YtcnmocbiekfpbaaP9V
import Derived.Test.YtcnmocbiekfpbaaPx19
import Derived.Test.YtcnmocbiekfpbaaPx20
import Derived.Test.YtcnmocbiekfpbaaPx21
import Derived.Test.YtcnmocbiekfpbaaPx22
import Derived.Test.YtcnmocbiekfpbaaPx23
import Derived.Test.YtcnmocbiekfpbaaPx24
import Derived.Test.YtcnmocbiekfpbaaPx25
namespace Go.Proofs.Ytcnmocbiekfpbaa.P
open Go.RowKit Go.Proofs.YtcnmocbiekfpbaaW.PrintWords Go.Proofs.YtcnmocbiekfpbaaW.PrintLast Go.Proofs.YtcnmocbiekfpbaaW.PrintMore
attribute [local go_sem] max2_int min2_int max_two min_two max_three min_three max_four min_four
set_option linter.unusedVariables false
set_option linter.unusedSimpArgs false
/-! ### ImageSteps -/
def hvV (l : List S35) : Bool := decide (200 < l.length) || l.any (fun x => decide (5000 < x.f3.length))
theorem heavy_loop (l : List S35) (hl : l.length ≤ 200) (q : Nat) : ∀ (k i : Nat), i + q = l.length → q < k → twoslotlaw09_heavy.l0 k l (i : Int) = some ((l.drop i).any (fun x => decide (5000 < x.f3.length))) := by
  induction q with
  | zero =>
    intro k i hi hk
    obtain ⟨k, rfl⟩ : ∃ m, k = m + 1 := ⟨k - 1, by omega⟩
    simp only [twoslotlaw09_heavy.l0]
    rw [if_neg (by omega), List.drop_of_length_le (by omega)]
    rfl
  | succ q ih =>
    intro k i hi hk
    obtain ⟨k, rfl⟩ : ∃ m, k = m + 1 := ⟨k - 1, by omega⟩
    have hlt : i < l.length := by omega
    simp only [twoslotlaw09_heavy.l0]
    rw [if_pos (by omega), if_pos (by omega), rdT_nat hlt, next9 hlt (by omega), ih k (i + 1) (by omega) (by omega), List.drop_eq_getElem_cons hlt, List.any_cons]
    by_cases h : ((l[i].f3.length : Nat) : Int) > 5000
    · rw [if_pos h, decide_eq_true (by omega), Bool.true_or]
    · rw [if_neg h, decide_eq_false (by omega), Bool.false_or]
theorem heavy9_ev (l : List S35) (k : Nat) (hk : 9000 ≤ k) : twoslotlaw09_heavy.f k l = some (hvV l) := by
  unfold twoslotlaw09_heavy.f hvV
  by_cases h : (l.length : Int) > 200
  · rw [if_pos h, decide_eq_true (by omega), Bool.true_or]
  · rw [if_neg h, decide_eq_false (by omega), Bool.false_or]
    exact heavy_loop l (by omega) l.length k 0 (by omega) (by omega)
/-! ### The document's functions -/
theorem may6_ev (a b c d : Int) : twoslotref06_May.f a b c d = some (okP a b c d) := by
  unfold twoslotref06_May.f okP
  by_cases h1 : a ≥ 1
  · rw [if_pos h1]
    by_cases h2 : a ≤ 12
    · rw [if_pos h2]
      by_cases h3 : b ≥ 0
      · rw [if_pos h3]
        by_cases h4 : b ≤ 4
        · rw [if_pos h4]
          by_cases h5 : c ≥ 8
          · rw [if_pos h5]
            by_cases h6 : c ≤ 64
            · rw [if_pos h6]
              have l0 : 0 ≤ a * c := Int.mul_nonneg (by omega) (by omega)
              have l1 : a * c ≤ 12 * 64 := Int.mul_le_mul h2 h6 (by omega) (by omega)
              rw [show wrap64 (a * c) = a * c from by unfold wrap64; omega]
              by_cases h7 : a * c ≥ 32
              · rw [if_pos h7]
                by_cases h8 : d ≥ 8
                · rw [if_pos h8]
                  by_cases h9 : d ≤ 256
                  · rw [decide_eq_true h9, decide_eq_true (by omega)]
                  · rw [decide_eq_false h9, decide_eq_false (by omega)]
                · rw [if_neg h8, decide_eq_false (by omega)]
              · rw [if_neg h7, decide_eq_false (by omega)]
            · rw [if_neg h6, decide_eq_false (by omega)]
          · rw [if_neg h5, decide_eq_false (by omega)]
        · rw [if_neg h4, decide_eq_false (by omega)]
      · rw [if_neg h3, decide_eq_false (by omega)]
    · rw [if_neg h2, decide_eq_false (by omega)]
  · rw [if_neg h1, decide_eq_false (by omega)]
theorem size6_ev {a b c d : Int} (h : okP a b c d = true) : twoslotref06_Size.f a b c d = some (szV a b c) := by
  obtain ⟨h1, h2, h3, h4, h5, h6, h7, h8⟩ := okP_bd h
  unfold twoslotref06_Size.f twoslotref06_N.f szV
  rw [Option.bind_some, show wrap64 (a + b) = a + b from by unfold wrap64; omega, show wrap64 (4 * (a + b)) = 4 * (a + b) from by unfold wrap64; omega, show wrap64 (12 + 4 * (a + b)) = 12 + 4 * (a + b) from by unfold wrap64; omega, show wrap64 (12 + 4 * (a + b) + c) = 12 + 4 * (a + b) + c from by unfold wrap64; omega]
theorem rcheck_loop {a b c d : Int} (hk : okP a b c d = true) (sl : List (List Int)) (hl : sl.length ≤ 8192) (q : Nat) : ∀ (k i : Nat), i + q = sl.length → q < k →
    twoslotref09_Check.l0 k (i : Int) a b c d sl = some (if (sl.drop i).all (okS (szV a b c)) = true then 0 else 90) := by
  induction q with
  | zero =>
    intro k i hi hk2
    obtain ⟨k, rfl⟩ : ∃ m, k = m + 1 := ⟨k - 1, by omega⟩
    rw [twoslotref09_Check.l0, if_neg (by omega), List.drop_of_length_le (by omega)]
    rfl
  | succ q ih =>
    intro k i hi hk2
    obtain ⟨k, rfl⟩ : ∃ m, k = m + 1 := ⟨k - 1, by omega⟩
    have hlt : i < sl.length := by omega
    have hd : sl.drop i = sl[i] :: sl.drop (i + 1) := List.drop_eq_getElem_cons hlt
    rw [twoslotref09_Check.l0, if_pos (by omega), if_pos (by omega), rdL_nat hlt, next9 hlt (by omega), size6_ev hk, Option.bind_some, ih k (i + 1) (by omega) (by omega), hd, List.all_cons]
    by_cases h0 : (sl[i].length : Int) = 0
    · rw [if_pos h0, show okS (szV a b c) sl[i] = true from decide_eq_true (.inl h0), Bool.true_and]
    · rw [if_neg h0]
      by_cases h1 : (sl[i].length : Int) = szV a b c
      · rw [if_pos h1, show okS (szV a b c) sl[i] = true from decide_eq_true (.inr h1), Bool.true_and]
      · rw [if_neg h1, show okS (szV a b c) sl[i] = false from decide_eq_false (by omega), Bool.false_and, if_neg (by decide)]
theorem rcheck_ev (a b c d : Int) (sl : List (List Int)) (k : Nat) (hk : 9000 ≤ k) : twoslotref09_Check.f k a b c d sl = some (chkV a b c d sl) := by
  unfold twoslotref09_Check.f twoslotref06_N.f chkV
  rw [may6_ev, Option.bind_some]
  by_cases h : okP a b c d = true
  · obtain ⟨h1, h2, h3, h4, h5, h6, h7, h8⟩ := okP_bd h
    rw [if_pos h, if_pos h, Option.bind_some, show wrap64 (a + b) = a + b from by unfold wrap64; omega, wrap_nV h]
    by_cases hl : (sl.length : Int) = nV a b d
    · have := nV_bd h
      rw [if_pos hl, if_pos hl]
      refine (rcheck_loop h sl (by unfold nV at hl; omega) sl.length k 0 (by omega) (by unfold nV at hl; omega)).trans ?_
      rw [List.drop_zero]
    · rw [if_neg hl, if_neg hl]
  · rw [if_neg h, if_neg h]
theorem rtwin_loop (sl : List (List Int)) (hl : sl.length ≤ 8192) (hs : ∀ x ∈ sl, x.length < 140737488355328) (a b c d a1 b1 c1 d1 : Int) (q : Nat) : ∀ (k i : Nat) (out : List (List Int)), i + q = sl.length → out = sl.take i → q < k →
    twoslotref09_Twin.l0 k (i : Int) a b c d sl a1 b1 c1 d1 out = some (a1, b1, c1, d1, sl) := by
  induction q with
  | zero =>
    intro k i out hi ho hk2
    obtain ⟨k, rfl⟩ : ∃ m, k = m + 1 := ⟨k - 1, by omega⟩
    rw [twoslotref09_Twin.l0, if_neg (by omega), ho, List.take_of_length_le (by omega)]
  | succ q ih =>
    intro k i out hi ho hk2
    obtain ⟨k, rfl⟩ : ∃ m, k = m + 1 := ⟨k - 1, by omega⟩
    have hlt : i < sl.length := by omega
    have hx := hs _ (List.getElem_mem hlt)
    have hol : out.length = i := by rw [ho, List.length_take]; omega
    rw [twoslotref09_Twin.l0, if_pos (by omega), if_pos (by omega), rdL_nat hlt, if_pos (by simpa using hx), if_pos (by omega), next9 hlt (by omega)]
    exact ih k (i + 1) _ (by omega) (by rw [List.take_succ_eq_append_getElem hlt, ho]; rfl) (by omega)
theorem rtwin_ev (a b c d : Int) (sl : List (List Int)) (hl : sl.length ≤ 8192) (hs : ∀ x ∈ sl, x.length < 140737488355328) (k : Nat) (hk : 9000 ≤ k) : twoslotref09_Twin.f k a b c d sl = some (a, b, c, d, sl) := by
  unfold twoslotref09_Twin.f
  exact rtwin_loop sl hl hs a b c d a b c d sl.length k 0 [] (by omega) rfl (by omega)
theorem rtwinp_loop (l : List S35) (hl : l.length ≤ 8192) (hs : ∀ x ∈ l, x.f3.length < 140737488355328) (q : Nat) : ∀ (k i : Nat) (out : List S35), i + q = l.length → out = l.take i → q < k →
    twoslotref09_TwinPuts.l0 k l out (i : Int) = some l := by
  induction q with
  | zero =>
    intro k i out hi ho hk2
    obtain ⟨k, rfl⟩ : ∃ m, k = m + 1 := ⟨k - 1, by omega⟩
    rw [twoslotref09_TwinPuts.l0, if_neg (by omega), ho, List.take_of_length_le (by omega)]
  | succ q ih =>
    intro k i out hi ho hk2
    obtain ⟨k, rfl⟩ : ∃ m, k = m + 1 := ⟨k - 1, by omega⟩
    have hlt : i < l.length := by omega
    have hx := hs _ (List.getElem_mem hlt)
    have hol : out.length = i := by rw [ho, List.length_take]; omega
    rw [twoslotref09_TwinPuts.l0, if_pos (by omega), if_pos (by omega), rdT_nat hlt, if_pos (by simpa using hx), if_pos (by omega), next9 hlt (by omega)]
    exact ih k (i + 1) _ (by omega) (by rw [List.take_succ_eq_append_getElem hlt, ho]; rfl) (by omega)
theorem rtwinp_ev (l : List S35) (hl : l.length ≤ 8192) (hs : ∀ x ∈ l, x.f3.length < 140737488355328) (k : Nat) (hk : 9000 ≤ k) : twoslotref09_TwinPuts.f k l = some l := by
  unfold twoslotref09_TwinPuts.f
  exact rtwinp_loop l hl hs l.length k 0 [] (by omega) rfl (by omega)
theorem number_ev {a b c d : Int} (hp : okP a b c d = true) (x : S35) : twoslotref09_Number.f a b c d x.f0 x.f1 x.f2 = some (if 0 ≤ x.f0 ∧ x.f0 < a + b ∧ 0 ≤ x.f1 ∧ x.f1 < d ∧ 0 ≤ x.f2 ∧ x.f2 < 2 then idxV d x else -1) := by
  obtain ⟨h1, h2, h3, h4, h5, h6, h7, h8⟩ := okP_bd hp
  unfold twoslotref09_Number.f twoslotref06_N.f
  rw [Option.bind_some, show wrap64 (a + b) = a + b from by unfold wrap64; omega]
  by_cases g1 : x.f0 < 0
  · rw [if_pos g1, if_neg (by omega)]
  · rw [if_neg g1]
    by_cases g2 : x.f0 ≥ a + b
    · rw [if_pos g2, if_neg (by omega)]
    · rw [if_neg g2]
      by_cases g3 : x.f1 < 0
      · rw [if_pos g3, if_neg (by omega)]
      · rw [if_neg g3]
        by_cases g4 : x.f1 ≥ d
        · rw [if_pos g4, if_neg (by omega)]
        · rw [if_neg g4]
          by_cases g5 : x.f2 < 0
          · rw [if_pos g5, if_neg (by omega)]
          · rw [if_neg g5]
            by_cases g6 : x.f2 > 1
            · rw [if_pos g6, if_neg (by omega)]
            · rw [if_neg g6, if_pos (by omega)]
              have l0 : 0 ≤ x.f0 * d := Int.mul_nonneg (by omega) (by omega)
              have l1 : x.f0 * d ≤ (a + b - 1) * d := Int.mul_le_mul_of_nonneg_right (by omega) (by omega)
              have l2 : (a + b - 1) * d = (a + b) * d - d := by rw [Int.sub_mul, Int.one_mul]
              have l3 := nV_bd hp
              unfold idxV
              rw [show wrap64 (x.f0 * d) = x.f0 * d from by unfold wrap64; omega, show wrap64 (x.f0 * d + x.f1) = x.f0 * d + x.f1 from by unfold wrap64; omega, show wrap64 ((x.f0 * d + x.f1) * 2) = (x.f0 * d + x.f1) * 2 from by unfold wrap64; omega, show wrap64 ((x.f0 * d + x.f1) * 2 + x.f2) = (x.f0 * d + x.f1) * 2 + x.f2 from by unfold wrap64; omega]
theorem rmay_ev {a b c d : Int} (hp : okP a b c d = true) (x : S35) : twoslotref09_May.f a b c d x.f0 x.f1 x.f2 x.f3 = some (mayV a b c d x) := by
  obtain ⟨h1, h2, h3, h4, h5, h6, h7, h8⟩ := okP_bd hp
  unfold twoslotref09_May.f mayV
  rw [number_ev hp, Option.bind_some]
  by_cases g : 0 ≤ x.f0 ∧ x.f0 < a + b ∧ 0 ≤ x.f1 ∧ x.f1 < d ∧ 0 ≤ x.f2 ∧ x.f2 < 2
  · have l0 : 0 ≤ x.f0 * d := Int.mul_nonneg (by omega) (by omega)
    rw [if_pos g, if_pos (show idxV d x ≥ 0 by unfold idxV; omega), size6_ev hp, Option.bind_some]
    by_cases g6 : (x.f3.length : Int) = szV a b c
    · rw [g6, beq_self_eq_true, decide_eq_true (by omega)]
    · rw [beq_false_of_ne g6, decide_eq_false (by omega)]
  · rw [if_neg g, if_neg (by omega), decide_eq_false (by omega)]
theorem rafter_l1 {a b c d : Int} {sl : List (List Int)} (hc : chkV a b c d sl = 0) (l : List S35) (hm : ∀ x ∈ l, mayV a b c d x = true) (hl6 : l.length ≤ 65536) (N : Nat) (hN : N ≤ l.length) (m : List (List Int)) : ∀ (q k i : Nat), i + q = N → q < k →
    twoslotref09_After.l1 k l (N : Int) (i : Int) a b c d m a b c d (putsV d (l.take i) sl) = some (a, b, c, d, putsV d (l.take N) sl, 0) := by
  obtain ⟨hp, hn, _⟩ := chkV_zero hc
  intro q
  induction q with
  | zero =>
    intro k i hi hk
    obtain rfl : i = N := by omega
    obtain ⟨k, rfl⟩ : ∃ m, k = m + 1 := ⟨k - 1, by omega⟩
    rw [twoslotref09_After.l1, if_neg (by omega)]
  | succ q ih =>
    intro k i hi hk
    obtain ⟨k, rfl⟩ : ∃ m, k = m + 1 := ⟨k - 1, by omega⟩
    have hlt : i < l.length := by omega
    have hx := hm l[i] (List.getElem_mem hlt)
    obtain ⟨g1, g2, g3, g4, g5, g6, g7⟩ := mayV_bd hx
    obtain ⟨b0, b1, b2, b3⟩ := idx_bd hp hx
    have hsz := szV_bd hp
    have hpl := putsV_len d (l.take i) sl
    rw [twoslotref09_After.l1, if_pos (by omega), if_pos (by omega), if_pos (by omega), rdT_nat hlt, number_ev hp, if_pos ⟨g1, g2, g3, g4, g5, g6⟩, Option.bind_some, if_pos (by show 0 + _ < _; omega), if_pos b2, if_pos (by omega), next9 hlt (by omega)]
    have e : (putsV d (l.take i) sl).set (idxV d l[i]).toNat (([] : List Int) ++ l[i].f3) = putsV d (l.take (i + 1)) sl := by
      rw [List.take_succ_eq_append_getElem hlt, putsV_end]
      rfl
    rw [e]
    exact ih k (i + 1) (by omega) (by omega)
theorem rafter_l0 {a b c d : Int} {sl : List (List Int)} (hc : chkV a b c d sl = 0) (l : List S35) (hl6 : l.length ≤ 65536) (n : Int) : ∀ (q k i : Nat), i + q = l.length → 100000 + q ≤ k → (∀ x ∈ l.take i, mayV a b c d x = true) →
    twoslotref09_After.l0 k l n (i : Int) a b c d sl = some (if (l.drop i).all (mayV a b c d) = true then (if n < 0 ∨ (l.length : Int) < n then (0, 0, 0, 0, [], 2) else (a, b, c, d, putsV d (l.take n.toNat) sl, 0)) else (0, 0, 0, 0, [], 80)) := by
  obtain ⟨hp, hn, _⟩ := chkV_zero hc
  intro q
  induction q with
  | zero =>
    intro k i hi hk ht
    have hall : ∀ x ∈ l, mayV a b c d x = true := by rwa [List.take_of_length_le (by omega)] at ht
    have hd : (l.drop i).all (mayV a b c d) = true := by rw [List.drop_of_length_le (by omega)]; rfl
    obtain ⟨k, rfl⟩ : ∃ m, k = m + 2 := ⟨k - 2, by omega⟩
    rw [if_pos hd, twoslotref09_After.l0, if_neg (by omega)]
    by_cases h1 : n < 0
    · rw [if_pos h1, if_pos (.inl h1), twoslotref09_After.j1, if_pos rfl]
    · rw [if_neg h1, twoslotref09_After.j1]
      by_cases h2 : (l.length : Int) < n
      · rw [decide_eq_true (show n > (l.length : Int) from h2), if_pos rfl, if_pos (.inr h2)]
      · rw [decide_eq_false (show ¬ n > (l.length : Int) from h2), if_neg (by decide), if_neg (by omega)]
        have hsl := chk_len hc
        rw [rtwin_ev a b c d sl hsl (fun x hx => by have := chk_short hc x hx; omega) k (by omega), Option.bind_some]
        dsimp only
        obtain ⟨N, rfl⟩ : ∃ N : Nat, n = (N : Int) := ⟨n.toNat, by omega⟩
        rw [Int.toNat_natCast]
        exact rafter_l1 hc l hall hl6 N (by omega) sl N k 0 (by omega) (by omega)
  | succ q ih =>
    intro k i hi hk ht
    obtain ⟨k, rfl⟩ : ∃ m, k = m + 1 := ⟨k - 1, by omega⟩
    have hlt : i < l.length := by omega
    rw [twoslotref09_After.l0, if_pos (by omega), if_pos (by omega), rdT_nat hlt, rmay_ev hp, Option.bind_some, next9 hlt (by omega), List.drop_eq_getElem_cons hlt, List.all_cons]
    cases hx : mayV a b c d l[i] with
    | true =>
      rw [if_pos rfl, Bool.true_and]
      refine ih k (i + 1) (by omega) (by omega) (fun x h => ?_)
      rw [List.take_succ_eq_append_getElem hlt] at h
      rcases List.mem_append.mp h with h | h
      · exact ht x h
      · rw [List.mem_singleton.mp h]; exact hx
    | false => rw [if_neg (by decide), Bool.false_and, if_neg (by decide)]
theorem rafter_ev (a b c d : Int) (sl : List (List Int)) (l : List S35) (n : Int) (k : Nat) (hk : 200000 ≤ k) : twoslotref09_After.f k a b c d sl l n = some (afterV a b c d sl l n) := by
  unfold twoslotref09_After.f afterV
  rw [rcheck_ev _ _ _ _ _ k (by omega), Option.bind_some]
  by_cases hc : chkV a b c d sl = 0
  · rw [if_pos hc, if_pos hc]
    by_cases h1 : 65536 < l.length
    · rw [if_pos (by omega), if_pos h1]
    · rw [if_neg (by omega), if_neg h1]
      refine (rafter_l0 hc l (by omega) n l.length k 0 (by omega) (by omega) (fun x hx => by cases hx)).trans ?_
      rw [List.drop_zero]
  · rw [if_neg hc, if_neg hc]
theorem rput_ev (a b c d : Int) (sl : List (List Int)) (x : S35) (k : Nat) (hk : 200000 ≤ k) : twoslotref09_Put.f k a b c d sl x.f0 x.f1 x.f2 x.f3 = some (afterV a b c d sl [x] 1) := by
  unfold twoslotref09_Put.f
  rw [rafter_ev _ _ _ _ _ _ _ k hk, Option.bind_some]
theorem wipeF_end {α : Type} (z : α) : ∀ (c : Nat) (xs : List α) (i : Nat), wipeF z xs i (c + 1) = (wipeF z xs i c).set (i + c) z
  | 0, xs, i => rfl
  | c + 1, xs, i => by
    rw [wipeF, wipeF_end z c (xs.set i z) (i + 1), wipeF, show i + 1 + c = i + (c + 1) by omega]
theorem w2D (D : Nat) (hD : D ≤ 256) : wrap64 (2 * (D : Int)) = ((2 * D : Nat) : Int) := by unfold wrap64; omega
theorem wix9 (m D i L : Nat) (hL : L ≤ 8192) (hb : m * (2 * D) + i ≤ L) : wrap64 (wrap64 (wrap64 ((m : Int) * (D : Int)) * 2) + (i : Int)) = ((m * (2 * D) + i : Nat) : Int) := by
  have e0 : ((m : Int) * (D : Int)) = ((m * D : Nat) : Int) := by push_cast; rfl
  have e1 : m * (2 * D) = m * D * 2 := by rw [Nat.mul_comm 2 D, Nat.mul_assoc]
  rw [e0, e1]
  rw [e1] at hb
  generalize m * D = z at *
  unfold wrap64
  omega
theorem wnext (i : Nat) (h : i ≤ 100000) : wrap64 ((i : Int) + 1) = ((i + 1 : Nat) : Int) := by unfold wrap64; omega
theorem rwiped_l0 {a b c : Int} (D m : Nat) (hD : D ≤ 256) (hm : m ≤ 100) (sl : List (List Int)) (hsl : sl.length ≤ 8192) (hb : m * (2 * D) + 2 * D ≤ sl.length) (t : List (List Int)) : ∀ (q k i : Nat), i + q = 2 * D → q < k →
    twoslotref09_Wiped.l0 k (m : Int) (i : Int) a b c (D : Int) t a b c (D : Int) (wipeF [] sl (m * (2 * D)) i) = some (a, b, c, (D : Int), wipeF [] sl (m * (2 * D)) (2 * D), 0) := by
  intro q
  induction q with
  | zero =>
    intro k i hi hk
    obtain rfl : i = 2 * D := by omega
    obtain ⟨k, rfl⟩ : ∃ m, k = m + 1 := ⟨k - 1, by omega⟩
    rw [twoslotref09_Wiped.l0, w2D D hD, if_neg (by omega)]
  | succ q ih =>
    intro k i hi hk
    obtain ⟨k, rfl⟩ : ∃ m, k = m + 1 := ⟨k - 1, by omega⟩
    have hwl := wipeF_len ([] : List Int) i sl (m * (2 * D))
    rw [twoslotref09_Wiped.l0, w2D D hD, if_pos (by omega), wix9 m D i sl.length hsl (by omega), if_pos (by omega), if_pos (by omega), wnext i (by omega), Int.toNat_natCast, ← wipeF_end]
    exact ih k (i + 1) (by omega) (by omega)
theorem rwiped_ev (a b c d : Int) (sl : List (List Int)) (n : Int) (k : Nat) (hk : 20000 ≤ k) : twoslotref09_Wiped.f k a b c d sl n = some (wipedV a b c d sl n) := by
  obtain ⟨k, rfl⟩ : ∃ m, k = m + 1 := ⟨k - 1, by omega⟩
  unfold twoslotref09_Wiped.f twoslotref06_N.f wipedV
  rw [rcheck_ev _ _ _ _ _ _ (by omega), Option.bind_some]
  by_cases hc : chkV a b c d sl = 0
  · obtain ⟨hp, hn, _⟩ := chkV_zero hc
    obtain ⟨h1, h2, h3, h4, h5, h6, h7, h8⟩ := okP_bd hp
    have hl := chk_len hc
    rw [if_pos hc, if_pos hc, Option.bind_some, show wrap64 (a + b) = a + b from by unfold wrap64; omega]
    by_cases g1 : n < 0
    · rw [if_pos g1, if_pos (.inl g1), twoslotref09_Wiped.j0, if_pos rfl]
    · rw [if_neg g1, twoslotref09_Wiped.j0]
      by_cases g2 : a + b ≤ n
      · rw [decide_eq_true (show n ≥ a + b from g2), if_pos rfl, if_pos (.inr g2)]
      · rw [decide_eq_false (show ¬ n ≥ a + b from g2), if_neg (by decide), if_neg (by omega), rtwin_ev a b c d sl hl (fun x hx => by have := chk_short hc x hx; omega) k (by omega), Option.bind_some]
        dsimp only
        obtain ⟨D, rfl⟩ : ∃ D : Nat, d = (D : Int) := ⟨d.toNat, by omega⟩
        obtain ⟨m, rfl⟩ : ∃ m : Nat, n = (m : Int) := ⟨n.toNat, by omega⟩
        have l1 : (m : Int) * (D : Int) ≤ (a + b - 1) * (D : Int) := Int.mul_le_mul_of_nonneg_right (by omega) (by omega)
        have l2 : (a + b - 1) * (D : Int) = (a + b) * (D : Int) - D := by rw [Int.sub_mul, Int.one_mul]
        have l3 : ((m * D : Nat) : Int) = (m : Int) * (D : Int) := by push_cast; rfl
        have e1 : m * (2 * D) = m * D * 2 := by rw [Nat.mul_comm 2 D, Nat.mul_assoc]
        have hb : m * (2 * D) + 2 * D ≤ sl.length := by
          rw [e1]
          unfold nV at hn
          omega
        have e2 : wipeV (D : Int) (m : Int) sl = wipeF [] sl (m * (2 * D)) (2 * D) := by
          unfold wipeV
          rw [show ((m : Int) * (2 * (D : Int))) = ((m * (2 * D) : Nat) : Int) by push_cast; rfl, Int.toNat_natCast, show (2 * (D : Int)).toNat = 2 * D by omega]
        rw [e2]
        exact rwiped_l0 D m (by omega) (by omega) sl hl hb sl (2 * D) k 0 (by omega) (by omega)
  · rw [if_neg hc, if_neg hc]
theorem rsame_loop (s : List (List Int)) (hl : s.length ≤ 100000) (a b c d a1 b1 c1 d1 : Int) (q : Nat) : ∀ (k i : Nat), i + q = s.length → q < k → twoslotref09_Same.l0 k (i : Int) a b c d s a1 b1 c1 d1 s = some true := by
  induction q with
  | zero =>
    intro k i hi hk
    obtain ⟨k, rfl⟩ : ∃ m, k = m + 1 := ⟨k - 1, by omega⟩
    rw [twoslotref09_Same.l0, if_neg (by omega)]
  | succ q ih =>
    intro k i hi hk
    obtain ⟨k, rfl⟩ : ∃ m, k = m + 1 := ⟨k - 1, by omega⟩
    rw [twoslotref09_Same.l0, if_pos (by omega), if_pos (by omega), if_pos (by omega), if_pos rfl, next9 (show i < s.length by omega) (by omega)]
    exact ih k (i + 1) (by omega) (by omega)
theorem rsame_refl (a b c d : Int) (s : List (List Int)) (hl : s.length ≤ 100000) (k : Nat) (hk : 200000 ≤ k) : twoslotref09_Same.f k a b c d s a b c d s = some true := by
  obtain ⟨k, rfl⟩ : ∃ m, k = m + 1 := ⟨k - 1, by omega⟩
  unfold twoslotref09_Same.f
  rw [if_neg (by simp), show ((s.length : Int) != (s.length : Int)) = false from by simp, twoslotref09_Same.j0, if_neg (by decide)]
  exact rsame_loop s hl a b c d a b c d s.length k 0 (by omega) (by omega)
theorem rsamep_loop (l : List S35) (hl : l.length ≤ 100000) (q : Nat) : ∀ (k i : Nat), i + q = l.length → q < k → twoslotref09_SamePuts.l0 k l l (i : Int) = some true := by
  induction q with
  | zero =>
    intro k i hi hk
    obtain ⟨k, rfl⟩ : ∃ m, k = m + 1 := ⟨k - 1, by omega⟩
    rw [twoslotref09_SamePuts.l0, if_neg (by omega)]
  | succ q ih =>
    intro k i hi hk
    obtain ⟨k, rfl⟩ : ∃ m, k = m + 1 := ⟨k - 1, by omega⟩
    rw [twoslotref09_SamePuts.l0, if_pos (by omega), if_pos (by omega), if_pos (by omega), if_pos rfl, if_pos rfl, if_pos rfl, if_pos rfl, next9 (show i < l.length by omega) (by omega)]
    exact ih k (i + 1) (by omega) (by omega)
theorem rsamep_refl (l : List S35) (hl : l.length ≤ 100000) (k : Nat) (hk : 200000 ≤ k) : twoslotref09_SamePuts.f k l l = some true := by
  unfold twoslotref09_SamePuts.f
  rw [if_pos rfl]
  exact rsamep_loop l hl l.length k 0 (by omega) (by omega)
theorem scratch_loop (N : Nat) (hN : N ≤ 100000) (q : Nat) : ∀ (k i : Nat) (x : List Int), x.length = N → i + q = N → q < k → twoslotlaw09_scratch.l0 k x (i : Int) = some () := by
  induction q with
  | zero =>
    intro k i x hx hi hk
    obtain ⟨k, rfl⟩ : ∃ m, k = m + 1 := ⟨k - 1, by omega⟩
    rw [twoslotlaw09_scratch.l0, if_neg (by omega), Option.bind_some, if_pos (by show x.length + 8 < _; omega), if_pos (by rw [List.length_append]; simp; omega)]
  | succ q ih =>
    intro k i x hx hi hk
    obtain ⟨k, rfl⟩ : ∃ m, k = m + 1 := ⟨k - 1, by omega⟩
    rw [twoslotlaw09_scratch.l0, if_pos (by omega), if_pos (by omega), next9 (show i < N by omega) (by omega)]
    exact ih k (i + 1) _ (by rw [List.length_set]; exact hx) (by omega) (by omega)
theorem scratch_ev (x : List Int) (hx : x.length ≤ 100000) (k : Nat) (hk : 200000 ≤ k) : twoslotlaw09_scratch.f k x = some () := by
  unfold twoslotlaw09_scratch.f
  exact scratch_loop x.length hx x.length k 0 x rfl (by omega) (by omega)
end Go.Proofs.Ytcnmocbiekfpbaa.P

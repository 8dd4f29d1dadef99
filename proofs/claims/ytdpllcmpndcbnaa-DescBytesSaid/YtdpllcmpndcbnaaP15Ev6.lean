import Derived.Test.YtdpllcmpndcbnaaP15Ev2
import Derived.Test.YtdpllcmpndcbnaaPx10
import Derived.Test.YtdpllcmpndcbnaaPx11
import Derived.Test.YtdpllcmpndcbnaaPx12
import Derived.Test.YtdpllcmpndcbnaaPx14
import Derived.Test.YtdpllcmpndcbnaaPx15
import Derived.Test.YtdpllcmpndcbnaaPx16
namespace Go.Proofs.Ytdpllcmpndcbnaa.P
open Go.RowKit Go.Proofs.YtdpllcmpndcbnaaW.PrintWords Go.Proofs.YtdpllcmpndcbnaaW.PrintLast Go.Proofs.YtdpllcmpndcbnaaW.PrintMore
attribute [local go_sem] max2_int min2_int max_two min_two max_three min_three max_four min_four
set_option linter.unusedVariables false
set_option linter.unusedSimpArgs false
/-! What layout's and its reference's functions come to, in plain words. -/
theorem May_ev (a b c d : Int) : twoslotref06_May.f a b c d = some (okP a b c d) := by
  unfold twoslotref06_May.f
  by_cases h1 : a ≥ 1
  · rw [if_pos h1]
    by_cases h2 : a ≤ 12
    · rw [if_pos h2]
      by_cases h3 : b ≥ 0
      · rw [if_pos h3]
        by_cases h4 : b ≤ 4
        · rw [if_pos h4]
          by_cases h5 : c ≥ 8
          · rw [if_pos h5]
            by_cases h6 : c ≤ 64
            · rw [if_pos h6]
              obtain ⟨ml, mr⟩ := mul_small h1 h2 h5 h6
              rw [show wrap64 (a * c) = a * c from by unfold wrap64; omega]
              by_cases h7 : a * c ≥ 32
              · rw [if_pos h7]
                by_cases h8 : d ≥ 8
                · rw [if_pos h8]
                  congr 1
                  rw [Bool.eq_iff_iff, okP_iff, decide_eq_true_iff]
                  omega
                · rw [if_neg h8]; congr 1; symm; rw [Bool.eq_false_iff, Ne, okP_iff]; omega
              · rw [if_neg h7]; congr 1; symm; rw [Bool.eq_false_iff, Ne, okP_iff]; omega
            · rw [if_neg h6]; congr 1; symm; rw [Bool.eq_false_iff, Ne, okP_iff]; omega
          · rw [if_neg h5]; congr 1; symm; rw [Bool.eq_false_iff, Ne, okP_iff]; omega
        · rw [if_neg h4]; congr 1; symm; rw [Bool.eq_false_iff, Ne, okP_iff]; omega
      · rw [if_neg h3]; congr 1; symm; rw [Bool.eq_false_iff, Ne, okP_iff]; omega
    · rw [if_neg h2]; congr 1; symm; rw [Bool.eq_false_iff, Ne, okP_iff]; omega
  · rw [if_neg h1]; congr 1; symm; rw [Bool.eq_false_iff, Ne, okP_iff]; omega
theorem refW_ev {a b c d : Int} (hk : okP a b c d = true) : twoslotref06_W.f a b c d = some (a * c) := by
  have := okW hk
  unfold twoslotref06_W.f
  rw [show wrap64 (a * c) = a * c from by unfold wrap64; omega]
theorem refD_ev {a b c d : Int} (hk : okP a b c d = true) : twoslotref06_D.f a b c d = some ((a * c - 7) / 6) := by
  have := okW hk
  unfold twoslotref06_D.f
  rw [refW_ev hk, Option.bind_some, show wrap64 (a * c - 7) = a * c - 7 from by unfold wrap64; omega, Int.tdiv_eq_ediv_of_nonneg (by omega), show wrap64 ((a * c - 7) / 6) = (a * c - 7) / 6 from by unfold wrap64; omega]
theorem refL_ev {a b c d : Int} (hk : okP a b c d = true) : twoslotref06_L.f a b c d = some (a * c / 6) := by
  have := okW hk
  unfold twoslotref06_L.f
  rw [refW_ev hk, Option.bind_some, Int.tdiv_eq_ediv_of_nonneg (by omega), show wrap64 (a * c / 6) = a * c / 6 from by unfold wrap64; omega]
theorem refM_ev {a b c d : Int} (hk : okP a b c d = true) : twoslotref06_M.f a b c d = some (mostOf (a * c)) := by
  have := okW hk
  obtain ⟨c1, c2, c3, c4⟩ := mostOf_small (W := a * c) (by omega) (by omega)
  unfold twoslotref06_M.f
  rw [refD_ev hk, Option.bind_some, refL_ev hk, Option.bind_some, refW_ev hk, Option.bind_some, show wrap64 ((a * c - 7) / 6 * (a * c / 6)) = (a * c - 7) / 6 * (a * c / 6) from by unfold wrap64; omega,
    show wrap64 ((a * c - 7) / 6 * (a * c / 6) * (a * c)) = (a * c - 7) / 6 * (a * c / 6) * (a * c) from by unfold wrap64; omega]
  congr 1
  unfold mn mostOf
  split <;> omega
theorem refup_ev {x y : Int} (hx : 0 ≤ x) (hx2 : x ≤ 40000) (hy : 1 ≤ y) (hy2 : y ≤ 1000) : twoslotref06_up.f x y = some ((x + y - 1) / y) := by
  have h3 : 0 ≤ (x + y - 1) / y := Int.ediv_nonneg (by omega) (by omega)
  have h4 : (x + y - 1) / y ≤ x + y - 1 := Int.ediv_le_self _ (by omega)
  unfold twoslotref06_up.f
  rw [if_neg (by omega), show wrap64 (x + y) = x + y from by unfold wrap64; omega, show wrap64 (x + y - 1) = x + y - 1 from by unfold wrap64; omega, Int.tdiv_eq_ediv_of_nonneg (by omega)]
  rw [show wrap64 ((x + y - 1) / y) = (x + y - 1) / y from by unfold wrap64; omega]
theorem reflen_ev (k : Nat) (a b c d n : Int) : twoslotref06_length.f (k + 1) a b c d n = some (lenE a b c d n) := by
  unfold twoslotref06_length.f
  rw [May_ev, Option.bind_some]
  by_cases hk : okP a b c d = true
  · rw [if_pos hk]
    simp only [twoslotref06_length.j0]
    unfold lenE
    rw [if_pos hk]
    by_cases h1 : n < 0
    · rw [if_pos (by simpa using h1), if_pos h1]
    · rw [if_neg (by simpa using h1), if_neg h1, refM_ev hk, Option.bind_some]
      split <;> rfl
  · rw [if_neg hk]
    simp only [twoslotref06_length.j0]
    unfold lenE
    rw [if_neg hk, if_pos trivial]
theorem refObject_ev {a b c d n : Int} (e : lenE a b c d n = 0) : twoslotref06_Object.f a b c d n = some (objS (a * c) n, objL (a * c) n) := by
  obtain ⟨hk, h0, h1⟩ := lenE_zero e
  have hw := okW hk
  have hm := mostOf_le (a * c)
  obtain ⟨s0, s1, s2, s3⟩ := objS_bd (W := a * c) (n := n) (by omega) (by omega) (by omega)
  unfold twoslotref06_Object.f
  rw [refW_ev hk, Option.bind_some, refup_ev (by omega) (by omega) (by omega) (by omega), Option.bind_some, refD_ev hk, Option.bind_some]
  by_cases h3 : (n + a * c - 1) / (a * c) ≤ (a * c - 7) / 6
  · rw [if_pos h3]
    unfold objL objS
    rw [if_pos h3]
  · rw [if_neg h3, refL_ev hk, Option.bind_some]
    unfold objS at s0 s1
    rw [refup_ev (by omega) (by omega) (by omega) (by omega), Option.bind_some]
    unfold objL objS
    rw [if_neg h3]
theorem refStripes_ev (k : Nat) (a b c d n : Int) : twoslotref06_Stripes.f (k + 1) a b c d n = some (if lenE a b c d n = 0 then (objS (a * c) n, 0) else (0, lenE a b c d n)) := by
  unfold twoslotref06_Stripes.f
  rw [reflen_ev, Option.bind_some]
  by_cases e : lenE a b c d n = 0
  · rw [if_pos e, if_pos e, refObject_ev e]; rfl
  · rw [if_neg e, if_neg e]
theorem refLeaves_ev (k : Nat) (a b c d n : Int) : twoslotref06_Leaves.f (k + 1) a b c d n = some (if lenE a b c d n = 0 then (objL (a * c) n, 0) else (0, lenE a b c d n)) := by
  unfold twoslotref06_Leaves.f
  rw [reflen_ev, Option.bind_some]
  by_cases e : lenE a b c d n = 0
  · rw [if_pos e, if_pos e, refObject_ev e]; rfl
  · rw [if_neg e, if_neg e]
theorem refDepth_ev (k : Nat) (a b c d n : Int) : twoslotref06_Depth.f (k + 1) a b c d n = some (if lenE a b c d n = 0 then (min (objL (a * c) n) 1, 0) else (0, lenE a b c d n)) := by
  unfold twoslotref06_Depth.f
  rw [reflen_ev, Option.bind_some]
  by_cases e : lenE a b c d n = 0
  · rw [if_pos e, if_pos e, refObject_ev e, Option.bind_some, mn_one]
  · rw [if_neg e, if_neg e]
theorem rrefs_loop (a b c d : Int) (l : List S27) (hl : l.length ≤ 100000) : ∀ (q i k : Nat), i ≤ l.length → l.length - i = q → q < k →
    twoslotref15_refs.l0 k l (i : Int) a b c d = some ((l.drop i).all (refB d)) := by
  intro q
  induction q with
  | zero =>
    intro i k hi hq hk
    obtain ⟨k, rfl⟩ : ∃ m, k = m + 1 := ⟨k - 1, by omega⟩
    simp only [twoslotref15_refs.l0]
    rw [if_neg (by omega), List.drop_of_length_le (by omega)]
    rfl
  | succ q ih =>
    intro i k hi hq hk
    obtain ⟨k, rfl⟩ : ∃ m, k = m + 1 := ⟨k - 1, by omega⟩
    have hlt : i < l.length := by omega
    simp only [twoslotref15_refs.l0]
    rw [if_pos (by omega), if_pos (by omega), rdRef_nat l i hlt, List.drop_eq_getElem_cons hlt, List.all_cons, wrap_idx (by omega)]
    have e : twoslotref15_Ref.f a b c d l[i].f0 l[i].f1 = some (refB d l[i]) := by
      unfold twoslotref15_Ref.f refB
      by_cases h1 : l[i].f0 ≥ 0
      · rw [if_pos h1]
        by_cases h2 : l[i].f0 < d
        · rw [if_pos h2]
          by_cases h3 : l[i].f1 ≥ 1
          · rw [if_pos h3]
            congr 1
            refine decide_eq_decide.mpr ⟨fun h => ⟨h1, h2, h3, h⟩, fun h => h.2.2.2⟩
          · rw [if_neg h3, decide_eq_false (fun h => h3 h.2.2.1)]
        · rw [if_neg h2, decide_eq_false (fun h => h2 h.2.1)]
      · rw [if_neg h1, decide_eq_false (fun h => h1 h.1)]
    rw [e, Option.bind_some]
    cases hb : refB d l[i] with
    | true => rw [if_pos rfl, ih (i + 1) k (by omega) (by omega) (by omega)]; simp
    | false => rw [if_neg (by decide)]; simp
theorem rrefs_ev (a b c d : Int) (l : List S27) (hl : l.length ≤ 100000) (k : Nat) (hk : l.length < k) : twoslotref15_refs.f k a b c d l = some (l.all (refB d)) := by
  unfold twoslotref15_refs.f
  have := rrefs_loop a b c d l hl l.length 0 k (by omega) (by omega) hk
  rwa [List.drop_zero] at this
theorem worth_loop (l : List Int) (hB : IsB l) (hl : l.length ≤ 4) : ∀ (q i k : Nat) (x : Int), i ≤ l.length → l.length - i = q → q < k → 0 ≤ x → x < 256 ^ i →
    twoslotref15_worth.l0 k l x (i : Int) = some ((l.drop i).foldl (fun n c => n * 256 + c) x) := by
  intro q
  induction q with
  | zero =>
    intro i k x hi hq hk h0 h1
    obtain ⟨k, rfl⟩ : ∃ m, k = m + 1 := ⟨k - 1, by omega⟩
    simp only [twoslotref15_worth.l0]
    rw [if_neg (by omega), List.drop_of_length_le (by omega)]
    rfl
  | succ q ih =>
    intro i k x hi hq hk h0 h1
    obtain ⟨k, rfl⟩ : ∃ m, k = m + 1 := ⟨k - 1, by omega⟩
    have hlt : i < l.length := by omega
    have hp : (256 : Int) ^ i ≤ 256 ^ 3 := by
      have : i = 0 ∨ i = 1 ∨ i = 2 ∨ i = 3 := by omega
      rcases this with h | h | h | h <;> subst h <;> decide
    have hv := hB l[i] (List.getElem_mem hlt)
    have hr : rd l (i : Int) = l[i] := by unfold rd; simp [hlt]
    simp only [twoslotref15_worth.l0]
    rw [if_pos (by omega), if_pos (by omega), hr, wrap_idx (by omega), List.drop_eq_getElem_cons hlt, List.foldl_cons]
    have hx : x < 16777216 := by
      have : (256 : Int) ^ 3 = 16777216 := by decide
      omega
    rw [show wrap64 (256 * x) = 256 * x from by unfold wrap64; omega, show wrap64 l[i] = l[i] from by unfold wrap64; omega, show wrap64 (256 * x + l[i]) = x * 256 + l[i] from by unfold wrap64; omega]
    refine ih (i + 1) k _ (by omega) (by omega) (by omega) (by omega) ?_
    rw [Int.pow_succ]
    omega
theorem worth_ev (l : List Int) (hB : IsB l) (hl : l.length ≤ 4) (k : Nat) (hk : l.length < k) : twoslotref15_worth.f k l = some (numL l) := by
  unfold twoslotref15_worth.f
  have := worth_loop l hB hl l.length 0 k 0 (by omega) (by omega) hk (by omega) (by simp)
  rwa [List.drop_zero] at this
theorem seg_shift (b : List Int) (i j : Nat) : ((b.drop 6).take j).drop i = (b.take (j + 6)).drop (i + 6) := by
  rw [List.drop_take, List.drop_drop, List.drop_take, show j + 6 - (i + 6) = j - i by omega, Nat.add_comm 6 i]
theorem readL_snoc : ∀ (n : Nat) (b : List Int), readL (n + 1) b = readL n b ++ [⟨numL ((b.take (6 * n + 2)).drop (6 * n)), numL ((b.take (6 * n + 6)).drop (6 * n + 2))⟩]
  | 0, b => by simp [readL]
  | n + 1, b => by
    rw [readL, readL_snoc n (b.drop 6), readL, List.cons_append, seg_shift, seg_shift]
    rw [show 6 * (n + 1) + 2 = 6 * n + 2 + 6 by omega, show 6 * (n + 1) = 6 * n + 6 by omega]
theorem rread_loop (b : List Int) (hB : IsB b) (N : Nat) (hN : N ≤ 100000) (hb : 6 * N ≤ b.length) : ∀ (q i k : Nat), i ≤ N → N - i = q → q + 6 < k →
    twoslotref15_read.l0 k b (N : Int) (readL i b) (i : Int) = some (readL N b) := by
  intro q
  induction q with
  | zero =>
    intro i k hi hq hk
    obtain ⟨k, rfl⟩ : ∃ m, k = m + 1 := ⟨k - 1, by omega⟩
    simp only [twoslotref15_read.l0]
    rw [if_neg (by omega), show i = N by omega]
  | succ q ih =>
    intro i k hi hq hk
    obtain ⟨k, rfl⟩ : ∃ m, k = m + 1 := ⟨k - 1, by omega⟩
    simp only [twoslotref15_read.l0]
    have e6 : wrap64 (6 * (i : Int)) = ((6 * i : Nat) : Int) := by unfold wrap64; omega
    have e2 : wrap64 (((6 * i : Nat) : Int) + 2) = ((6 * i + 2 : Nat) : Int) := by unfold wrap64; omega
    have e3 : wrap64 (((6 * i : Nat) : Int) + 6) = ((6 * i + 6 : Nat) : Int) := by unfold wrap64; omega
    rw [if_pos (by omega), e6, e2, e3, if_pos (by omega), if_pos (by omega), if_pos (by omega), Int.toNat_natCast, Int.toNat_natCast, Int.toNat_natCast,
      worth_ev _ (isB_drop _ (isB_take _ hB)) (by rw [List.length_drop, List.length_take]; omega) k (by rw [List.length_drop, List.length_take]; omega), Option.bind_some, if_pos (by omega), if_pos (by omega), if_pos (by omega),
      worth_ev _ (isB_drop _ (isB_take _ hB)) (by rw [List.length_drop, List.length_take]; omega) k (by rw [List.length_drop, List.length_take]; omega), Option.bind_some, if_pos (by rw [readL_len]; omega), wrap_idx (by omega)]
    have := ih (i + 1) k (by omega) (by omega) (by omega)
    rw [readL_snoc i b] at this
    exact this
theorem rread_ev (b : List Int) (n : Nat) (k : Nat) (hB : IsB b) (hb : 6 * n ≤ b.length) (hn : n ≤ 100000) (hk : n + 6 < k) : twoslotref15_read.f k b (n : Int) = some (readL n b) := by
  unfold twoslotref15_read.f
  exact rread_loop b hB n hn hb n 0 k (by omega) (by omega) hk
theorem set_zero (m : Nat) (L : List Int) (v : Int) : (List.replicate (m + 1) (0 : Int) ++ L).set m v = List.replicate m 0 ++ v :: L := by
  induction m with
  | zero => rfl
  | succ m ih =>
    rw [List.replicate_succ, List.cons_append, List.set_cons_succ, ih, List.replicate_succ, List.cons_append]
theorem rnumber_loop (n : Int) (h0 : 0 ≤ n) (h1 : n < 9000000000000000000) (b : Nat) (hb : b ≤ 8) : ∀ (q j k : Nat), j ≤ b → b - j = q → q < k →
    twoslotref15_number.l0 k (n / 256 ^ j) (List.replicate (b - j) 0 ++ beL j n) ((b : Int) - (j : Int) - 1) = some (beL b n) := by
  intro q
  induction q with
  | zero =>
    intro j k hj hq hk
    obtain ⟨k, rfl⟩ : ∃ m, k = m + 1 := ⟨k - 1, by omega⟩
    simp only [twoslotref15_number.l0]
    obtain rfl : j = b := by omega
    rw [if_neg (by omega), Nat.sub_self]
    rfl
  | succ q ih =>
    intro j k hj hq hk
    obtain ⟨k, rfl⟩ : ∃ m, k = m + 1 := ⟨k - 1, by omega⟩
    simp only [twoslotref15_number.l0]
    have hx0 : 0 ≤ n / 256 ^ j := Int.ediv_nonneg h0 (Int.le_of_lt (Int.pow_pos (by decide)))
    have hx1 : n / 256 ^ j ≤ n := Int.ediv_le_self _ h0
    have hlen : (List.replicate (b - j) (0 : Int) ++ beL j n).length = b := by rw [List.length_append, List.length_replicate, beL_len]; omega
    rw [if_pos (by omega), if_pos (by omega), if_pos (by rw [hlen]; omega), Int.tdiv_eq_ediv_of_nonneg hx0, Int.tmod_eq_emod_of_nonneg hx0]
    obtain ⟨m, hm⟩ : ∃ m, b - j = m + 1 := ⟨b - j - 1, by omega⟩
    rw [show ((b : Int) - (j : Int) - 1).toNat = m by omega, hm, set_zero]
    rw [show wrap64 ((b : Int) - (j : Int) - 1 - 1) = (b : Int) - ((j + 1 : Nat) : Int) - 1 from by unfold wrap64; omega, show wrap64 (n / 256 ^ j / 256) = n / 256 ^ (j + 1) from by
      rw [Int.pow_succ, Int.ediv_ediv_of_nonneg (Int.le_of_lt (Int.pow_pos (by decide)))]
      have h2 : 0 ≤ n / (256 ^ j * 256) := Int.ediv_nonneg h0 (Int.le_of_lt (by have : (0 : Int) < 256 ^ j := Int.pow_pos (by decide); omega))
      have h3 : n / (256 ^ j * 256) ≤ n := Int.ediv_le_self _ h0
      unfold wrap64; omega]
    have := ih (j + 1) k (by omega) (by omega) (by omega)
    rw [beL] at this
    rw [show n / 256 ^ j % 256 % 256 = n / 256 ^ j % 256 by omega, show m = b - (j + 1) by omega]
    exact this
theorem rnumber_ev (n : Int) (b k : Nat) (h0 : 0 ≤ n) (h1 : n < 9000000000000000000) (hb : b ≤ 8) (hk : b < k) : twoslotref15_number.f k n (b : Int) = some (beL b n) := by
  unfold twoslotref15_number.f
  have := rnumber_loop n h0 h1 b hb b 0 k (by omega) (by omega) hk
  rw [if_pos (by omega), if_pos (by omega), Int.toNat_natCast, show wrap64 ((b : Int) - 1) = (b : Int) - ((0 : Nat) : Int) - 1 from by unfold wrap64; omega]
  rw [beL, List.append_nil, Nat.sub_zero, Int.pow_zero, Int.ediv_one] at this
  exact this
theorem refB_iff {d : Int} {r : S27} : refB d r = true ↔ 0 ≤ r.f0 ∧ r.f0 < d ∧ 1 ≤ r.f1 ∧ r.f1 ≤ 1073741824 := by unfold refB; exact decide_eq_true_iff
theorem rtold_loop (d : Int) (hd : d ≤ 65536) (l : List S27) (hl : l.length ≤ 100000) (ha : l.all (refB d) = true) : ∀ (q i k : Nat) (b : List Int), i ≤ l.length → l.length - i = q → q + 9 < k → b.length + 6 * q ≤ 900000 →
    twoslotref15_told.l0 k l b (i : Int) = some (b ++ refL (l.drop i)) := by
  intro q
  induction q with
  | zero =>
    intro i k b hi hq hk hb
    obtain ⟨k, rfl⟩ : ∃ m, k = m + 1 := ⟨k - 1, by omega⟩
    simp only [twoslotref15_told.l0]
    rw [if_neg (by omega), List.drop_of_length_le (by omega)]
    simp [refL]
  | succ q ih =>
    intro i k b hi hq hk hb
    obtain ⟨k, rfl⟩ : ∃ m, k = m + 1 := ⟨k - 1, by omega⟩
    have hlt : i < l.length := by omega
    have hr := refB_iff.mp (List.all_eq_true.mp ha l[i] (List.getElem_mem hlt))
    simp only [twoslotref15_told.l0]
    rw [if_pos (by omega), if_pos (by omega), rdRef_nat l i hlt, show (2 : Int) = ((2 : Nat) : Int) from rfl, rnumber_ev _ 2 k (by omega) (by omega) (by omega) (by omega), Option.bind_some, if_pos (by rw [beL_len]; omega), Option.bind_some,
      show (4 : Int) = ((4 : Nat) : Int) from rfl, rnumber_ev _ 4 k (by omega) (by omega) (by omega) (by omega), Option.bind_some, if_pos (by rw [List.length_append, beL_len, beL_len]; omega), wrap_idx (by omega),
      ih (i + 1) k _ (by omega) (by omega) (by omega) (by rw [List.length_append, List.length_append, beL_len, beL_len]; omega), List.drop_eq_getElem_cons hlt, refL_cons]
    simp only [List.append_assoc]
theorem rtold_ev (d : Int) (hd : d ≤ 65536) (l : List S27) (k : Nat) (hl : l.length ≤ 100000) (ha : l.all (refB d) = true) (hk : l.length + 9 < k) : twoslotref15_told.f k l = some (refL l) := by
  unfold twoslotref15_told.f
  have := rtold_loop d hd l hl ha l.length 0 k [] (by omega) (by omega) hk (by simp; omega)
  rw [List.drop_zero] at this
  exact this
theorem rMay_ev (a b c d len dep : Int) (l : List S27) (k : Nat) (hk1 : okP a b c d = true) (hl : l.length ≤ 100000) (hk : l.length + 3 < k) : twoslotref15_May.f k a b c d len dep l = some (fitB a b c d len dep l) := by
  have hw := okW hk1
  unfold twoslotref15_May.f
  obtain ⟨k, rfl⟩ : ∃ m, k = m + 1 := ⟨k - 1, by omega⟩
  obtain ⟨k, rfl⟩ : ∃ m, k = m + 1 := ⟨k - 1, by omega⟩
  have bad : lenE a b c d len ≠ 0 → some false = some (fitB a b c d len dep l) := fun h => by rw [fitB_no (fun h2 => h h2.1)]
  by_cases h1 : len < 0
  · rw [if_pos h1]
    simp only [twoslotref15_May.j0]
    rw [if_pos trivial]
    refine bad ?_
    unfold lenE; rw [if_pos hk1, if_pos h1]; decide
  · rw [if_neg h1, refM_ev hk1, Option.bind_some]
    simp only [twoslotref15_May.j0]
    by_cases h2 : len > mostOf (a * c)
    · rw [if_pos (decide_eq_true h2)]
      refine bad ?_
      unfold lenE; rw [if_pos hk1, if_neg h1, if_pos h2]; decide
    · have he : lenE a b c d len = 0 := by unfold lenE; rw [if_pos hk1, if_neg h1, if_neg h2]
      have hb := objB he
      rw [if_neg (by simpa using h2), refStripes_ev, if_pos he, Option.bind_some, refDepth_ev, if_pos he, Option.bind_some, refLeaves_ev, if_pos he, Option.bind_some, rrefs_ev a b c d l hl (k + 1) (by omega)]
      dsimp only
      by_cases h3 : min (objL (a * c) len) 1 = 1
      · rw [if_pos h3]
        by_cases h4 : dep = min (objL (a * c) len) 1
        · rw [if_pos h4]
          by_cases h5 : (l.length : Int) = objL (a * c) len
          · rw [if_pos h5, Option.bind_some]
            unfold fitB
            rw [decide_eq_true ⟨he, h4.symm, by rw [if_pos (by omega)]; exact h5⟩, Bool.true_and]
          · rw [if_neg h5, fitB_no (fun h => h5 (by have := h.2.2; rwa [if_pos (by omega)] at this))]
        · rw [if_neg h4, fitB_no (fun h => h4 h.2.1.symm)]
      · rw [if_neg h3]
        by_cases h4 : dep = min (objL (a * c) len) 1
        · rw [if_pos h4]
          by_cases h5 : (l.length : Int) = objS (a * c) len
          · rw [if_pos h5, Option.bind_some]
            unfold fitB
            rw [decide_eq_true ⟨he, h4.symm, by rw [if_neg (by omega)]; exact h5⟩, Bool.true_and]
          · rw [if_neg h5, fitB_no (fun h => h5 (by have := h.2.2; rwa [if_neg (by omega)] at this))]
        · rw [if_neg h4, fitB_no (fun h => h4 h.2.1.symm)]
theorem rCheck_ev (a b c d len dep : Int) (l : List S27) (k : Nat) (hl : l.length ≤ 100000) (hk : l.length + 3 < k) : twoslotref15_Check.f k a b c d len dep l = some (chkE a b c d len dep l) := by
  unfold twoslotref15_Check.f chkE
  rw [May_ev, Option.bind_some]
  by_cases hk1 : okP a b c d = true
  · rw [if_pos hk1, if_pos hk1, rMay_ev a b c d len dep l k hk1 hl hk, Option.bind_some]
    split <;> rfl
  · rw [if_neg hk1, if_neg hk1]
theorem rMade_ev (a b c d len dep : Int) (l : List S27) (k : Nat) (hf : fitB a b c d len dep l = true) (hk : l.length + 10 < k) : twoslotref15_Made.f k a b c d len dep l = some (bytesD a c len dep l) := by
  obtain ⟨hk1, g0, g1, g2, g3, g4⟩ := fit_room hf
  have hall := (fitB_iff.mp hf).2
  obtain ⟨o1, o2, o3, o4, o5, o6, o7, o8, o9⟩ := okP_iff.mp hk1
  unfold twoslotref15_Made.f
  rw [show (4 : Int) = ((4 : Nat) : Int) from rfl, rnumber_ev _ 4 k (by omega) (by omega) (by omega) (by omega), Option.bind_some, if_pos (by rw [beL_len]; omega), Option.bind_some,
    show (2 : Int) = ((2 : Nat) : Int) from rfl, rnumber_ev _ 2 k (by omega) (by omega) (by omega) (by omega), Option.bind_some, if_pos (by simp only [List.length_append, beL_len, List.length_cons, List.length_nil]; omega), Option.bind_some,
    rtold_ev d (by omega) l k (by omega) hall (by omega), Option.bind_some, if_pos (by simp only [List.length_append, beL_len, refL_len, List.length_cons, List.length_nil]; omega)]
  unfold twoslotref15_wide.f
  rw [if_pos hk1, Option.bind_some]
  unfold bytesD descL
  simp [beL]
theorem rBytes_ev (a b c d len dep : Int) (l : List S27) (k : Nat) (hl : l.length ≤ 100000) (hk : l.length + 10 < k) : twoslotref15_Bytes.f k a b c d len dep l = some (if chkE a b c d len dep l = 0 then (bytesD a c len dep l, 0) else ([], chkE a b c d len dep l)) := by
  unfold twoslotref15_Bytes.f
  rw [rCheck_ev a b c d len dep l k hl (by omega), Option.bind_some]
  by_cases h0 : chkE a b c d len dep l = 0
  · rw [if_pos h0, if_pos h0, rMade_ev a b c d len dep l k (chkE_zero.mp h0) hk, Option.bind_some]
  · rw [if_neg h0, if_neg h0]
theorem rLeaf_ev (a b c d : Int) (l : List S27) (k : Nat) (hl : l.length ≤ 100000) (hk : l.length + 12 < k) : twoslotref15_Leaf.f k a b c d l =
    some (if okP a b c d = true then (if 1 ≤ (l.length : Int) ∧ (l.length : Int) ≤ a * c / 6 then (if l.all (refB d) = true then (wideL (a * c).toNat (refL l), 0) else ([], 150)) else ([], 20)) else ([], 2)) := by
  unfold twoslotref15_Leaf.f
  rw [May_ev, Option.bind_some]
  obtain ⟨k, rfl⟩ : ∃ m, k = m + 1 := ⟨k - 1, by omega⟩
  by_cases hk1 : okP a b c d = true
  · rw [if_pos hk1, if_pos hk1]
    by_cases h1 : (l.length : Int) < 1
    · rw [if_pos h1, if_neg (by omega)]
      simp only [twoslotref15_Leaf.j0]
      rw [if_pos trivial]
    · rw [if_neg h1, refL_ev hk1, Option.bind_some]
      simp only [twoslotref15_Leaf.j0]
      by_cases h2 : (l.length : Int) > a * c / 6
      · rw [if_pos (decide_eq_true h2), if_neg (by omega)]
      · rw [if_neg (by simpa using h2), if_pos ⟨by omega, by omega⟩, rrefs_ev a b c d l hl k (by omega), Option.bind_some]
        by_cases h3 : l.all (refB d) = true
        · obtain ⟨o1, o2, o3, o4, o5, o6, o7, o8, o9⟩ := okP_iff.mp hk1
          rw [if_pos h3, if_pos h3, rtold_ev d (by omega) l k hl h3 (by omega), Option.bind_some]
          unfold twoslotref15_wide.f
          rw [if_pos hk1, Option.bind_some]
        · rw [if_neg h3, if_neg h3]
  · rw [if_neg hk1, if_neg hk1]
theorem rRefs_ev (a b c d n : Int) (x : List Int) (k : Nat) (hB : IsB x) (hk : 70000 < k) : twoslotref15_Refs.f k a b c d x n =
    some (if okP a b c d = true then (if (x.length : Int) = a * c then (if 1 ≤ n ∧ n ≤ a * c / 6 then (if (readL n.toNat x).all (refB d) = true ∧ wideL (a * c).toNat (refL (readL n.toNat x)) = x then (readL n.toNat x, 0) else ([], 150)) else ([], 20)) else ([], 20)) else ([], 2)) := by
  unfold twoslotref15_Refs.f
  rw [May_ev, Option.bind_some]
  obtain ⟨k, rfl⟩ : ∃ m, k = m + 1 := ⟨k - 1, by omega⟩
  by_cases hk1 : okP a b c d = true
  · have hw := okW hk1
    rw [if_pos hk1, if_pos hk1, refW_ev hk1, Option.bind_some]
    by_cases hx : (x.length : Int) = a * c
    · rw [if_pos hx, if_pos hx]
      by_cases h1 : n < 1
      · rw [if_pos h1, if_neg (by omega)]
        simp only [twoslotref15_Refs.j0]
        rw [if_pos trivial]
      · rw [if_neg h1, refL_ev hk1, Option.bind_some]
        simp only [twoslotref15_Refs.j0]
        by_cases h2 : n > a * c / 6
        · rw [if_pos (decide_eq_true h2), if_neg (by omega)]
        · rw [if_neg (by simpa using h2), if_pos ⟨by omega, by omega⟩]
          have hrd := rread_ev x n.toNat k hB (by omega) (by omega) (by omega)
          rw [show ((n.toNat : Nat) : Int) = n by omega] at hrd
          have hlen : (readL n.toNat x).length = n.toNat := readL_len _ _
          rw [hrd, Option.bind_some, rrefs_ev a b c d _ (by omega) k (by omega), Option.bind_some]
          by_cases h3 : (readL n.toNat x).all (refB d) = true
          · obtain ⟨o1, o2, o3, o4, o5, o6, o7, o8, o9⟩ := okP_iff.mp hk1
            rw [if_pos h3, rtold_ev d (by omega) _ k (by omega) h3 (by omega), Option.bind_some]
            unfold twoslotref15_wide.f
            rw [if_pos hk1, Option.bind_some]
            by_cases h4 : wideL (a * c).toNat (refL (readL n.toNat x)) = x
            · rw [if_pos (by rw [h4]), if_pos ⟨h3, h4⟩]
            · rw [if_neg (fun h => h4 (strL_inj (wideL_isB (refL_isB _)) hB h)), if_neg (fun h => h4 h.2)]
          · rw [if_neg h3, if_neg (fun h => h3 h.1)]
    · rw [if_neg hx, if_neg hx]
      simp only [twoslotref15_Refs.j0]
      rw [if_pos trivial]
  · rw [if_neg hk1, if_neg hk1]
theorem rParse_ev (a b c d : Int) (x : List Int) (k : Nat) (hB : IsB x) (hk : 70000 < k) : twoslotref15_Parse.f k a b c d x =
    some (if okP a b c d = true then (if (x.length : Int) = a * c then (if 7 + 6 * rNum x ≤ (x.length : Int) ∧ fitB a b c d (rLen x) (rDep x) (rRefs x) = true ∧ bytesD a c (rLen x) (rDep x) (rRefs x) = x then (rLen x, rDep x, rRefs x, 0) else (0, 0, [], 150)) else (0, 0, [], 20)) else (0, 0, [], 2)) := by
  unfold twoslotref15_Parse.f
  rw [May_ev, Option.bind_some]
  by_cases hk1 : okP a b c d = true
  · have hw := okW hk1
    rw [if_pos hk1, if_pos hk1, refW_ev hk1, Option.bind_some]
    by_cases hx : (x.length : Int) = a * c
    · have hdep : wrap64 (rd x 4) = rDep x := by
        have hlt : 4 < x.length := by omega
        have hv := hB x[4] (List.getElem_mem hlt)
        have e : (x.take 5).drop 4 = [x[4]] := by
          rw [List.drop_take, List.drop_eq_getElem_cons hlt]
          rfl
        unfold rDep rd
        rw [e]
        simp [numL, hlt]
        unfold wrap64; omega
      have hn := numL_bd2 (isB_drop 5 (isB_take 7 hB)) (by rw [List.length_drop, List.length_take]; omega)
      have hn' : 0 ≤ rNum x ∧ rNum x < 65536 := hn
      rw [if_pos hx, if_pos hx, if_pos (by omega), worth_ev _ (isB_take 4 hB) (by rw [List.length_take]; omega) k (by rw [List.length_take]; omega), Option.bind_some, if_pos (by omega), if_pos (by omega), if_pos (by omega),
        worth_ev _ (isB_drop 5 (isB_take 7 hB)) (by rw [List.length_drop, List.length_take]; omega) k (by rw [List.length_drop, List.length_take]; omega), Option.bind_some, refD_ev hk1, Option.bind_some, hdep]
      rw [show numL ((x.take 7).drop 5) = rNum x from rfl, show numL (x.take 4) = rLen x from rfl]
      by_cases h7 : rNum x > (a * c - 7) / 6
      · rw [if_pos h7, if_neg (fun h => by omega)]
      · rw [if_neg h7]
        have hrd := rread_ev (x.drop 7) (rNum x).toNat k (isB_drop 7 hB) (by rw [List.length_drop]; omega) (by omega) (by omega)
        rw [show (((rNum x).toNat : Nat) : Int) = rNum x by omega] at hrd
        rw [hrd, Option.bind_some, show readL (rNum x).toNat (x.drop 7) = rRefs x from rfl]
        have hlen : (rRefs x).length = (rNum x).toNat := readL_len _ _
        rw [rMay_ev a b c d (rLen x) (rDep x) (rRefs x) k hk1 (by omega) (by omega), Option.bind_some]
        by_cases hf : fitB a b c d (rLen x) (rDep x) (rRefs x) = true
        · rw [if_pos hf, rMade_ev a b c d _ _ _ k hf (by omega), Option.bind_some]
          by_cases he : bytesD a c (rLen x) (rDep x) (rRefs x) = x
          · rw [if_pos (by rw [he]), if_pos ⟨by omega, hf, he⟩]
          · rw [if_neg (fun h => he (strL_inj (wideL_isB (descL_isB _ _ _)) hB h)), if_neg (fun h => he h.2.2)]
        · rw [if_neg hf, if_neg (fun h => hf h.2.1)]
    · rw [if_neg hx, if_neg hx]
  · rw [if_neg hk1, if_neg hk1]
end Go.Proofs.Ytdpllcmpndcbnaa.P

import Derived.Test.YtcnmocbiekfpbaaPx7
import Derived.Test.YtcnmocbiekfpbaaPx8
import Derived.Test.YtcnmocbiekfpbaaPx6
import Derived.Test.YtcnmocbiekfpbaaPx5
import Derived.Test.YtcnmocbiekfpbaaPx4
import Derived.Test.YtcnmocbiekfpbaaPx1
namespace Go.Proofs.Ytcnmocbiekfpbaa.P
open Go.RowKit Go.Proofs.YtcnmocbiekfpbaaW.PrintWords Go.Proofs.YtcnmocbiekfpbaaW.PrintLast Go.Proofs.YtcnmocbiekfpbaaW.PrintMore
attribute [local go_sem] max2_int min2_int max_two min_two max_three min_three max_four min_four
set_option linter.unusedVariables false
set_option linter.unusedSimpArgs false
/-! Bytes as numbers. -/
def IsB (l : List Int) : Prop := ∀ x ∈ l, 0 ≤ x ∧ x < 256
theorem isB_nil : IsB [] := fun _ h => by cases h
theorem isB_cons {x : Int} {l : List Int} : IsB (x :: l) ↔ (0 ≤ x ∧ x < 256) ∧ IsB l := by unfold IsB; simp
theorem isB_append {l m : List Int} : IsB (l ++ m) ↔ IsB l ∧ IsB m := by
  unfold IsB
  constructor
  · intro h; exact ⟨fun x hx => h x (List.mem_append_left _ hx), fun x hx => h x (List.mem_append_right _ hx)⟩
  · rintro ⟨h1, h2⟩ x hx
    rcases List.mem_append.mp hx with h | h
    · exact h1 x h
    · exact h2 x h
theorem isB_take {l : List Int} (n : Nat) (h : IsB l) : IsB (l.take n) := fun x hx => h x (List.mem_of_mem_take hx)
theorem isB_drop {l : List Int} (n : Nat) (h : IsB l) : IsB (l.drop n) := fun x hx => h x (List.mem_of_mem_drop hx)
theorem isB_zeros (n : Nat) : IsB (List.replicate n 0) := fun x hx => by
  have := List.eq_of_mem_replicate hx
  omega
theorem isB_wf {l : List Int} (h : ∀ x ∈ l, (Lit.int .u8 x).wf = true) : IsB l := fun x hx => by
  have := h x hx
  simp [Lit.wf, IntKind.min, IntKind.max, IntKind.signed, IntKind.bits] at this
  omega
theorem strL (l : List Int) : (strOfNums l).toList = l.map (fun n => UInt8.ofNat n.toNat) := by
  rw [ByteArray.toList_eq]
  simp [strOfNums]
theorem u8_inj {x y : Int} (hx : 0 ≤ x ∧ x < 256) (hy : 0 ≤ y ∧ y < 256) (h : UInt8.ofNat x.toNat = UInt8.ofNat y.toNat) : x = y := by
  have h2 := congrArg UInt8.toNat h
  simp only [UInt8.toNat_ofNat'] at h2
  omega
theorem strL_inj {l m : List Int} (hl : IsB l) (hm : IsB m) (h : (strOfNums l).toList = (strOfNums m).toList) : l = m := by
  rw [strL, strL] at h
  induction l generalizing m with
  | nil => cases m with
    | nil => rfl
    | cons y m => simp at h
  | cons x l ih => cases m with
    | nil => simp at h
    | cons y m =>
      simp only [List.map_cons, List.cons.injEq] at h
      rw [u8_inj (isB_cons.mp hl).1 (isB_cons.mp hm).1 h.1, ih (isB_cons.mp hl).2 (isB_cons.mp hm).2 h.2]
theorem strL_eq {l m : List Int} (hl : IsB l) (hm : IsB m) : ((strOfNums l).toList == (strOfNums m).toList) = decide (l = m) := by
  by_cases h : l = m
  · subst h; simp
  · rw [decide_eq_false h]
    exact beq_eq_false_iff_ne.mpr fun e => h (strL_inj hl hm e)
/-! ### What chapter 9's functions give -/
def szV (a b c : Int) : Int := 12 + 4 * (a + b) + c
def nV (a b d : Int) : Int := (a + b) * d * 2
def okS (S : Int) (x : List Int) : Bool := decide ((x.length : Int) = 0 ∨ (x.length : Int) = S)
/-- The error of an image. -/
def chkV (a b c d : Int) (sl : List (List Int)) : Int := if okP a b c d = true then (if (sl.length : Int) = nV a b d then (if sl.all (okS (szV a b c)) = true then 0 else 90) else 90) else 2
def idxV (d : Int) (x : S35) : Int := (x.f0 * d + x.f1) * 2 + x.f2
def mayV (a b c d : Int) (x : S35) : Bool := decide (0 ≤ x.f0 ∧ x.f0 < a + b ∧ 0 ≤ x.f1 ∧ x.f1 < d ∧ 0 ≤ x.f2 ∧ x.f2 < 2 ∧ (x.f3.length : Int) = szV a b c)
def putV (d : Int) (sl : List (List Int)) (x : S35) : List (List Int) := sl.set (idxV d x).toNat x.f3
def putsV (d : Int) (l : List S35) (sl : List (List Int)) : List (List Int) := l.foldl (putV d) sl
theorem okP_bd {a b c d : Int} (h : okP a b c d = true) : 1 ≤ a ∧ a ≤ 12 ∧ 0 ≤ b ∧ b ≤ 4 ∧ 8 ≤ c ∧ c ≤ 64 ∧ 8 ≤ d ∧ d ≤ 256 := by
  unfold okP at h
  have := of_decide_eq_true h
  omega
theorem nV_bd {a b c d : Int} (h : okP a b c d = true) : 8 ≤ (a + b) * d ∧ (a + b) * d ≤ 4096 := by
  obtain ⟨h1, h2, h3, h4, h5, h6, h7, h8⟩ := okP_bd h
  have l1 : 1 * 8 ≤ (a + b) * d := Int.mul_le_mul (by omega) h7 (by omega) (by omega)
  have l2 : (a + b) * d ≤ 16 * 256 := Int.mul_le_mul (by omega) h8 (by omega) (by omega)
  omega
theorem size_ev {a b c d : Int} (h : okP a b c d = true) : image_size.f a b c d = some (szV a b c) := by
  obtain ⟨h1, h2, h3, h4, h5, h6, h7, h8⟩ := okP_bd h
  unfold image_size.f szV
  rw [show wrap64 (a + b) = a + b from by unfold wrap64; omega, show wrap64 (4 * (a + b)) = 4 * (a + b) from by unfold wrap64; omega, show wrap64 (12 + 4 * (a + b)) = 12 + 4 * (a + b) from by unfold wrap64; omega, show wrap64 (12 + 4 * (a + b) + c) = 12 + 4 * (a + b) + c from by unfold wrap64; omega]
theorem rdL_nat {sl : List (List Int)} {i : Nat} (h : i < sl.length) : rd_L1 sl (i : Int) = sl[i] := by
  unfold rd_L1
  rw [Int.toNat_natCast, List.getD_eq_getElem?_getD, List.getElem?_eq_getElem h]
  rfl
theorem next9 {i n : Nat} (h : i < n) (hn : n ≤ 1000000) : wrap64 ((i : Int) + 1) = ((i + 1 : Nat) : Int) := by unfold wrap64; omega
theorem check_loop {a b c d : Int} (hk : okP a b c d = true) (sl : List (List Int)) (hl : sl.length ≤ 8192) (q : Nat) : ∀ (k i : Nat), i + q = sl.length → q < k →
    image_Check.l0 k sl (sl.length : Int) (i : Int) a b c d sl = some (if (sl.drop i).all (okS (szV a b c)) = true then 0 else 90) := by
  induction q with
  | zero =>
    intro k i hi hk2
    obtain ⟨k, rfl⟩ : ∃ m, k = m + 1 := ⟨k - 1, by omega⟩
    simp only [image_Check.l0]
    rw [if_neg (by omega), List.drop_of_length_le (by omega)]
    rfl
  | succ q ih =>
    intro k i hi hk2
    obtain ⟨k, rfl⟩ : ∃ m, k = m + 1 := ⟨k - 1, by omega⟩
    have hlt : i < sl.length := by omega
    have hd : sl.drop i = sl[i] :: sl.drop (i + 1) := List.drop_eq_getElem_cons hlt
    simp only [image_Check.l0]
    rw [if_pos (by omega), if_pos (by omega), if_pos (by omega), rdL_nat hlt, next9 hlt (by omega), size_ev hk, Option.bind_some, ih k (i + 1) (by omega) (by omega), hd, List.all_cons]
    by_cases h0 : (sl[i].length : Int) = 0
    · rw [if_pos h0, show okS (szV a b c) sl[i] = true from decide_eq_true (.inl h0), Bool.true_and]
    · rw [if_neg h0]
      by_cases h1 : (sl[i].length : Int) = szV a b c
      · rw [if_pos h1, show okS (szV a b c) sl[i] = true from decide_eq_true (.inr h1), Bool.true_and]
      · rw [if_neg h1, show okS (szV a b c) sl[i] = false from decide_eq_false (by omega), Bool.false_and, if_neg (by decide)]
theorem wrap_nV {a b c d : Int} (h : okP a b c d = true) : wrap64 (wrap64 ((a + b) * d) * 2) = nV a b d := by
  obtain ⟨h1, h2⟩ := nV_bd h
  rw [show wrap64 ((a + b) * d) = (a + b) * d from by unfold wrap64; omega]
  unfold nV wrap64
  omega
theorem check9_ev (a b c d : Int) (sl : List (List Int)) (k : Nat) (hk : 9000 ≤ k) : image_Check.f k a b c d sl = some (chkV a b c d sl) := by
  unfold image_Check.f layout_Drives.f chkV
  rw [Option.bind_some]
  by_cases h : okP a b c d = true
  · rw [if_pos h, if_pos h]
    dsimp only
    rw [if_pos rfl, wrap_nV h]
    by_cases hl : (sl.length : Int) = nV a b d
    · have := nV_bd h
      rw [if_pos hl, if_pos hl]
      refine (check_loop h sl (by unfold nV at hl; omega) sl.length k 0 (by omega) (by unfold nV at hl; omega)).trans ?_
      rw [List.drop_zero]
    · rw [if_neg hl, if_neg hl]
  · rw [if_neg h, if_neg h]
    dsimp only
    rw [if_neg (by decide)]
theorem chkV_zero {a b c d : Int} {sl : List (List Int)} (h : chkV a b c d sl = 0) : okP a b c d = true ∧ (sl.length : Int) = nV a b d ∧ ∀ x ∈ sl, (x.length : Int) = 0 ∨ (x.length : Int) = szV a b c := by
  unfold chkV at h
  by_cases h1 : okP a b c d = true
  · rw [if_pos h1] at h
    by_cases h2 : (sl.length : Int) = nV a b d
    · rw [if_pos h2] at h
      by_cases h3 : sl.all (okS (szV a b c)) = true
      · exact ⟨h1, h2, fun x hx => of_decide_eq_true (List.all_eq_true.mp h3 x hx)⟩
      · rw [if_neg h3] at h; omega
    · rw [if_neg h2] at h; omega
  · rw [if_neg h1] at h; omega
theorem chkV_of {a b c d : Int} {sl : List (List Int)} (h1 : okP a b c d = true) (h2 : (sl.length : Int) = nV a b d) (h3 : ∀ x ∈ sl, (x.length : Int) = 0 ∨ (x.length : Int) = szV a b c) : chkV a b c d sl = 0 := by
  unfold chkV
  rw [if_pos h1, if_pos h2, if_pos (show sl.all (okS (szV a b c)) = true from List.all_eq_true.mpr (fun x hx => decide_eq_true (h3 x hx)))]
theorem chk_len {a b c d : Int} {sl : List (List Int)} (h : chkV a b c d sl = 0) : sl.length ≤ 8192 := by
  obtain ⟨h1, h2, _⟩ := chkV_zero h
  have := nV_bd h1
  unfold nV at h2
  omega
theorem szV_bd {a b c d : Int} (h : okP a b c d = true) : 24 ≤ szV a b c ∧ szV a b c ≤ 140 := by
  obtain ⟨h1, h2, h3, h4, h5, h6, h7, h8⟩ := okP_bd h
  unfold szV
  omega
theorem chk_short {a b c d : Int} {sl : List (List Int)} (h : chkV a b c d sl = 0) : ∀ x ∈ sl, x.length ≤ 140 := by
  obtain ⟨h1, h2, h3⟩ := chkV_zero h
  have := szV_bd h1
  intro x hx
  have := h3 x hx
  omega
theorem may9_ev {a b c d : Int} (h : okP a b c d = true) (x : S35) : mayB a b c d x = mayV a b c d x := by
  obtain ⟨h1, h2, h3, h4, h5, h6, h7, h8⟩ := okP_bd h
  unfold mayB image_may.f mayV
  rw [size_ev h, show wrap64 (a + b) = a + b from by unfold wrap64; omega]
  by_cases g1 : x.f0 ≥ 0
  · rw [if_pos g1]
    by_cases g2 : x.f0 < a + b
    · rw [if_pos g2]
      by_cases g3 : x.f1 ≥ 0
      · rw [if_pos g3]
        by_cases g4 : x.f1 < d
        · rw [if_pos g4]
          by_cases g5 : x.f2 / 2 = 0
          · rw [if_pos g5, Option.bind_some]
            show ((x.f3.length : Int) == szV a b c) = _
            by_cases g6 : (x.f3.length : Int) = szV a b c
            · rw [g6, beq_self_eq_true, decide_eq_true (by omega)]
            · rw [beq_false_of_ne g6, decide_eq_false (by omega)]
          · rw [if_neg g5, decide_eq_false (by omega)]; rfl
        · rw [if_neg g4, decide_eq_false (by omega)]; rfl
      · rw [if_neg g3, decide_eq_false (by omega)]; rfl
    · rw [if_neg g2, decide_eq_false (by omega)]; rfl
  · rw [if_neg g1, decide_eq_false (by omega)]; rfl
theorem mayV_bd {a b c d : Int} {x : S35} (h : mayV a b c d x = true) : 0 ≤ x.f0 ∧ x.f0 < a + b ∧ 0 ≤ x.f1 ∧ x.f1 < d ∧ 0 ≤ x.f2 ∧ x.f2 < 2 ∧ (x.f3.length : Int) = szV a b c := of_decide_eq_true h
theorem idx_bd {a b c d : Int} {x : S35} (hp : okP a b c d = true) (h : mayV a b c d x = true) : 0 ≤ x.f0 * d ∧ x.f0 * d ≤ 4096 ∧ 0 ≤ idxV d x ∧ idxV d x < nV a b d := by
  obtain ⟨g1, g2, g3, g4, g5, g6, g7⟩ := mayV_bd h
  obtain ⟨h1, h2, h3, h4, h5, h6, h7, h8⟩ := okP_bd hp
  have l0 : 0 ≤ x.f0 * d := Int.mul_nonneg g1 (by omega)
  have l1 : x.f0 * d ≤ (a + b - 1) * d := Int.mul_le_mul_of_nonneg_right (by omega) (by omega)
  have l2 : (a + b - 1) * d = (a + b) * d - d := by rw [Int.sub_mul, Int.one_mul]
  have l3 := nV_bd hp
  unfold idxV nV
  omega
theorem ix_ev {a b c d : Int} {x : S35} (hp : okP a b c d = true) (h : mayV a b c d x = true) : image_After.ix d x = idxV d x := by
  obtain ⟨g1, g2, g3, g4, g5, g6, g7⟩ := mayV_bd h
  obtain ⟨h1, h2, h3, h4, h5, h6, h7, h8⟩ := okP_bd hp
  obtain ⟨l0, l1, l2, l3⟩ := idx_bd hp h
  unfold image_After.ix idxV
  rw [show wrap64 (x.f0 * d) = x.f0 * d from by unfold wrap64; omega, show wrap64 (x.f0 * d + x.f1) = x.f0 * d + x.f1 from by unfold wrap64; omega, show wrap64 ((x.f0 * d + x.f1) * 2) = (x.f0 * d + x.f1) * 2 from by unfold wrap64; omega, show wrap64 ((x.f0 * d + x.f1) * 2 + x.f2) = (x.f0 * d + x.f1) * 2 + x.f2 from by unfold wrap64; omega]
theorem put1_ev {a b c d : Int} {sl : List (List Int)} {x : S35} (hc : chkV a b c d sl = 0) (h : mayV a b c d x = true) : image_After.put d x sl = some (putV d sl x) := by
  obtain ⟨hp, hn, _⟩ := chkV_zero hc
  obtain ⟨l0, l1, l2, l3⟩ := idx_bd hp h
  have := szV_bd hp
  have := (mayV_bd h).2.2.2.2.2.2
  unfold image_After.put
  rw [ix_ev hp h, if_pos ⟨l2, by omega, by omega⟩]
  rfl
theorem putV_chk {a b c d : Int} {sl : List (List Int)} {x : S35} (hc : chkV a b c d sl = 0) (h : mayV a b c d x = true) : chkV a b c d (putV d sl x) = 0 := by
  obtain ⟨hp, hn, ha⟩ := chkV_zero hc
  unfold putV
  refine chkV_of hp (by rw [List.length_set]; exact hn) (fun y hy => ?_)
  rcases List.mem_or_eq_of_mem_set hy with hy | rfl
  · exact ha y hy
  · exact .inr (mayV_bd h).2.2.2.2.2.2
theorem putsV_chk {a b c d : Int} : ∀ (l : List S35) (sl : List (List Int)), chkV a b c d sl = 0 → (∀ x ∈ l, mayV a b c d x = true) → chkV a b c d (putsV d l sl) = 0
  | [], _, hc, _ => hc
  | x :: l, sl, hc, h => putsV_chk l (putV d sl x) (putV_chk hc (h x (by simp))) (fun y hy => h y (by simp [hy]))
theorem puts_ev {a b c d : Int} : ∀ (l : List S35) (sl : List (List Int)), chkV a b c d sl = 0 → (∀ x ∈ l, mayV a b c d x = true) → image_After.puts d l sl = some (putsV d l sl)
  | [], _, _, _ => rfl
  | x :: l, sl, hc, h => by
    unfold image_After.puts
    rw [put1_ev hc (h x (by simp)), Option.bind_some]
    exact puts_ev l (putV d sl x) (putV_chk hc (h x (by simp))) (fun y hy => h y (by simp [hy]))
theorem taken9 {x : List Int} (h : x.length ≤ 140) : image_taken.f x = some x := by
  unfold image_taken.f
  rw [if_pos (by omega)]
theorem twin_loop (sl : List (List Int)) (hl : sl.length ≤ 8192) (hs : ∀ x ∈ sl, x.length ≤ 140) (a b c d : Int) (q : Nat) : ∀ (k i : Nat) (out : List (List Int)), i + q = sl.length → out.length = sl.length → out.take i = sl.take i → q < k →
    image_twin.l0 k out sl (sl.length : Int) (i : Int) a b c d sl = some (a, b, c, d, sl) := by
  induction q with
  | zero =>
    intro k i out hi ho ht hk2
    obtain ⟨k, rfl⟩ : ∃ m, k = m + 1 := ⟨k - 1, by omega⟩
    simp only [image_twin.l0]
    rw [if_neg (by omega)]
    rw [List.take_of_length_le (by omega), List.take_of_length_le (by omega)] at ht
    rw [ht]
  | succ q ih =>
    intro k i out hi ho ht hk2
    obtain ⟨k, rfl⟩ : ∃ m, k = m + 1 := ⟨k - 1, by omega⟩
    have hlt : i < sl.length := by omega
    simp only [image_twin.l0]
    rw [if_pos (by omega), if_pos (by omega), if_pos (by omega), rdL_nat hlt, taken9 (hs _ (List.getElem_mem hlt)), Option.bind_some, if_pos (by omega), next9 hlt (by omega)]
    refine ih k (i + 1) _ (by omega) (by rw [List.length_set]; exact ho) ?_ (by omega)
    rw [Int.toNat_natCast, List.take_succ_eq_append_getElem hlt, List.take_succ_eq_append_getElem (by rw [List.length_set]; omega), List.getElem_set_self, List.take_set_of_le (Nat.le_refl _), ht]
theorem twin9_ev {a b c d : Int} {sl : List (List Int)} (hc : chkV a b c d sl = 0) (k : Nat) (hk : 9000 ≤ k) : image_twin.f k a b c d sl = some (a, b, c, d, sl) := by
  have hl := chk_len hc
  unfold image_twin.f
  rw [if_pos (by omega), Int.toNat_natCast, if_pos (by omega)]
  exact twin_loop sl hl (chk_short hc) a b c d sl.length k 0 _ (by omega) (by rw [List.length_replicate]) rfl (by omega)
/-- The answer of After. -/
def afterV (a b c d : Int) (sl : List (List Int)) (l : List S35) (n : Int) : Int × Int × Int × Int × List (List Int) × Int :=
  if chkV a b c d sl = 0 then (if 65536 < l.length then (0, 0, 0, 0, [], 20) else if l.all (mayV a b c d) = true then (if n < 0 ∨ (l.length : Int) < n then (0, 0, 0, 0, [], 2) else (a, b, c, d, putsV d (l.take n.toNat) sl, 0)) else (0, 0, 0, 0, [], 80)) else (0, 0, 0, 0, [], chkV a b c d sl)
theorem after9_ev (a b c d : Int) (sl : List (List Int)) (l : List S35) (n : Int) (k : Nat) (hk : 9000 ≤ k) : image_After.f k a b c d sl l n = some (afterV a b c d sl l n) := by
  unfold image_After.f afterV
  rw [check9_ev a b c d sl k hk, Option.bind_some]
  by_cases hc : chkV a b c d sl = 0
  · have hp := (chkV_zero hc).1
    rw [if_pos hc, if_pos hc]
    have he : l.all (mayB a b c d) = l.all (mayV a b c d) := by
      congr 1
      funext x
      exact may9_ev hp x
    rw [he]
    by_cases h1 : 65536 < l.length
    · rw [if_pos h1, if_pos h1]
    · rw [if_neg h1, if_neg h1]
      by_cases h2 : l.all (mayV a b c d) = true
      · rw [if_pos h2, if_pos h2]
        by_cases h3 : n < 0 ∨ (l.length : Int) < n
        · rw [if_pos h3, if_pos h3]
        · rw [if_neg h3, if_neg h3, twin9_ev hc k hk, Option.bind_some]
          dsimp only
          rw [puts_ev (l.take n.toNat) sl hc (fun x hx => List.all_eq_true.mp h2 x (List.mem_of_mem_take hx)), Option.bind_some]
      · rw [if_neg h2, if_neg h2]
  · rw [if_neg hc, if_neg hc]
theorem afterV_zero {a b c d : Int} {sl : List (List Int)} {l : List S35} {n : Int} (h : (afterV a b c d sl l n).2.2.2.2.2 = 0) :
    chkV a b c d sl = 0 ∧ l.length ≤ 65536 ∧ (∀ x ∈ l, mayV a b c d x = true) ∧ 0 ≤ n ∧ n ≤ (l.length : Int) ∧ afterV a b c d sl l n = (a, b, c, d, putsV d (l.take n.toNat) sl, 0) := by
  unfold afterV at h ⊢
  by_cases hc : chkV a b c d sl = 0
  · rw [if_pos hc] at h ⊢
    by_cases h1 : 65536 < l.length
    · rw [if_pos h1] at h; exact absurd h (by decide)
    · rw [if_neg h1] at h ⊢
      by_cases h2 : l.all (mayV a b c d) = true
      · rw [if_pos h2] at h ⊢
        by_cases h3 : n < 0 ∨ (l.length : Int) < n
        · rw [if_pos h3] at h; exact absurd h (by decide)
        · rw [if_neg h3] at h ⊢
          exact ⟨hc, by omega, List.all_eq_true.mp h2, by omega, by omega, rfl⟩
      · rw [if_neg h2] at h; exact absurd h (by decide)
  · rw [if_neg hc] at h
    exact absurd h hc
theorem afterV_err {a b c d : Int} {sl : List (List Int)} {l : List S35} {n : Int} (h : (afterV a b c d sl l n).2.2.2.2.2 ≠ 0) : afterV a b c d sl l n = (0, 0, 0, 0, [], (afterV a b c d sl l n).2.2.2.2.2) := by
  unfold afterV at h ⊢
  by_cases hc : chkV a b c d sl = 0
  · rw [if_pos hc] at h ⊢
    by_cases h1 : 65536 < l.length
    · rw [if_pos h1]
    · rw [if_neg h1] at h ⊢
      by_cases h2 : l.all (mayV a b c d) = true
      · rw [if_pos h2] at h ⊢
        by_cases h3 : n < 0 ∨ (l.length : Int) < n
        · rw [if_pos h3]
        · rw [if_neg h3] at h; exact absurd rfl h
      · rw [if_neg h2]
  · rw [if_neg hc]
theorem put9_ev {a b c d : Int} {sl : List (List Int)} {x : S35} (hc : chkV a b c d sl = 0) (h : mayV a b c d x = true) (k : Nat) (hk : 9000 ≤ k) : image_Put.f k a b c d sl x.f0 x.f1 x.f2 x.f3 = some (a, b, c, d, putV d sl x, 0) := by
  unfold image_Put.f
  rw [after9_ev _ _ _ _ _ _ _ k hk]
  unfold afterV
  rw [if_pos hc, if_neg (by simp), if_pos (by simpa using h), if_neg (by simp)]
  rfl
theorem eqF_refl (k : Nat) : ∀ l, eqF k l l = some true
  | [] => rfl
  | x :: l => by
    unfold eqF bytes_Equal.f
    rw [beq_self_eq_true, Option.bind_some, if_pos rfl, eqF_refl k l]
theorem same9_refl (a b c d : Int) (sl : List (List Int)) (hl : sl.length ≤ 1000000) (k : Nat) : image_Same.f k a b c d sl a b c d sl = some true := by
  unfold image_Same.f
  rw [if_pos ⟨rfl, rfl, rfl, rfl⟩, if_pos ⟨rfl, hl⟩, eqF_refl]
/-- The slots with a drive wiped. -/
def wipeV (d n : Int) (sl : List (List Int)) : List (List Int) := wipeF [] sl (n * (2 * d)).toNat (2 * d).toNat
def wipedV (a b c d : Int) (sl : List (List Int)) (n : Int) : Int × Int × Int × Int × List (List Int) × Int :=
  if chkV a b c d sl = 0 then (if n < 0 ∨ a + b ≤ n then (0, 0, 0, 0, [], 2) else (a, b, c, d, wipeV d n sl, 0)) else (0, 0, 0, 0, [], chkV a b c d sl)
theorem wiped9_ev (a b c d : Int) (sl : List (List Int)) (n : Int) (k : Nat) (hk : 9000 ≤ k) : image_Wiped.f k a b c d sl n = some (wipedV a b c d sl n) := by
  unfold image_Wiped.f wipedV
  rw [check9_ev a b c d sl k hk, Option.bind_some]
  by_cases hc : chkV a b c d sl = 0
  · obtain ⟨hp, hn, _⟩ := chkV_zero hc
    obtain ⟨h1, h2, h3, h4, h5, h6, h7, h8⟩ := okP_bd hp
    rw [if_pos hc, if_pos hc, show wrap64 (a + b) = a + b from by unfold wrap64; omega]
    by_cases g : n < 0 ∨ a + b ≤ n
    · rw [if_pos g, if_pos g]
    · rw [if_neg g, if_neg g, twin9_ev hc k hk, Option.bind_some]
      have l0 : 0 ≤ n * (2 * d) := Int.mul_nonneg (by omega) (by omega)
      have l1 : n * (2 * d) ≤ (a + b - 1) * (2 * d) := Int.mul_le_mul_of_nonneg_right (by omega) (by omega)
      have l2 : (a + b - 1) * (2 * d) = nV a b d - 2 * d := by
        unfold nV
        rw [Int.sub_mul, Int.one_mul, Int.mul_assoc (a + b) d 2, Int.mul_comm d 2]
      have l3 : (n + 1) * (2 * d) = n * (2 * d) + 2 * d := by rw [Int.add_mul, Int.one_mul]
      have l4 := nV_bd hp
      have e0 : wrap64 (2 * d) = 2 * d := by unfold wrap64; omega
      have e1 : image_Wiped.lo d n = n * (2 * d) := by
        unfold image_Wiped.lo
        rw [e0]
        unfold wrap64 nV at *
        omega
      have e2 : image_Wiped.hi d n = n * (2 * d) + 2 * d := by
        unfold image_Wiped.hi
        rw [e0, show wrap64 (n + 1) = n + 1 from by unfold wrap64; omega, l3]
        unfold wrap64 nV at *
        omega
      dsimp only
      rw [e1, e2, if_pos ⟨l0, by omega, by omega⟩, show n * (2 * d) + 2 * d - n * (2 * d) = 2 * d by omega]
      rfl
  · rw [if_neg hc, if_neg hc]
theorem wipeV_chk {a b c d n : Int} {sl : List (List Int)} (hc : chkV a b c d sl = 0) : chkV a b c d (wipeV d n sl) = 0 := by
  obtain ⟨hp, hn, ha⟩ := chkV_zero hc
  unfold wipeV
  refine chkV_of hp (by rw [wipeF_len]; exact hn) (wipeF_mem [] _ (.inl rfl) _ sl _ ha)
theorem wipeV_get {a b c d n : Int} {sl : List (List Int)} (hc : chkV a b c d sl = 0) (h0 : 0 ≤ n) (j : Nat) (hj : j < sl.length) : (wipeV d n sl).getD j [] = if ((j / 2 / d.toNat : Nat) : Int) = n then [] else sl.getD j [] := by
  obtain ⟨hp, hn, _⟩ := chkV_zero hc
  obtain ⟨h1, h2, h3, h4, h5, h6, h7, h8⟩ := okP_bd hp
  unfold wipeV
  rw [wipeF_get [] _ sl _ j hj]
  obtain ⟨D, rfl⟩ : ∃ D : Nat, d = (D : Int) := ⟨d.toNat, by omega⟩
  obtain ⟨m, rfl⟩ : ∃ m : Nat, n = (m : Int) := ⟨n.toNat, by omega⟩
  have e1 : (((m : Int) * (2 * (D : Int))).toNat) = m * (2 * D) := by
    rw [show ((m : Int) * (2 * (D : Int))) = ((m * (2 * D) : Nat) : Int) by simp, Int.toNat_natCast]
  have e2 : (2 * (D : Int)).toNat = 2 * D := by omega
  rw [e1, e2, Int.toNat_natCast, Nat.div_div_eq_div_mul]
  have hD : 0 < 2 * D := by omega
  by_cases h : j / (2 * D) = m
  · rw [if_pos (show ((j / (2 * D) : Nat) : Int) = (m : Int) by omega)]
    have g1 := Nat.div_mul_le_self j (2 * D)
    have g2 := Nat.lt_div_mul_add (a := j) hD
    rw [h] at g1 g2
    rw [if_pos ⟨g1, g2⟩]
  · rw [if_neg (show ¬ ((j / (2 * D) : Nat) : Int) = (m : Int) by omega), if_neg]
    rintro ⟨g1, g2⟩
    refine h ?_
    refine Nat.div_eq_of_lt_le g1 ?_
    rw [Nat.add_mul, Nat.one_mul]
    exact g2
theorem putsV_end (d : Int) (l : List S35) (x : S35) (sl : List (List Int)) : putsV d (l ++ [x]) sl = putV d (putsV d l sl) x := by
  unfold putsV
  rw [List.foldl_append]
  rfl
theorem putsV_len (d : Int) : ∀ (l : List S35) (sl : List (List Int)), (putsV d l sl).length = sl.length
  | [], _ => rfl
  | x :: l, sl => (putsV_len d l (putV d sl x)).trans (by unfold putV; rw [List.length_set])
theorem rdT_nat {l : List S35} {i : Nat} (h : i < l.length) : rd_T35 l (i : Int) = l[i] := by
  unfold rd_T35
  rw [Int.toNat_natCast, List.getD_eq_getElem?_getD, List.getElem?_eq_getElem h]
  rfl
end Go.Proofs.Ytcnmocbiekfpbaa.P

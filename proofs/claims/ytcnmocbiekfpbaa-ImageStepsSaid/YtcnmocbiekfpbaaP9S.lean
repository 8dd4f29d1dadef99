import Derived.Test.YtcnmocbiekfpbaaPx17
import Derived.Test.YtcnmocbiekfpbaaP9V
import Derived.Test.YtcnmocbiekfpbaaPx26
namespace Go.Proofs.Ytcnmocbiekfpbaa.P
open Go.RowKit Go.Proofs.YtcnmocbiekfpbaaW.PrintWords Go.Proofs.YtcnmocbiekfpbaaW.PrintLast Go.Proofs.YtcnmocbiekfpbaaW.PrintMore
attribute [local go_sem] max2_int min2_int max_two min_two max_three min_three max_four min_four
set_option linter.unusedVariables false
set_option linter.unusedSimpArgs false
/-! ### ImageSteps -/
def hvV (l : List S35) : Bool := decide (200 < l.length) || l.any (fun x => decide (5000 < x.f3.length))
theorem rdT_nat {l : List S35} {i : Nat} (h : i < l.length) : rd_T35 l (i : Int) = l[i] := by
  unfold rd_T35
  rw [Int.toNat_natCast, List.getD_eq_getElem?_getD, List.getElem?_eq_getElem h]
  rfl
theorem heavy_loop (l : List S35) (hl : l.length ≤ 200) (q : Nat) : ∀ (k i : Nat), i + q = l.length → q < k → twoslotlaw09_heavy.l0 k l (i : Int) = some ((l.drop i).any (fun x => decide (5000 < x.f3.length))) := by
  induction q with
  | zero =>
    intro k i hi hk
    obtain ⟨k, rfl⟩ : ∃ m, k = m + 1 := ⟨k - 1, by omega⟩
    simp only [twoslotlaw09_heavy.l0]
    rw [if_neg (by omega), List.drop_of_length_le (by omega)]
    rfl
  | succ q ih =>
    intro k i hi hk
    obtain ⟨k, rfl⟩ : ∃ m, k = m + 1 := ⟨k - 1, by omega⟩
    have hlt : i < l.length := by omega
    simp only [twoslotlaw09_heavy.l0]
    rw [if_pos (by omega), if_pos (by omega), rdT_nat hlt, next9 hlt (by omega), ih k (i + 1) (by omega) (by omega), List.drop_eq_getElem_cons hlt, List.any_cons]
    by_cases h : ((l[i].f3.length : Nat) : Int) > 5000
    · rw [if_pos h, decide_eq_true (by omega), Bool.true_or]
    · rw [if_neg h, decide_eq_false (by omega), Bool.false_or]
theorem heavy9_ev (l : List S35) (k : Nat) (hk : 9000 ≤ k) : twoslotlaw09_heavy.f k l = some (hvV l) := by
  unfold twoslotlaw09_heavy.f hvV
  by_cases h : (l.length : Int) > 200
  · rw [if_pos h, decide_eq_true (by omega), Bool.true_or]
  · rw [if_neg h, decide_eq_false (by omega), Bool.false_or]
    exact heavy_loop l (by omega) l.length k 0 (by omega) (by omega)
theorem rdL_set_same {s : List (List Int)} {i : Nat} {x : List Int} (h : i < s.length) : rd_L1 (s.set i x) (i : Int) = x := by
  rw [rdL_nat (by simpa using h), List.getElem_set_self]
theorem rdL_set_ne {s : List (List Int)} {i j : Nat} {x : List Int} (h : j < s.length) (hne : i ≠ j) : rd_L1 (s.set i x) (j : Int) = rd_L1 s (j : Int) := by
  rw [rdL_nat (by simpa using h), rdL_nat h, List.getElem_set_ne hne]
theorem steps_l1 (l : List S35) (n drv : Int) (i : Nat) (hi : i < l.length) (t : Nat) (a b c d a1 b1 c1 d1 : Int) (m fin now : List (List Int)) (hm : m.length ≤ 8192) (hn : now.length = m.length) (ht : t < m.length) : ∀ (q e j : Nat), j + q = m.length →
    twoslotlaw09_ImageSteps.l1 (e + q + 1) l n drv (i : Int) (t : Int) (j : Int) a b c d m a1 b1 c1 d1 fin a b c d now a b c d (now.set t l[i].f3) = twoslotlaw09_ImageSteps.l0 e l n drv (wrap64 ((i : Int) + 1)) a b c d m a1 b1 c1 d1 fin a b c d (now.set t l[i].f3) := by
  intro q
  induction q with
  | zero =>
    intro e j hj
    simp only [Nat.add_zero, twoslotlaw09_ImageSteps.l1]
    rw [if_neg (by omega)]
  | succ q ih =>
    intro e j hj
    have hlt : j < m.length := by omega
    have hl2 : (now.set t l[i].f3).length = m.length := by rw [List.length_set]; exact hn
    rw [show e + (q + 1) + 1 = (e + q + 1) + 1 by omega, twoslotlaw09_ImageSteps.l1, if_pos (by omega), if_pos (by omega), if_pos (by omega), next9 hlt (by omega), ih e (j + 1) (by omega)]
    by_cases h : (j : Int) = (t : Int)
    · obtain rfl : j = t := by omega
      rw [if_pos h, if_pos (by omega), if_pos (by omega), if_pos (by omega), rdT_nat hi, rdL_set_same (by omega), if_pos rfl]
    · rw [if_neg h, if_pos (by omega), rdL_set_ne (by omega) (by omega), if_pos rfl]
theorem str_nil : (strOfNums ([] : List Int)).toList = ([] : List UInt8) := by rw [strL]; rfl
set_option maxRecDepth 100000 in
theorem steps_l2 (drv : Int) (a b c d : Int) (m fin : List (List Int)) (hc : chkV a b c d fin = 0) (h0 : 0 ≤ drv) : ∀ (q k j : Nat), j + q = fin.length → q + 9000 < k →
    twoslotlaw09_ImageSteps.l2 k drv (j : Int) a b c d m a b c d fin a b c d (wipeV d drv fin) = some true := by
  have hl := chk_len hc
  have hp := (chkV_zero hc).1
  obtain ⟨h1, h2, h3, h4, h5, h6, h7, h8⟩ := okP_bd hp
  have hwl : (wipeV d drv fin).length = fin.length := wipeF_len _ _ _ _
  intro q
  induction q with
  | zero =>
    intro k j hj hk
    obtain ⟨k, rfl⟩ : ∃ m, k = m + 1 := ⟨k - 1, by omega⟩
    simp only [twoslotlaw09_ImageSteps.l2]
    rw [if_neg (by omega), check9_ev _ _ _ _ _ k (by omega), Option.bind_some, wipeV_chk hc, if_pos rfl, check9_ev _ _ _ _ _ k (by omega), Option.bind_some, hc]
    rfl
  | succ q ih =>
    intro k j hj hk
    obtain ⟨k, rfl⟩ : ∃ m, k = m + 1 := ⟨k - 1, by omega⟩
    have hlt : j < fin.length := by omega
    have hg := wipeV_get hc h0 j hlt
    have e1 : rd_L1 (wipeV d drv fin) (j : Int) = (wipeV d drv fin).getD j [] := by
      unfold rd_L1
      rw [Int.toNat_natCast]
    have e2 : rd_L1 fin (j : Int) = fin.getD j [] := by
      unfold rd_L1
      rw [Int.toNat_natCast]
    obtain ⟨D, rfl⟩ : ∃ D : Nat, d = (D : Int) := ⟨d.toNat, by omega⟩
    rw [Int.toNat_natCast] at hg
    have e3 : wrap64 (Int.tdiv (j : Int) 2) = ((j / 2 : Nat) : Int) := by
      rw [Int.tdiv_eq_ediv_of_nonneg (by omega)]
      unfold wrap64
      omega
    have e4 : wrap64 (Int.tdiv ((j / 2 : Nat) : Int) (D : Int)) = ((j / 2 / D : Nat) : Int) := by
      have e5 : ((j / 2 : Nat) : Int) / (D : Int) = ((j / 2 / D : Nat) : Int) := by simp
      have := Nat.div_le_self (j / 2) D
      rw [Int.tdiv_eq_ediv_of_nonneg (by omega), e5]
      generalize j / 2 / D = z at *
      unfold wrap64
      omega
    simp only [twoslotlaw09_ImageSteps.l2]
    rw [if_pos (by omega), if_pos (by omega), if_neg (by omega), e3, e4, next9 hlt (by omega), ih k (j + 1) (by omega) (by omega), e1, e2, hg]
    by_cases h : ((j / 2 / D : Nat) : Int) = drv
    · rw [if_pos h, if_pos h, if_pos (by omega), if_pos str_nil]
    · rw [if_neg h, if_neg h, if_pos (by omega), if_pos rfl]
theorem putsV_end (d : Int) (l : List S35) (x : S35) (sl : List (List Int)) : putsV d (l ++ [x]) sl = putV d (putsV d l sl) x := by
  unfold putsV
  rw [List.foldl_append]
  rfl
theorem putsV_len (d : Int) : ∀ (l : List S35) (sl : List (List Int)), (putsV d l sl).length = sl.length
  | [], _ => rfl
  | x :: l, sl => (putsV_len d l (putV d sl x)).trans (by unfold putV; rw [List.length_set])
set_option maxRecDepth 100000 in
theorem steps_l0 (l : List S35) (drv : Int) (a b c d : Int) (sl : List (List Int)) (N : Nat) (hN : N ≤ l.length) (hN2 : l.length ≤ 40) (hc : chkV a b c d sl = 0) (hm : ∀ x ∈ l, mayV a b c d x = true) : ∀ (q k i : Nat), i + q = N → q * 9000 + 30000 ≤ k →
    twoslotlaw09_ImageSteps.l0 k l (N : Int) drv (i : Int) a b c d sl a b c d (putsV d (l.take N) sl) a b c d (putsV d (l.take i) sl) = some true := by
  have hl := chk_len hc
  have hp := (chkV_zero hc).1
  have hn := (chkV_zero hc).2.1
  have hf : chkV a b c d (putsV d (l.take N) sl) = 0 := putsV_chk _ _ hc (fun x hx => hm x (List.mem_of_mem_take hx))
  obtain ⟨h1, h2, h3, h4, h5, h6, h7, h8⟩ := okP_bd hp
  intro q
  induction q with
  | zero =>
    intro k i hi hk
    obtain rfl : i = N := by omega
    obtain ⟨k, rfl⟩ : ∃ m, k = m + 1 := ⟨k - 1, by omega⟩
    simp only [twoslotlaw09_ImageSteps.l0]
    rw [if_neg (by omega), same9_refl _ _ _ _ _ (by rw [putsV_len]; omega), Option.bind_some, if_pos rfl, wiped9_ev _ _ _ _ _ _ k (by omega), Option.bind_some]
    unfold wipedV
    rw [if_pos hf]
    by_cases g : drv < 0 ∨ a + b ≤ drv
    · rw [if_pos g]
      dsimp only
      rw [if_neg (by decide), show wrap64 (a + b) = a + b from by unfold wrap64; omega]
      by_cases g2 : drv < 0
      · rw [if_pos g2]
      · rw [if_neg g2, decide_eq_true (by omega)]
    · rw [if_neg g]
      dsimp only
      rw [if_pos rfl]
      exact steps_l2 drv a b c d sl _ hf (by omega) _ k 0 (Nat.zero_add _) (by rw [putsV_len]; omega)
  | succ q ih =>
    intro k i hi hk
    obtain ⟨k, rfl⟩ : ∃ m, k = m + 2 := ⟨k - 2, by omega⟩
    have hlt : i < l.length := by omega
    have hx := hm l[i] (List.getElem_mem hlt)
    have hci : chkV a b c d (putsV d (l.take i) sl) = 0 := putsV_chk _ _ hc (fun x hx => hm x (List.mem_of_mem_take hx))
    obtain ⟨b0, b1, b2, b3⟩ := idx_bd hp hx
    obtain ⟨g1, g2, g3, g4, g5, g6, g7⟩ := mayV_bd hx
    have hix : wrap64 (wrap64 (wrap64 (wrap64 (l[i].f0 * d) + l[i].f1) * 2) + l[i].f2) = ((idxV d l[i]).toNat : Int) := by
      have := ix_ev hp hx
      unfold image_After.ix at this
      omega
    have hpl : (putV d (putsV d (l.take i) sl) l[i]).length = sl.length := by
      unfold putV
      rw [List.length_set, putsV_len]
    simp only [twoslotlaw09_ImageSteps.l0]
    rw [if_pos (by omega), if_pos (by omega), if_pos (by omega), rdT_nat hlt, put9_ev hci hx (k + 1) (by omega), Option.bind_some]
    dsimp only
    rw [if_pos rfl, hpl, show ((sl.length : Int) != (sl.length : Int)) = false from by simp]
    simp only [twoslotlaw09_ImageSteps.j2]
    rw [if_neg (by decide), if_pos (by omega), if_pos (by omega), rdT_nat hlt, hix]
    unfold putV
    obtain ⟨e, rfl⟩ : ∃ e, k = e + sl.length + 1 := ⟨k - sl.length - 1, by omega⟩
    have hs := steps_l1 l (N : Int) drv i hlt (idxV d l[i]).toNat a b c d a b c d sl (putsV d (l.take N) sl) (putsV d (l.take i) sl) hl (putsV_len _ _ _) (by omega) sl.length e 0 (by omega)
    refine hs.trans ?_
    rw [next9 hlt (by omega)]
    have hn2 : (putsV d (l.take i) sl).set (idxV d l[i]).toNat l[i].f3 = putsV d (l.take (i + 1)) sl := by
      rw [List.take_succ_eq_append_getElem hlt, putsV_end]
      rfl
    rw [hn2]
    exact ih e (i + 1) (by omega) (by omega)
set_option maxRecDepth 100000 in
theorem ImageSteps.ev (a b c d : Int) (sl : List (List Int)) (l : List S35) (n drv : Int) : twoslotlaw09_ImageSteps.f 2000000 a b c d sl l n drv = some true := by
  have hj : ∀ z : Bool, (z = false → sl.length ≤ 2000 ∧ l.length ≤ 40) → twoslotlaw09_ImageSteps.j0 2000000 l n drv z a b c d sl = some true := by
    intro z hz
    have e : (2000000 : Nat) = 1999999 + 1 := rfl
    rw [e]
    simp only [twoslotlaw09_ImageSteps.j0]
    cases z with
    | true => rw [if_pos rfl]
    | false =>
      obtain ⟨z1, z2⟩ := hz rfl
      rw [if_neg (by decide), after9_ev _ _ _ _ _ _ _ 1999999 (by omega), Option.bind_some]
      by_cases h : (afterV a b c d sl l n).2.2.2.2.2 = 0
      · obtain ⟨hc, _, hm, hn0, hn1, he⟩ := afterV_zero h
        rw [he]
        dsimp only
        rw [if_pos rfl]
        obtain ⟨N, rfl⟩ : ∃ N : Nat, n = (N : Int) := ⟨n.toNat, by omega⟩
        rw [Int.toNat_natCast]
        exact steps_l0 l drv a b c d sl N (by omega) z2 hc hm N 1999999 0 (by omega) (by omega)
      · rw [if_neg h, afterV_err h]
        rfl
  unfold twoslotlaw09_ImageSteps.f twoslotlaw09_much.f
  rw [show twoslotlaw09_alive.f = some true from rfl, Option.bind_some, if_pos rfl, Option.bind_some]
  by_cases h1 : (sl.length : Int) > 2000
  · rw [decide_eq_true h1, if_pos rfl]
    exact hj true (fun h => by cases h)
  · rw [decide_eq_false h1, if_neg (by decide), heavy9_ev l 2000000 (by omega), Option.bind_some]
    cases h2 : hvV l with
    | true =>
      rw [if_pos rfl]
      exact hj true (fun h => by cases h)
    | false =>
      rw [if_neg (by decide)]
      exact hj _ (fun h => ⟨by omega, by have := of_decide_eq_false h; omega⟩)
end Go.Proofs.Ytcnmocbiekfpbaa.P

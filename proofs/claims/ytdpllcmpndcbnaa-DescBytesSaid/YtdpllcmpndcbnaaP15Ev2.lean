import Derived.Test.YtdpllcmpndcbnaaP15Ev
import Derived.Test.YtdpllcmpndcbnaaPx7
import Derived.Test.YtdpllcmpndcbnaaPx8
namespace Go.Proofs.Ytdpllcmpndcbnaa.P
open Go.RowKit Go.Proofs.YtdpllcmpndcbnaaW.PrintWords Go.Proofs.YtdpllcmpndcbnaaW.PrintLast Go.Proofs.YtdpllcmpndcbnaaW.PrintMore
attribute [local go_sem] max2_int min2_int max_two min_two max_three min_three max_four min_four
set_option linter.unusedVariables false
set_option linter.unusedSimpArgs false
theorem Leaf_ev (a b c d : Int) (l : List S27) (k : Nat) (hl : l.length ≤ 100000) (hk : l.length + 10 < k) : desc_Leaf.f k a b c d l =
    some (if okP a b c d = true then (if 1 ≤ (l.length : Int) ∧ (l.length : Int) ≤ a * c / 6 then (if l.all (refB d) = true then (wideL (a * c).toNat (refL l), 0) else ([], 150)) else ([], 20)) else ([], 2)) := by
  unfold desc_Leaf.f
  rw [show layout_Leaf.f a b c d = some (if okP a b c d = true then (a * c / 6, 0) else (0, 2)) from rfl, Option.bind_some]
  by_cases hk1 : okP a b c d = true
  · rw [if_pos hk1, if_pos hk1]
    dsimp only
    rw [if_pos rfl]
    obtain ⟨k, rfl⟩ : ∃ m, k = m + 1 := ⟨k - 1, by omega⟩
    by_cases h1 : (l.length : Int) < 1
    · rw [if_pos h1, if_neg (by omega)]
      simp only [desc_Leaf.j0]
      rw [if_pos trivial]
    · rw [if_neg h1]
      simp only [desc_Leaf.j0]
      by_cases h2 : (l.length : Int) > a * c / 6
      · rw [if_pos (decide_eq_true h2), if_neg (by omega)]
      · rw [if_neg (by simpa using h2), if_pos ⟨by omega, by omega⟩, may_ev a b c d l hl k (by omega), Option.bind_some]
        by_cases h3 : l.all (refB d) = true
        · have hw := okW hk1
          rw [if_pos h3, if_pos h3, add_ev l [] k hl (by omega) (by simp; omega), Option.bind_some]
          unfold desc_wide.f
          rw [if_pos hk1]
          rfl
        · rw [if_neg h3, if_neg h3]
  · rw [if_neg hk1, if_neg hk1]
    dsimp only
    rw [if_neg (by omega)]
def leafOK (a c d n : Int) (x : List Int) : Prop := (1 ≤ n ∧ n ≤ a * c / 6) ∧ (readL n.toNat x).all (refB d) = true ∧ wideL (a * c).toNat (refL (readL n.toNat x)) = x
theorem Refs_ev (a b c d n : Int) (x : List Int) (k : Nat) (hB : IsB x) (hk : 70000 < k) : desc_Refs.f k a b c d x n =
    some (if okP a b c d = true then (if (x.length : Int) = a * c then (if 1 ≤ n ∧ n ≤ a * c / 6 then (if (readL n.toNat x).all (refB d) = true ∧ wideL (a * c).toNat (refL (readL n.toNat x)) = x then (readL n.toNat x, 0) else ([], 150)) else ([], 20)) else ([], 20)) else ([], 2)) := by
  unfold desc_Refs.f
  rw [sized_ev, Option.bind_some]
  by_cases hk1 : okP a b c d = true
  · have hw := okW hk1
    rw [if_pos hk1, if_pos hk1]
    by_cases hx : (x.length : Int) = a * c
    · rw [if_pos hx, if_pos rfl, if_pos hx, show layout_Leaf.f a b c d = some (if okP a b c d = true then (a * c / 6, 0) else (0, 2)) from rfl, Option.bind_some, if_pos hk1]
      dsimp only
      rw [if_pos rfl]
      obtain ⟨k, rfl⟩ : ∃ m, k = m + 1 := ⟨k - 1, by omega⟩
      by_cases h1 : n < 1
      · rw [if_pos h1, if_neg (by omega)]
        simp only [desc_Refs.j0]
        rw [if_pos trivial]
      · rw [if_neg h1]
        simp only [desc_Refs.j0]
        by_cases h2 : n > a * c / 6
        · rw [if_pos (decide_eq_true h2), if_neg (by omega)]
        · rw [if_neg (by simpa using h2), if_pos ⟨by omega, by omega⟩]
          have hrd := read_ev x n.toNat k hB (by omega) (by omega) (by omega)
          rw [show ((n.toNat : Nat) : Int) = n by omega] at hrd
          have hlen : (readL n.toNat x).length = n.toNat := readL_len _ _
          have eL := Leaf_ev a b c d (readL n.toNat x) k (by omega) (by omega)
          rw [if_pos hk1, if_pos (show 1 ≤ ((readL n.toNat x).length : Int) ∧ ((readL n.toNat x).length : Int) ≤ a * c / 6 from ⟨by omega, by omega⟩)] at eL
          rw [hrd, Option.bind_some, eL, Option.bind_some]
          by_cases h3 : (readL n.toNat x).all (refB d) = true
          · rw [if_pos h3]
            dsimp only
            rw [if_pos rfl, eqB_ev (wideL_isB (refL_isB _)) hB, Option.bind_some]
            by_cases h4 : wideL (a * c).toNat (refL (readL n.toNat x)) = x
            · rw [if_pos (decide_eq_true h4), if_pos ⟨h3, h4⟩]
            · rw [if_neg (by simpa using h4), if_neg (fun h => h4 h.2)]
          · rw [if_neg h3]
            dsimp only
            rw [if_neg (by omega), if_neg (fun h => h3 h.1)]
    · rw [if_neg hx, if_neg (by omega), if_neg hx]
  · rw [if_neg hk1, if_neg (by omega), if_neg hk1]
theorem same_loop (l : List S27) (hl : l.length ≤ 100000) : ∀ (q i k : Nat), i ≤ l.length → l.length - i = q → q < k → twoslotref15_SameRefs.l0 k l l (i : Int) = some true := by
  intro q
  induction q with
  | zero =>
    intro i k hi hq hk
    obtain ⟨k, rfl⟩ : ∃ m, k = m + 1 := ⟨k - 1, by omega⟩
    simp only [twoslotref15_SameRefs.l0]
    rw [if_neg (by omega)]
  | succ q ih =>
    intro i k hi hq hk
    obtain ⟨k, rfl⟩ : ∃ m, k = m + 1 := ⟨k - 1, by omega⟩
    simp only [twoslotref15_SameRefs.l0]
    rw [if_pos (by omega), if_pos (by omega), if_pos (by omega), if_neg (by simp), wrap_idx (by omega)]
    exact ih (i + 1) k (by omega) (by omega) (by omega)
theorem sameRefs_ev (l : List S27) (hl : l.length ≤ 100000) (k : Nat) (hk : l.length < k) : twoslotref15_SameRefs.f k l l = some true := by
  unfold twoslotref15_SameRefs.f
  rw [if_pos rfl]
  exact same_loop l hl l.length 0 k (by omega) (by omega) hk
theorem same_ev (x y : Int) (l : List S27) (hl : l.length ≤ 100000) (k : Nat) (hk : l.length < k) : twoslotref15_Same.f k x y l x y l = some true := by
  unfold twoslotref15_Same.f
  rw [if_pos rfl, if_pos rfl, sameRefs_ev l hl k hk]
  rfl
theorem alive_ev (k : Nat) (hk : 70001 < k) : twoslotlaw15_alive.f k = some true := by
  have o : okP 4 2 16 32 = true := by decide
  have ch : chkE 4 2 16 32 70 0 [(⟨3, 5⟩ : S27), (⟨1, 6⟩ : S27)] = 0 := by decide
  have hb : fitB 4 2 16 32 70 0 [(⟨3, 5⟩ : S27), (⟨1, 6⟩ : S27)] = true := chkE_zero.mp ch
  obtain ⟨b1, b2, b3, b4, b5⟩ := read_back hb
  have lf : wideL 64 (refL [(⟨3, 5⟩ : S27)]) = [0, 3, 0, 0, 0, 5] ++ List.replicate 58 0 := by decide
  have bd : bytesD 4 16 70 0 [(⟨3, 5⟩ : S27), (⟨1, 6⟩ : S27)] = [0, 0, 0, 70, 0, 0, 2, 0, 3, 0, 0, 0, 5, 0, 1, 0, 0, 0, 6] ++ List.replicate 45 0 := by decide
  have bB : IsB (bytesD 4 16 70 0 [(⟨3, 5⟩ : S27), (⟨1, 6⟩ : S27)]) := wideL_isB (descL_isB _ _ _)
  have lB : IsB (wideL 64 (refL [(⟨3, 5⟩ : S27)])) := wideL_isB (refL_isB _)
  have e1 := Bytes_ev 4 2 16 32 70 0 [(⟨3, 5⟩ : S27), (⟨1, 6⟩ : S27)] k (by decide) (by simp; omega)
  rw [if_pos ch] at e1
  have e2 := Parse_ev 4 2 16 32 (bytesD 4 16 70 0 [(⟨3, 5⟩ : S27), (⟨1, 6⟩ : S27)]) k bB (by omega)
  rw [if_pos o, if_pos b1, b2, b3, b4, b5, if_pos ⟨by rw [b1]; decide, hb, rfl⟩] at e2
  have e3 := Leaf_ev 4 2 16 32 [(⟨3, 5⟩ : S27)] k (by decide) (by simp; omega)
  rw [if_pos o, if_pos (by decide), if_pos (by decide)] at e3
  have e3' : desc_Leaf.f k 4 2 16 32 [(⟨3, 5⟩ : S27)] = some (wideL 64 (refL [(⟨3, 5⟩ : S27)]), 0) := e3
  have e4 := Refs_ev 4 2 16 32 1 (wideL 64 (refL [(⟨3, 5⟩ : S27)])) k lB (by omega)
  rw [if_pos o, if_pos (by rw [wideL_len]; decide), if_pos (by decide), if_pos (by decide), show readL (1 : Int).toNat (wideL 64 (refL [(⟨3, 5⟩ : S27)])) = [(⟨3, 5⟩ : S27)] from rfl] at e4
  have e5 := Refs_ev 4 2 16 32 2 (wideL 64 (refL [(⟨3, 5⟩ : S27)])) k lB (by omega)
  rw [if_pos o, if_pos (by rw [wideL_len]; decide), if_pos (by decide), if_neg (by decide)] at e5
  have e6 := Parse_ev 4 2 16 32 (List.replicate 63 0) k (isB_zeros _) (by omega)
  rw [if_pos o, if_neg (by simp)] at e6
  have e7 := Check_ev 4 2 16 32 70 0 [] (k - 1) (by decide) (by simp; omega)
  have c7 : chkE 4 2 16 32 70 0 [] = 150 := by decide
  rw [c7] at e7
  have e8 := same_ev 70 0 [(⟨3, 5⟩ : S27), (⟨1, 6⟩ : S27)] (by decide) (k - 1) (by simp; omega)
  unfold twoslotlaw15_alive.f twoslotlaw15_sample.f
  simp only [Option.bind_some]
  rw [e1, Option.bind_some]
  dsimp only
  rw [e2, Option.bind_some, if_pos (by decide), show [(⟨3, 5⟩ : S27), (⟨1, 6⟩ : S27)].take 1 = [(⟨3, 5⟩ : S27)] from rfl, e3', Option.bind_some]
  dsimp only
  rw [e4, Option.bind_some, e5, Option.bind_some, if_pos (by decide), e6, Option.bind_some]
  dsimp only
  rw [if_pos rfl, if_pos rfl, if_pos rfl, if_pos rfl, if_pos rfl, if_pos rfl, if_pos (show ((bytesD 4 16 70 0 [(⟨3, 5⟩ : S27), (⟨1, 6⟩ : S27)]).length : Int) = 64 from b1), if_pos (by rw [wideL_len]; decide)]
  obtain ⟨k, rfl⟩ : ∃ m, k = m + 1 := ⟨k - 1, by omega⟩
  rw [Nat.add_sub_cancel] at e7 e8
  simp only [twoslotlaw15_alive.j0]
  rw [bd, lf, if_neg (by decide)]
  iterate 14 rw [if_pos (by decide)]
  rw [e8, Option.bind_some, if_pos rfl]
  iterate 5 rw [if_pos (by decide)]
  rw [e7]
  rfl
end Go.Proofs.Ytdpllcmpndcbnaa.P

import Derived.Test.YtemmhgfjfbdggaaP08O
import Derived.Test.YtemmhgfjfbdggaaPx3
import Derived.Test.YtemmhgfjfbdggaaPx4
namespace Go.Proofs.Ytemmhgfjfbdggaa.P
open Go.RowKit Go.Proofs.YtemmhgfjfbdggaaW.PrintWords Go.Proofs.YtemmhgfjfbdggaaW.PrintLast Go.Proofs.YtemmhgfjfbdggaaW.PrintMore
attribute [local go_sem] max2_int min2_int max_two min_two max_three min_three max_four min_four
set_option linter.unusedVariables false
set_option linter.unusedSimpArgs false
/-! ### what DiskNew's callees come to -/
theorem blank_ev (a b c d : Int) (hp : okP a b c d = true) : twoslotref08_Blank.f a b c d = some (a, b, c, d, List.replicate ((a + b) * d * 2).toNat []) := by
  have hm := many a b c d hp
  have e1 : wrap64 (a + b) = a + b := by unfold wrap64; omega
  unfold twoslotref08_Blank.f twoslotref06_N.f
  rw [Option.bind_some, e1, hm.1, if_pos (by omega), if_pos (by omega)]
theorem bytes0_ev : twoslotref08_Bytes.f [] = some [] := rfl
theorem twin_loop (a b c d : Int) (n : Nat) (hn : n ≤ 100000) : ∀ (q i k : Nat), i ≤ n → n - i = q → q < k → twoslotref08_Twin.l0 k (i : Int) a b c d (List.replicate n []) a b c d (List.replicate i []) = some (a, b, c, d, List.replicate n []) := by
  intro q
  induction q with
  | zero =>
    intro i k hi hq hk
    obtain ⟨k, rfl⟩ : ∃ m, k = m + 1 := ⟨k - 1, by omega⟩
    simp only [twoslotref08_Twin.l0, List.length_replicate]
    rw [if_neg (by omega), show i = n by omega]
  | succ q ih =>
    intro i k hi hq hk
    obtain ⟨k, rfl⟩ : ∃ m, k = m + 1 := ⟨k - 1, by omega⟩
    have e : rd_L1 (List.replicate n []) (i : Int) = [] := by
      unfold rd_L1
      rw [List.getD_eq_getElem?_getD, List.getElem?_replicate]
      split <;> rfl
    simp only [twoslotref08_Twin.l0, List.length_replicate]
    rw [if_pos (by omega), if_pos (by omega), e, bytes0_ev, Option.bind_some, if_pos (by omega), show wrap64 ((i : Int) + 1) = ((i + 1 : Nat) : Int) by unfold wrap64; omega, ← List.replicate_succ']
    exact ih (i + 1) k (by omega) (by omega) (by omega)
theorem twin_ev (a b c d : Int) (n : Nat) (hn : n ≤ 100000) (k : Nat) (hk : n < k) : twoslotref08_Twin.f k a b c d (List.replicate n []) = some (a, b, c, d, List.replicate n []) := by
  unfold twoslotref08_Twin.f
  exact twin_loop a b c d n hn n 0 k (by omega) (by omega) hk
theorem same08_loop (a b c d : Int) (l : List (List Int)) (hl : l.length ≤ 100000) : ∀ (q i k : Nat), i ≤ l.length → l.length - i = q → q < k → twoslotref08_Same.l0 k (i : Int) a b c d l a b c d l = some true := by
  intro q
  induction q with
  | zero =>
    intro i k hi hq hk
    obtain ⟨k, rfl⟩ : ∃ m, k = m + 1 := ⟨k - 1, by omega⟩
    simp only [twoslotref08_Same.l0]
    rw [if_neg (by omega)]
  | succ q ih =>
    intro i k hi hq hk
    obtain ⟨k, rfl⟩ : ∃ m, k = m + 1 := ⟨k - 1, by omega⟩
    simp only [twoslotref08_Same.l0]
    rw [if_pos (by omega), if_pos (by omega), if_pos (by omega), if_pos (by trivial), show wrap64 ((i : Int) + 1) = ((i + 1 : Nat) : Int) by unfold wrap64; omega]
    exact ih (i + 1) k (by omega) (by omega) (by omega)
theorem same08_ev (a b c d : Int) (l : List (List Int)) (hl : l.length ≤ 100000) (k : Nat) (hk : l.length + 1 < k) : twoslotref08_Same.f k a b c d l a b c d l = some true := by
  obtain ⟨k, rfl⟩ : ∃ m, k = m + 1 := ⟨k - 1, by omega⟩
  unfold twoslotref08_Same.f
  rw [if_neg (by simp)]
  simp only [twoslotref08_Same.j0]
  rw [if_neg (by simp)]
  exact same08_loop a b c d l hl l.length 0 k (by omega) (by omega) (by omega)
end Go.Proofs.Ytemmhgfjfbdggaa.P

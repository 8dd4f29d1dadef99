import Derived.Test.YtdpllcmpndcbnaaP15DB
import Derived.Test.YtdpllcmpndcbnaaP15Ev6
import Derived.Test.YtdpllcmpndcbnaaPx12
namespace Go.Proofs.Ytdpllcmpndcbnaa.P
open Go.RowKit Go.Proofs.YtdpllcmpndcbnaaW.PrintWords Go.Proofs.YtdpllcmpndcbnaaW.PrintLast Go.Proofs.YtdpllcmpndcbnaaW.PrintMore
attribute [local go_sem] max2_int min2_int max_two min_two max_three min_three max_four min_four
set_option linter.unusedVariables false
set_option linter.unusedSimpArgs false
theorem spoil_loop (n : Nat) (hn : n ≤ 100000) : ∀ (q i k : Nat) (x : List Int), x.length = n → i ≤ n → n - i = q → q < k → ∃ y, twoslotlaw15_spoil.l0 k x (i : Int) = some y := by
  intro q
  induction q with
  | zero =>
    intro i k x hx hi hq hk
    obtain ⟨k, rfl⟩ : ∃ m, k = m + 1 := ⟨k - 1, by omega⟩
    simp only [twoslotlaw15_spoil.l0]
    rw [if_neg (by omega)]
    exact ⟨_, rfl⟩
  | succ q ih =>
    intro i k x hx hi hq hk
    obtain ⟨k, rfl⟩ : ∃ m, k = m + 1 := ⟨k - 1, by omega⟩
    simp only [twoslotlaw15_spoil.l0]
    rw [if_pos (by omega), if_pos (by omega), wrap_idx (by omega)]
    exact ih (i + 1) k _ (by rw [List.length_set]; exact hx) (by omega) (by omega) (by omega)
theorem spoil_some (x : List Int) (hx : x.length ≤ 70000) : ∃ y, twoslotlaw15_spoil.f 80000 x = some y := by
  unfold twoslotlaw15_spoil.f
  exact spoil_loop x.length (by omega) x.length 0 80000 x rfl (by omega) (by omega) (by omega)
theorem DescBytes.walk (a b c d e0 e1 : Int) (Ae : Option Addr) (ce : Nat) (le : List S27) (Al : Option Addr) (cl : Nat) (l : List S27) (w : World) (hCe : Kd.C k27 w Ae le.length le) (hle : le.length ≤ ce) (hCl : Kd.C k27 w Al l.length l) (hll : l.length ≤ cl) :
    Calls Try.prog 4 #[.agg #[.int .i64 a, .int .i64 b, .int .i64 c, .int .i64 d], .agg #[.int .i64 e0, .int .i64 e1, .slice Ae le.length ce], .slice Al l.length cl] w fun e w' => e = .returned (.bool true) ∧ Below w.heap.size w w' := by
  by_cases h5 : 500 < le.length
  · exact DescBytes.long1 a b c d e0 e1 Ae ce le Al cl l w hCe hle hCl hll h5
  · by_cases h6 : 500 < l.length
    · exact DescBytes.long2 a b c d e0 e1 Ae ce le Al cl l w hCe hle hCl hll h5 h6
    · have p1 := Bytes_ev a b c d e0 e1 le 80000 (by omega) (by omega)
      have p2 := rBytes_ev a b c d e0 e1 le 80000 (by omega) (by omega)
      have q1 := Leaf_ev a b c d l 80000 (by omega) (by omega)
      have q2 := rLeaf_ev a b c d l 80000 (by omega) (by omega)
      have r1 := Check_ev a b c d e0 e1 le 80000 (by omega) (by omega)
      have r2 := rCheck_ev a b c d e0 e1 le 80000 (by omega) (by omega)
      generalize hv : (if chkE a b c d e0 e1 le = 0 then (bytesD a c e0 e1 le, (0 : Int)) else ([], chkE a b c d e0 e1 le)) = v at p1 p2
      generalize hu : (if okP a b c d = true then (if 1 ≤ (l.length : Int) ∧ (l.length : Int) ≤ a * c / 6 then (if l.all (refB d) = true then (wideL (a * c).toNat (refL l), (0 : Int)) else ([], 150)) else ([], 20)) else ([], 2)) = u at q1 q2
      have hvl : v.1.length ≤ 70000 := by
        rw [← hv]
        split
        · rename_i h0
          have hk := (fit_room (chkE_zero.mp h0)).1
          have hw := okW hk
          show (wideL _ _).length ≤ 70000
          rw [wideL_len]; omega
        · simp
      have hul : u.1.length ≤ 70000 := by
        rw [← hu]
        split
        · rename_i hk
          have hw := okW hk
          split
          · split
            · show (wideL _ _).length ≤ 70000
              rw [wideL_len]; omega
            · simp
          · simp
        · simp
      obtain ⟨B', hB'⟩ := spoil_some v.1 hvl
      obtain ⟨C', hC'⟩ := spoil_some u.1 hul
      exact DescBytes.main a b c d e0 e1 Ae ce le Al cl l w hCe hle hCl hll (by omega) (by omega) v.1 u.1 B' C' v.2 u.2 _ p1 p2 q1 q2 r1 r2 hB' hC'
end Go.Proofs.Ytdpllcmpndcbnaa.P

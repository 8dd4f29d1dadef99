import Derived.Test.YtgcodjkedifpaaaP06Ev
import Derived.Test.YtgcodjkedifpaaaPx7
namespace Go.Proofs.Ytgcodjkedifpaaa.P
open Go.RowKit Go.Proofs.YtgcodjkedifpaaaW.PrintWords Go.Proofs.YtgcodjkedifpaaaW.PrintLast Go.Proofs.YtgcodjkedifpaaaW.PrintMore
attribute [local go_sem] max2_int min2_int max_two min_two max_three min_three max_four min_four
set_option linter.unusedVariables false
set_option linter.unusedSimpArgs false
theorem rd_at (xs : List S34) (s : S34) (ys : List S34) : rd_T34 (xs ++ s :: ys) (xs.length : Int) = s := by
  unfold rd_T34
  simp
theorem cell_sum (aK C x : Int) : x / C / aK * (aK * C) + x / C % aK * C + x % C = x := by
  have h1 := Int.mul_ediv_add_emod (x / C) aK
  have h2 := Int.mul_ediv_add_emod x C
  have e1 : x / C / aK * (aK * C) = aK * (x / C / aK) * C := by rw [← Int.mul_assoc, Int.mul_comm (x / C / aK) aK]
  have e2 : aK * (x / C / aK) * C + x / C % aK * C = x / C * C := by rw [← Int.add_mul, h1]
  rw [e1, e2, Int.mul_comm]
  exact h2
theorem whole_loop (aK R C Rw a1 a2 : Int) (hK : 1 ≤ aK) (hK2 : aK ≤ 12) (hC : 8 ≤ C) (hC2 : C ≤ 64) (h0 : 0 ≤ a1) (he2 : a1 + a2 ≤ 40000) (hn : 0 ≤ a2) :
    ∀ (d : Nat) (x : Int) (xs : List S34) (k : Nat), 0 ≤ x → x ≤ a1 + a2 → a1 + a2 - x ≤ d → (xs ≠ [] → x % C = 0 ∨ x = a1 + a2) → xs.length ≤ x - a1 → d < k →
      twoslotlaw06_LayoutWhole.l0 k a1 a2 (xs ++ spansGo aK C (a1 + a2) d x) (aK * C) x (xs.length : Int) aK R C Rw = some true := by
  have we : wrap64 (a1 + a2) = a1 + a2 := by unfold wrap64; omega
  obtain ⟨ml, mr⟩ := mul_small hK hK2 hC hC2
  intro d
  induction d with
  | zero =>
    intro x xs k hx0 hxe hd hm hlen hk
    obtain ⟨k, rfl⟩ : ∃ m, k = m + 1 := ⟨k - 1, by omega⟩
    have hxx : x = a1 + a2 := by omega
    simp only [twoslotlaw06_LayoutWhole.l0, spansGo, List.append_nil]
    rw [if_neg (by omega), we, hxx]
    simp
  | succ d ih =>
    intro x xs k hx0 hxe hd hm hlen hk
    obtain ⟨k, rfl⟩ : ∃ m, k = m + 1 := ⟨k - 1, by omega⟩
    by_cases hlt : x < a1 + a2
    · have f2 := Int.emod_nonneg x (show C ≠ 0 by omega)
      have f3 := Int.emod_lt_of_pos x (show 0 < C by omega)
      have q0 : 0 ≤ x / C := Int.ediv_nonneg hx0 (by omega)
      have q1 : x / C ≤ x := Int.ediv_le_self _ hx0
      have c0 := Int.emod_nonneg (x / C) (show aK ≠ 0 by omega)
      have c1 := Int.emod_lt_of_pos (x / C) (show 0 < aK by omega)
      have s0 : 0 ≤ x / C / aK := Int.ediv_nonneg q0 (by omega)
      have hsum := cell_sum aK C x
      have p0 : 0 ≤ x / C / aK * (aK * C) := Int.mul_nonneg s0 (by omega)
      have p1 : 0 ≤ x / C % aK * C := Int.mul_nonneg c0 (by omega)
      have hgo : spansGo aK C (a1 + a2) (d + 1) x = (⟨x / C / aK, x / C % aK, x % C, x % C + min (C - x % C) (a1 + a2 - x)⟩ : S34) :: spansGo aK C (a1 + a2) d (x + min (C - x % C) (a1 + a2 - x)) := by
        rw [spansGo, if_pos hlt]
      rw [hgo]
      simp only [twoslotlaw06_LayoutWhole.l0]
      rw [if_pos (by simp; omega), if_pos (by omega), rd_at]
      dsimp only
      rw [if_neg (by omega), if_neg (by omega), if_neg (by omega), if_neg (by omega), if_neg (by omega),
        show wrap64 (x / C / aK * (aK * C)) = x / C / aK * (aK * C) from by unfold wrap64; omega,
        show wrap64 (x / C % aK * C) = x / C % aK * C from by unfold wrap64; omega,
        show wrap64 (x / C / aK * (aK * C) + x / C % aK * C) = x / C / aK * (aK * C) + x / C % aK * C from by unfold wrap64; omega,
        show wrap64 (x / C / aK * (aK * C) + x / C % aK * C + x % C) = x from by unfold wrap64; omega, if_pos rfl]
      have nx : wrap64 (wrap64 (x + (x % C + min (C - x % C) (a1 + a2 - x))) - x % C) = x + min (C - x % C) (a1 + a2 - x) := by
        rw [show wrap64 (x + (x % C + min (C - x % C) (a1 + a2 - x))) = x + (x % C + min (C - x % C) (a1 + a2 - x)) from by unfold wrap64; omega]
        unfold wrap64
        omega
      have ni : wrap64 ((xs.length : Int) + 1) = ((xs ++ [(⟨x / C / aK, x / C % aK, x % C, x % C + min (C - x % C) (a1 + a2 - x)⟩ : S34)]).length : Int) := by
        rw [List.length_append]
        simp
        unfold wrap64
        omega
      have nm : (x + min (C - x % C) (a1 + a2 - x)) % C = 0 ∨ x + min (C - x % C) (a1 + a2 - x) = a1 + a2 := by
        by_cases hc : C - x % C ≤ a1 + a2 - x
        · left
          have hd := Int.mul_ediv_add_emod x C
          rw [show x + min (C - x % C) (a1 + a2 - x) = C * (x / C + 1) from by rw [Int.mul_add]; omega]
          exact Int.mul_emod_right _ _
        · right; omega
      have key := ih (x + min (C - x % C) (a1 + a2 - x)) (xs ++ [(⟨x / C / aK, x / C % aK, x % C, x % C + min (C - x % C) (a1 + a2 - x)⟩ : S34)]) k (by omega) (by omega) (by omega) (fun _ => nm) (by rw [List.length_append]; simp; omega) (by omega)
      rw [List.append_assoc, List.singleton_append] at key
      rw [nx, ni]
      by_cases hi : (xs.length : Int) > 0
      · rw [if_pos hi, if_pos, key]
        rcases hm (by intro e; rw [e] at hi; simp at hi) with h | h
        · exact h
        · omega
      · rw [if_neg hi, key]
    · have hxx : x = a1 + a2 := by omega
      rw [spansGo_done _ _ _ _ _ hlt, List.append_nil]
      simp only [twoslotlaw06_LayoutWhole.l0]
      rw [if_neg (by omega), we, hxx]
      simp
theorem mostOf_nonneg {W : Int} (h1 : 8 ≤ W) (h2 : W ≤ 768) : 0 ≤ mostOf W ∧ mostOf W ≤ 32768 := by
  obtain ⟨c1, c2, c3, c4⟩ := mostOf_small h1 h2
  unfold mostOf
  omega
theorem LayoutWhole.ev (a b c d n1 n2 : Int) : ∃ k, twoslotlaw06_LayoutWhole.f k a b c d n1 n2 = some true := by
  refine ⟨n2.toNat + 2, ?_⟩
  unfold twoslotlaw06_LayoutWhole.f
  rw [awake_ev, Option.bind_some, if_pos rfl]
  by_cases hk : okP a b c d = true
  · obtain ⟨o1, o2, o3, o4, o5, o6, o7, o8, o9⟩ := okP_iff.mp hk
    have hw := okW hk
    have hm := mostOf_nonneg (W := a * c) (by omega) hw.2
    rw [show layout_Width.f a b c d = some (a * c, 0) from by simp [layout_Width.f, hk]]
    unfold layout_Spans.f
    rw [if_pos hk]
    by_cases h1 : n1 < 0 ∨ n2 < 0
    · rw [if_pos h1]
      simp only [Option.bind_some]
      rw [if_neg (by omega)]
      simp [twoslotlaw06_LayoutWhole.j0]
    · rw [if_neg h1]
      by_cases h2 : n1 > mostOf (a * c) ∨ n2 > mostOf (a * c) - n1
      · rw [if_pos h2]
        simp only [Option.bind_some]
        rw [if_neg (by omega)]
        simp [twoslotlaw06_LayoutWhole.j0]
      · rw [if_neg h2]
        simp only [Option.bind_some]
        rw [if_pos trivial]
        have key := whole_loop a b c d n1 n2 o1 o2 o5 o6 (by omega) (by omega) (by omega) n2.toNat n1 [] (n2.toNat + 1) (by omega) (by omega) (by omega) (fun h => absurd rfl h) (by simp) (by omega)
        rw [List.nil_append] at key
        simp only [twoslotlaw06_LayoutWhole.j0]
        rw [if_neg (by simp)]
        exact key
  · rw [show layout_Width.f a b c d = some (0, 2) from by simp [layout_Width.f, hk]]
    unfold layout_Spans.f
    rw [if_neg hk]
    simp only [Option.bind_some]
    rw [if_neg (by omega)]
    simp [twoslotlaw06_LayoutWhole.j0]
theorem LayoutWhole.walk (a b c d n1 n2 : Int) (w : World) :
    Calls Try.prog 5 #[.agg #[.int .i64 a, .int .i64 b, .int .i64 c, .int .i64 d], .int .i64 n1, .int .i64 n2] w fun e w' => e = .returned (.bool true) ∧ Below w.heap.size w w' := by
  obtain ⟨k, h⟩ := LayoutWhole.ev a b c d n1 n2
  exact twoslotlaw06_LayoutWhole.calls k a b c d n1 n2 true w h
end Go.Proofs.Ytgcodjkedifpaaa.P

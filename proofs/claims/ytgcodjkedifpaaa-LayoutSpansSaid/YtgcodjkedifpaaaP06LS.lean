import Derived.Test.YtgcodjkedifpaaaP06Ev
import Derived.Test.YtgcodjkedifpaaaPx6
import Derived.Test.YtgcodjkedifpaaaPx5
namespace Go.Proofs.Ytgcodjkedifpaaa.P
open Go.RowKit Go.Proofs.YtgcodjkedifpaaaW.PrintWords Go.Proofs.YtgcodjkedifpaaaW.PrintLast Go.Proofs.YtgcodjkedifpaaaW.PrintMore
attribute [local go_sem] max2_int min2_int max_two min_two max_three min_three max_four min_four
set_option linter.unusedVariables false
set_option linter.unusedSimpArgs false
/-- The last part's end is set. -/
def updLast (l : List S34) (t : Int) : List S34 := l.set (l.length - 1) ⟨(l.getD (l.length - 1) z34).f0, (l.getD (l.length - 1) z34).f1, (l.getD (l.length - 1) z34).f2, t⟩
theorem updLast_snoc (l : List S34) (a b c d t : Int) : updLast (l ++ [(⟨a, b, c, d⟩ : S34)]) t = l ++ [(⟨a, b, c, t⟩ : S34)] := by
  unfold updLast
  simp
theorem updLast_cons (s : S34) (l : List S34) (h : l ≠ []) (t : Int) : updLast (s :: l) t = s :: updLast l t := by
  cases l with
  | nil => exact absurd rfl h
  | cons y l =>
    unfold updLast
    simp
theorem rd_last (l : List S34) : rd_T34 l ((l.length : Int) - 1) = l.getD (l.length - 1) z34 := by
  unfold rd_T34
  rw [show ((l.length : Int) - 1).toNat = l.length - 1 by omega]
theorem spansGo_len (aK C e : Int) : ∀ (n : Nat) (x : Int), (spansGo aK C e n x).length ≤ n := by
  intro n
  induction n with
  | zero => intro x; simp [spansGo]
  | succ n ih =>
    intro x
    rw [spansGo]
    split
    · have := ih (x + min (C - x % C) (e - x))
      simp
      exact this
    · simp
theorem spansGo_ne (aK C e : Int) (n : Nat) (x : Int) (h : x < e) (hn : 0 < n) : spansGo aK C e n x ≠ [] := by
  obtain ⟨m, rfl⟩ : ∃ m, n = m + 1 := ⟨n - 1, by omega⟩
  rw [spansGo, if_pos h]
  simp
/-- One byte more. -/
theorem spansGo_ext (aK C i : Int) (hC : 8 ≤ C) : ∀ (n m : Nat) (x : Int), 0 ≤ x → x ≤ i → i - x ≤ m → i + 1 - x ≤ n →
    spansGo aK C (i + 1) n x = if i = x ∨ i % C = 0 then spansGo aK C i m x ++ [(⟨i / C / aK, i / C % aK, i % C, i % C + 1⟩ : S34)] else updLast (spansGo aK C i m x) (i % C + 1) := by
  intro n
  induction n with
  | zero => intro m x h0 hx hm hn; omega
  | succ n ih =>
    intro m x h0 hx hm hn
    have f2 := Int.emod_nonneg x (show C ≠ 0 by omega)
    have f3 := Int.emod_lt_of_pos x (show 0 < C by omega)
    have hd := Int.mul_ediv_add_emod x C
    by_cases he : i = x
    · subst he
      rw [if_pos (.inl rfl), spansGo_done aK C i m i (by omega), spansGo, if_pos (by omega)]
      rw [show min (C - i % C) (i + 1 - i) = 1 by omega, spansGo_done _ _ _ _ _ (by omega)]
      rfl
    · obtain ⟨m, rfl⟩ : ∃ q, m = q + 1 := ⟨m - 1, by omega⟩
      have hlt : x < i := by omega
      rw [spansGo, if_pos (by omega), spansGo, if_pos hlt]
      by_cases hc : C - x % C ≤ i - x
      · rw [show min (C - x % C) (i + 1 - x) = C - x % C by omega, show min (C - x % C) (i - x) = C - x % C by omega]
        rw [ih m (x + (C - x % C)) (by omega) (by omega) (by omega) (by omega)]
        have hz : i = x + (C - x % C) → i % C = 0 := by
          intro h
          rw [h, show x + (C - x % C) = C * (x / C + 1) from by rw [Int.mul_add]; omega]
          exact Int.mul_emod_right _ _
        by_cases hi : i % C = 0
        · rw [if_pos (.inr hi), if_pos (.inr hi)]
          rfl
        · have h1 : i ≠ x + (C - x % C) := fun h => hi (hz h)
          rw [if_neg (by omega), if_neg (by omega), updLast_cons _ _ (spansGo_ne _ _ _ _ _ (by omega) (by omega))]
      · have him : i % C = x % C + (i - x) := by
          have e : i = (x % C + (i - x)) + C * (x / C) := by omega
          conv => lhs; rw [e]
          rw [Int.add_mul_emod_self_left]
          exact Int.emod_eq_of_lt (by omega) (by omega)
        rw [show min (C - x % C) (i + 1 - x) = i + 1 - x by omega, show min (C - x % C) (i - x) = i - x by omega]
        rw [spansGo_done _ _ _ _ _ (by omega), spansGo_done _ _ _ _ _ (by omega), if_neg (by omega)]
        unfold updLast
        simp
        omega
theorem ref_loop (aK R C Rw a1 a2 : Int) (hK : 1 ≤ aK) (hC : 8 ≤ C) (hC2 : C ≤ 64) (h0 : 0 ≤ a1) (he2 : a1 + a2 ≤ 40000) (hn : 0 ≤ a2) :
    ∀ (d : Nat) (i : Int) (k : Nat), a1 ≤ i → i ≤ a1 + a2 → a1 + a2 - i = d → d < k →
      twoslotref06_Spans.l0 k a1 a2 (spansGo aK C i (i - a1).toNat a1) i aK R C Rw = some (spansGo aK C (a1 + a2) a2.toNat a1, 0) := by
  have we : wrap64 (a1 + a2) = a1 + a2 := by unfold wrap64; omega
  intro d
  induction d with
  | zero =>
    intro i k h1 h2 hd hk
    obtain ⟨k, rfl⟩ : ∃ m, k = m + 1 := ⟨k - 1, by omega⟩
    obtain rfl : i = a1 + a2 := by omega
    simp only [twoslotref06_Spans.l0]
    rw [we, if_neg (by omega), show (a1 + a2 - a1).toNat = a2.toNat by omega]
  | succ d ih =>
    intro i k h1 h2 hd hk
    obtain ⟨k, rfl⟩ : ∃ m, k = m + 1 := ⟨k - 1, by omega⟩
    have key := ih (i + 1) k (by omega) (by omega) (by omega) (by omega)
    rw [spansGo_ext aK C i hC (i + 1 - a1).toNat (i - a1).toNat a1 h0 h1 (by omega) (by omega)] at key
    have hlen := spansGo_len aK C i (i - a1).toNat a1
    have f2 := Int.emod_nonneg i (show C ≠ 0 by omega)
    have f3 := Int.emod_lt_of_pos i (show 0 < C by omega)
    have g0 : 0 ≤ i / C := Int.ediv_nonneg (by omega) (by omega)
    have g1 : i / C ≤ i := Int.ediv_le_self _ (by omega)
    have s0 : 0 ≤ i / C / aK := Int.ediv_nonneg g0 (by omega)
    have s1 : i / C / aK ≤ i / C := Int.ediv_le_self _ g0
    have hne : 0 < i - a1 → spansGo aK C i (i - a1).toNat a1 ≠ [] := fun h => spansGo_ne _ _ _ _ _ (by omega) (by omega)
    have t3 : wrap64 (i / C) = i / C := by unfold wrap64; omega
    have t6 : wrap64 (i / C / aK) = i / C / aK := by unfold wrap64; omega
    have t7 : wrap64 (i % C + 1) = i % C + 1 := by unfold wrap64; omega
    have t1 : Int.tdiv i C = i / C := Int.tdiv_eq_ediv_of_nonneg (by omega)
    have t2 : Int.tmod i C = i % C := Int.tmod_eq_emod_of_nonneg (by omega)
    have t4 : Int.tdiv (i / C) aK = i / C / aK := Int.tdiv_eq_ediv_of_nonneg g0
    have t5 : Int.tmod (i / C) aK = i / C % aK := Int.tmod_eq_emod_of_nonneg g0
    have t8 : wrap64 (i + 1) = i + 1 := by unfold wrap64; omega
    have setl : ∀ l : List S34, 0 < l.length → l.length ≤ 50000 → ∀ t, (l.set (wrap64 ((l.length : Int) - 1)).toNat (⟨(rd_T34 l (wrap64 ((l.length : Int) - 1))).f0, (rd_T34 l (wrap64 ((l.length : Int) - 1))).f1, (rd_T34 l (wrap64 ((l.length : Int) - 1))).f2, t⟩ : S34)) = updLast l t := by
      intro l hl hl2 t
      have w1 : wrap64 ((l.length : Int) - 1) = (l.length : Int) - 1 := by unfold wrap64; omega
      rw [w1, rd_last, show ((l.length : Int) - 1).toNat = l.length - 1 by omega]
      rfl
    have bnd : ∀ l : List S34, 0 < l.length → l.length ≤ 50000 → 0 ≤ wrap64 ((l.length : Int) - 1) ∧ wrap64 ((l.length : Int) - 1) < (l.length : Int) := by
      intro l hl hl2
      have w1 : wrap64 ((l.length : Int) - 1) = (l.length : Int) - 1 := by unfold wrap64; omega
      rw [w1]
      omega
    simp only [twoslotref06_Spans.l0]
    rw [we, if_pos (by omega), if_neg (by omega)]
    rw [t1, t2, t3, t4, t5, t6, t7, t8]
    by_cases hi : i = a1
    · obtain ⟨b1, b2⟩ := bnd (spansGo aK C i (i - a1).toNat a1 ++ [(⟨i / C / aK, i / C % aK, i % C, 0⟩ : S34)]) (by simp) (by rw [List.length_append]; simp; omega)
      rw [if_pos (.inl hi)] at key
      rw [if_pos hi, if_neg (by omega), if_pos (by omega), Option.bind_some, if_pos b1, if_pos b2, setl _ (by simp) (by rw [List.length_append]; simp; omega), updLast_snoc]
      exact key
    · rw [if_neg hi]
      by_cases hz : i % C = 0
      · obtain ⟨b1, b2⟩ := bnd (spansGo aK C i (i - a1).toNat a1 ++ [(⟨i / C / aK, i / C % aK, i % C, 0⟩ : S34)]) (by simp) (by rw [List.length_append]; simp; omega)
        rw [if_pos (.inr hz)] at key
        rw [if_pos hz, if_neg (by omega), if_pos (by omega), Option.bind_some, if_pos b1, if_pos b2, setl _ (by simp) (by rw [List.length_append]; simp; omega), updLast_snoc]
        exact key
      · have hl : 0 < (spansGo aK C i (i - a1).toNat a1).length := List.length_pos_iff.mpr (hne (by omega))
        obtain ⟨b1, b2⟩ := bnd (spansGo aK C i (i - a1).toNat a1) hl (by omega)
        rw [if_neg (by omega)] at key
        rw [if_neg hz, if_pos b1, if_pos b2, setl _ hl (by omega)]
        exact key
theorem refSpans_ev (a b c d n1 n2 : Int) (k : Nat) (hk2 : n2.toNat + 2 ≤ k) : twoslotref06_Spans.f k a b c d n1 n2 = layout_Spans.f a b c d n1 n2 := by
  obtain ⟨k, rfl⟩ : ∃ m, k = m + 1 := ⟨k - 1, by omega⟩
  unfold twoslotref06_Spans.f layout_Spans.f
  rw [May_ev, Option.bind_some]
  by_cases hk : okP a b c d = true
  · obtain ⟨o1, o2, o3, o4, o5, o6, o7, o8, o9⟩ := okP_iff.mp hk
    have hw := okW hk
    have hm : 0 ≤ mostOf (a * c) ∧ mostOf (a * c) ≤ 32768 := by
      obtain ⟨c1, c2, c3, c4⟩ := mostOf_small (W := a * c) (by omega) hw.2
      unfold mostOf
      omega
    rw [if_pos hk, if_pos hk]
    by_cases h1 : n1 < 0
    · rw [if_pos h1, if_pos (.inl h1)]
      simp only [twoslotref06_Spans.j0]
      rw [if_pos trivial]
    · rw [if_neg h1]
      simp only [twoslotref06_Spans.j0]
      by_cases h2 : n2 < 0
      · rw [if_pos (by simpa using h2), if_pos (.inr h2)]
      · rw [if_neg (by simpa using h2), if_neg (by omega)]
        simp only [refM_ev hk, Option.bind_some]
        by_cases h3 : n1 > mostOf (a * c)
        · rw [if_pos h3, if_pos (.inl h3)]
        · rw [if_neg h3]
          by_cases h4 : n2 > mostOf (a * c)
          · rw [if_pos h4, if_pos (.inr (by omega))]
          · rw [if_neg h4, show wrap64 (n1 + n2) = n1 + n2 from by unfold wrap64; omega]
            by_cases h5 : n1 + n2 > mostOf (a * c)
            · rw [if_pos h5, if_pos (.inr (by omega))]
            · rw [if_neg h5, if_neg (by omega)]
              have key := ref_loop a b c d n1 n2 o1 o5 o6 (by omega) (by omega) (by omega) n2.toNat n1 k (by omega) (by omega) (by omega) (by omega)
              rw [show (n1 - n1).toNat = 0 by omega] at key
              exact key
  · rw [if_neg hk, if_neg hk]
    simp only [twoslotref06_Spans.j0]
    rw [if_pos trivial]
theorem cmp_loop1 (L : List S34) (hL : L.length ≤ 100000) : ∀ (d : Nat) (i : Nat) (k : Nat), i ≤ L.length → L.length - i = d → d < k → twoslotlaw06_LayoutSpans.l1 k L L (i : Int) = some true := by
  intro d
  induction d with
  | zero =>
    intro i k hi hd hk
    obtain ⟨k, rfl⟩ : ∃ m, k = m + 1 := ⟨k - 1, by omega⟩
    simp only [twoslotlaw06_LayoutSpans.l1]
    rw [if_neg (by omega)]
    simp
  | succ d ih =>
    intro i k hi hd hk
    obtain ⟨k, rfl⟩ : ∃ m, k = m + 1 := ⟨k - 1, by omega⟩
    simp only [twoslotlaw06_LayoutSpans.l1]
    rw [if_pos (by omega), if_pos (by omega), if_pos (by omega), if_neg (by simp), show wrap64 ((i : Int) + 1) = ((i + 1 : Nat) : Int) from by unfold wrap64; omega]
    exact ih (i + 1) k (by omega) (by omega) (by omega)
theorem cmp_loop0 (a b c d n1 n2 : Int) (L : List S34) (e : Int) (hs : layout_Spans.f a b c d n1 n2 = some (L, e)) (hL : L.length ≤ 100000) : ∀ (q : Nat) (i : Nat) (M : List S34) (k : Nat), i ≤ L.length → L.length - i = q → q + L.length + 2 < k → M.length = L.length → (∀ j, i ≤ j → M.getD j z34 = L.getD j z34) →
    twoslotlaw06_LayoutSpans.l0 k n1 n2 M L (i : Int) a b c d = some true := by
  intro q
  induction q with
  | zero =>
    intro i M k hi hd hk hM hj
    obtain ⟨k, rfl⟩ : ∃ m, k = m + 1 := ⟨k - 1, by omega⟩
    simp only [twoslotlaw06_LayoutSpans.l0]
    rw [if_neg (by omega), hs, Option.bind_some]
    exact cmp_loop1 L hL L.length 0 k (by omega) (by omega) (by omega)
  | succ q ih =>
    intro i M k hi hd hk hM hj
    obtain ⟨k, rfl⟩ : ∃ m, k = m + 1 := ⟨k - 1, by omega⟩
    have hr : rd_T34 M (i : Int) = rd_T34 L (i : Int) := by
      unfold rd_T34
      exact hj _ (by omega)
    simp only [twoslotlaw06_LayoutSpans.l0]
    rw [if_pos (by omega), if_pos (by omega), if_pos (by omega), hr, if_neg (by simp), show wrap64 ((i : Int) + 1) = ((i + 1 : Nat) : Int) from by unfold wrap64; omega]
    refine ih (i + 1) _ k (by omega) (by omega) (by omega) (by simp [hM]) (fun j hj2 => ?_)
    rw [← hj j (by omega)]
    rw [List.getD_eq_getElem?_getD, List.getD_eq_getElem?_getD, List.getElem?_set_ne (by omega)]
theorem LayoutSpans.ev (a b c d n1 n2 : Int) : ∃ k, twoslotlaw06_LayoutSpans.f k a b c d n1 n2 = some true := by
  have hsp : ∃ L e, layout_Spans.f a b c d n1 n2 = some (L, e) ∧ L.length ≤ 100000 := by
    unfold layout_Spans.f
    by_cases hk : okP a b c d = true
    · have hw := okW hk
      have hm : mostOf (a * c) ≤ 32768 := mostOf_le _
      rw [if_pos hk]
      split
      · exact ⟨_, _, rfl, by simp⟩
      · split
        · exact ⟨_, _, rfl, by simp⟩
        · refine ⟨_, _, rfl, ?_⟩
          have := spansGo_len a c (n1 + n2) n2.toNat n1
          omega
    · rw [if_neg hk]
      exact ⟨_, _, rfl, by simp⟩
  obtain ⟨L, e, hs, hL⟩ := hsp
  refine ⟨n2.toNat + L.length + L.length + 10, ?_⟩
  unfold twoslotlaw06_LayoutSpans.f
  rw [awake_ev, Option.bind_some, if_pos rfl, refSpans_ev _ _ _ _ _ _ _ (by omega), hs, Option.bind_some, Option.bind_some, if_pos rfl]
  simp only [twoslotlaw06_LayoutSpans.j0]
  rw [if_neg (by simp)]
  exact cmp_loop0 a b c d n1 n2 L e hs hL L.length 0 L _ (by omega) (by omega) (by omega) rfl (fun _ _ => rfl)
theorem LayoutSpans.walk (a b c d n1 n2 : Int) (w : World) :
    Calls Try.prog 4 #[.agg #[.int .i64 a, .int .i64 b, .int .i64 c, .int .i64 d], .int .i64 n1, .int .i64 n2] w fun e w' => e = .returned (.bool true) ∧ Below w.heap.size w w' := by
  obtain ⟨k, h⟩ := LayoutSpans.ev a b c d n1 n2
  exact twoslotlaw06_LayoutSpans.calls k a b c d n1 n2 true w h
end Go.Proofs.Ytgcodjkedifpaaa.P

import Derived.Test.YtemmhgfjfbdggaaP08H
namespace Go.Proofs.Ytemmhgfjfbdggaa.P
open Go.RowKit Go.Proofs.YtemmhgfjfbdggaaW.PrintWords Go.Proofs.YtemmhgfjfbdggaaW.PrintLast Go.Proofs.YtemmhgfjfbdggaaW.PrintMore
attribute [local go_sem] max2_int min2_int max_two min_two max_three min_three max_four min_four
set_option linter.unusedVariables false
set_option linter.unusedSimpArgs false
theorem putsL_one {nd : Nat} {d sz : Int} (x : PutT) (s : DS) : putsL nd d sz [x] s = put1 nd d sz x s := by
  unfold putsL
  by_cases h : (put1 nd d sz x s).2 = 0
  · rw [if_pos h]
    unfold putsL
    exact Prod.ext rfl h.symm
  · rw [if_neg h]
theorem put1_bad {nd : Nat} {d sz : Int} {p : PutT} {sl : List (List Int)} {n : Int} (h : atOf nd d p.f0 p.f1 p.f2 < 0 ∨ (p.f3.length : Int) ≠ sz) : put1 nd d sz p ⟨sl, false, -1, n⟩ = (⟨sl, false, -1, n⟩, 80) := by
  unfold put1
  rw [if_neg (by simp), if_pos h]
theorem put1_good {nd : Nat} {d sz : Int} {p : PutT} {sl : List (List Int)} {n : Int} {i : Nat} (h : atOf nd d p.f0 p.f1 p.f2 = (i : Int)) (h2 : (p.f3.length : Int) = sz) : put1 nd d sz p ⟨sl, false, -1, n⟩ = (⟨sl.set i p.f3, false, -1, n + 1⟩, 0) := by
  unfold put1
  rw [if_neg (by simp), if_neg (by omega), if_neg (show ¬ (-1 : Int) = 0 by omega), h, Int.toNat_natCast]
  rfl
theorem wipedOf_none {g : List Bool} (h : ∀ i, g.getD i false = false) : ∀ k, wipedOf k g = []
  | 0 => rfl
  | k + 1 => by rw [wipedOf_no (h k), wipedOf_none h k]
theorem wipedOf_fresh (n k : Nat) : wipedOf k (List.replicate n false) = [] := wipedOf_none (fun i => by
  rw [List.getD_eq_getElem?_getD, List.getElem?_replicate]
  split <;> rfl) k
theorem wipedOf_clear (g : List Bool) (k : Nat) : wipedOf k (wipeF false g 0 g.length) = [] := wipedOf_none (fun i => by
  by_cases hi : i < g.length
  · rw [wipeF_get false g.length g 0 i hi, if_pos (by omega)]
  · rw [List.getD_eq_getElem?_getD, List.getElem?_eq_none (by rw [wipeF_len]; omega)]
    rfl) k
theorem wipedOf_one (n q : Nat) : ∀ k, k ≤ n → wipedOf k ((List.replicate n false).set q true) = if q < k then [(q : Int)] else []
  | 0, _ => by rw [if_neg (by omega)]; rfl
  | k + 1, hk => by
    by_cases h : k = q
    · subst h
      rw [wipedOf_yes (by rw [List.getD_eq_getElem?_getD, List.getElem?_set_self (by rw [List.length_replicate]; omega)]; rfl), wipedOf_one n k k (by omega), if_neg (by omega), if_pos (by omega)]
      rfl
    · rw [wipedOf_no (by
        rw [List.getD_eq_getElem?_getD, List.getElem?_set_ne (Ne.symm h), List.getElem?_replicate]
        split <;> rfl), wipedOf_one n q k (by omega)]
      by_cases h2 : q < k
      · rw [if_pos h2, if_pos (by omega)]
      · rw [if_neg h2, if_neg (by omega)]
theorem lit_F {W : World} {g : Nat} {okl : Nat → Prop} {x : S51} {A3 : Option Addr} {c3 : Nat} (h : W.heap[g]? = some (.cells #[.int .i64 x.f0, .int .i64 x.f1, .int .i64 x.f2, .slice A3 x.f3.length c3] 51 (0, 0))) (hle : x.f3.length ≤ c3) (hF : Kd.F (Kd.int .u8) W okl A3 x.f3.length x.f3) (hg : okl g) : Kd.F k51 W okl (some ⟨g, 0, none⟩) [x].length [x] := by
  intro W' hW
  have hb : W'.heap[g]? = _ := (hW g hg (blk_lt h)).trans h
  refine ⟨rfl, by simp, fun _ => ⟨_, rfl, fun j p hj => ?_⟩⟩
  obtain ⟨hj1, hj2⟩ := List.getElem?_eq_some_iff.mp hj
  have h0 : j = 0 := by simpa using hj1
  subst h0
  obtain rfl : x = p := hj2
  refine ⟨_, rfl, k51_mk W' x hle (hF W' hW), fun i u hu => ?_⟩
  have e : ((⟨g, 0, none⟩ : Addr).add (0 * k51.sz + i)) = ⟨g, i, none⟩ := by
    unfold Addr.add
    by_cases hi : i = 0
    · subst hi
      simp
    · rw [if_neg (by omega)]
      simp
  rw [e, blk_cell hb i]
  rw [← hu]
  simp
theorem WriteA_one {w0 W : World} {X : Nat → Prop} {a b c d : Int} {DA DB : Nat} {gA gB : List Bool} {sA sB : DS} (x : S51) (g : Nat) (A3 : Option Addr) (c3 : Nat) (R : DS × Int) (hR : put1 gA.length d (sizeOf08 a b c) x sA = R) (hf : Fit a b c d gA sA) (hcu : -1 ≤ sA.cut ∧ sA.cut ≤ 9223372036854775807)
    (hb : W.heap[g]? = some (.cells #[.int .i64 x.f0, .int .i64 x.f1, .int .i64 x.f2, .slice A3 x.f3.length c3] 51 (0, 0))) (hle : x.f3.length ≤ c3) (hF : Kd.F (Kd.int .u8) W (fun k => k < w0.heap.size) A3 x.f3.length x.f3) (hX : X g) (h : TwoD w0 W X a b c d DA DB gA sA gB sB) :
    Calls Try.prog 18 #[.pointer (some ⟨DA, 0, none⟩), .slice (some ⟨g, 0, none⟩) 1 1] W fun e w' => e = .returned (.int .i64 R.2) ∧ TwoD w0 w' X a b c d DA DB gA R.1 gB sB ∧ ∀ k, X k → w'.heap[k]? = W.heap[k]? := by
  subst hR
  rw [← putsL_one]
  exact WriteA [x] (some ⟨g, 0, none⟩) 1 (fun k => k < w0.heap.size ∨ X k) hf hcu (lit_F hb hle (Kd.F_mono hF (fun _ hk => .inl hk)) (.inr hX)) (fun _ hk => hk) (Nat.le_refl _) (by simp) h
theorem lit_event {P : Program} {ops : Array Oper} {rest : List Oper} {o : Oper} {a : Act} {Q : Exit → Act → World → Prop} {W : World} (hgd : o.guard = none) {N : Tmp} (_hd : o.dst = some N) {cs : Array Value} {t : TypeId} {k : Nat}
    (hrun : (execOp a.eval o).run P W = .ok (.value (.slice (some ⟨W.heap.size, 0, none⟩) k k)) (W.alloc (.cells cs t (0, 0))))
    (h : ∀ g, g = W.heap.size → ∀ w1, w1.heap[g]? = some (.cells cs t (0, 0)) → Below W.heap.size W w1 → wpList P ops Q rest (a.put o.dst (.slice (some ⟨g, 0, none⟩) k k)) w1) : wpList P ops Q (o :: rest) a W :=
  Kd.event_run hgd hrun (h _ rfl _ (blk_new W _) (below_alloc (Below.refl _ _) _))
theorem fit_set {a b c d : Int} {g : List Bool} {sl : List (List Int)} {o : Bool} {cu n : Int} {i : Nat} {x : List Int} (h : Fit a b c d g ⟨sl, o, cu, n⟩) (hx : (x.length : Int) = sizeOf08 a b c) (hn : n + 1 ≤ 1000000) : Fit a b c d g ⟨sl.set i x, o, cu, n + 1⟩ := by
  have hs := h.small.2.2.2.2.2.2
  obtain ⟨h1, h2, h3, h4, h5, h6, h7⟩ := h
  refine ⟨h1, h2, ?_, h4, fun y hy => ?_, ?_, hn⟩
  · show ((sl.set i x).length : Int) = _
    rw [List.length_set]
    exact h3
  · rcases List.mem_or_eq_of_mem_set hy with hy | rfl
    · exact h5 y hy
    · omega
  · show 0 ≤ n + 1
    have : 0 ≤ n := h6
    omega
theorem fit_wipe {a b c d : Int} {g : List Bool} {sl : List (List Int)} {o : Bool} {cu n : Int} (h : Fit a b c d g ⟨sl, o, cu, n⟩) (i q j : Nat) : Fit a b c d (g.set j true) ⟨wipeF [] sl i q, o, cu, n⟩ := by
  obtain ⟨h1, h2, h3, h4, h5, h6, h7⟩ := h
  refine ⟨h1, h2, ?_, ?_, ?_, h6, h7⟩
  · show ((wipeF [] sl i q).length : Int) = _
    rw [wipeF_len]
    exact h3
  · rw [List.length_set]
    exact h4
  · exact wipeF_mem [] (fun x => x.length ≤ 1000) (by decide) q sl i h5
theorem elem_getD {l : List (List Int)} {k : Nat} {x : List Int} (h : l.take (k + 1) = l.take k ++ [x]) : l.getD k [] = x := by
  by_cases hk : k < l.length
  · have h1 := List.take_succ_eq_append_getElem hk
    rw [h] at h1
    have h2 := List.append_cancel_left h1
    injection h2 with h3 _
    rw [h3, List.getD_eq_getElem?_getD, List.getElem?_eq_getElem hk]
    rfl
  · rw [List.take_of_length_le (by omega), List.take_of_length_le (by omega)] at h
    have := congrArg List.length h
    simp at this
theorem wiped_iff {n d : Int} {k q nd : Nat} (hd : 8 ≤ d ∧ d ≤ 256) (hat : atOf nd d n 0 0 = (q : Int)) : (k : Int) / (2 * d) = n ↔ q ≤ k ∧ k < q + 2 * d.toNat := by
  have h := atOf_lt (nd := nd) (d := d) (x := n) (y := 0) (z := 0) (by omega) (by omega)
  obtain ⟨dn, rfl⟩ : ∃ dn : Nat, d = (dn : Int) := ⟨d.toNat, by omega⟩
  obtain ⟨nn, rfl⟩ : ∃ nn : Nat, n = (nn : Int) := ⟨n.toNat, by omega⟩
  have hq : (q : Int) = ((nn : Int) * dn + 0) * 2 + 0 := by rw [← hat]; exact h.2.2.2.2.2.2.1
  have hq2 : q = nn * (2 * dn) := by
    have h2 : (q : Int) = ((nn * (2 * dn) : Nat) : Int) := by
      rw [hq, Int.natCast_mul, Int.natCast_mul, Int.add_zero, Int.add_zero, Int.mul_assoc, Int.mul_comm (dn : Int) 2]
      rfl
    omega
  rw [Int.toNat_natCast]
  have e : (k : Int) / (2 * (dn : Int)) = ((k / (2 * dn) : Nat) : Int) := by
    rw [show (2 * (dn : Int)) = ((2 * dn : Nat) : Int) by omega]
    rfl
  have hpos : 0 < 2 * dn := by omega
  rw [e, hq2]
  constructor
  · intro h1
    have h2 : k / (2 * dn) = nn := by omega
    subst h2
    have h3 := Nat.div_mul_le_self k (2 * dn)
    have h4 := Nat.lt_div_mul_add (a := k) hpos
    exact ⟨h3, h4⟩
  · rintro ⟨h1, h2⟩
    have h3 : nn ≤ k / (2 * dn) := (Nat.le_div_iff_mul_le hpos).mpr h1
    have h4 : k / (2 * dn) < nn + 1 := (Nat.div_lt_iff_lt_mul hpos).mpr (by rw [Nat.add_mul, Nat.one_mul]; exact h2)
    have : k / (2 * dn) = nn := by omega
    rw [this]
theorem wiped_pure {a b n d : Int} {q : Nat} (hg : ((List.replicate (a + b).toNat false).length : Int) = a + b) (hd : 8 ≤ d ∧ d ≤ 256) (hat : atOf (List.replicate (a + b).toNat false).length d n 0 0 = (q : Int)) : wipedOf ((List.replicate (a + b).toNat false).set n.toNat true).length ((List.replicate (a + b).toNat false).set n.toNat true) = [n] := by
  have h := atOf_lt (nd := (List.replicate (a + b).toNat false).length) (d := d) (x := n) (y := 0) (z := 0) (by omega) (by omega)
  rw [List.length_set, List.length_replicate]
  rw [List.length_replicate] at h
  rw [wipedOf_one (a + b).toNat n.toNat (a + b).toNat (Nat.le_refl _), if_pos (by omega)]
  rw [Int.toNat_of_nonneg h.1]
theorem wipedOf_clear2 (g : List Bool) : wipedOf (wipeF false g 0 g.length).length (wipeF false g 0 g.length) = [] := wipedOf_clear g _
theorem wrap_tdiv {d : Int} {k : Nat} (hd : 8 ≤ d ∧ d ≤ 256) (hk : k ≤ 100000) : wrap64 ((k : Int) / (2 * d)) = (k : Int) / (2 * d) := by
  obtain ⟨dn, rfl⟩ : ∃ dn : Nat, d = (dn : Int) := ⟨d.toNat, by omega⟩
  have e : (k : Int) / (2 * (dn : Int)) = ((k / (2 * dn) : Nat) : Int) := by
    rw [show (2 * (dn : Int)) = ((2 * dn : Nat) : Int) by omega]
    rfl
  rw [e]
  have h : k / (2 * dn) ≤ k := Nat.div_le_self _ _
  generalize k / (2 * dn) = z at h
  unfold wrap64
  omega
theorem fit_clear {a b c d : Int} {g : List Bool} {s : DS} (h : Fit a b c d g s) (q : Nat) : Fit a b c d (wipeF false g 0 q) s := by
  obtain ⟨h1, h2, h3, h4, h5⟩ := h
  exact ⟨h1, h2, h3, by rw [wipeF_len]; exact h4, h5⟩
end Go.Proofs.Ytemmhgfjfbdggaa.P

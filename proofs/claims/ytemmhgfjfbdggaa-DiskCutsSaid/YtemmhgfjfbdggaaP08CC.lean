import Derived.Test.YtemmhgfjfbdggaaP08C
namespace Go.Proofs.Ytemmhgfjfbdggaa.P
open Go.RowKit Go.Proofs.YtemmhgfjfbdggaaW.PrintWords Go.Proofs.YtemmhgfjfbdggaaW.PrintLast Go.Proofs.YtemmhgfjfbdggaaW.PrintMore
attribute [local go_sem] max2_int min2_int max_two min_two max_three min_three max_four min_four
set_option linter.unusedVariables false
set_option linter.unusedSimpArgs false
theorem putsL_off {nd : Nat} {d sz : Int} : ∀ (l : List PutT) (s : DS), s.off = false → (putsL nd d sz l s).1.off = true → (putsL nd d sz l s).1.cut = -1
  | [], s, h, h2 => by simp [putsL, h] at h2
  | p :: l, s, h, h2 => by
    unfold putsL at h2 ⊢
    by_cases h0 : (put1 nd d sz p s).2 = 0
    · rw [if_pos h0] at h2 ⊢
      refine putsL_off l _ ?_ h2
      rw [(put1_ok h0).2.2.2.2]
      exact h
    · rw [if_neg h0] at h2 ⊢
      unfold put1 at h2 ⊢
      rw [if_neg (by simp [h])] at h2 ⊢
      by_cases h3 : atOf nd d p.f0 p.f1 p.f2 < 0 ∨ (p.f3.length : Int) ≠ sz
      · rw [if_pos h3] at h2
        simp [h] at h2
      · rw [if_neg h3] at h2 ⊢
        by_cases h4 : s.cut = 0
        · rw [if_pos h4]
        · rw [if_neg h4] at h2
          simp [h] at h2
theorem DiskCuts.walk (a b c d : Int) (Am : Option Addr) (cm : Nat) (sl : List (List Int)) (A : Option Addr) (cl : Nat) (l : List S51) (n : Int) (w : World) (hC : Kd.C (Kd.slice 5 (Kd.int .u8)) w Am sl.length sl) (hL : Kd.C k51 w A l.length l) (hcl : l.length ≤ cl) (hn : n ≤ 9223372036854775807) :
    Calls Try.prog 4 #[.agg #[.int .i64 a, .int .i64 b, .int .i64 c, .int .i64 d, .slice Am sl.length cm], .slice A l.length cl, .int .i64 n] w fun e w' => e = .returned (.bool true) ∧ Below w.heap.size w w' := by
  by_cases h1 : 200 < l.length
  · exact Cuts_long a b c d Am cm sl A cl l n w hC hL hcl h1
  have hln : l.length ≤ 200 := by omega
  by_cases hbig : okP a b c d = true ∧ (a + b) * d > 400
  · exact Cuts_not a b c d Am cm sl A cl l n w hC hL hcl hln (fun w hC => two_big a b c d Am cm sl w hC hbig.1 hbig.2)
  by_cases ho : OfOK a b c d sl
  rotate_left
  · exact Cuts_not a b c d Am cm sl A cl l n w hC hL hcl hln (fun w hC => two_bad a b c d Am cm sl w hC hbig ho)
  have hm : ¬ (a + b) * d > 400 := fun h => hbig ⟨ho.1, h⟩
  by_cases hn0 : n < 0
  · exact Cuts_less a b c d Am cm sl A cl l n w hC hL hcl hln hm ho hn0
  obtain ⟨N, rfl⟩ : ∃ N : Nat, n = (N : Int) := ⟨n.toNat, by omega⟩
  obtain ⟨kk, hk⟩ : ∃ kk : Nat, kk = if l.length < N then l.length else N := ⟨_, rfl⟩
  have hkm : kk = min N l.length := by
    rw [hk]
    by_cases h : l.length < N
    · rw [if_pos h]; omega
    · rw [if_neg h]; omega
  have et : l.take N = l.take kk := by
    rw [hk]
    by_cases h : l.length < N
    · rw [if_pos h, List.take_of_length_le (by omega), List.take_length]
    · rw [if_neg h]
  have law := cut_law (nd := (List.replicate (a + b).toNat false).length) (d := d) (sz := sizeOf08 a b c) l N ⟨sl, false, -1, 0⟩ rfl rfl
  have hoff := putsL_off (nd := (List.replicate (a + b).toNat false).length) (d := d) (sz := sizeOf08 a b c) l ⟨sl, false, (N : Int), 0⟩ rfl
  rw [et] at law
  generalize hRA : putsL (List.replicate (a + b).toNat false).length d (sizeOf08 a b c) l ⟨sl, false, (N : Int), 0⟩ = RA at law hoff
  generalize hRB : putsL (List.replicate (a + b).toNat false).length d (sizeOf08 a b c) (l.take kk) ⟨sl, false, -1, 0⟩ = RB at law
  obtain ⟨⟨slA, oA, cA, wA⟩, eA⟩ := RA
  obtain ⟨⟨slB, oB, cB, wB⟩, eB⟩ := RB
  obtain ⟨i1, i2, i3, i4, i5, i6⟩ := law
  replace i1 : oB = false := i1
  replace i2 : cB = -1 := i2
  replace i3 : slA = slB := i3
  replace i4 : wA = wB := i4
  replace i5 : eB ≠ 0 → eA = eB ∧ oA = false := i5
  replace i6 : eB = 0 → wB = 0 + (min N l.length : Nat) ∧ (l.length ≤ N → eA = 0 ∧ oA = false) ∧ (N < l.length → (eA = 80 ∧ oA = false) ∨ (eA = 9 ∧ oA = true)) := i6
  replace hoff : oA = true → cA = -1 := hoff
  subst i1
  subst i2
  subst i3
  subst i4
  by_cases hB : eB = 0
  · obtain ⟨j1, j2, j3⟩ := i6 hB
    rw [← hkm] at j1
    replace j1 : wA = (kk : Int) := by omega
    subst hB
    subst j1
    by_cases hl : l.length ≤ N
    · obtain ⟨rfl, rfl⟩ := j2 hl
      exact Cuts_all a b c d Am cm sl A cl l 0 w hC hL hcl hln hm ho N kk hn hk slA cA 0 0 hRA hRB (by omega)
    · rcases j3 (by omega) with ⟨rfl, rfl⟩ | ⟨rfl, rfl⟩
      · exact Cuts_next a b c d Am cm sl A cl l 0 w hC hL hcl hln hm ho N kk hn hk slA cA 0 0 hRA hRB (by omega)
      · obtain rfl := hoff rfl
        exact Cuts_off a b c d Am cm sl A cl l 0 w hC hL hcl hln hm ho N kk hn hk slA (-1) 0 0 hRA hRB (by omega) ⟨by omega, by omega⟩
  · obtain ⟨rfl, rfl⟩ := i5 hB
    exact Cuts_refused a b c d Am cm sl A cl l 0 w hC hL hcl hln hm ho N kk hn hk slA cA wA _ hRA hRB hB
theorem i64_wf {n : Int} (h : (Lit.int .i64 n).wf = true) : n ≤ 9223372036854775807 := by
  simp [Lit.wf, IntKind.min, IntKind.max, IntKind.signed, IntKind.bits] at h
  omega
end Go.Proofs.Ytemmhgfjfbdggaa.P

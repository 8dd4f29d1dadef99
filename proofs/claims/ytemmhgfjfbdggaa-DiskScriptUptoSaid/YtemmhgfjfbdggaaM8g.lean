import Derived.Test.YtemmhgfjfbdggaaM8e
import Derived.Test.YtemmhgfjfbdggaaM8f
import Derived.Test.YtemmhgfjfbdggaaM8b
import Derived.Test.YtemmhgfjfbdggaaM8h
namespace Go.Proofs.Ytemmhgfjfbdggaa.P
open Go.RowKit Go.Proofs.YtemmhgfjfbdggaaW.PrintWords Go.Proofs.YtemmhgfjfbdggaaW.PrintLast Go.Proofs.YtemmhgfjfbdggaaW.PrintMore
attribute [local go_sem] max2_int min2_int max_two min_two max_three min_three max_four min_four
set_option linter.unusedVariables false
set_option linter.unusedSimpArgs false
theorem fit_wipe {a b c d : Int} {g : List Bool} {sl : List (List Int)} {o : Bool} {cu n : Int} (h : Fit a b c d g ⟨sl, o, cu, n⟩) (i q j : Nat) : Fit a b c d (g.set j true) ⟨wipeF [] sl i q, o, cu, n⟩ := by
 obtain ⟨h1, h2, h3, h4, h5, h6, h7⟩ := h
 refine ⟨h1, h2, ?_, ?_, ?_, h6, h7⟩
 ·
  show ((wipeF [] sl i q).length : Int) = _
  rw [wipeF_len]
  exact h3
 ·
  rw [List.length_set]
  exact h4
 ·
  exact wipeF_mem [] (fun x => x.length ≤ 1000) (by decide) q sl i h5
theorem fit_clear {a b c d : Int} {g : List Bool} {s : DS} (h : Fit a b c d g s) (q : Nat) : Fit a b c d (wipeF false g 0 q) s := by
 obtain ⟨h1, h2, h3, h4, h5⟩ := h
 exact ⟨h1, h2, h3, by rw [wipeF_len]; exact h4, h5⟩
theorem DiskO.iv {W1 Wc : World} {base lo D dr n cs m cg : Nat} {As Ag : Option Addr} {a b c d sz : Int} {slots : List (List Int)} {gone : List Bool} {off : Bool} {cut wr : Int} (h : DiskO W1 Wc.heap.size (fun k => Wc.heap.size ≤ k ∧ k < W1.heap.size) D dr As n cs Ag m cg a b c d sz slots gone off cut wr) (hb : base ≤ lo) (hl : lo ≤ Wc.heap.size) : DiskO W1 base (Iv lo W1.heap.size) D dr As n cs Ag m cg a b c d sz slots gone off cut wr := by
 obtain ⟨h1, h2, h3, h4, h5, h6, h7⟩ := h
 exact ⟨h1, h2, Kd.R_mono (Kd.R_lower h3 (by omega)) (fun k hk => ⟨Nat.le_trans hl hk.1, hk.2⟩), Kd.R_mono (Kd.R_lower h4 (by omega)) (fun k hk => ⟨Nat.le_trans hl hk.1, hk.2⟩), ⟨Nat.le_trans hl h5.1, h5.2⟩, ⟨Nat.le_trans hl h6.1, h6.2⟩, fun k hk => ⟨Nat.le_trans hb hk.1, hk.2⟩⟩
theorem fit_start {a b c d : Int} {sl : List (List Int)} (h : OfOK a b c d sl) (hb : ¬ (a + b) * d > 400) : Fit a b c d (List.replicate (a + b).toNat false) ⟨sl, false, -1, 0⟩ := by
 obtain ⟨h1, h2, h3⟩ := h
 have hp := okP_iff.mp h1
 have hs : sizeOf08 a b c ≤ 1000 := by
  have e1 : wrap64 (4 * (a + b)) = 4 * (a + b) := by unfold wrap64; omega
  have e2 : wrap64 (12 + 4 * (a + b)) = 12 + 4 * (a + b) := by unfold wrap64; omega
  have e3 : wrap64 (12 + 4 * (a + b) + c) = 12 + 4 * (a + b) + c := by unfold wrap64; omega
  unfold sizeOf08
  rw [e1, e2, e3]
  omega
 refine ⟨h1, by omega, h2, by rw [List.length_replicate]; omega, fun x hx => ?_, by show (0 : Int) ≤ 0; omega, by show (0 : Int) ≤ 1000000; omega⟩
 rcases h3 x hx with h | h
 ·
  omega
 ·
  omega
theorem put1_slots {nd : Nat} {d sz : Int} {p : PutT} {s : DS} : (put1 nd d sz p s).1.slots = s.slots ∨ ∃ i, (put1 nd d sz p s).1.slots = s.slots.set i p.f3 := by
 unfold put1
 by_cases h1 : s.off = true
 ·
  rw [if_pos h1]; exact .inl rfl
 ·
  rw [if_neg h1]
  by_cases h2 : atOf nd d p.f0 p.f1 p.f2 < 0 ∨ (p.f3.length : Int) ≠ sz
  ·
   rw [if_pos h2]; exact .inl rfl
  ·
   rw [if_neg h2]
   by_cases h3 : s.cut = 0
   ·
    rw [if_pos h3]; exact .inl rfl
   ·
    rw [if_neg h3]; exact .inr ⟨_, rfl⟩
theorem put1_Q {Q : List Int → Prop} {nd : Nat} {d sz : Int} {p : PutT} {s : DS} (hp : Q p.f3) (hs : ∀ x ∈ s.slots, Q x) : ∀ x ∈ (put1 nd d sz p s).1.slots, Q x := by
 intro x hx
 rcases put1_slots (nd := nd) (d := d) (sz := sz) (p := p) (s := s) with h | ⟨i, h⟩
 ·
  rw [h] at hx; exact hs x hx
 ·
  rw [h] at hx
  rcases List.mem_or_eq_of_mem_set hx with hx | rfl
  ·
   exact hs x hx
  ·
   exact hp
theorem putsL_Q {Q : List Int → Prop} {nd : Nat} {d sz : Int} : ∀ (l : List PutT) (s : DS), (∀ p ∈ l, Q p.f3) → (∀ x ∈ s.slots, Q x) → ∀ x ∈ (putsL nd d sz l s).1.slots, Q x
 | [], s, _, hs => hs
 | p :: l, s, hp, hs => by
  have h1 := put1_Q (nd := nd) (d := d) (sz := sz) (hp p List.mem_cons_self) hs
  unfold putsL
  split
  ·
   exact putsL_Q l _ (fun q hq => hp q (List.mem_cons_of_mem _ hq)) h1
  ·
   exact h1
theorem putsL_cut {nd : Nat} {d sz : Int} : ∀ (l : List PutT) (s : DS), -1 ≤ s.cut ∧ s.cut ≤ 9223372036854775807 → -1 ≤ (putsL nd d sz l s).1.cut ∧ (putsL nd d sz l s).1.cut ≤ 9223372036854775807
 | [], s, h => h
 | p :: l, s, h => by
  have h1 := put1_keeps (nd := nd) (d := d) (sz := sz) (p := p) h
  unfold putsL
  split
  ·
   exact putsL_cut l _ ⟨h1.2.2.2.1, h1.2.2.2.2⟩
  ·
   exact ⟨h1.2.2.2.1, h1.2.2.2.2⟩
theorem wipeF_all (g : List Bool) : wipeF false g 0 g.length = List.replicate g.length false := by
 apply List.ext_getElem
 ·
  rw [wipeF_len, List.length_replicate]
 ·
  intro j h1 h2
  have hj : j < g.length := by rwa [wipeF_len] at h1
  have h3 := wipeF_get false g.length g 0 j hj
  rw [if_pos ⟨by omega, by omega⟩, List.getD_eq_getElem?_getD, List.getElem?_eq_getElem h1] at h3
  rw [List.getElem_replicate]
  exact h3
def St (a b c d : Int) (g : List Bool) (s : DS) (i : Nat) : Prop := Fit a b c d g s ∧ (-1 ≤ s.cut ∧ s.cut ≤ 9223372036854775807) ∧ s.wr ≤ 200 * (i : Int) ∧ ∀ x ∈ s.slots, IsB x
section
variable {a b c d : Int} {g : List Bool} {s : DS} {i : Nat}
theorem St.next (h : St a b c d g s i) : St a b c d g s (i + 1) := ⟨h.1, h.2.1, by have := h.2.2.1; omega, h.2.2.2⟩
theorem St.cut_ (h : St a b c d g s i) (x : Int) (h0 : 0 ≤ x) (h1 : x ≤ 9223372036854775807) : St a b c d g ⟨s.slots, s.off, x, s.wr⟩ (i + 1) := ⟨h.1, ⟨by show -1 ≤ x; omega, h1⟩, h.next.2.2.1, h.2.2.2⟩
theorem St.on (h : St a b c d g s i) : St a b c d g ⟨s.slots, false, -1, s.wr⟩ (i + 1) := ⟨h.1, ⟨by show (-1 : Int) ≤ -1; decide, by show (-1 : Int) ≤ 9223372036854775807; decide⟩, h.next.2.2.1, h.2.2.2⟩
theorem St.whole (h : St a b c d g s i) : St a b c d (List.replicate g.length false) s (i + 1) := ⟨by rw [← wipeF_all]; exact fit_clear h.1 _, h.next.2⟩
theorem St.wipe (h : St a b c d g s i) (j q m : Nat) : St a b c d (g.set m true) ⟨wipeF [] s.slots j q, s.off, s.cut, s.wr⟩ (i + 1) := ⟨fit_wipe h.1 j q m, h.2.1, h.next.2.2.1, wipeF_mem [] IsB (fun _ h => (by cases h)) q s.slots j h.2.2.2⟩
theorem St.puts (h : St a b c d g s i) (hi : i ≤ 40) (l : List S51) (hl : l.length ≤ 200) (hB : ∀ p ∈ l, IsB p.f3 ∧ p.f3.length ≤ 1048576) : St a b c d g (putsL g.length d (sizeOf08 a b c) l s).1 (i + 1) := by
 have h2 := h.2.2.1
 refine ⟨fit_puts h.1 l (by omega), putsL_cut l s h.2.1, ?_, putsL_Q l s (fun p hp => (hB p hp).1) h.2.2.2⟩
 have hs := h.1.small
 have h3 := (putsL_inv (nd := g.length) (d := d) (M := 1000) (by omega : sizeOf08 a b c ≤ (1000 : Nat)) l s h.1.2.2.2.2.1).2.2.2
 omega
end
def StepW (x : S69) : Prop := x.f4 ≤ 9223372036854775807 ∧ x.f5.length ≤ 1048576 ∧ ∀ p ∈ x.f5, IsB p.f3 ∧ p.f3.length ≤ 1048576
theorem rdS {l : List S69} (h : ∀ x ∈ l, StepW x) (i : Nat) : StepW (rd_T69 l (i : Int)) := by
 have h2 : rd_T69 l (i : Int) = l.getD i z69 := rfl
 rw [h2, List.getD_eq_getElem?_getD]
 by_cases hi : i < l.length
 ·
  rw [List.getElem?_eq_getElem hi]
  exact h _ (List.getElem_mem hi)
 ·
  rw [List.getElem?_eq_none (by omega)]
  exact ⟨by decide, by decide, fun _ h => by cases h⟩
theorem long_loop (l : List S69) (hf : ∀ x ∈ l, StepW x) : ∀ (q i k n : Nat), i ≤ 60 → i ≤ l.length → min l.length 60 - i = q → q < k → (∀ j, j < i → (rd_T69 l (j : Int)).f5.length ≤ n) → n ≤ 1048576 * i →
  ∃ r, twoslotlaw08_long.l0 k l (n : Int) (i : Int) = some r ∧ (r = false → l.length ≤ 40 ∧ ∀ j : Nat, j < l.length → (rd_T69 l (j : Int)).f5.length ≤ 200) := by
 intro q
 induction q with
 | zero =>
  intro i k n hi hil hq hk hn hb
  obtain ⟨k, rfl⟩ : ∃ m, k = m + 1 := ⟨k - 1, by omega⟩
  simp only [twoslotlaw08_long.l0]
  by_cases h1 : (i : Int) < (l.length : Int)
  ·
   rw [if_pos h1, if_neg (by omega), if_pos (by omega)]
   exact ⟨true, rfl, fun h => by cases h⟩
  ·
   rw [if_neg h1]
   by_cases h2 : (l.length : Int) > 40
   ·
    rw [if_pos h2]
    exact ⟨true, rfl, fun h => by cases h⟩
   ·
    rw [if_neg h2]
    refine ⟨_, rfl, fun h => ⟨by omega, fun j hj => ?_⟩⟩
    have h3 := of_decide_eq_false h
    have h4 := hn j (by omega)
    omega
 | succ q ih =>
  intro i k n hi hil hq hk hn hb
  obtain ⟨k, rfl⟩ : ∃ m, k = m + 1 := ⟨k - 1, by omega⟩
  have hs := (rdS hf i).2.1
  simp only [twoslotlaw08_long.l0]
  rw [if_pos (by omega), if_pos (by omega), if_pos (by omega), show wrap64 ((i : Int) + 1) = ((i + 1 : Nat) : Int) by unfold wrap64; omega, show wrap64 ((n : Int) + ((rd_T69 l (i : Int)).f5.length : Int)) = ((n + (rd_T69 l (i : Int)).f5.length : Nat) : Int) by unfold wrap64; omega]
  refine ih (i + 1) k _ (by omega) (by omega) (by omega) (by omega) (fun j hj => ?_) (by omega)
  by_cases hji : j = i
  ·
   subst hji; omega
  ·
   have := hn j (by omega); omega
theorem long_ev (l : List S69) (hf : ∀ x ∈ l, StepW x) : ∃ r, twoslotlaw08_long.f 61 l = some r ∧ (r = false → l.length ≤ 40 ∧ ∀ j : Nat, j < l.length → (rd_T69 l (j : Int)).f5.length ≤ 200) := by
 unfold twoslotlaw08_long.f
 exact long_loop l hf (min l.length 60) 0 61 0 (by omega) (by omega) (by omega) (by omega) (fun j hj => by omega) (by omega)
theorem chk_good_loop (a b c d : Int) (sl : List (List Int)) (hab : 0 ≤ a + b ∧ a + b ≤ 16) (hl : sl.length ≤ 100000) (hx : ∀ x ∈ sl, x.length = 0 ∨ (x.length : Int) = sizeOf08 a b c) : ∀ (q i k : Nat), i ≤ sl.length → sl.length - i = q → q < k → twoslotref08_Check.l0 k (i : Int) a b c d sl = some 0 := by
 intro q
 induction q with
 | zero =>
  intro i k hi hq hk
  obtain ⟨k, rfl⟩ : ∃ m, k = m + 1 := ⟨k - 1, by omega⟩
  simp only [twoslotref08_Check.l0]
  rw [if_neg (by omega)]
 | succ q ih =>
  intro i k hi hq hk
  obtain ⟨k, rfl⟩ : ∃ m, k = m + 1 := ⟨k - 1, by omega⟩
  have e : rd_L1 sl (i : Int) = sl[i] := by
   have h2 : rd_L1 sl (i : Int) = sl.getD i [] := rfl
   rw [h2, List.getD_eq_getElem?_getD, List.getElem?_eq_getElem (by omega)]
   rfl
  have h3 := hx sl[i] (List.getElem_mem (by omega))
  have hz : twoslotref06_Size.f a b c d = some (sizeOf08 a b c) := size8_ev (m := (a + b).toNat) (by omega) (by omega)
  simp only [twoslotref08_Check.l0]
  rw [if_pos (by omega), if_pos (by omega), e, hz, Option.bind_some, show wrap64 ((i : Int) + 1) = ((i + 1 : Nat) : Int) by unfold wrap64; omega, ih (i + 1) k (by omega) (by omega) (by omega)]
  by_cases h4 : ((sl[i]).length : Int) = 0
  ·
   rw [if_pos h4]
  ·
   rw [if_neg h4, if_pos (by omega)]
theorem chk_bad_loop (a b c d : Int) (sl : List (List Int)) (hab : 0 ≤ a + b ∧ a + b ≤ 16) (hl : sl.length ≤ 100000) : ∀ (q i k : Nat), i ≤ sl.length → sl.length - i = q → q < k → (∃ j, i ≤ j ∧ ∃ h : j < sl.length, ¬ ((sl[j]).length = 0 ∨ ((sl[j]).length : Int) = sizeOf08 a b c)) → twoslotref08_Check.l0 k (i : Int) a b c d sl = some 90 := by
 intro q
 induction q with
 | zero =>
  intro i k hi hq hk ⟨j, hj, hjl, _⟩
  omega
 | succ q ih =>
  intro i k hi hq hk ⟨j, hj, hjl, hb⟩
  obtain ⟨k, rfl⟩ : ∃ m, k = m + 1 := ⟨k - 1, by omega⟩
  have e : rd_L1 sl (i : Int) = sl[i] := by
   have h2 : rd_L1 sl (i : Int) = sl.getD i [] := rfl
   rw [h2, List.getD_eq_getElem?_getD, List.getElem?_eq_getElem (by omega)]
   rfl
  have hz : twoslotref06_Size.f a b c d = some (sizeOf08 a b c) := size8_ev (m := (a + b).toNat) (by omega) (by omega)
  simp only [twoslotref08_Check.l0]
  rw [if_pos (by omega), if_pos (by omega), e, hz, Option.bind_some, show wrap64 ((i : Int) + 1) = ((i + 1 : Nat) : Int) by unfold wrap64; omega]
  by_cases hji : j = i
  ·
   subst hji
   rw [if_neg (by omega), if_neg (by omega)]
  ·
   rw [ih (i + 1) k (by omega) (by omega) (by omega) ⟨j, by omega, hjl, hb⟩]
   split
   ·
    rfl
   ·
    split <;> rfl
theorem chk_good (a b c d : Int) (sl : List (List Int)) (ho : OfOK a b c d sl) : twoslotref08_Check.f 10000 a b c d sl = some 0 := by
 obtain ⟨h1, h2, h3⟩ := ho
 have hm := many a b c d h1
 have hl := many_len h2 hm
 have e1 : wrap64 (a + b) = a + b := by unfold wrap64; omega
 unfold twoslotref08_Check.f twoslotref06_N.f
 rw [May_ev, h1, Option.bind_some, if_pos rfl, Option.bind_some, e1, hm.1, if_pos h2]
 exact chk_good_loop a b c d sl (by omega) (by omega) h3 sl.length 0 10000 (by omega) (by omega) (by omega)
theorem chk_bad (a b c d : Int) (sl : List (List Int)) (ho : ¬ OfOK a b c d sl) : twoslotref08_Check.f 10000 a b c d sl = some (if okP a b c d = true then 90 else 2) := by
 unfold twoslotref08_Check.f twoslotref06_N.f
 rw [May_ev, Option.bind_some]
 by_cases h1 : okP a b c d = true
 ·
  have hm := many a b c d h1
  have e1 : wrap64 (a + b) = a + b := by unfold wrap64; omega
  rw [if_pos h1, if_pos h1, Option.bind_some, e1, hm.1]
  by_cases h2 : (sl.length : Int) = (a + b) * d * 2
  ·
   rw [if_pos h2]
   have hl := many_len h2 hm
   refine chk_bad_loop a b c d sl (by omega) (by omega) sl.length 0 10000 (by omega) (by omega) (by omega) ?_
   apply Classical.byContradiction
   intro hno
   refine ho ⟨h1, h2, fun x hx => ?_⟩
   obtain ⟨j, hj, rfl⟩ := List.mem_iff_getElem.1 hx
   apply Classical.byContradiction
   intro hb
   exact hno ⟨j, by omega, hj, hb⟩
  ·
   rw [if_neg h2]
 ·
  rw [if_neg h1, if_neg h1]
theorem twin_loop2 (a b c d : Int) (sl : List (List Int)) (hx : ∀ x ∈ sl, IsB x ∧ x.length ≤ 1048576) (hn : sl.length ≤ 1048576) : ∀ (q i k : Nat), i ≤ sl.length → sl.length - i = q → q < k → twoslotref08_Twin.l0 k (i : Int) a b c d sl a b c d (sl.take i) = some (a, b, c, d, sl) := by
 intro q
 induction q with
 | zero =>
  intro i k hi hq hk
  obtain ⟨k, rfl⟩ : ∃ m, k = m + 1 := ⟨k - 1, by omega⟩
  simp only [twoslotref08_Twin.l0]
  rw [if_neg (by omega), List.take_of_length_le (by omega)]
 | succ q ih =>
  intro i k hi hq hk
  obtain ⟨k, rfl⟩ : ∃ m, k = m + 1 := ⟨k - 1, by omega⟩
  have e : rd_L1 sl (i : Int) = sl[i] := by
   have h2 : rd_L1 sl (i : Int) = sl.getD i [] := rfl
   rw [h2, List.getD_eq_getElem?_getD, List.getElem?_eq_getElem (by omega)]
   rfl
  have h3 := hx sl[i] (List.getElem_mem (by omega))
  have h4 : (sl.take i).length = i := by rw [List.length_take]; omega
  simp only [twoslotref08_Twin.l0]
  rw [if_pos (by omega), if_pos (by omega), e, bytes8_ev h3.1 h3.2, Option.bind_some, if_pos (by omega), show wrap64 ((i : Int) + 1) = ((i + 1 : Nat) : Int) by unfold wrap64; omega, ← List.take_succ_eq_append_getElem (by omega)]
  exact ih (i + 1) k (by omega) (by omega) (by omega)
theorem twin_ev2 (a b c d : Int) (sl : List (List Int)) (hx : ∀ x ∈ sl, IsB x ∧ x.length ≤ 1048576) (hn : sl.length ≤ 1048576) : twoslotref08_Twin.f 1048577 a b c d sl = some (a, b, c, d, sl) := by
 unfold twoslotref08_Twin.f
 exact twin_loop2 a b c d sl hx hn sl.length 0 1048577 (by omega) (by omega) (by omega)
theorem N_iv {α : Type} {d : Kd α} {e : Nat} {W1 Wc : World} {base : Nat} {v : Value} {xs : List α} (h : Kd.N d e W1 Wc.heap.size (fun k => Wc.heap.size ≤ k) v xs) (hb : base ≤ Wc.heap.size) : Kd.N d e W1 base (Iv Wc.heap.size W1.heap.size) v xs := Kd.N_lower (Kd.N_bound h) hb
theorem Rk.iv {W1 Wc : World} {base r n cs m cg : Nat} {As Ag : Option Addr} {a b c d : Int} {slots : List (List Int)} {gone : List Bool} {off : Bool} {cut wr : Int} (h : RefO W1 Wc.heap.size (fun k => Wc.heap.size ≤ k ∧ k < W1.heap.size) r As n cs Ag m cg a b c d slots gone off cut wr) (hb : base ≤ Wc.heap.size) : Rk W1 base (Iv Wc.heap.size W1.heap.size) r a b c d gone ⟨slots, off, cut, wr⟩ := by
 obtain ⟨h1, h2, h3, h4, h5⟩ := h
 exact ⟨As, n, cs, Ag, m, cg, h1, Kd.N_lower h2 hb, Kd.R_lower h3 hb, h4, fun k hk => ⟨Nat.le_trans hb hk.1, hk.2⟩⟩
theorem Dk.iv {W1 Wc : World} {base D dr n cs m cg : Nat} {As Ag : Option Addr} {a b c d : Int} {slots : List (List Int)} {gone : List Bool} {off : Bool} {cut wr : Int} (h : DiskO W1 Wc.heap.size (fun k => Wc.heap.size ≤ k ∧ k < W1.heap.size) D dr As n cs Ag m cg a b c d (sizeOf08 a b c) slots gone off cut wr) (hb : base ≤ Wc.heap.size) : Dk W1 base (Iv Wc.heap.size W1.heap.size) D a b c d gone ⟨slots, off, cut, wr⟩ :=
 ⟨dr, As, n, cs, Ag, m, cg, DiskO.iv h hb (Nat.le_refl _)⟩
theorem step_elem {w : World} {A : Option Addr} {l : List S69} (h : Kd.C k69 w A l.length l) (hw : ∀ x ∈ l, StepW x) (k : Nat) (hk : k < l.length) :
  ∃ (ad : Addr) (A5 : Option Addr) (c5 : Nat) (x : S69), A = some ad ∧ x = rd_T69 l (k : Int) ∧ StepW x ∧ x.f5.length ≤ c5 ∧
   w.cell? (ad.add (k * 6)) = some (.int .u8 x.f0) ∧ w.cell? ⟨(ad.add (k * 6)).block, (ad.add (k * 6)).off + 1, none⟩ = some (.int .i64 x.f1) ∧ w.cell? ⟨(ad.add (k * 6)).block, (ad.add (k * 6)).off + 2, none⟩ = some (.int .i64 x.f2) ∧ w.cell? ⟨(ad.add (k * 6)).block, (ad.add (k * 6)).off + 3, none⟩ = some (.int .i64 x.f3) ∧ w.cell? ⟨(ad.add (k * 6)).block, (ad.add (k * 6)).off + 4, none⟩ = some (.int .i64 x.f4) ∧ w.cell? ⟨(ad.add (k * 6)).block, (ad.add (k * 6)).off + 5, none⟩ = some (.slice A5 x.f5.length c5) ∧
   Kd.C k51 w A5 x.f5.length x.f5 := by
 obtain ⟨ad, A5, c5, e, h0, h1, h2, h3, h4, h5, l5, g5⟩ := at_T69 h (k : Int) (by omega) (by omega)
 rw [Int.toNat_natCast] at h0 h1 h2 h3 h4 h5
 exact ⟨ad, A5, c5, _, e, rfl, rdS hw k, l5, h0, h1, h2, h3, h4, h5, g5⟩
section
variable {w0 W W2 : World} {X S : Nat → Prop} {a b c d : Int} {DA DB : Nat} {gA gB : List Bool} {sA sB : DS}
theorem DR.fresh (h : DR w0 W (fun _ => False) a b c d DA DB gA sA gB sB) (hb : Below W.heap.size W W2) : DR w0 W2 (Iv W.heap.size W2.heap.size) a b c d DA DB gA sA gB sB := (h.step hb).sub (fun _ hk => .inr hk)
theorem DR.touch (h : DR w0 W X a b c d DA DB gA sA gB sB) (hb : Below w0.heap.size w0 W2) (hk : Kept W W2 S) (hS : ∀ k, S k → X k) : DR w0 W2 X a b c d DA DB gA sA gB sB := by
 obtain ⟨okA, okB, h1, h2, h3, h4, h5⟩ := h
 exact ⟨okA, okB, hb, h2.kept hk (fun k ho hs => (h5 k (hS k hs)).2.1 ho), h3.kept hk (fun k ho hs => (h5 k (hS k hs)).2.2 ho), h4, fun k hx => ⟨Nat.lt_of_lt_of_le (h5 k hx).1 hk.1, (h5 k hx).2⟩⟩
theorem DR.last (h : DR w0 W X a b c d DA DB gA sA gB sB) : DR w0 W (fun _ => False) a b c d DA DB gA sA gB sB := h.sub (fun _ hk => hk.elim)
theorem DSetCutB_less (x : Int) (hx : x < 0) (h : DR w0 W X a b c d DA DB gA sA gB sB) : Calls Try.prog 37 #[.pointer (some ⟨DB, 0, none⟩), .int .i64 x] W fun e w' => e = .returned (.int .i64 2) ∧ Below W.heap.size W w' := by
 obtain ⟨okA, okB, h1, h2, ⟨As, n, cs, Ag, m, cg, h3⟩, h4, h5⟩ := h
 exact RSetCut_less DB x hx W
theorem DWholeA_ (hf : Fit a b c d gA sA) (h : DR w0 W X a b c d DA DB gA sA gB sB) : Calls Try.prog 26 #[.pointer (some ⟨DA, 0, none⟩)] W fun e w' => e = .returned (.int .i64 0) ∧ DR w0 w' X a b c d DA DB (List.replicate gA.length false) sA gB sB ∧ ∀ k, X k → w'.heap[k]? = W.heap[k]? := by
 have h2 := DWholeA hf h
 rw [wipeF_all] at h2
 exact h2
end
theorem kw_X {W W2 : World} {X : Nat → Prop} {gg : Nat} {o : Obj} (hb : W.heap[gg]? = some o) (hk : ∀ k, X k → W2.heap[k]? = W.heap[k]?) (hX : X gg) : W2.heap[gg]? = some o := (hk gg hX).trans hb
theorem Of_bad3 (a b c d : Int) (Am : Option Addr) (cm : Nat) (sl : List (List Int)) (q : Int) (w : World) (hC : Kd.C (Kd.slice 5 (Kd.int .u8)) w Am sl.length sl) (ho : ¬ OfOK a b c d sl) (hq : q = (if okP a b c d = true then (90 : Int) else 2)) : Calls Try.prog 30 #[.agg #[.int .i64 a, .int .i64 b, .int .i64 c, .int .i64 d, .slice Am sl.length cm]] w fun e w' => e = .returned (.tuple #[.pointer none, .int .i64 q]) ∧ Below w.heap.size w w' := by
 subst hq
 exact Of_bad2 a b c d Am cm sl w hC ho
theorem Iv_lo {lo hi b : Nat} (hb : b ≤ lo) : ∀ k, Iv lo hi k → b ≤ k := fun _ h => Nat.le_trans hb h.1
theorem St.fit {a b c d : Int} {g : List Bool} {s : DS} {i : Nat} (h : St a b c d g s i) : Fit a b c d g s := h.1
theorem Iv_sub {lo hi b c : Nat} (h1 : b ≤ lo) (h2 : hi ≤ c) : ∀ k, Iv lo hi k → Iv b c k := fun _ h => ⟨Nat.le_trans h1 h.1, Nat.lt_of_lt_of_le h.2 h2⟩
theorem N_im {W1 Wc : World} {base : Nat} {v : Value} {xs : List (List Int)} (h : Kd.R (Kd.slice 5 (Kd.int .u8)) 45 W1 Wc.heap.size (fun _ => True) v xs) (hb : base ≤ Wc.heap.size) : Kd.N kWs 45 W1 base (Iv Wc.heap.size W1.heap.size) v xs := R_kW (Kd.R_lower (Kd.R_mono (Kd.R_bound h) (fun _ hk => ⟨hk.2.1, hk.2.2.1⟩)) hb)
theorem St.len {a b c d : Int} {g : List Bool} {s : DS} {i : Nat} (h : St a b c d g s i) : ∀ x ∈ s.slots, x.length ≤ 2000000 := fun x hx => Nat.le_trans (h.1.2.2.2.2.1 x hx) (by decide)
theorem St.num {a b c d : Int} {g : List Bool} {s : DS} {i : Nat} (h : St a b c d g s i) : s.slots.length ≤ 1000000 := Nat.le_trans h.1.small.1 (by decide)
end Go.Proofs.Ytemmhgfjfbdggaa.P
namespace Go.Proofs.Ytemmhgfjfbdggaa.P
open Go.RowKit Go.Proofs.YtemmhgfjfbdggaaW.PrintWords Go.Proofs.YtemmhgfjfbdggaaW.PrintLast Go.Proofs.YtemmhgfjfbdggaaW.PrintMore
attribute [local go_sem] max2_int min2_int max_two min_two max_three min_three max_four min_four
set_option linter.unusedVariables false
set_option linter.unusedSimpArgs false
set_option maxHeartbeats 8000000 in
set_option maxRecDepth 100000 in
theorem Read_bad (D dr : Nat) (As Ag : Option Addr) (n cs m cg : Nat) (a b c d sz : Int) (slots : List (List Int)) (gone : List Bool) (off : Bool) (cut wr : Int) (base : Nat) (ok : Nat → Prop) (x y z : Int) (w : World) (H : DiskO w base ok D dr As n cs Ag m cg a b c d sz slots gone off cut wr) (ho : off = false) (hm : m ≤ 16) (hd : 0 ≤ d ∧ d ≤ 4096) (hat : atOf m d x y z < 0) : Calls Try.prog 21 #[.pointer (some ⟨D, 0, none⟩), .int .i64 x, .int .i64 y, .int .i64 z] w fun e w' => e = .returned (.tuple #[.slice none 0 0, .int .i64 80]) ∧ Below w.heap.size w w' := by
 have BKD := Aside0.mk H.1
 have BKdr := Aside0.mk H.2.1
 have HB := Aside0.mk (Below.refl w.heap.size w)
 have HZ1 := Aside0.mk (show D < w.heap.size from blk_lt H.1)
 have HZ2 := Aside0.mk (show dr < w.heap.size from blk_lt H.2.1)
 have hneDd : D ≠ dr := H.ne
 have hnedD : dr ≠ D := hneDd.symm
 obtain rfl : off = false := ho
 have HM := Aside0.mk hm
 have HDD := Aside0.mk hd
 obtain ⟨q, hq⟩ : ∃ q, atOf m d x y z = q := ⟨_, rfl⟩
 rw [hq] at hat
 have HAT := Aside0.mk hq
 have b1 : decide (q < 0) = true := decide_eq_true hat
 clear H hm hd hat hq
 obtain ⟨hcD_0, hcD_1, hcD_2, hcD_3, hfD_0, hfD_1, hfD_2, hfD_3⟩ := cs4 BKD.out
 obtain ⟨hcdr_0, hcdr_1, hcdr_2, hcdr_3, hcdr_4, hcdr_5, hcdr_6, hfdr_0, hfdr_1, hfdr_2, hfdr_3, hfdr_4, hfdr_5, hfdr_6⟩ := cs7 BKdr.out
 go_enter Try.func21, Try.ntmps21
 have tok1 : True := trivial
 go_wp2_with (first | (have _ := tok1; go_at_call 45; (with_reducible refine (made_yes D dr _ _ _ _ (sB BKD.out)).mono ?_); rintro e w1 ⟨rfl, hd⟩; have hb := hd.below; (try clear hcD_0 hfD_0); (try clear hcD_1 hfD_1); (try clear hcD_2 hfD_2); (try clear hcD_3 hfD_3); (try clear hcdr_0 hfdr_0); (try clear hcdr_1 hfdr_1); (try clear hcdr_2 hfdr_2); (try clear hcdr_3 hfdr_3); (try clear hcdr_4 hfdr_4); (try clear hcdr_5 hfdr_5); (try clear hcdr_6 hfdr_6); have hs : Below w.heap.size w w1 := below_step Lt8.b hb; have SZ1 := Aside0.mk (show w.heap.size ≤ w1.heap.size from hs.size); replace BKD := Aside0.mk (blk_below BKD.out hs); replace BKdr := Aside0.mk (blk_below BKdr.out hs); replace HB := Aside0.mk (below_step HB.out hs); clear hb hd hs; obtain ⟨hcD_0, hcD_1, hcD_2, hcD_3, hfD_0, hfD_1, hfD_2, hfD_3⟩ := cs4 BKD.out; obtain ⟨hcdr_0, hcdr_1, hcdr_2, hcdr_3, hcdr_4, hcdr_5, hcdr_6, hfdr_0, hfdr_1, hfdr_2, hfdr_3, hfdr_4, hfdr_5, hfdr_6⟩ := cs7 BKdr.out; clear tok1; have tok2 : True := trivial) | (have _ := tok2; go_at_call 46; (with_reducible refine (at_yes dr a b c d sz As Ag n cs m cg x y z _ (sB BKdr.out) HM.out HDD.out).mono ?_); rintro e w2 ⟨rfl, hd⟩; rw [HAT.out]; have hb := hd.below; (try clear hcD_0 hfD_0); (try clear hcD_1 hfD_1); (try clear hcD_2 hfD_2); (try clear hcD_3 hfD_3); (try clear hcdr_0 hfdr_0); (try clear hcdr_1 hfdr_1); (try clear hcdr_2 hfdr_2); (try clear hcdr_3 hfdr_3); (try clear hcdr_4 hfdr_4); (try clear hcdr_5 hfdr_5); (try clear hcdr_6 hfdr_6); have hs : Below w1.heap.size w1 w2 := below_step Lt8.b hb; have SZ2 := Aside0.mk (show w1.heap.size ≤ w2.heap.size from hs.size); replace BKD := Aside0.mk (blk_below BKD.out hs); replace BKdr := Aside0.mk (blk_below BKdr.out hs); replace HB := Aside0.mk (below_step HB.out hs); clear hb hd hs; obtain ⟨hcD_0, hcD_1, hcD_2, hcD_3, hfD_0, hfD_1, hfD_2, hfD_3⟩ := cs4 BKD.out; obtain ⟨hcdr_0, hcdr_1, hcdr_2, hcdr_3, hcdr_4, hcdr_5, hcdr_6, hfdr_0, hfdr_1, hfdr_2, hfdr_3, hfdr_4, hfdr_5, hfdr_6⟩ := cs7 BKdr.out; clear tok2))
 go_ret2
 exact ⟨rfl, HB.out⟩
end Go.Proofs.Ytemmhgfjfbdggaa.P
namespace Go.Proofs.Ytemmhgfjfbdggaa.P
open Go.RowKit Go.Proofs.YtemmhgfjfbdggaaW.PrintWords Go.Proofs.YtemmhgfjfbdggaaW.PrintLast Go.Proofs.YtemmhgfjfbdggaaW.PrintMore
attribute [local go_sem] max2_int min2_int max_two min_two max_three min_three max_four min_four
set_option linter.unusedVariables false
set_option linter.unusedSimpArgs false
def readL (nd : Nat) (d x y z : Int) (s : DS) : List Int × Int :=
 if s.off = true then ([], 9) else if atOf nd d x y z < 0 then ([], 80) else (s.slots.getD (atOf nd d x y z).toNat [], 0)
theorem at_slot {a b c d : Int} {g : List Bool} {s : DS} (hf : Fit a b c d g s) {x y z : Int} (h : ¬ atOf g.length d x y z < 0) : (atOf g.length d x y z).toNat < s.slots.length := by
 have hs := hf.small
 have ha := atOf_lt (nd := g.length) (d := d) (x := x) (y := y) (z := z) (by omega) (by omega)
 have hn := hf.2.2.1
 rw [← hf.2.2.2.1] at hn
 omega
theorem readL_len {a b c d : Int} {g : List Bool} {s : DS} (hf : Fit a b c d g s) {x y z : Int} {xs : List Int} {er : Int} (h : readL g.length d x y z s = (xs, er)) : xs.length ≤ 1000 := by
 unfold readL at h
 split at h
 ·
  cases h; decide
 ·
  split at h
  ·
   cases h; decide
  ·
   rename_i h1 h2
   cases h
   rw [List.getD_eq_getElem?_getD, List.getElem?_eq_getElem (at_slot hf h2)]
   exact hf.2.2.2.2.1 _ (List.getElem_mem _)
section
variable {w0 W : World} {X ok : Nat → Prop} {a b c d : Int} {DA DB : Nat} {gA gB : List Bool} {sA sB : DS}
theorem DReadA_bad (x y z : Int) (ho : sA.off = false) (hf : Fit a b c d gA sA) (hat : atOf gA.length d x y z < 0) (h : DR w0 W X a b c d DA DB gA sA gB sB) : Calls Try.prog 21 #[.pointer (some ⟨DA, 0, none⟩), .int .i64 x, .int .i64 y, .int .i64 z] W fun e w' => e = .returned (.tuple #[.slice none 0 0, .int .i64 80]) ∧ Below W.heap.size W w' := by
 obtain ⟨okA, okB, h1, ⟨dr, As, n, cs, Ag, m, cg, h2⟩, h3, h4, h5⟩ := h
 have hm := h2.lens.2.2.1
 have hs := hf.small
 subst hm
 exact Read_bad DA dr As Ag n cs gA.length cg a b c d _ sA.slots gA sA.off sA.cut sA.wr _ okA x y z W h2 ho hs.2.1 ⟨by omega, by omega⟩ hat
theorem DReadA_any (x y z : Int) (xs : List Int) (er : Int) (hf : Fit a b c d gA sA) (hR : readL gA.length d x y z sA = (xs, er)) (h : DR w0 W X a b c d DA DB gA sA gB sB) : Calls Try.prog 21 #[.pointer (some ⟨DA, 0, none⟩), .int .i64 x, .int .i64 y, .int .i64 z] W fun e w' => (∃ (A : Option Addr) (cc : Nat), e = .returned (.tuple #[.slice A xs.length cc, .int .i64 er]) ∧ Kd.C (Kd.int .u8) w' A xs.length xs ∧ Wb w' (Iv W.heap.size w'.heap.size) (.slice A xs.length cc) xs.length) ∧ Below W.heap.size W w' := by
 unfold readL at hR
 split at hR
 ·
  rename_i ho
  cases hR
  refine (DReadA_off x y z ho h).mono ?_
  rintro e w' ⟨rfl, hb⟩
  exact ⟨⟨none, 0, rfl, Kd.C_nil _ _, .inl ⟨rfl, rfl⟩⟩, hb⟩
 ·
  rename_i ho
  have ho : sA.off = false := by simpa using ho
  split at hR
  ·
   rename_i hat
   cases hR
   refine (DReadA_bad x y z ho hf hat h).mono ?_
   rintro e w' ⟨rfl, hb⟩
   exact ⟨⟨none, 0, rfl, Kd.C_nil _ _, .inl ⟨rfl, rfl⟩⟩, hb⟩
  ·
   rename_i hat
   injection hR with h1 h2
   subst h2
   refine (DReadA x y z _ ho hf (by omega) (at_slot hf hat) h).mono ?_
   rintro e w' ⟨⟨v, rfl, hr⟩, hb⟩
   rw [h1] at hr
   obtain ⟨A, cc, rfl⟩ := Kd.R_slice hr
   exact ⟨⟨A, cc, rfl, (Kd.R_reads' hr).2.2, Wb.of_R (Kd.R_mono (Kd.R_bound hr) (fun k hk => ⟨hk.2.1, hk.2.2.1⟩))⟩, hb⟩
theorem DReadB_any (x y z : Int) (xs : List Int) (er : Int) (hf : Fit a b c d gB sB) (hB : ∀ x ∈ sB.slots, IsB x) (hR : readL gB.length d x y z sB = (xs, er)) (h : DR w0 W X a b c d DA DB gA sA gB sB) : Calls Try.prog 35 #[.pointer (some ⟨DB, 0, none⟩), .int .i64 x, .int .i64 y, .int .i64 z] W fun e w' => (∃ (A : Option Addr) (cc : Nat), e = .returned (.tuple #[.slice A xs.length cc, .int .i64 er]) ∧ Kd.C (Kd.int .u8) w' A xs.length xs) ∧ Below W.heap.size W w' := by
 unfold readL at hR
 split at hR
 ·
  rename_i ho
  cases hR
  refine (DReadB_off x y z ho h).mono ?_
  rintro e w' ⟨rfl, hb⟩
  exact ⟨⟨none, 0, rfl, Kd.C_nil _ _⟩, hb⟩
 ·
  rename_i ho
  have ho : sB.off = false := by simpa using ho
  split at hR
  ·
   rename_i hat
   cases hR
   refine (DReadB_bad x y z ho hf hat h).mono ?_
   rintro e w' ⟨rfl, hb⟩
   exact ⟨⟨none, 0, rfl, Kd.C_nil _ _⟩, hb⟩
  ·
   rename_i hat
   injection hR with h1 h2
   subst h2
   have hi := at_slot hf hat
   refine (DReadB x y z _ ho hf (by omega) hi (by
    rw [List.getD_eq_getElem?_getD, List.getElem?_eq_getElem hi]
    exact hB _ (List.getElem_mem hi)) h).mono ?_
   rintro e w' ⟨v, rfl, hr, hb⟩
   rw [h1] at hr
   obtain ⟨A, cc, rfl⟩ := Kd.V_slice hr
   exact ⟨⟨A, cc, rfl, (Kd.V_reads' hr).2.2⟩, hb⟩
theorem DR.set {gg n cc q : Nat} (h : DR w0 W X a b c d DA DB gA sA gB sB) (hw : Wb W ok (.slice (some ⟨gg, 0, none⟩) n cc) n) (hq : q < n) (hok : ∀ k, ok k → X k ∧ w0.heap.size ≤ k) (u : Value) : DR w0 (W.setCell ⟨gg, q, none⟩ u) X a b c d DA DB gA sA gB sB := by
 have h1 := (Wb.cell hw hq).2.2
 exact h.touch (below_set h.below (hok gg h1).2) ((Kept.refl W ok).setCell (p := ⟨gg, q, none⟩) (.inl h1) u) (fun k hk => (hok k hk).1)
end
theorem St.bytes {a b c d : Int} {g : List Bool} {s : DS} {i : Nat} (h : St a b c d g s i) : ∀ x ∈ s.slots, IsB x := h.2.2.2
end Go.Proofs.Ytemmhgfjfbdggaa.P
namespace Go.Proofs.Ytemmhgfjfbdggaa.P
open Go.RowKit Go.Proofs.YtemmhgfjfbdggaaW.PrintWords Go.Proofs.YtemmhgfjfbdggaaW.PrintLast Go.Proofs.YtemmhgfjfbdggaaW.PrintMore
attribute [local go_sem] max2_int min2_int max_two min_two max_three min_three max_four min_four
set_option linter.unusedVariables false
set_option linter.unusedSimpArgs false
theorem info51 : (Try.prog.info? 51).map (fun i => (i.zero, i.size, i.bytes)) = some (some (.agg #[.int .i64 0, .int .i64 0, .int .i64 0, .slice none 0 0]), 4, 48) := by kernel_rfl
theorem Iv_own {lo hi n : Nat} {v : Value} (h : ∀ k, v.ownBlock = some k → k < n) (hn : n ≤ lo) : ∀ k, Iv lo hi k → some k ≠ v.ownBlock := fun k hk e => by
 have h1 := h k e.symm
 have h2 := hk.1
 omega
theorem N_ivb {α : Type} {d : Kd α} {e base : Nat} {W : World} {v : Value} {xs : List α} (h : Kd.N d e W base (fun k => base ≤ k) v xs) : Kd.N d e W base (Iv base W.heap.size) v xs := Kd.N_bound h
theorem FK_put {W : World} {ok : Nat → Prop} {y : S51} {A : Option Addr} {cc bs : Nat} (hV : Kd.V (Kd.int .u8) 5 W bs ok (.slice A y.f3.length cc) y.f3) (hw : Wb W ok (.slice A y.f3.length cc) y.f3.length) : Kd.FK kWp W ok y [.int .i64 y.f0, .int .i64 y.f1, .int .i64 y.f2, .slice A y.f3.length cc] :=
 FK_kW (k51_mkF W ok y (Kd.V_reads' hV).2.1 (Kd.V_F hV)) rfl hw
def PutsC (W : World) (ok : Nat → Prop) (A : Option Addr) (n : Nat) (us : Nat → Value) (ls : Nat → Nat) : Prop :=
 ∀ j, j < n → ∃ ad : Addr, A = some ad ∧ ok ad.block ∧ W.cell? ⟨(ad.add (j * 4)).block, (ad.add (j * 4)).off + 3, none⟩ = some (us j) ∧ Wb W (fun k => ok k ∧ k ≠ ad.block) (us j) (ls j)
theorem PutsC_of_N {W : World} {base : Nat} {ok : Nat → Prop} {A : Option Addr} {n cc : Nat} {xs : List S51} (h : Kd.N kWp 51 W base ok (.slice A n cc) xs) : ∃ us, PutsC W ok A xs.length us (fun j => (xs.getD j z51).f3.length) := by
 have hn := (Kd.N_reads' h).1
 have hone : ∀ j, j < xs.length → ∃ u, ∃ ad : Addr, A = some ad ∧ ok ad.block ∧ W.cell? ⟨(ad.add (j * 4)).block, (ad.add (j * 4)).off + 3, none⟩ = some u ∧ Wb W (fun k => ok k ∧ k ≠ ad.block) u (xs.getD j z51).f3.length := by
  intro j hj
  obtain ⟨g, cap, e, _⟩ := Kd.N_form h (by omega)
  injection e with e1 e2 e3
  subst e1
  obtain ⟨c, hcl, hf, hcc, _⟩ := Kd.N_elem h z51 (j : Int) (by omega) (by omega)
  rw [Int.toNat_natCast] at hf hcc
  obtain ⟨u, hu, hw⟩ := Wb_of_kW hf
  refine ⟨u, ⟨g, 0, none⟩, rfl, h.1 g rfl, ?_, hw⟩
  rw [← add_field _ _ 3 (by omega), add_at, Nat.zero_add]
  exact hcc 3 u hu
 refine ⟨fun j => if hj : j < xs.length then Classical.choose (hone j hj) else .slice none 0 0, fun j hj => ?_⟩
 simp only [dif_pos hj]
 exact Classical.choose_spec (hone j hj)
theorem PutsC.step {W W1 : World} {ok : Nat → Prop} {A : Option Addr} {n : Nat} {us : Nat → Value} {ls : Nat → Nat} (h : PutsC W ok A n us ls) (hb : Below W.heap.size W W1) : PutsC W1 ok A n us ls := fun j hj => by
 obtain ⟨ad, h1, h2, h3, h4⟩ := h j hj
 exact ⟨ad, h1, h2, pw_cell_below hb h3, h4.below hb⟩
theorem PutsC.set {W : World} {ok : Nat → Prop} {A : Option Addr} {n : Nat} {us : Nat → Value} {ls : Nat → Nat} {gg : Nat} (h : PutsC W ok A n us ls) (hg : ∀ ad : Addr, A = some ad → gg ≠ ad.block) (q : Nat) (b : Int) : PutsC (W.setCell ⟨gg, q, none⟩ (.int .u8 b)) ok A n us ls := fun j hj => by
 obtain ⟨ad, h1, h2, h3, h4⟩ := h j hj
 refine ⟨ad, h1, h2, ?_, h4.set gg q b⟩
 rw [World.cell?_setCell_other]
 ·
  exact h3
 ·
  intro e
  injection e with e1 _ _
  have h5 : (ad.add (j * 4)).block = ad.block := by unfold Addr.add; split <;> rfl
  exact hg ad h1 (by first | rw [e1, h5] | rw [← e1, h5])
section
variable {w0 W : World} {X ok : Nat → Prop} {a b c d : Int} {DA DB : Nat} {gA gB : List Bool} {sA sB : DS}
theorem DWriteA_R (l : List S51) (A : Option Addr) (cl base : Nat) (okl : Nat → Prop) (s2 : DS) (er : Int) (hR : putsL gA.length d (sizeOf08 a b c) l sA = (s2, er)) (hf : Fit a b c d gA sA) (hcu : -1 ≤ sA.cut ∧ sA.cut ≤ 9223372036854775807) (hN : Kd.N kWp 51 W base okl (.slice A l.length cl) l) (hokl : ∀ k, okl k → X k) (hln : l.length ≤ 200) (h : DR w0 W X a b c d DA DB gA sA gB sB) :
  Calls Try.prog 18 #[.pointer (some ⟨DA, 0, none⟩), .slice A l.length cl] W fun e w' => e = .returned (.int .i64 er) ∧ DR w0 w' X a b c d DA DB gA s2 gB sB ∧ ∀ k, X k → w'.heap[k]? = W.heap[k]? := by
 have h2 := DWriteA l A cl okl hf hcu (Kd.N_F (N_of_kW hN)) (fun k hk => .inr (hokl k hk)) (Kd.N_reads' hN).2.1 (by omega) h
 rw [hR] at h2
 exact h2
theorem DAllB_R (l : List S51) (A : Option Addr) (cl i : Nat) (s2 : DS) (er : Int) (hR : putsL gB.length d (sizeOf08 a b c) l sB = (s2, er)) (hS : St a b c d gB sB i) (hi : i ≤ 40) (hF : Kd.F k51 W (fun k => k < w0.heap.size) A l.length l) (hel : ∀ x ∈ l, IsB x.f3 ∧ x.f3.length ≤ 1048576) (hln : l.length ≤ 200) (h : DR w0 W X a b c d DA DB gA sA gB sB) :
  Calls Try.prog 34 #[.pointer (some ⟨DB, 0, none⟩), .slice A l.length cl] W fun e w' => e = .returned (.int .i64 er) ∧ DR w0 w' X a b c d DA DB gA sA gB s2 ∧ ∀ k, X k → w'.heap[k]? = W.heap[k]? := by
 have h1 := hS.2.2.1
 have h2 := DAllB l A cl _ hS.1 hS.2.1 hF (fun k hk => .inl hk) hel (by omega) (by omega) h
 rw [hR] at h2
 exact h2
end
theorem St.putsR {a b c d : Int} {g : List Bool} {s s2 : DS} {er : Int} {i : Nat} {l : List S51} (h : St a b c d g s i) (hR : putsL g.length d (sizeOf08 a b c) l s = (s2, er)) (hi : i ≤ 40) (hl : l.length ≤ 200) (hB : ∀ p ∈ l, IsB p.f3 ∧ p.f3.length ≤ 1048576) : St a b c d g s2 (i + 1) := by
 have h2 := h.puts hi l hl hB
 rw [hR] at h2
 exact h2
theorem St.cutb {a b c d : Int} {g : List Bool} {s : DS} {i : Nat} (h : St a b c d g s i) : -1 ≤ s.cut ∧ s.cut ≤ 9223372036854775807 := h.2.1
theorem take_snoc {α : Type} {l : List α} {k : Nat} {y : α} (hk : k < l.length) (hy : y = l[k]) : l.take k ++ [y] = l.take (k + 1) := by rw [hy, List.take_succ_eq_append_getElem hk]
theorem N_X {α : Type} {d : Kd α} {e base : Nat} {W W2 : World} {ok X : Nat → Prop} {v : Value} {xs : List α} (h : Kd.N d e W base ok v xs) (hX : ∀ k, X k → W2.heap[k]? = W.heap[k]?) (hok : ∀ k, ok k → X k) : Kd.N d e W2 base ok v xs := Kd.N_step h (fun k hk _ => hX k (hok k hk))
theorem puts_len {l : List S51} (h : ∀ p ∈ l, IsB p.f3 ∧ p.f3.length ≤ 1048576) (j : Nat) : (l.getD j z51).f3.length ≤ 1048576 := by
 rw [List.getD_eq_getElem?_getD]
 by_cases hj : j < l.length
 ·
  rw [List.getElem?_eq_getElem hj]
  exact (h _ (List.getElem_mem hj)).2
 ·
  rw [List.getElem?_eq_none (by omega)]
  exact (by decide : 0 ≤ 1048576)
theorem Wb.bound {W : World} {lo n : Nat} {v : Value} (h : Wb W (fun k => lo ≤ k) v n) : Wb W (Iv lo W.heap.size) v n := by
 rcases h with h | ⟨g, cap, cells, f, h1, h2, h3, h4, h5, r⟩
 ·
  exact .inl h
 ·
  exact .inr ⟨g, cap, cells, f, h1, ⟨h2, blk_lt h5⟩, h3, h4, h5, r⟩
theorem StepW.puts {x : S69} (h : StepW x) : ∀ p ∈ x.f5, IsB p.f3 ∧ p.f3.length ≤ 1048576 := h.2.2
end Go.Proofs.Ytemmhgfjfbdggaa.P

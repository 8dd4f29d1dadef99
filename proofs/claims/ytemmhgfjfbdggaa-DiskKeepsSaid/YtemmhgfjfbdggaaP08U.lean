import Derived.Test.YtemmhgfjfbdggaaP08K
import Derived.Lib.SliceRun
import Derived.BigFrame
namespace Go.Proofs.Ytemmhgfjfbdggaa.P
open Go.RowKit Go.Proofs.YtemmhgfjfbdggaaW.PrintWords Go.Proofs.YtemmhgfjfbdggaaW.PrintLast Go.Proofs.YtemmhgfjfbdggaaW.PrintMore
attribute [local go_sem] max2_int min2_int max_two min_two max_three min_three max_four min_four
set_option linter.unusedVariables false
set_option linter.unusedSimpArgs false
/-! A disk of the call's own, that is written: its two blocks, its two rows, and which blocks they may be. -/
def DiskO (W : World) (base : Nat) (ok : Nat → Prop) (D dr : Nat) (As : Option Addr) (n cs : Nat) (Ag : Option Addr) (m cg : Nat) (a b c d sz : Int) (slots : List (List Int)) (gone : List Bool) (off : Bool) (cut wr : Int) : Prop :=
  W.heap[D]? = some (.cells #[.pointer (some ⟨dr, 0, none⟩), .bool off, .int .i64 cut, .int .i64 wr] 58 (0, 0)) ∧
  W.heap[dr]? = some (.cells #[.int .i64 a, .int .i64 b, .int .i64 c, .int .i64 d, .int .i64 sz, .slice As n cs, .slice Ag m cg] 78 (0, 0)) ∧
  Kd.R (Kd.slice 5 (Kd.int .u8)) 45 W base ok (.slice As n cs) slots ∧ Kd.R Kd.bool 4 W base ok (.slice Ag m cg) gone ∧
  ok D ∧ ok dr ∧ ∀ k, ok k → base ≤ k ∧ k < W.heap.size
/-- What a call that writes to blocks 'ok' of w may have at w': these and new ones. -/
def Gr (ok : Nat → Prop) (w w' : World) (k : Nat) : Prop := k < w'.heap.size ∧ (ok k ∨ w.heap.size ≤ k)
theorem Gr.apart {ok ok' : Nat → Prop} {w w' : World} (h : ∀ k, ok k → ¬ ok' k) (hb : ∀ k, ok' k → k < w.heap.size) : ∀ k, Gr ok w w' k → ¬ ok' k := by
  rintro k ⟨_, h1 | h1⟩ h2
  · exact h k h1 h2
  · have := hb k h2
    omega
theorem Gr.apart' {ok ok' : Nat → Prop} {w w' : World} (h : ∀ k, ok k → ¬ ok' k) (hb : ∀ k, ok k → k < w.heap.size) : ∀ k, ok k → ¬ Gr ok' w w' k := by
  rintro k h1 ⟨_, h2 | h2⟩
  · exact h k h1 h2
  · have := hb k h1
    omega
theorem apart_symm {ok ok' : Nat → Prop} (h : ∀ k, ok k → ¬ ok' k) : ∀ k, ok' k → ¬ ok k := fun k h1 h2 => h k h2 h1
section
variable {W W2 w : World} {base : Nat} {ok ok' S : Nat → Prop} {D dr n cs m cg : Nat} {As Ag : Option Addr} {a b c d sz : Int} {slots : List (List Int)} {gone : List Bool} {off : Bool} {cut wr : Int}
theorem DiskO.grow (h : DiskO W base ok D dr As n cs Ag m cg a b c d sz slots gone off cut wr) (hok : ∀ k, ok k → ok' k) (hb : ∀ k, ok' k → base ≤ k ∧ k < W.heap.size) : DiskO W base ok' D dr As n cs Ag m cg a b c d sz slots gone off cut wr :=
  ⟨h.1, h.2.1, Kd.R_mono h.2.2.1 hok, Kd.R_mono h.2.2.2.1 hok, hok _ h.2.2.2.2.1, hok _ h.2.2.2.2.2.1, hb⟩
theorem DiskO.kept (h : DiskO W base ok D dr As n cs Ag m cg a b c d sz slots gone off cut wr) (hk : Kept W W2 S) (hne : ∀ k, ok k → ¬ S k) : DiskO W2 base ok D dr As n cs Ag m cg a b c d sz slots gone off cut wr :=
  ⟨blk_kept h.1 hk (hne _ h.2.2.2.2.1), blk_kept h.2.1 hk (hne _ h.2.2.2.2.2.1), Kd.R_kept h.2.2.1 hk hne, Kd.R_kept h.2.2.2.1 hk hne, h.2.2.2.2.1, h.2.2.2.2.2.1, fun k hk' => ⟨(h.2.2.2.2.2.2 k hk').1, Nat.lt_of_lt_of_le (h.2.2.2.2.2.2 k hk').2 hk.1⟩⟩
theorem DiskO.below (h : DiskO W base ok D dr As n cs Ag m cg a b c d sz slots gone off cut wr) (hb : Below W.heap.size W W2) : DiskO W2 base ok D dr As n cs Ag m cg a b c d sz slots gone off cut wr :=
  h.kept (Kept.of_below hb (fun _ => False)) (fun _ _ hf => hf)
theorem DiskO.ne (h : DiskO W base ok D dr As n cs Ag m cg a b c d sz slots gone off cut wr) : D ≠ dr := blk_ne h.1 h.2.1 (by decide)
theorem DiskO.lens (h : DiskO W base ok D dr As n cs Ag m cg a b c d sz slots gone off cut wr) : n = slots.length ∧ n ≤ cs ∧ m = gone.length ∧ m ≤ cg :=
  ⟨(Kd.R_reads' h.2.2.1).1, (Kd.R_reads' h.2.2.1).2.1, (Kd.R_reads' h.2.2.2.1).1, (Kd.R_reads' h.2.2.2.1).2.1⟩
/-- The disk's own variable is written. -/
theorem DiskO.setD (h : DiskO W base ok D dr As n cs Ag m cg a b c d sz slots gone off cut wr) {off' : Bool} {cut' wr' : Int} (j : Nat) (u : Value)
    (e : (#[.pointer (some ⟨dr, 0, none⟩), .bool off, .int .i64 cut, .int .i64 wr] : Array Value).setIfInBounds j u = #[.pointer (some ⟨dr, 0, none⟩), .bool off', .int .i64 cut', .int .i64 wr']) :
    DiskO (W.setCell ⟨D, j, none⟩ u) base ok D dr As n cs Ag m cg a b c d sz slots gone off' cut' wr' :=
  ⟨blk_put h.1 j u e, blk_far h.2.1 (p := ⟨D, j, none⟩) h.ne.symm u, Kd.R_set h.2.2.1 h.1 (by decide) j u, Kd.R_set h.2.2.2.1 h.1 (by decide) j u, h.2.2.2.2.1, h.2.2.2.2.2.1, fun k hk => ⟨(h.2.2.2.2.2.2 k hk).1, by have := (h.2.2.2.2.2.2 k hk).2; simpa [World.setCell] using this⟩⟩
theorem kept_cell {S : Nat → Prop} (h : Kept w W S) {g j : Nat} (hg : S g) (u : Value) : Kept w (W.setCell ⟨g, j, none⟩ u) S := h.setCell (p := ⟨g, j, none⟩) (.inl hg) u
/-- A slot is written. -/
theorem DiskO.setSlot {g i : Nat} {v : Value} {x : List Int} (h : DiskO W base ok D dr (some ⟨g, 0, none⟩) n cs Ag m cg a b c d sz slots gone off cut wr) (hi : i < slots.length) (hv : Kd.R (Kd.int .u8) 5 W base (fun k => ok k ∧ k ≠ g) v x) :
    DiskO (W.setCell ⟨g, i, none⟩ v) base ok D dr (some ⟨g, 0, none⟩) n cs Ag m cg a b c d sz (slots.set i x) gone off cut wr ∧ ok g := by
  have hg : ok g := h.2.2.1.1 g rfl
  have hp := R_put_row h.2.2.1 hi hv
  have hDg : D ≠ g := fun e => Kd.R_ne h.2.2.1 h.1 (by decide) (by rw [e]; rfl)
  have hdg : dr ≠ g := fun e => Kd.R_ne h.2.2.1 h.2.1 (by decide) (by rw [e]; rfl)
  obtain ⟨cells, hcells⟩ := Kd.R_typed h.2.2.1 g rfl
  refine ⟨⟨blk_far h.1 (p := ⟨g, i, none⟩) hDg v, blk_far h.2.1 (p := ⟨g, i, none⟩) hdg v, hp.1, Kd.R_set h.2.2.2.1 hcells (by decide) i v, h.2.2.2.2.1, h.2.2.2.2.2.1, fun k hk => ⟨(h.2.2.2.2.2.2 k hk).1, by have := (h.2.2.2.2.2.2 k hk).2; simpa [World.setCell] using this⟩⟩, hg⟩
/-- A drive is told to be gone. -/
theorem DiskO.setGone {g i : Nat} {x : Bool} (h : DiskO W base ok D dr As n cs (some ⟨g, 0, none⟩) m cg a b c d sz slots gone off cut wr) :
    DiskO (W.setCell ⟨g, i, none⟩ (.bool x)) base ok D dr As n cs (some ⟨g, 0, none⟩) m cg a b c d sz slots (gone.set i x) off cut wr ∧ ok g := by
  have hg : ok g := h.2.2.2.1.1 g rfl
  have e := h.lens.2.2.1
  have hr := h.2.2.2.1
  rw [e] at hr
  have hp := Kd.R_put hr (i : Int) x
  rw [Int.toNat_natCast] at hp
  have hDg : D ≠ g := fun e => Kd.R_ne h.2.2.2.1 h.1 (by decide) (by rw [e]; rfl)
  have hdg : dr ≠ g := fun e => Kd.R_ne h.2.2.2.1 h.2.1 (by decide) (by rw [e]; rfl)
  obtain ⟨cells, hcells⟩ := Kd.R_typed h.2.2.2.1 g rfl
  refine ⟨⟨blk_far h.1 (p := ⟨g, i, none⟩) hDg _, blk_far h.2.1 (p := ⟨g, i, none⟩) hdg _, Kd.R_set h.2.2.1 hcells (by decide) i _, ?_, h.2.2.2.2.1, h.2.2.2.2.2.1, fun k hk => ⟨(h.2.2.2.2.2.2 k hk).1, by have := (h.2.2.2.2.2.2 k hk).2; simpa [World.setCell] using this⟩⟩, hg⟩
  rw [e]
  exact hp.1
/-- .. as a call's end tells it. -/
theorem DiskO.gr (h : DiskO W base ok' D dr As n cs Ag m cg a b c d sz slots gone off cut wr) (hb : base ≤ w.heap.size) (hs : ∀ k, ok' k → ok k ∨ w.heap.size ≤ k) (hok : ∀ k, ok k → base ≤ k) : DiskO W base (Gr ok w W) D dr As n cs Ag m cg a b c d sz slots gone off cut wr :=
  h.grow (fun k hk => ⟨(h.2.2.2.2.2.2 k hk).2, hs k hk⟩) (fun k hk => ⟨hk.2.elim (hok k) (Nat.le_trans hb), hk.1⟩)
theorem DiskO.low (h : DiskO W base ok D dr As n cs Ag m cg a b c d sz slots gone off cut wr) : base ≤ W.heap.size := Nat.le_of_lt (Nat.lt_of_le_of_lt (h.2.2.2.2.2.2 D h.2.2.2.2.1).1 (h.2.2.2.2.2.2 D h.2.2.2.2.1).2)
theorem DiskO.base_ (h : DiskO W base ok D dr As n cs Ag m cg a b c d sz slots gone off cut wr) : ∀ k, ok k → base ≤ k := fun k hk => (h.2.2.2.2.2.2 k hk).1
theorem DiskO.bound (h : DiskO W base ok D dr As n cs Ag m cg a b c d sz slots gone off cut wr) : ∀ k, ok k → k < W.heap.size := fun k hk => (h.2.2.2.2.2.2 k hk).2
/-- What is read of it. -/
theorem DiskO.slotsC (h : DiskO W base ok D dr As n cs Ag m cg a b c d sz slots gone off cut wr) : Kd.C (Kd.slice 5 (Kd.int .u8)) W As slots.length slots := (Kd.R_reads' h.2.2.1).2.2
theorem DiskO.goneC (h : DiskO W base ok D dr As n cs Ag m cg a b c d sz slots gone off cut wr) : Kd.C Kd.bool W Ag gone.length gone := (Kd.R_reads' h.2.2.2.1).2.2
end
/-- What a call has written so far: of what is elder than 'base' nothing, of w's blocks only 'ok'. -/
def Wrote (base : Nat) (ok : Nat → Prop) (w W : World) : Prop := base ≤ w.heap.size ∧ Below base w W ∧ Kept w W ok
section
variable {base : Nat} {ok S : Nat → Prop} {w0 w W W2 : World}
theorem Wrote.start (hb : base ≤ w.heap.size) : Wrote base ok w w := ⟨hb, Below.refl _ _, Kept.refl _ _⟩
theorem Wrote.below (h : Wrote base ok w W) (hb : Below W.heap.size W W2) : Wrote base ok w W2 := ⟨h.1, h.2.1.trans (hb.mono (Nat.le_trans h.1 h.2.1.size)), h.2.2.below hb⟩
theorem Wrote.cell (h : Wrote base ok w W) {g j : Nat} (hg : ok g) (hb : base ≤ g) (u : Value) : Wrote base ok w (W.setCell ⟨g, j, none⟩ u) := ⟨h.1, h.2.1.setCell hb u, h.2.2.setCell (p := ⟨g, j, none⟩) (.inl hg) u⟩
theorem Wrote.new (h : Wrote base ok w W) {g j : Nat} (hg : w.heap.size ≤ g) (u : Value) : Wrote base ok w (W.setCell ⟨g, j, none⟩ u) := ⟨h.1, h.2.1.setCell (Nat.le_trans h.1 hg) u, h.2.2.setCell (p := ⟨g, j, none⟩) (.inr hg) u⟩
theorem Wrote.then_ (h : Wrote base ok w W) (k : Wrote base S W W2) (hs : ∀ k, S k → ok k ∨ w.heap.size ≤ k) : Wrote base ok w W2 := ⟨h.1, h.2.1.trans k.2.1, h.2.2.then_ k.2.2 hs⟩
theorem Wrote.size (h : Wrote base ok w W) : w.heap.size ≤ W.heap.size := h.2.1.size
theorem Wrote.outer (hb : Below w0.heap.size w0 w) (h : Wrote base ok w W) (h0 : w0.heap.size ≤ base) : Below w0.heap.size w0 W := below_weaken hb h0 h.2.1
end
/-! What a disk does, with no program in sight. -/
abbrev PutT := S51
/-- A slot's number; -1: it is not there. -/
def atOf (nd : Nat) (d x y z : Int) : Int := if x < 0 ∨ (nd : Int) ≤ x ∨ y < 0 ∨ d ≤ y ∨ z < 0 ∨ 1 < z then -1 else (x * d + y) * 2 + z
structure DS where
  slots : List (List Int)
  off : Bool
  cut : Int
  wr : Int
/-- One raw write: the state behind it and the error. -/
def put1 (nd : Nat) (d sz : Int) (p : PutT) (s : DS) : DS × Int :=
  if s.off = true then (s, 9)
  else if atOf nd d p.f0 p.f1 p.f2 < 0 ∨ (p.f3.length : Int) ≠ sz then (s, 80)
  else if s.cut = 0 then (⟨s.slots, true, -1, s.wr⟩, 9)
  else (⟨s.slots.set (atOf nd d p.f0 p.f1 p.f2).toNat p.f3, s.off, if 0 < s.cut then s.cut - 1 else s.cut, s.wr + 1⟩, 0)
def putsL (nd : Nat) (d sz : Int) : List PutT → DS → DS × Int
  | [], s => (s, 0)
  | p :: l, s => if (put1 nd d sz p s).2 = 0 then putsL nd d sz l (put1 nd d sz p s).1 else put1 nd d sz p s
theorem put1_ok {nd : Nat} {d sz : Int} {p : PutT} {s : DS} (h : (put1 nd d sz p s).2 = 0) : s.off = false ∧ 0 ≤ atOf nd d p.f0 p.f1 p.f2 ∧ (p.f3.length : Int) = sz ∧ s.cut ≠ 0 ∧
    put1 nd d sz p s = (⟨s.slots.set (atOf nd d p.f0 p.f1 p.f2).toNat p.f3, s.off, if 0 < s.cut then s.cut - 1 else s.cut, s.wr + 1⟩, 0) := by
  unfold put1 at h ⊢
  by_cases h1 : s.off = true
  · rw [if_pos h1] at h; simp at h
  · rw [if_neg h1] at h ⊢
    by_cases h2 : atOf nd d p.f0 p.f1 p.f2 < 0 ∨ (p.f3.length : Int) ≠ sz
    · rw [if_pos h2] at h; simp at h
    · rw [if_neg h2] at h ⊢
      by_cases h3 : s.cut = 0
      · rw [if_pos h3] at h; simp at h
      · rw [if_neg h3]
        exact ⟨by simpa using h1, by omega, by omega, h3, rfl⟩
/-- What raw writes leave: as many slots, each as long as it was or as a slot is; the number of writes. -/
theorem putsL_inv {nd : Nat} {d sz : Int} {M : Nat} (hM : sz ≤ M) : ∀ (l : List PutT) (s : DS), (∀ x ∈ s.slots, x.length ≤ M) →
    (putsL nd d sz l s).1.slots.length = s.slots.length ∧ (∀ x ∈ (putsL nd d sz l s).1.slots, x.length ≤ M) ∧ s.wr ≤ (putsL nd d sz l s).1.wr ∧ (putsL nd d sz l s).1.wr ≤ s.wr + l.length
  | [], s, h => ⟨rfl, h, Int.le_refl _, by simp [putsL]⟩
  | p :: l, s, h => by
    unfold putsL
    by_cases h0 : (put1 nd d sz p s).2 = 0
    · rw [if_pos h0]
      obtain ⟨_, _, h3, _, h5⟩ := put1_ok h0
      have hs : ∀ x ∈ (put1 nd d sz p s).1.slots, x.length ≤ M := by
        rw [h5]
        intro x hx
        rcases List.mem_or_eq_of_mem_set hx with hx | rfl
        · exact h x hx
        · omega
      obtain ⟨i1, i2, i3, i4⟩ := putsL_inv hM l (put1 nd d sz p s).1 hs
      have e1 : (put1 nd d sz p s).1.slots.length = s.slots.length := by rw [h5]; simp
      have e2 : (put1 nd d sz p s).1.wr = s.wr + 1 := by rw [h5]
      rw [e2] at i3 i4
      exact ⟨i1.trans e1, i2, by omega, by rw [List.length_cons]; omega⟩
    · rw [if_neg h0]
      have e : (put1 nd d sz p s).1.slots = s.slots ∧ (put1 nd d sz p s).1.wr = s.wr := by
        unfold put1 at h0 ⊢
        by_cases h1 : s.off = true
        · rw [if_pos h1]; exact ⟨rfl, rfl⟩
        · rw [if_neg h1] at h0 ⊢
          by_cases h2 : atOf nd d p.f0 p.f1 p.f2 < 0 ∨ (p.f3.length : Int) ≠ sz
          · rw [if_pos h2]; exact ⟨rfl, rfl⟩
          · rw [if_neg h2] at h0 ⊢
            by_cases h3 : s.cut = 0
            · rw [if_pos h3]; exact ⟨rfl, rfl⟩
            · rw [if_neg h3] at h0; simp at h0
      rw [e.1, e.2]
      exact ⟨rfl, h, Int.le_refl _, by rw [List.length_cons]; omega⟩
/-- Where the power fails: a disk with a cut by n beside one to which the first n writes alone came. -/
theorem cut_law {nd : Nat} {d sz : Int} : ∀ (l : List PutT) (n : Nat) (s : DS), s.off = false → s.cut = -1 →
    let A := putsL nd d sz l ⟨s.slots, false, (n : Int), s.wr⟩
    let B := putsL nd d sz (l.take n) s
    B.1.off = false ∧ B.1.cut = -1 ∧ A.1.slots = B.1.slots ∧ A.1.wr = B.1.wr ∧
      (B.2 ≠ 0 → A.2 = B.2 ∧ A.1.off = false) ∧
      (B.2 = 0 → B.1.wr = s.wr + (min n l.length : Nat) ∧ (l.length ≤ n → A.2 = 0 ∧ A.1.off = false) ∧ (n < l.length → (A.2 = 80 ∧ A.1.off = false) ∨ (A.2 = 9 ∧ A.1.off = true)))
  | [], n, s, h1, h2 => by
    simp [putsL, h1, h2]
  | p :: l, 0, s, h1, h2 => by
    simp only [List.take_zero, putsL]
    unfold put1
    simp only [h1]
    by_cases h3 : atOf nd d p.f0 p.f1 p.f2 < 0 ∨ (p.f3.length : Int) ≠ sz
    · simp [h3, h2]
    · simp [h3, h2]
  | p :: l, n + 1, s, h1, h2 => by
    simp only [List.take_succ_cons, putsL]
    by_cases h3 : atOf nd d p.f0 p.f1 p.f2 < 0 ∨ (p.f3.length : Int) ≠ sz
    · have ea : put1 nd d sz p ⟨s.slots, false, ((n + 1 : Nat) : Int), s.wr⟩ = (⟨s.slots, false, ((n + 1 : Nat) : Int), s.wr⟩, 80) := by
        unfold put1
        simp [h3]
      have eb : put1 nd d sz p s = (s, 80) := by
        unfold put1
        rw [if_neg (by simp [h1]), if_pos h3]
      rw [ea, eb]
      simp [h1, h2]
    · have ea : put1 nd d sz p ⟨s.slots, false, ((n + 1 : Nat) : Int), s.wr⟩ = (⟨s.slots.set (atOf nd d p.f0 p.f1 p.f2).toNat p.f3, false, (n : Int), s.wr + 1⟩, 0) := by
        unfold put1
        have : ¬ (((n + 1 : Nat) : Int) = 0) := by omega
        have h5 : (0 : Int) < ((n + 1 : Nat) : Int) := by omega
        have h6 : ((n + 1 : Nat) : Int) - 1 = (n : Int) := by omega
        simp only [h3, this, h5, h6, if_true, if_false]
        simp
      have eb : put1 nd d sz p s = (⟨s.slots.set (atOf nd d p.f0 p.f1 p.f2).toNat p.f3, false, -1, s.wr + 1⟩, 0) := by
        unfold put1
        simp [h1, h2, h3]
      rw [ea, eb]
      simp only [if_true]
      have ih := cut_law (nd := nd) (d := d) (sz := sz) l n ⟨s.slots.set (atOf nd d p.f0 p.f1 p.f2).toNat p.f3, false, -1, s.wr + 1⟩ rfl rfl
      obtain ⟨i1, i2, i3, i4, i5, i6⟩ := ih
      refine ⟨i1, i2, i3, i4, i5, fun hb => ?_⟩
      obtain ⟨j1, j2, j3⟩ := i6 hb
      refine ⟨by rw [j1]; simp only [List.length_cons]; omega, fun hl => j2 (by simp only [List.length_cons] at hl; omega), fun hl => j3 (by simp only [List.length_cons] at hl; omega)⟩
theorem atOf_lt {nd : Nat} {d x y z : Int} (hd : 0 ≤ d) (h : 0 ≤ atOf nd d x y z) : 0 ≤ x ∧ x < nd ∧ 0 ≤ y ∧ y < d ∧ 0 ≤ z ∧ z ≤ 1 ∧ atOf nd d x y z = (x * d + y) * 2 + z ∧ atOf nd d x y z < nd * d * 2 := by
  unfold atOf at h ⊢
  by_cases hc : x < 0 ∨ (nd : Int) ≤ x ∨ y < 0 ∨ d ≤ y ∨ z < 0 ∨ 1 < z
  · rw [if_pos hc] at h; omega
  · rw [if_neg hc] at h ⊢
    have h1 : x * d ≤ ((nd : Int) - 1) * d := Int.mul_le_mul_of_nonneg_right (by omega) hd
    rw [Int.sub_mul, Int.one_mul] at h1
    refine ⟨by omega, by omega, by omega, by omega, by omega, by omega, rfl, by omega⟩
/-- An element of a row of raw writes. -/
theorem puts_elem {w : World} {okl : Nat → Prop} {A : Option Addr} {l : List S51} (h : Kd.F k51 w okl A l.length l) (k : Nat) (hk : k < l.length) :
    ∃ (ad : Addr) (A3 : Option Addr) (c3 : Nat) (x : S51), A = some ad ∧ l.drop k = x :: l.drop (k + 1) ∧ x = l[k] ∧ x.f3.length ≤ c3 ∧
      w.cell? (ad.add (k * 4)) = some (.int .i64 x.f0) ∧ w.cell? ⟨(ad.add (k * 4)).block, (ad.add (k * 4)).off + 1, none⟩ = some (.int .i64 x.f1) ∧ w.cell? ⟨(ad.add (k * 4)).block, (ad.add (k * 4)).off + 2, none⟩ = some (.int .i64 x.f2) ∧ w.cell? ⟨(ad.add (k * 4)).block, (ad.add (k * 4)).off + 3, none⟩ = some (.slice A3 x.f3.length c3) ∧
      Kd.F (Kd.int .u8) w okl A3 x.f3.length x.f3 := by
  obtain ⟨ad, c, e, _, hK, hc0, _⟩ := Kd.F_get h z51 (k : Int) (by omega) (by omega)
  have hc : ∀ j u, c[j]? = some u → w.cell? (ad.add (k * 4 + j)) = some u := by
    intro j u hj
    have := hc0 j u hj
    rwa [Int.toNat_natCast] at this
  have e1 : l.getD (k : Int).toNat z51 = l[k] := by simp [hk]
  rw [e1] at hK
  obtain ⟨A3, c3, rfl, l3, g3⟩ := k51_openF hK
  exact ⟨ad, A3, c3, l[k], e, List.drop_eq_getElem_cons hk, rfl, l3, hc 0 _ rfl, by rw [← add_field _ _ 1 (by omega)]; exact hc 1 _ rfl, by rw [← add_field _ _ 2 (by omega)]; exact hc 2 _ rfl, by rw [← add_field _ _ 3 (by omega)]; exact hc 3 _ rfl, g3⟩
theorem putsL_stop {nd : Nat} {d sz : Int} {p : PutT} {l : List PutT} {s : DS} (h : (put1 nd d sz p s).2 ≠ 0) : putsL nd d sz (p :: l) s = put1 nd d sz p s := by rw [putsL, if_neg h]
theorem putsL_go {nd : Nat} {d sz : Int} {p : PutT} {l : List PutT} {s : DS} (h : (put1 nd d sz p s).2 = 0) : putsL nd d sz (p :: l) s = putsL nd d sz l (put1 nd d sz p s).1 := by rw [putsL, if_pos h]
set_option maxHeartbeats 8000000 in
set_option maxRecDepth 100000 in
theorem at_yes (dr : Nat) (a b c d sz : Int) (As Ag : Option Addr) (n cs m cg : Nat) (x y z : Int) (w : World) (hR : w.heap[dr]? = some (.cells #[.int .i64 a, .int .i64 b, .int .i64 c, .int .i64 d, .int .i64 sz, .slice As n cs, .slice Ag m cg] 78 (0, 0))) (hm : m ≤ 16) (hd : 0 ≤ d ∧ d ≤ 4096) : Calls Try.prog 46 #[.pointer (some ⟨dr, 0, none⟩), .int .i64 x, .int .i64 y, .int .i64 z] w fun e w' => e = .returned (.int .i64 (atOf m d x y z)) ∧ Drawn0 w w' := by
  have HM := Aside0.mk hm
  have HD := Aside0.mk hd
  have BKdr := Aside0.mk hR
  clear hR hm hd
  have hcdr_0 : w.cell? ⟨dr, 0, none⟩ = some (.int .i64 a) := (blk_cell BKdr.out 0).trans rfl
  have hfdr_0 := blk_frozen BKdr.out 0
  have hcdr_1 : w.cell? ⟨dr, 1, none⟩ = some (.int .i64 b) := (blk_cell BKdr.out 1).trans rfl
  have hfdr_1 := blk_frozen BKdr.out 1
  have hcdr_2 : w.cell? ⟨dr, 2, none⟩ = some (.int .i64 c) := (blk_cell BKdr.out 2).trans rfl
  have hfdr_2 := blk_frozen BKdr.out 2
  have hcdr_3 : w.cell? ⟨dr, 3, none⟩ = some (.int .i64 d) := (blk_cell BKdr.out 3).trans rfl
  have hfdr_3 := blk_frozen BKdr.out 3
  have hcdr_4 : w.cell? ⟨dr, 4, none⟩ = some (.int .i64 sz) := (blk_cell BKdr.out 4).trans rfl
  have hfdr_4 := blk_frozen BKdr.out 4
  have hcdr_5 : w.cell? ⟨dr, 5, none⟩ = some (.slice As n cs) := (blk_cell BKdr.out 5).trans rfl
  have hfdr_5 := blk_frozen BKdr.out 5
  have hcdr_6 : w.cell? ⟨dr, 6, none⟩ = some (.slice Ag m cg) := (blk_cell BKdr.out 6).trans rfl
  have hfdr_6 := blk_frozen BKdr.out 6
  by_cases h0 : x < 0
  · have HA := Aside0.mk (show atOf m d x y z = -1 by unfold atOf; rw [if_pos (by omega)])
    have f0 : decide (x < 0) = true := decide_eq_true h0
    clear h0
    go_enter Try.func46, Try.ntmps46
    go_wp2
    go_ret
    exact ⟨by rw [HA.out]; rfl, Drawn0.refl _⟩
  by_cases h1 : (m : Int) ≤ x
  · have HA := Aside0.mk (show atOf m d x y z = -1 by unfold atOf; rw [if_pos (by omega)])
    have f0 : decide (x < 0) = false := decide_eq_false h0
    have f1 : decide ((m : Int) ≤ x) = true := decide_eq_true h1
    clear h0 h1
    go_enter Try.func46, Try.ntmps46
    go_wp2
    go_ret
    exact ⟨by rw [HA.out]; rfl, Drawn0.refl _⟩
  by_cases h2 : y < 0
  · have HA := Aside0.mk (show atOf m d x y z = -1 by unfold atOf; rw [if_pos (by omega)])
    have f0 : decide (x < 0) = false := decide_eq_false h0
    have f1 : decide ((m : Int) ≤ x) = false := decide_eq_false h1
    have f2 : decide (y < 0) = true := decide_eq_true h2
    clear h0 h1 h2
    go_enter Try.func46, Try.ntmps46
    go_wp2
    go_ret
    exact ⟨by rw [HA.out]; rfl, Drawn0.refl _⟩
  by_cases h3 : d ≤ y
  · have HA := Aside0.mk (show atOf m d x y z = -1 by unfold atOf; rw [if_pos (by omega)])
    have f0 : decide (x < 0) = false := decide_eq_false h0
    have f1 : decide ((m : Int) ≤ x) = false := decide_eq_false h1
    have f2 : decide (y < 0) = false := decide_eq_false h2
    have f3 : decide (d ≤ y) = true := decide_eq_true h3
    clear h0 h1 h2 h3
    go_enter Try.func46, Try.ntmps46
    go_wp2
    go_ret
    exact ⟨by rw [HA.out]; rfl, Drawn0.refl _⟩
  by_cases h4 : z < 0
  · have HA := Aside0.mk (show atOf m d x y z = -1 by unfold atOf; rw [if_pos (by omega)])
    have f0 : decide (x < 0) = false := decide_eq_false h0
    have f1 : decide ((m : Int) ≤ x) = false := decide_eq_false h1
    have f2 : decide (y < 0) = false := decide_eq_false h2
    have f3 : decide (d ≤ y) = false := decide_eq_false h3
    have f4 : decide (z < 0) = true := decide_eq_true h4
    clear h0 h1 h2 h3 h4
    go_enter Try.func46, Try.ntmps46
    go_wp2
    go_ret
    exact ⟨by rw [HA.out]; rfl, Drawn0.refl _⟩
  by_cases h5 : 1 < z
  · have HA := Aside0.mk (show atOf m d x y z = -1 by unfold atOf; rw [if_pos (by omega)])
    have f0 : decide (x < 0) = false := decide_eq_false h0
    have f1 : decide ((m : Int) ≤ x) = false := decide_eq_false h1
    have f2 : decide (y < 0) = false := decide_eq_false h2
    have f3 : decide (d ≤ y) = false := decide_eq_false h3
    have f4 : decide (z < 0) = false := decide_eq_false h4
    have f5 : decide (1 < z) = true := decide_eq_true h5
    clear h0 h1 h2 h3 h4 h5
    go_enter Try.func46, Try.ntmps46
    go_wp2
    go_ret
    exact ⟨by rw [HA.out]; rfl, Drawn0.refl _⟩
  have HA := Aside0.mk (show atOf m d x y z = (x * d + y) * 2 + z by unfold atOf; rw [if_neg (by omega)])
  have hb : 0 ≤ x * d ∧ x * d ≤ 65536 := by
    have h1 := HM.out
    have h2 := HD.out
    refine ⟨Int.mul_nonneg (by omega) (by omega), ?_⟩
    have : x * d ≤ 16 * d := Int.mul_le_mul_of_nonneg_right (by omega) (by omega)
    omega
  have e1 : wrap64 (x * d) = x * d := by unfold wrap64; omega
  have hyd := HD.out
  have e2 : wrap64 (x * d + y) = x * d + y := by unfold wrap64; omega
  have e3 : wrap64 ((x * d + y) * 2) = (x * d + y) * 2 := by unfold wrap64; omega
  have e4 : wrap64 ((x * d + y) * 2 + z) = (x * d + y) * 2 + z := by unfold wrap64; omega
  have HE := Aside0.mk (show wrap64 (wrap64 (wrap64 (wrap64 (x * d) + y) * 2) + z) = atOf m d x y z by rw [e1, e2, e3, e4, HA.out])
  clear e1 e2 e3 e4 hb hyd
  have f0 : decide (x < 0) = false := decide_eq_false h0
  have f1 : decide ((m : Int) ≤ x) = false := decide_eq_false h1
  have f2 : decide (y < 0) = false := decide_eq_false h2
  have f3 : decide (d ≤ y) = false := decide_eq_false h3
  have f4 : decide (z < 0) = false := decide_eq_false h4
  have f5 : decide (1 < z) = false := decide_eq_false h5
  clear h0 h1 h2 h3 h4 h5
  go_enter Try.func46, Try.ntmps46
  go_wp2
  go_ret
  exact ⟨by rw [← HE.out]; rfl, Drawn0.refl _⟩
set_option maxHeartbeats 8000000 in
set_option maxRecDepth 100000 in
theorem Cut_yes (D dr : Nat) (As Ag : Option Addr) (n cs m cg : Nat) (a b c d sz : Int) (slots : List (List Int)) (gone : List Bool) (off : Bool) (cut wr : Int) (base : Nat) (ok : Nat → Prop) (x : Int) (w : World) (H : DiskO w base ok D dr As n cs Ag m cg a b c d sz slots gone off cut wr) (hx : 0 ≤ x) : Calls Try.prog 16 #[.pointer (some ⟨D, 0, none⟩), .int .i64 x] w fun e w' => e = .returned (.int .i64 0) ∧ DiskO w' base (Gr ok w w') D dr As n cs Ag m cg a b c d sz slots gone off x wr ∧ Wrote base ok w w' := by
  have H := Aside0.mk H
  have BKD := Aside0.mk H.out.1
  have f0 : decide (x < 0) = false := decide_eq_false (by omega)
  clear hx
  have hcD_0 : w.cell? ⟨D, 0, none⟩ = some (.pointer (some ⟨dr, 0, none⟩)) := (blk_cell H.out.1 0).trans rfl
  have hfD_0 := blk_frozen H.out.1 0
  have hcD_1 : w.cell? ⟨D, 1, none⟩ = some (.bool off) := (blk_cell H.out.1 1).trans rfl
  have hfD_1 := blk_frozen H.out.1 1
  have hcD_2 : w.cell? ⟨D, 2, none⟩ = some (.int .i64 cut) := (blk_cell H.out.1 2).trans rfl
  have hfD_2 := blk_frozen H.out.1 2
  have hcD_3 : w.cell? ⟨D, 3, none⟩ = some (.int .i64 wr) := (blk_cell H.out.1 3).trans rfl
  have hfD_3 := blk_frozen H.out.1 3
  go_enter Try.func16, Try.ntmps16
  go_wp2_with (go_at_call 45; (with_reducible refine (made_yes D dr _ _ _ _ (by (with_reducible repeat (first | refine blk_drewN ?_ _ | refine blk_drew ?_ | refine blk_alloc ?_ _)); exact BKD.out)).mono ?_); rintro e w1 ⟨rfl, ⟨nd, rfl⟩⟩)
  go_ret
  have K0 := H.out.below (W2 := w.drewN nd) (pw_below_drewN (Below.refl _ _) nd)
  have Q0 : Wrote base ok w (w.drewN nd) := (Wrote.start (Nat.le_of_lt (Nat.lt_of_le_of_lt (H.out.2.2.2.2.2.2 D H.out.2.2.2.2.1).1 (H.out.2.2.2.2.2.2 D H.out.2.2.2.2.1).2))).below (pw_below_drewN (Below.refl _ _) nd)
  have K1 := K0.setD (off' := off) (cut' := x) (wr' := wr) 2 (.int .i64 x) rfl
  have Q1 := Q0.cell (j := 2) H.out.2.2.2.2.1 (H.out.2.2.2.2.2.2 D H.out.2.2.2.2.1).1 (.int .i64 x)
  refine ⟨rfl, K1.grow (fun k hk => ⟨(K1.2.2.2.2.2.2 k hk).2, .inl hk⟩) (fun k hk => ⟨?_, hk.1⟩), Q1⟩
  rcases hk.2 with h | h
  · exact (H.out.2.2.2.2.2.2 k h).1
  · exact Nat.le_trans Q0.1 h
set_option maxHeartbeats 8000000 in
set_option maxRecDepth 100000 in
theorem On_yes (D dr : Nat) (As Ag : Option Addr) (n cs m cg : Nat) (a b c d sz : Int) (slots : List (List Int)) (gone : List Bool) (off : Bool) (cut wr : Int) (base : Nat) (ok : Nat → Prop)  (w : World) (H : DiskO w base ok D dr As n cs Ag m cg a b c d sz slots gone off cut wr)  : Calls Try.prog 22 #[.pointer (some ⟨D, 0, none⟩)] w fun e w' => e = .returned (.int .i64 0) ∧ DiskO w' base (Gr ok w w') D dr As n cs Ag m cg a b c d sz slots gone false (-1) wr ∧ Wrote base ok w w' := by
  have H := Aside0.mk H
  have BKD := Aside0.mk H.out.1
  
  have hcD_0 : w.cell? ⟨D, 0, none⟩ = some (.pointer (some ⟨dr, 0, none⟩)) := (blk_cell H.out.1 0).trans rfl
  have hfD_0 := blk_frozen H.out.1 0
  have hcD_1 : w.cell? ⟨D, 1, none⟩ = some (.bool off) := (blk_cell H.out.1 1).trans rfl
  have hfD_1 := blk_frozen H.out.1 1
  have hcD_2 : w.cell? ⟨D, 2, none⟩ = some (.int .i64 cut) := (blk_cell H.out.1 2).trans rfl
  have hfD_2 := blk_frozen H.out.1 2
  have hcD_3 : w.cell? ⟨D, 3, none⟩ = some (.int .i64 wr) := (blk_cell H.out.1 3).trans rfl
  have hfD_3 := blk_frozen H.out.1 3
  go_enter Try.func22, Try.ntmps22
  go_wp2_with (go_at_call 45; (with_reducible refine (made_yes D dr _ _ _ _ (by (with_reducible repeat (first | refine blk_drewN ?_ _ | refine blk_drew ?_ | refine blk_alloc ?_ _)); exact BKD.out)).mono ?_); rintro e w1 ⟨rfl, ⟨nd, rfl⟩⟩)
  go_ret
  have K0 := H.out.below (W2 := w.drewN nd) (pw_below_drewN (Below.refl _ _) nd)
  have Q0 : Wrote base ok w (w.drewN nd) := (Wrote.start (Nat.le_of_lt (Nat.lt_of_le_of_lt (H.out.2.2.2.2.2.2 D H.out.2.2.2.2.1).1 (H.out.2.2.2.2.2.2 D H.out.2.2.2.2.1).2))).below (pw_below_drewN (Below.refl _ _) nd)
  have K1 := K0.setD (off' := false) (cut' := cut) (wr' := wr) 1 (.bool false) rfl
  have Q1 := Q0.cell (j := 1) H.out.2.2.2.2.1 (H.out.2.2.2.2.2.2 D H.out.2.2.2.2.1).1 (.bool false)
  have K2 := K1.setD (off' := false) (cut' := (-1)) (wr' := wr) 2 (.int .i64 (-1)) rfl
  have Q2 := Q1.cell (j := 2) H.out.2.2.2.2.1 (H.out.2.2.2.2.2.2 D H.out.2.2.2.2.1).1 (.int .i64 (-1))
  refine ⟨rfl, K2.grow (fun k hk => ⟨(K2.2.2.2.2.2.2 k hk).2, .inl hk⟩) (fun k hk => ⟨?_, hk.1⟩), Q2⟩
  rcases hk.2 with h | h
  · exact (H.out.2.2.2.2.2.2 k h).1
  · exact Nat.le_trans Q0.1 h
set_option maxHeartbeats 8000000 in
set_option maxRecDepth 100000 in
theorem Cut_less (D dr : Nat) (x0 x1 x2 : Value) (x : Int) (hx : x < 0) (w : World) (hD : w.heap[D]? = some (.cells #[.pointer (some ⟨dr, 0, none⟩), x0, x1, x2] 58 (0, 0))) : Calls Try.prog 16 #[.pointer (some ⟨D, 0, none⟩), .int .i64 x] w fun e w' => e = .returned (.int .i64 2) ∧ Drawn0 w w' := by
  have H := Aside0.mk hD
  have f0 : decide (x < 0) = true := decide_eq_true hx
  clear hx hD
  go_enter Try.func16, Try.ntmps16
  go_wp2_with (go_at_call 45; (with_reducible refine (made_yes D dr _ _ _ _ (by (with_reducible repeat (first | refine blk_drewN ?_ _ | refine blk_drew ?_ | refine blk_alloc ?_ _)); exact H.out)).mono ?_); rintro e w1 ⟨rfl, ⟨nd, rfl⟩⟩)
  go_ret
  exact ⟨rfl, ⟨nd, rfl⟩⟩
end Go.Proofs.Ytemmhgfjfbdggaa.P

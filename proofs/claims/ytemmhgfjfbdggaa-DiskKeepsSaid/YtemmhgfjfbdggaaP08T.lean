import Derived.Test.YtemmhgfjfbdggaaP08Z
namespace Go.Proofs.Ytemmhgfjfbdggaa.P
open Go.RowKit Go.Proofs.YtemmhgfjfbdggaaW.PrintWords Go.Proofs.YtemmhgfjfbdggaaW.PrintLast Go.Proofs.YtemmhgfjfbdggaaW.PrintMore
attribute [local go_sem] max2_int min2_int max_two min_two max_three min_three max_four min_four
set_option linter.unusedVariables false
set_option linter.unusedSimpArgs false
/-! Two disks side by side, apart from one another; X: blocks that are no disk's. -/
def Dk (W : World) (base : Nat) (ok : Nat → Prop) (D : Nat) (a b c d : Int) (g : List Bool) (s : DS) : Prop :=
  ∃ (dr : Nat) (As : Option Addr) (n cs : Nat) (Ag : Option Addr) (m cg : Nat), DiskO W base ok D dr As n cs Ag m cg a b c d (sizeOf08 a b c) s.slots g s.off s.cut s.wr
def TwoD (w0 W : World) (X : Nat → Prop) (a b c d : Int) (DA DB : Nat) (gA : List Bool) (sA : DS) (gB : List Bool) (sB : DS) : Prop :=
  ∃ (okA okB : Nat → Prop), Below w0.heap.size w0 W ∧ Dk W w0.heap.size okA DA a b c d gA sA ∧ Dk W w0.heap.size okB DB a b c d gB sB ∧ (∀ k, okA k → ¬ okB k) ∧ (∀ k, X k → k < W.heap.size ∧ ¬ okA k ∧ ¬ okB k)
/-- The numbers of a disk that is gone through: few slots, each of bounded length, few writes. -/
def Fit (a b c d : Int) (g : List Bool) (s : DS) : Prop :=
  okP a b c d = true ∧ (a + b) * d ≤ 400 ∧ (s.slots.length : Int) = (a + b) * d * 2 ∧ (g.length : Int) = a + b ∧ (∀ x ∈ s.slots, x.length ≤ 1000) ∧ 0 ≤ s.wr ∧ s.wr ≤ 1000000
theorem Fit.small {a b c d : Int} {g : List Bool} {s : DS} (h : Fit a b c d g s) : s.slots.length ≤ 100000 ∧ g.length ≤ 16 ∧ 1 ≤ g.length ∧ (∀ x ∈ s.slots, x.length ≤ 1000000) ∧ 8 ≤ d ∧ d ≤ 256 ∧ sizeOf08 a b c ≤ 1000 := by
  obtain ⟨h1, h2, h3, h4, h5, h6⟩ := h
  have hp := okP_iff.mp h1
  refine ⟨by omega, by omega, by omega, fun x hx => Nat.le_trans (h5 x hx) (by decide), by omega, by omega, ?_⟩
  have e1 : wrap64 (4 * (a + b)) = 4 * (a + b) := by unfold wrap64; omega
  have e2 : wrap64 (12 + 4 * (a + b)) = 12 + 4 * (a + b) := by unfold wrap64; omega
  have e3 : wrap64 (12 + 4 * (a + b) + c) = 12 + 4 * (a + b) + c := by unfold wrap64; omega
  unfold sizeOf08
  rw [e1, e2, e3]
  omega
section
variable {w0 W W2 : World} {X X' : Nat → Prop} {a b c d : Int} {DA DB : Nat} {gA gB g' : List Bool} {sA sB s' : DS} {base : Nat} {ok S : Nat → Prop} {D : Nat} {g : List Bool} {s : DS}
theorem Dk.kept (h : Dk W base ok D a b c d g s) (hk : Kept W W2 S) (hne : ∀ k, ok k → ¬ S k) : Dk W2 base ok D a b c d g s := by
  obtain ⟨dr, As, n, cs, Ag, m, cg, h⟩ := h
  exact ⟨dr, As, n, cs, Ag, m, cg, h.kept hk hne⟩
theorem Dk.bound (h : Dk W base ok D a b c d g s) : ∀ k, ok k → base ≤ k ∧ k < W.heap.size := by
  obtain ⟨dr, As, n, cs, Ag, m, cg, h⟩ := h
  exact h.2.2.2.2.2.2
theorem TwoD.symm (h : TwoD w0 W X a b c d DA DB gA sA gB sB) : TwoD w0 W X a b c d DB DA gB sB gA sA := by
  obtain ⟨okA, okB, h1, h2, h3, h4, h5⟩ := h
  exact ⟨okB, okA, h1, h3, h2, apart_symm h4, fun k hk => ⟨(h5 k hk).1, (h5 k hk).2.2, (h5 k hk).2.1⟩⟩
theorem TwoD.sub (h : TwoD w0 W X a b c d DA DB gA sA gB sB) (hX : ∀ k, X' k → X k) : TwoD w0 W X' a b c d DA DB gA sA gB sB := by
  obtain ⟨okA, okB, h1, h2, h3, h4, h5⟩ := h
  exact ⟨okA, okB, h1, h2, h3, h4, fun k hk => h5 k (hX k hk)⟩
theorem TwoD.below (h : TwoD w0 W X a b c d DA DB gA sA gB sB) : Below w0.heap.size w0 W := by
  obtain ⟨_, _, h1, _⟩ := h
  exact h1
/-- What is new at a step that turns nothing is no disk's. -/
theorem TwoD.step (h : TwoD w0 W X a b c d DA DB gA sA gB sB) (hb : Below W.heap.size W W2) : TwoD w0 W2 (fun k => X k ∨ (W.heap.size ≤ k ∧ k < W2.heap.size)) a b c d DA DB gA sA gB sB := by
  obtain ⟨okA, okB, h1, h2, h3, h4, h5⟩ := h
  have hk := Kept.of_below hb (fun _ => False)
  refine ⟨okA, okB, below_step h1 hb, h2.kept hk (fun _ _ hf => hf), h3.kept hk (fun _ _ hf => hf), h4, fun k hk => ?_⟩
  rcases hk with hk | hk
  · exact ⟨Nat.lt_of_lt_of_le (h5 k hk).1 hb.size, (h5 k hk).2⟩
  · exact ⟨hk.2, fun ho => by have := (h2.bound k ho).2; omega, fun ho => by have := (h3.bound k ho).2; omega⟩
theorem TwoD.step_ (h : TwoD w0 W X a b c d DA DB gA sA gB sB) (hb : Below W.heap.size W W2) : TwoD w0 W2 X a b c d DA DB gA sA gB sB := (h.step hb).sub (fun _ hk => .inl hk)
/-- The first disk is written. -/
theorem TwoD.turn {okA okB : Nat → Prop} (h1 : Below w0.heap.size w0 W) (h3 : Dk W w0.heap.size okB DB a b c d gB sB) (h4 : ∀ k, okA k → ¬ okB k) (h5 : ∀ k, X k → k < W.heap.size ∧ ¬ okA k ∧ ¬ okB k)
    (hw : Wrote w0.heap.size okA W W2) (h2 : Dk W2 w0.heap.size (Gr okA W W2) DA a b c d g' s') : TwoD w0 W2 X a b c d DA DB g' s' gB sB ∧ ∀ k, X k → W2.heap[k]? = W.heap[k]? := by
  refine ⟨⟨Gr okA W W2, okB, hw.outer h1 (Nat.le_refl _), h2, h3.kept hw.2.2 (apart_symm h4), Gr.apart h4 (fun k hk => (h3.bound k hk).2), fun k hk => ⟨Nat.lt_of_lt_of_le (h5 k hk).1 hw.size, ?_, (h5 k hk).2.2⟩⟩, fun k hk => hw.2.2.2 k (h5 k hk).1 (h5 k hk).2.1⟩
  rintro ⟨_, hg | hg⟩
  · exact (h5 k hk).2.1 hg
  · have := (h5 k hk).1
    omega
/-- A block, a row of X's stay. -/
theorem blk_X {gg : Nat} {o : Obj} (hb : W.heap[gg]? = some o) (hX : X gg) (hk : ∀ k, X k → W2.heap[k]? = W.heap[k]?) : W2.heap[gg]? = some o := (hk gg hX).trans hb
theorem R_X {α : Type} {kd : Kd α} {e : Nat} {v : Value} {xs : List α} {bs : Nat} (h : kd.R e W bs X v xs) (hk : ∀ k, X k → W2.heap[k]? = W.heap[k]?) : kd.R e W2 bs X v xs := Kd.R_step h (fun k ho _ => hk k ho)
end
section
variable {w0 W : World} {X : Nat → Prop} {a b c d : Int} {DA DB : Nat} {gA gB : List Bool} {sA sB : DS}
theorem CutA (x : Int) (hx : 0 ≤ x) (h : TwoD w0 W X a b c d DA DB gA sA gB sB) : Calls Try.prog 16 #[.pointer (some ⟨DA, 0, none⟩), .int .i64 x] W fun e w' => e = .returned (.int .i64 0) ∧ TwoD w0 w' X a b c d DA DB gA ⟨sA.slots, sA.off, x, sA.wr⟩ gB sB ∧ ∀ k, X k → w'.heap[k]? = W.heap[k]? := by
  obtain ⟨okA, okB, h1, ⟨dr, As, n, cs, Ag, m, cg, h2⟩, h3, h4, h5⟩ := h
  refine (Cut_yes DA dr As Ag n cs m cg a b c d _ sA.slots gA sA.off sA.cut sA.wr _ okA x W h2 hx).mono ?_
  rintro e w' ⟨rfl, k1, k2⟩
  exact ⟨rfl, TwoD.turn h1 h3 h4 h5 k2 ⟨dr, As, n, cs, Ag, m, cg, k1⟩⟩
theorem OnA (h : TwoD w0 W X a b c d DA DB gA sA gB sB) : Calls Try.prog 22 #[.pointer (some ⟨DA, 0, none⟩)] W fun e w' => e = .returned (.int .i64 0) ∧ TwoD w0 w' X a b c d DA DB gA ⟨sA.slots, false, -1, sA.wr⟩ gB sB ∧ ∀ k, X k → w'.heap[k]? = W.heap[k]? := by
  obtain ⟨okA, okB, h1, ⟨dr, As, n, cs, Ag, m, cg, h2⟩, h3, h4, h5⟩ := h
  refine (On_yes DA dr As Ag n cs m cg a b c d _ sA.slots gA sA.off sA.cut sA.wr _ okA W h2).mono ?_
  rintro e w' ⟨rfl, k1, k2⟩
  exact ⟨rfl, TwoD.turn h1 h3 h4 h5 k2 ⟨dr, As, n, cs, Ag, m, cg, k1⟩⟩
theorem WholeA (hf : Fit a b c d gA sA) (h : TwoD w0 W X a b c d DA DB gA sA gB sB) : Calls Try.prog 26 #[.pointer (some ⟨DA, 0, none⟩)] W fun e w' => e = .returned (.int .i64 0) ∧ TwoD w0 w' X a b c d DA DB (wipeF false gA 0 gA.length) sA gB sB ∧ ∀ k, X k → w'.heap[k]? = W.heap[k]? := by
  obtain ⟨okA, okB, h1, ⟨dr, As, n, cs, Ag, m, cg, h2⟩, h3, h4, h5⟩ := h
  refine (Whole_yes DA dr As Ag n cs m cg a b c d _ sA.slots gA sA.off sA.cut sA.wr _ okA W h2 (by rw [h2.lens.2.2.1]; exact hf.small.2.2.1)).mono ?_
  rintro e w' ⟨rfl, k1, k2⟩
  exact ⟨rfl, TwoD.turn h1 h3 h4 h5 k2 ⟨dr, As, n, cs, Ag, m, cg, k1⟩⟩
theorem WriteA (l : List S51) (A : Option Addr) (cl : Nat) (okl : Nat → Prop) (hf : Fit a b c d gA sA) (hcu : -1 ≤ sA.cut ∧ sA.cut ≤ 9223372036854775807) (hF : Kd.F k51 W okl A l.length l) (hokl : ∀ k, okl k → k < w0.heap.size ∨ X k) (hcl : l.length ≤ cl) (hln : l.length ≤ 100000) (h : TwoD w0 W X a b c d DA DB gA sA gB sB) :
    Calls Try.prog 18 #[.pointer (some ⟨DA, 0, none⟩), .slice A l.length cl] W fun e w' => e = .returned (.int .i64 (putsL gA.length d (sizeOf08 a b c) l sA).2) ∧ TwoD w0 w' X a b c d DA DB gA (putsL gA.length d (sizeOf08 a b c) l sA).1 gB sB ∧ ∀ k, X k → w'.heap[k]? = W.heap[k]? := by
  obtain ⟨okA, okB, h1, ⟨dr, As, n, cs, Ag, m, cg, h2⟩, h3, h4, h5⟩ := h
  have hm := h2.lens.2.2.1
  have hs := hf.small
  subst hm
  have hd1 : ∀ k, okl k → ¬ okA k := fun k hk ho => by
    rcases hokl k hk with h6 | h6
    · have := (h2.2.2.2.2.2.2 k ho).1
      omega
    · exact (h5 k h6).2.1 ho
  have hd2 : ∀ k, okl k → k < W.heap.size := fun k hk => by
    rcases hokl k hk with h6 | h6
    · exact Nat.lt_of_lt_of_le h6 h1.size
    · exact (h5 k h6).1
  refine (Write_yes DA dr As Ag n cs gA.length cg a b c d _ sA.slots gA sA.off sA.cut sA.wr _ okA l A cl okl W h2 hs.2.1 ⟨by omega, by omega⟩ (by omega) (by rw [hf.2.2.1, hf.2.2.2.1]) hF hd1 hd2 hcl hln ⟨hf.2.2.2.2.2.1, hf.2.2.2.2.2.2⟩ hcu).mono ?_
  rintro e w' ⟨rfl, k1, k2⟩
  exact ⟨rfl, TwoD.turn h1 h3 h4 h5 k2 ⟨dr, As, n, cs, Ag, gA.length, cg, k1⟩⟩
theorem WipeA (x : Int) (i : Nat) (hf : Fit a b c d gA sA) (hat : atOf gA.length d x 0 0 = (i : Int)) (h : TwoD w0 W X a b c d DA DB gA sA gB sB) :
    Calls Try.prog 24 #[.pointer (some ⟨DA, 0, none⟩), .int .i64 x] W fun e w' => e = .returned (.int .i64 0) ∧ TwoD w0 w' X a b c d DA DB (gA.set x.toNat true) ⟨wipeF [] sA.slots i (2 * d.toNat), sA.off, sA.cut, sA.wr⟩ gB sB ∧ ∀ k, X k → w'.heap[k]? = W.heap[k]? := by
  obtain ⟨okA, okB, h1, ⟨dr, As, n, cs, Ag, m, cg, h2⟩, h3, h4, h5⟩ := h
  have hm := h2.lens.2.2.1
  have hs := hf.small
  subst hm
  have ha := atOf_lt (nd := gA.length) (d := d) (x := x) (y := 0) (z := 0) (by omega) (by omega)
  have hx1 : x * d ≤ ((gA.length : Int) - 1) * d := Int.mul_le_mul_of_nonneg_right (by omega) (by omega)
  rw [Int.sub_mul, Int.one_mul] at hx1
  have hn := hf.2.2.1
  rw [← hf.2.2.2.1] at hn
  refine (Wipe_good DA dr As Ag n cs gA.length cg a b c d _ sA.slots gA sA.off sA.cut sA.wr _ okA x i W h2 hs.2.1 ⟨by omega, by omega⟩ ⟨by omega, by omega⟩ hat (by omega) (by omega)).mono ?_
  rintro e w' ⟨rfl, k1, k2⟩
  exact ⟨rfl, TwoD.turn h1 h3 h4 h5 k2 ⟨dr, As, n, cs, Ag, gA.length, cg, k1⟩⟩
theorem WipeA_bad (x : Int) (hf : Fit a b c d gA sA) (hat : atOf gA.length d x 0 0 < 0) (h : TwoD w0 W X a b c d DA DB gA sA gB sB) :
    Calls Try.prog 24 #[.pointer (some ⟨DA, 0, none⟩), .int .i64 x] W fun e w' => e = .returned (.int .i64 80) ∧ Below W.heap.size W w' := by
  obtain ⟨okA, okB, h1, ⟨dr, As, n, cs, Ag, m, cg, h2⟩, h3, h4, h5⟩ := h
  have hm := h2.lens.2.2.1
  have hs := hf.small
  subst hm
  exact Wipe_bad DA dr a b c d _ sA.off sA.cut sA.wr As Ag n cs gA.length cg x W h2.1 h2.2.1 hs.2.1 ⟨by omega, by omega⟩ hat
theorem CutA_less (x : Int) (hx : x < 0) (h : TwoD w0 W X a b c d DA DB gA sA gB sB) : Calls Try.prog 16 #[.pointer (some ⟨DA, 0, none⟩), .int .i64 x] W fun e w' => e = .returned (.int .i64 2) ∧ Below W.heap.size W w' := by
  obtain ⟨okA, okB, h1, ⟨dr, As, n, cs, Ag, m, cg, h2⟩, h3, h4, h5⟩ := h
  refine (Cut_less DA dr _ _ _ x hx W h2.1).mono ?_
  rintro e w' ⟨rfl, k⟩
  exact ⟨rfl, k.below⟩
theorem OffA (h : TwoD w0 W X a b c d DA DB gA sA gB sB) : Calls Try.prog 19 #[.pointer (some ⟨DA, 0, none⟩)] W fun e w' => e = .returned (.bool sA.off) ∧ Below W.heap.size W w' := by
  obtain ⟨okA, okB, h1, ⟨dr, As, n, cs, Ag, m, cg, h2⟩, h3, h4, h5⟩ := h
  exact Off_yes DA dr sA.off _ sA.wr W h2.1
theorem WritesA (h : TwoD w0 W X a b c d DA DB gA sA gB sB) : Calls Try.prog 20 #[.pointer (some ⟨DA, 0, none⟩)] W fun e w' => e = .returned (.int .i64 sA.wr) ∧ Below W.heap.size W w' := by
  obtain ⟨okA, okB, h1, ⟨dr, As, n, cs, Ag, m, cg, h2⟩, h3, h4, h5⟩ := h
  exact Writes_yes DA dr sA.off _ sA.wr W h2.1
theorem ReadA_off (x y z : Int) (ho : sA.off = true) (h : TwoD w0 W X a b c d DA DB gA sA gB sB) : Calls Try.prog 21 #[.pointer (some ⟨DA, 0, none⟩), .int .i64 x, .int .i64 y, .int .i64 z] W fun e w' => e = .returned (.tuple #[.slice none 0 0, .int .i64 9]) ∧ Below W.heap.size W w' := by
  obtain ⟨okA, okB, h1, ⟨dr, As, n, cs, Ag, m, cg, h2⟩, h3, h4, h5⟩ := h
  exact Read_off DA dr As Ag n cs m cg a b c d _ sA.slots gA sA.off sA.cut sA.wr _ okA x y z W h2 ho
theorem ReadA (x y z : Int) (i : Nat) (ho : sA.off = false) (hf : Fit a b c d gA sA) (hat : atOf gA.length d x y z = (i : Int)) (hi : i < sA.slots.length) (h : TwoD w0 W X a b c d DA DB gA sA gB sB) : Calls Try.prog 21 #[.pointer (some ⟨DA, 0, none⟩), .int .i64 x, .int .i64 y, .int .i64 z] W fun e w' => (∃ v : Value, e = .returned (.tuple #[v, .int .i64 0]) ∧ Kd.R (Kd.int .u8) 5 w' W.heap.size (fun _ => True) v (sA.slots.getD i [])) ∧ Below W.heap.size W w' := by
  obtain ⟨okA, okB, h1, ⟨dr, As, n, cs, Ag, m, cg, h2⟩, h3, h4, h5⟩ := h
  have hm := h2.lens.2.2.1
  have hs := hf.small
  subst hm
  refine (Read_good DA dr As Ag n cs gA.length cg a b c d _ sA.slots gA sA.off sA.cut sA.wr _ okA x y z W h2 ho hs.2.1 ⟨by omega, by omega⟩ i hat hi hs.2.2.2.1).mono ?_
  rintro e w' ⟨v, rfl, k1, k2⟩
  exact ⟨⟨v, rfl, k1⟩, k2⟩
theorem ImageA (hf : Fit a b c d gA sA) (h : TwoD w0 W X a b c d DA DB gA sA gB sB) : Calls Try.prog 23 #[.pointer (some ⟨DA, 0, none⟩)] W fun e w' => ∃ v : Value, e = .returned (.tuple #[.agg #[.int .i64 a, .int .i64 b, .int .i64 c, .int .i64 d, v], .int .i64 0]) ∧ Kd.R (Kd.slice 5 (Kd.int .u8)) 45 w' W.heap.size (fun _ => True) v sA.slots ∧ Below W.heap.size W w' := by
  obtain ⟨okA, okB, h1, ⟨dr, As, n, cs, Ag, m, cg, h2⟩, h3, h4, h5⟩ := h
  have hs := hf.small
  have hn := h2.lens.1
  subst hn
  exact Image_yes DA dr a b c d _ sA.off sA.cut sA.wr As Ag cs m cg sA.slots W h2.1 h2.2.1 h2.slotsC hs.1 hs.2.2.2.1
theorem WipedA (hf : Fit a b c d gA sA) (h : TwoD w0 W X a b c d DA DB gA sA gB sB) : Calls Try.prog 25 #[.pointer (some ⟨DA, 0, none⟩)] W fun e w' => ∃ v : Value, e = .returned v ∧ Kd.R (Kd.int .i64) 3 w' W.heap.size (fun _ => True) v (wipedOf gA.length gA) ∧ Below W.heap.size W w' := by
  obtain ⟨okA, okB, h1, ⟨dr, As, n, cs, Ag, m, cg, h2⟩, h3, h4, h5⟩ := h
  have hs := hf.small
  have hm := h2.lens.2.2.1
  subst hm
  exact Wiped_yes DA dr a b c d _ sA.off sA.cut sA.wr As Ag n cs cg gA W h2.1 h2.2.1 h2.goneC (by omega)
end

theorem heap51 : Kd.Heap k51 := Kd.heap_iso _ (Kd.heap_pair (Kd.heap_int _) (Kd.heap_pair (Kd.heap_int _) (Kd.heap_pair (Kd.heap_int _) (Kd.heap_slice 5 (Kd.heap_int _)))))
theorem fit_puts {a b c d : Int} {g : List Bool} {s : DS} (h : Fit a b c d g s) (l : List S51) (hl : s.wr + l.length ≤ 1000000) : Fit a b c d g (putsL g.length d (sizeOf08 a b c) l s).1 := by
  have hs := h.small
  obtain ⟨h1, h2, h3, h4, h5, h6, h7⟩ := h
  obtain ⟨i1, i2, i3, i4⟩ := putsL_inv (nd := g.length) (d := d) (M := 1000) (by omega : sizeOf08 a b c ≤ (1000 : Nat)) l s h5
  exact ⟨h1, h2, by rw [i1]; exact h3, h4, i2, by omega, by omega⟩
section
variable {w0 wt W : World} {X : Nat → Prop} {a b c d : Int} {DA DB : Nat} {gA gB : List Bool} {sA sB : DS}
/-- A write of a part of a row that came in. -/
theorem WriteA_n (l : List S51) (A : Option Addr) (cl q : Nat) (R : DS × Int) (hR : putsL gA.length d (sizeOf08 a b c) l sA = R) (hf : Fit a b c d gA sA) (hcu : -1 ≤ sA.cut ∧ sA.cut ≤ 9223372036854775807) (hC : Kd.C k51 wt A l.length l) (hq : l.length = q) (hcl : l.length ≤ cl) (hln : l.length ≤ 100000) (h : TwoD wt W X a b c d DA DB gA sA gB sB) :
    Calls Try.prog 18 #[.pointer (some ⟨DA, 0, none⟩), .slice A q cl] W fun e w' => e = .returned (.int .i64 R.2) ∧ TwoD wt w' X a b c d DA DB gA R.1 gB sB ∧ ∀ k, X k → w'.heap[k]? = W.heap[k]? := by
  subst hq
  subst hR
  exact WriteA l A cl (fun k => k < wt.heap.size) hf hcu (Kd.F_below (Kd.C_F heap51 hC) h.below) (fun k hk => .inl hk) hcl hln h
end
end Go.Proofs.Ytemmhgfjfbdggaa.P

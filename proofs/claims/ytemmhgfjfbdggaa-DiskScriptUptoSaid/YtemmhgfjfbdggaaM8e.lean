import Derived.Test.YtemmhgfjfbdggaaP08Z
import Derived.Test.YtemmhgfjfbdggaaM8c
import Derived.Test.YtemmhgfjfbdggaaPx3
import Derived.Test.YtemmhgfjfbdggaaPx4
import Derived.Test.YtemmhgfjfbdggaaM8d
namespace Go.Proofs.Ytemmhgfjfbdggaa.P
open Go.RowKit Go.Proofs.YtemmhgfjfbdggaaW.PrintWords Go.Proofs.YtemmhgfjfbdggaaW.PrintLast Go.Proofs.YtemmhgfjfbdggaaW.PrintMore
attribute [local go_sem] max2_int min2_int max_two min_two max_three min_three max_four min_four
set_option linter.unusedVariables false
set_option linter.unusedSimpArgs false
def Dk (W : World) (base : Nat) (ok : Nat → Prop) (D : Nat) (a b c d : Int) (g : List Bool) (s : DS) : Prop :=
 ∃ (dr : Nat) (As : Option Addr) (n cs : Nat) (Ag : Option Addr) (m cg : Nat), DiskO W base ok D dr As n cs Ag m cg a b c d (sizeOf08 a b c) s.slots g s.off s.cut s.wr
def TwoD (w0 W : World) (X : Nat → Prop) (a b c d : Int) (DA DB : Nat) (gA : List Bool) (sA : DS) (gB : List Bool) (sB : DS) : Prop :=
 ∃ (okA okB : Nat → Prop), Below w0.heap.size w0 W ∧ Dk W w0.heap.size okA DA a b c d gA sA ∧ Dk W w0.heap.size okB DB a b c d gB sB ∧ (∀ k, okA k → ¬ okB k) ∧ (∀ k, X k → k < W.heap.size ∧ ¬ okA k ∧ ¬ okB k)
def Fit (a b c d : Int) (g : List Bool) (s : DS) : Prop :=
 okP a b c d = true ∧ (a + b) * d ≤ 400 ∧ (s.slots.length : Int) = (a + b) * d * 2 ∧ (g.length : Int) = a + b ∧ (∀ x ∈ s.slots, x.length ≤ 1000) ∧ 0 ≤ s.wr ∧ s.wr ≤ 1000000
theorem Fit.small {a b c d : Int} {g : List Bool} {s : DS} (h : Fit a b c d g s) : s.slots.length ≤ 100000 ∧ g.length ≤ 16 ∧ 1 ≤ g.length ∧ (∀ x ∈ s.slots, x.length ≤ 1000000) ∧ 8 ≤ d ∧ d ≤ 256 ∧ sizeOf08 a b c ≤ 1000 := by
 obtain ⟨h1, h2, h3, h4, h5, h6⟩ := h
 have hp := okP_iff.mp h1
 refine ⟨by omega, by omega, by omega, fun x hx => Nat.le_trans (h5 x hx) (by decide), by omega, by omega, ?_⟩
 have e1 : wrap64 (4 * (a + b)) = 4 * (a + b) := by unfold wrap64; omega
 have e2 : wrap64 (12 + 4 * (a + b)) = 12 + 4 * (a + b) := by unfold wrap64; omega
 have e3 : wrap64 (12 + 4 * (a + b) + c) = 12 + 4 * (a + b) + c := by unfold wrap64; omega
 unfold sizeOf08
 rw [e1, e2, e3]
 omega
section
variable {w0 W W2 : World} {X X' : Nat → Prop} {a b c d : Int} {DA DB : Nat} {gA gB g' : List Bool} {sA sB s' : DS} {base : Nat} {ok S : Nat → Prop} {D : Nat} {g : List Bool} {s : DS}
theorem Dk.kept (h : Dk W base ok D a b c d g s) (hk : Kept W W2 S) (hne : ∀ k, ok k → ¬ S k) : Dk W2 base ok D a b c d g s := by
 obtain ⟨dr, As, n, cs, Ag, m, cg, h⟩ := h
 exact ⟨dr, As, n, cs, Ag, m, cg, h.kept hk hne⟩
theorem Dk.bound (h : Dk W base ok D a b c d g s) : ∀ k, ok k → base ≤ k ∧ k < W.heap.size := by
 obtain ⟨dr, As, n, cs, Ag, m, cg, h⟩ := h
 exact h.2.2.2.2.2.2
theorem TwoD.symm (h : TwoD w0 W X a b c d DA DB gA sA gB sB) : TwoD w0 W X a b c d DB DA gB sB gA sA := by
 obtain ⟨okA, okB, h1, h2, h3, h4, h5⟩ := h
 exact ⟨okB, okA, h1, h3, h2, apart_symm h4, fun k hk => ⟨(h5 k hk).1, (h5 k hk).2.2, (h5 k hk).2.1⟩⟩
theorem TwoD.sub (h : TwoD w0 W X a b c d DA DB gA sA gB sB) (hX : ∀ k, X' k → X k) : TwoD w0 W X' a b c d DA DB gA sA gB sB := by
 obtain ⟨okA, okB, h1, h2, h3, h4, h5⟩ := h
 exact ⟨okA, okB, h1, h2, h3, h4, fun k hk => h5 k (hX k hk)⟩
theorem TwoD.below (h : TwoD w0 W X a b c d DA DB gA sA gB sB) : Below w0.heap.size w0 W := by
 obtain ⟨_, _, h1, _⟩ := h
 exact h1
theorem TwoD.step (h : TwoD w0 W X a b c d DA DB gA sA gB sB) (hb : Below W.heap.size W W2) : TwoD w0 W2 (fun k => X k ∨ (W.heap.size ≤ k ∧ k < W2.heap.size)) a b c d DA DB gA sA gB sB := by
 obtain ⟨okA, okB, h1, h2, h3, h4, h5⟩ := h
 have hk := Kept.of_below hb (fun _ => False)
 refine ⟨okA, okB, below_step h1 hb, h2.kept hk (fun _ _ hf => hf), h3.kept hk (fun _ _ hf => hf), h4, fun k hk => ?_⟩
 rcases hk with hk | hk
 ·
  exact ⟨Nat.lt_of_lt_of_le (h5 k hk).1 hb.size, (h5 k hk).2⟩
 ·
  exact ⟨hk.2, fun ho => by have := (h2.bound k ho).2; omega, fun ho => by have := (h3.bound k ho).2; omega⟩
theorem TwoD.step_ (h : TwoD w0 W X a b c d DA DB gA sA gB sB) (hb : Below W.heap.size W W2) : TwoD w0 W2 X a b c d DA DB gA sA gB sB := (h.step hb).sub (fun _ hk => .inl hk)
theorem TwoD.turn {okA okB : Nat → Prop} (h1 : Below w0.heap.size w0 W) (h3 : Dk W w0.heap.size okB DB a b c d gB sB) (h4 : ∀ k, okA k → ¬ okB k) (h5 : ∀ k, X k → k < W.heap.size ∧ ¬ okA k ∧ ¬ okB k)
  (hw : Wrote w0.heap.size okA W W2) (h2 : Dk W2 w0.heap.size (Gr okA W W2) DA a b c d g' s') : TwoD w0 W2 X a b c d DA DB g' s' gB sB ∧ ∀ k, X k → W2.heap[k]? = W.heap[k]? := by
 refine ⟨⟨Gr okA W W2, okB, hw.outer h1 (Nat.le_refl _), h2, h3.kept hw.2.2 (apart_symm h4), Gr.apart h4 (fun k hk => (h3.bound k hk).2), fun k hk => ⟨Nat.lt_of_lt_of_le (h5 k hk).1 hw.size, ?_, (h5 k hk).2.2⟩⟩, fun k hk => hw.2.2.2 k (h5 k hk).1 (h5 k hk).2.1⟩
 rintro ⟨_, hg | hg⟩
 ·
  exact (h5 k hk).2.1 hg
 ·
  have := (h5 k hk).1
  omega
end
section
variable {w0 W : World} {X : Nat → Prop} {a b c d : Int} {DA DB : Nat} {gA gB : List Bool} {sA sB : DS}
end

theorem heap51 : Kd.Heap k51 := Kd.heap_iso _ (Kd.heap_pair (Kd.heap_int _) (Kd.heap_pair (Kd.heap_int _) (Kd.heap_pair (Kd.heap_int _) (Kd.heap_slice 5 (Kd.heap_int _)))))
theorem fit_puts {a b c d : Int} {g : List Bool} {s : DS} (h : Fit a b c d g s) (l : List S51) (hl : s.wr + l.length ≤ 1000000) : Fit a b c d g (putsL g.length d (sizeOf08 a b c) l s).1 := by
 have hs := h.small
 obtain ⟨h1, h2, h3, h4, h5, h6, h7⟩ := h
 obtain ⟨i1, i2, i3, i4⟩ := putsL_inv (nd := g.length) (d := d) (M := 1000) (by omega : sizeOf08 a b c ≤ (1000 : Nat)) l s h5
 exact ⟨h1, h2, by rw [i1]; exact h3, h4, i2, by omega, by omega⟩
section
variable {w0 wt W : World} {X : Nat → Prop} {a b c d : Int} {DA DB : Nat} {gA gB : List Bool} {sA sB : DS}
end
end Go.Proofs.Ytemmhgfjfbdggaa.P
namespace Go.Proofs.Ytemmhgfjfbdggaa.P
open Go.RowKit Go.Proofs.YtemmhgfjfbdggaaW.PrintWords Go.Proofs.YtemmhgfjfbdggaaW.PrintLast Go.Proofs.YtemmhgfjfbdggaaW.PrintMore
attribute [local go_sem] max2_int min2_int max_two min_two max_three min_three max_four min_four
set_option linter.unusedVariables false
set_option linter.unusedSimpArgs false
theorem same08_loop (a b c d : Int) (l : List (List Int)) (hl : l.length ≤ 100000) : ∀ (q i k : Nat), i ≤ l.length → l.length - i = q → q < k → twoslotref08_Same.l0 k (i : Int) a b c d l a b c d l = some true := by
 intro q
 induction q with
 | zero =>
  intro i k hi hq hk
  obtain ⟨k, rfl⟩ : ∃ m, k = m + 1 := ⟨k - 1, by omega⟩
  simp only [twoslotref08_Same.l0]
  rw [if_neg (by omega)]
 | succ q ih =>
  intro i k hi hq hk
  obtain ⟨k, rfl⟩ : ∃ m, k = m + 1 := ⟨k - 1, by omega⟩
  simp only [twoslotref08_Same.l0]
  rw [if_pos (by omega), if_pos (by omega), if_pos (by omega), if_pos (by trivial), show wrap64 ((i : Int) + 1) = ((i + 1 : Nat) : Int) by unfold wrap64; omega]
  exact ih (i + 1) k (by omega) (by omega) (by omega)
theorem same08_ev (a b c d : Int) (l : List (List Int)) (hl : l.length ≤ 100000) (k : Nat) (hk : l.length + 1 < k) : twoslotref08_Same.f k a b c d l a b c d l = some true := by
 obtain ⟨k, rfl⟩ : ∃ m, k = m + 1 := ⟨k - 1, by omega⟩
 unfold twoslotref08_Same.f
 rw [if_neg (by simp)]
 simp only [twoslotref08_Same.j0]
 rw [if_neg (by simp)]
 exact same08_loop a b c d l hl l.length 0 k (by omega) (by omega) (by omega)
end Go.Proofs.Ytemmhgfjfbdggaa.P
namespace Go.Proofs.Ytemmhgfjfbdggaa.P
open Go.RowKit Go.Proofs.YtemmhgfjfbdggaaW.PrintWords Go.Proofs.YtemmhgfjfbdggaaW.PrintLast Go.Proofs.YtemmhgfjfbdggaaW.PrintMore
attribute [local go_sem] max2_int min2_int max_two min_two max_three min_three max_four min_four
set_option linter.unusedVariables false
set_option linter.unusedSimpArgs false
set_option maxHeartbeats 8000000 in
set_option maxRecDepth 100000 in
theorem same_walk (D dr g : Nat) (a b c d sz : Int) (off : Bool) (cut cut2 wr0 : Int) (As Ag A4 A7 : Option Addr) (cs cg c4 c7 : Nat) (slots : List (List Int)) (gone : List Bool) (w : World) (hD : w.heap[D]? = some (.cells #[.pointer (some ⟨dr, 0, none⟩), .bool off, .int .i64 cut, .int .i64 wr0] 58 (0, 0))) (hR : w.heap[dr]? = some (.cells #[.int .i64 a, .int .i64 b, .int .i64 c, .int .i64 d, .int .i64 sz, .slice As slots.length cs, .slice Ag gone.length cg] 78 (0, 0))) (hg : w.heap[g]? = some (.cells #[.int .i64 a, .int .i64 b, .int .i64 c, .int .i64 d, .slice A4 slots.length c4, .bool off, .int .i64 cut2, .slice A7 gone.length c7, .int .i64 wr0] 80 (0, 0))) (hS : Kd.C (Kd.slice 5 (Kd.int .u8)) w As slots.length slots) (hG : Kd.C Kd.bool w Ag gone.length gone) (h4 : Kd.C (Kd.slice 5 (Kd.int .u8)) w A4 slots.length slots) (h7 : Kd.C Kd.bool w A7 gone.length gone) (hc4 : slots.length ≤ c4) (hl : slots.length ≤ 10000) (hl2 : gone.length ≤ 10000) (hel : ∀ x ∈ slots, x.length ≤ 1000000) : Calls Try.prog 12 #[.pointer (some ⟨D, 0, none⟩), .pointer (some ⟨g, 0, none⟩)] w fun e w' => e = .returned (.bool true) ∧ Below w.heap.size w w' := by
 have hu36 := Try.underlying36
 have hu23 := Try.underlying23
 have hu80 := Try.underlying80
 have HB := Aside0.mk (Below.refl w.heap.size w)
 have BKD := Aside0.mk hD
 have BKdr := Aside0.mk hR
 have BKg := Aside0.mk hg
 have HZ1 := Aside0.mk (show D < w.heap.size from blk_lt hD)
 have HZ2 := Aside0.mk (show dr < w.heap.size from blk_lt hR)
 have HZ3 := Aside0.mk (show g < w.heap.size from blk_lt hg)
 have AhS := Aside0.mk hS
 have AhG := Aside0.mk hG
 have Ah4 := Aside0.mk h4
 have Ah7 := Aside0.mk h7
 have Ahc4 := Aside0.mk hc4
 have Ahl := Aside0.mk hl
 have Ahl2 := Aside0.mk hl2
 have Ahel := Aside0.mk hel
 have AhSm := Aside0.mk (same08_ev a b c d slots (by omega) 20000 (by omega))
 have WL_ := Aside0.mk (show (wipedOf gone.length gone).length ≤ 10000 from Nat.le_trans (wipedOf_len gone.length gone) hl2)
 clear hD hR hg hS hG h4 h7 hc4 hl hl2 hel
 have hcD_0 : w.cell? ⟨D, 0, none⟩ = some (.pointer (some ⟨dr, 0, none⟩)) := (blk_cell BKD.out 0).trans rfl
 have hfD_0 := blk_frozen BKD.out 0
 have hcD_1 : w.cell? ⟨D, 1, none⟩ = some (.bool off) := (blk_cell BKD.out 1).trans rfl
 have hfD_1 := blk_frozen BKD.out 1
 have hcD_2 : w.cell? ⟨D, 2, none⟩ = some (.int .i64 cut) := (blk_cell BKD.out 2).trans rfl
 have hfD_2 := blk_frozen BKD.out 2
 have hcD_3 : w.cell? ⟨D, 3, none⟩ = some (.int .i64 wr0) := (blk_cell BKD.out 3).trans rfl
 have hfD_3 := blk_frozen BKD.out 3
 have hcdr_0 : w.cell? ⟨dr, 0, none⟩ = some (.int .i64 a) := (blk_cell BKdr.out 0).trans rfl
 have hfdr_0 := blk_frozen BKdr.out 0
 have hcdr_1 : w.cell? ⟨dr, 1, none⟩ = some (.int .i64 b) := (blk_cell BKdr.out 1).trans rfl
 have hfdr_1 := blk_frozen BKdr.out 1
 have hcdr_2 : w.cell? ⟨dr, 2, none⟩ = some (.int .i64 c) := (blk_cell BKdr.out 2).trans rfl
 have hfdr_2 := blk_frozen BKdr.out 2
 have hcdr_3 : w.cell? ⟨dr, 3, none⟩ = some (.int .i64 d) := (blk_cell BKdr.out 3).trans rfl
 have hfdr_3 := blk_frozen BKdr.out 3
 have hcdr_4 : w.cell? ⟨dr, 4, none⟩ = some (.int .i64 sz) := (blk_cell BKdr.out 4).trans rfl
 have hfdr_4 := blk_frozen BKdr.out 4
 have hcdr_5 : w.cell? ⟨dr, 5, none⟩ = some (.slice As slots.length cs) := (blk_cell BKdr.out 5).trans rfl
 have hfdr_5 := blk_frozen BKdr.out 5
 have hcdr_6 : w.cell? ⟨dr, 6, none⟩ = some (.slice Ag gone.length cg) := (blk_cell BKdr.out 6).trans rfl
 have hfdr_6 := blk_frozen BKdr.out 6
 have hcg_0 : w.cell? ⟨g, 0, none⟩ = some (.int .i64 a) := (blk_cell BKg.out 0).trans rfl
 have hfg_0 := blk_frozen BKg.out 0
 have hcg_1 : w.cell? ⟨g, 1, none⟩ = some (.int .i64 b) := (blk_cell BKg.out 1).trans rfl
 have hfg_1 := blk_frozen BKg.out 1
 have hcg_2 : w.cell? ⟨g, 2, none⟩ = some (.int .i64 c) := (blk_cell BKg.out 2).trans rfl
 have hfg_2 := blk_frozen BKg.out 2
 have hcg_3 : w.cell? ⟨g, 3, none⟩ = some (.int .i64 d) := (blk_cell BKg.out 3).trans rfl
 have hfg_3 := blk_frozen BKg.out 3
 have hcg_4 : w.cell? ⟨g, 4, none⟩ = some (.slice A4 slots.length c4) := (blk_cell BKg.out 4).trans rfl
 have hfg_4 := blk_frozen BKg.out 4
 have hcg_5 : w.cell? ⟨g, 5, none⟩ = some (.bool off) := (blk_cell BKg.out 5).trans rfl
 have hfg_5 := blk_frozen BKg.out 5
 have hcg_6 : w.cell? ⟨g, 6, none⟩ = some (.int .i64 cut2) := (blk_cell BKg.out 6).trans rfl
 have hfg_6 := blk_frozen BKg.out 6
 have hcg_7 : w.cell? ⟨g, 7, none⟩ = some (.slice A7 gone.length c7) := (blk_cell BKg.out 7).trans rfl
 have hfg_7 := blk_frozen BKg.out 7
 have hcg_8 : w.cell? ⟨g, 8, none⟩ = some (.int .i64 wr0) := (blk_cell BKg.out 8).trans rfl
 have hfg_8 := blk_frozen BKg.out 8
 go_enter Try.func12, Try.ntmps12
 have tok1 : True := trivial
 go_wp2_with (first | (have _ := tok1; go_at_call 23; (with_reducible refine (Image_yes D dr a b c d sz off cut wr0 As Ag cs gone.length cg slots _ (by (with_reducible repeat (first | refine blk_drewN ?_ _ | refine blk_drew ?_ | refine blk_alloc ?_ _)); exact BKD.out) (by (with_reducible repeat (first | refine blk_drewN ?_ _ | refine blk_drew ?_ | refine blk_alloc ?_ _)); exact BKdr.out) ?s1 (by have := Ahl.out; omega) Ahel.out).mono ?_); (case s1 => exact Kd.C_below AhS.out (by repeat (first | exact HB.out | apply below_alloc | apply pw_below_drewN | apply below_drew1))); rintro e w1 ⟨v, rfl, ho, hb⟩; (try clear hcD_0 hfD_0); (try clear hcD_1 hfD_1); (try clear hcD_2 hfD_2); (try clear hcD_3 hfD_3); (try clear hcdr_0 hfdr_0); (try clear hcdr_1 hfdr_1); (try clear hcdr_2 hfdr_2); (try clear hcdr_3 hfdr_3); (try clear hcdr_4 hfdr_4); (try clear hcdr_5 hfdr_5); (try clear hcdr_6 hfdr_6); (try clear hcg_0 hfg_0); (try clear hcg_1 hfg_1); (try clear hcg_2 hfg_2); (try clear hcg_3 hfg_3); (try clear hcg_4 hfg_4); (try clear hcg_5 hfg_5); (try clear hcg_6 hfg_6); (try clear hcg_7 hfg_7); (try clear hcg_8 hfg_8); have hs : Below w.heap.size w w1 := below_step (by repeat (first | exact Below.refl _ _ | apply below_alloc | apply pw_below_drewN | apply below_drew1)) hb; have hl : w.heap.size ≤ _ := below_size (w := w) (by repeat (first | exact Below.refl _ _ | apply below_alloc | apply pw_below_drewN | apply below_drew1)); have SZ1 := Aside0.mk (show w.heap.size ≤ w1.heap.size from hs.size); replace BKD := Aside0.mk (blk_below BKD.out hs); replace BKdr := Aside0.mk (blk_below BKdr.out hs); replace BKg := Aside0.mk (blk_below BKg.out hs); have HOm := Aside0.mk (R_iv ho (below_size (by repeat (first | exact HB.out | apply below_alloc | apply pw_below_drewN | apply below_drew1))) hl); replace HB := Aside0.mk (below_step HB.out hs); clear ho; obtain ⟨m_A, m_c, e_⟩ := Kd.R_slice HOm.out; subst e_; clear hb hs; (try clear hl); have hcD_0 : w1.cell? ⟨D, 0, none⟩ = some (.pointer (some ⟨dr, 0, none⟩)) := (blk_cell BKD.out 0).trans rfl; have hfD_0 := blk_frozen BKD.out 0; have hcD_1 : w1.cell? ⟨D, 1, none⟩ = some (.bool off) := (blk_cell BKD.out 1).trans rfl; have hfD_1 := blk_frozen BKD.out 1; have hcD_2 : w1.cell? ⟨D, 2, none⟩ = some (.int .i64 cut) := (blk_cell BKD.out 2).trans rfl; have hfD_2 := blk_frozen BKD.out 2; have hcD_3 : w1.cell? ⟨D, 3, none⟩ = some (.int .i64 wr0) := (blk_cell BKD.out 3).trans rfl; have hfD_3 := blk_frozen BKD.out 3; have hcdr_0 : w1.cell? ⟨dr, 0, none⟩ = some (.int .i64 a) := (blk_cell BKdr.out 0).trans rfl; have hfdr_0 := blk_frozen BKdr.out 0; have hcdr_1 : w1.cell? ⟨dr, 1, none⟩ = some (.int .i64 b) := (blk_cell BKdr.out 1).trans rfl; have hfdr_1 := blk_frozen BKdr.out 1; have hcdr_2 : w1.cell? ⟨dr, 2, none⟩ = some (.int .i64 c) := (blk_cell BKdr.out 2).trans rfl; have hfdr_2 := blk_frozen BKdr.out 2; have hcdr_3 : w1.cell? ⟨dr, 3, none⟩ = some (.int .i64 d) := (blk_cell BKdr.out 3).trans rfl; have hfdr_3 := blk_frozen BKdr.out 3; have hcdr_4 : w1.cell? ⟨dr, 4, none⟩ = some (.int .i64 sz) := (blk_cell BKdr.out 4).trans rfl; have hfdr_4 := blk_frozen BKdr.out 4; have hcdr_5 : w1.cell? ⟨dr, 5, none⟩ = some (.slice As slots.length cs) := (blk_cell BKdr.out 5).trans rfl; have hfdr_5 := blk_frozen BKdr.out 5; have hcdr_6 : w1.cell? ⟨dr, 6, none⟩ = some (.slice Ag gone.length cg) := (blk_cell BKdr.out 6).trans rfl; have hfdr_6 := blk_frozen BKdr.out 6; have hcg_0 : w1.cell? ⟨g, 0, none⟩ = some (.int .i64 a) := (blk_cell BKg.out 0).trans rfl; have hfg_0 := blk_frozen BKg.out 0; have hcg_1 : w1.cell? ⟨g, 1, none⟩ = some (.int .i64 b) := (blk_cell BKg.out 1).trans rfl; have hfg_1 := blk_frozen BKg.out 1; have hcg_2 : w1.cell? ⟨g, 2, none⟩ = some (.int .i64 c) := (blk_cell BKg.out 2).trans rfl; have hfg_2 := blk_frozen BKg.out 2; have hcg_3 : w1.cell? ⟨g, 3, none⟩ = some (.int .i64 d) := (blk_cell BKg.out 3).trans rfl; have hfg_3 := blk_frozen BKg.out 3; have hcg_4 : w1.cell? ⟨g, 4, none⟩ = some (.slice A4 slots.length c4) := (blk_cell BKg.out 4).trans rfl; have hfg_4 := blk_frozen BKg.out 4; have hcg_5 : w1.cell? ⟨g, 5, none⟩ = some (.bool off) := (blk_cell BKg.out 5).trans rfl; have hfg_5 := blk_frozen BKg.out 5; have hcg_6 : w1.cell? ⟨g, 6, none⟩ = some (.int .i64 cut2) := (blk_cell BKg.out 6).trans rfl; have hfg_6 := blk_frozen BKg.out 6; have hcg_7 : w1.cell? ⟨g, 7, none⟩ = some (.slice A7 gone.length c7) := (blk_cell BKg.out 7).trans rfl; have hfg_7 := blk_frozen BKg.out 7; have hcg_8 : w1.cell? ⟨g, 8, none⟩ = some (.int .i64 wr0) := (blk_cell BKg.out 8).trans rfl; have hfg_8 := blk_frozen BKg.out 8; clear tok1; have tok2 : True := trivial) | (have _ := tok2; (with_reducible refine gate_dst (N := 5) rfl ?_); refine box_event ?hg (N := 5) ?hd (cs := #[.int .i64 0, .int .i64 0, .int .i64 0, .int .i64 0, .slice none 0 0]) (t := 36) ?hr ?_; (case hd => rfl); (case hg => rfl); (case hr => first | (go_simp; done) | (go_simp; rfl)); intro g5 hg w2 hbox hb; have hs : Below w1.heap.size w1 w2 := below_step (by repeat (first | exact Below.refl _ _ | apply below_alloc | apply pw_below_drewN | apply below_drew1)) hb; have SZ2 := Aside0.mk (show w1.heap.size ≤ g5 ∧ g5 < w2.heap.size from ⟨by rw [hg]; exact (below_size (by repeat (first | exact Below.refl _ _ | apply below_alloc | apply pw_below_drewN | apply below_drew1))), blk_lt hbox⟩); (try clear hcD_0 hfD_0); (try clear hcD_1 hfD_1); (try clear hcD_2 hfD_2); (try clear hcD_3 hfD_3); (try clear hcdr_0 hfdr_0); (try clear hcdr_1 hfdr_1); (try clear hcdr_2 hfdr_2); (try clear hcdr_3 hfdr_3); (try clear hcdr_4 hfdr_4); (try clear hcdr_5 hfdr_5); (try clear hcdr_6 hfdr_6); (try clear hcg_0 hfg_0); (try clear hcg_1 hfg_1); (try clear hcg_2 hfg_2); (try clear hcg_3 hfg_3); (try clear hcg_4 hfg_4); (try clear hcg_5 hfg_5); (try clear hcg_6 hfg_6); (try clear hcg_7 hfg_7); (try clear hcg_8 hfg_8); replace BKD := Aside0.mk (blk_below BKD.out hs); replace BKdr := Aside0.mk (blk_below BKdr.out hs); replace BKg := Aside0.mk (blk_below BKg.out hs); replace HOm := Aside0.mk (Kd.R_below HOm.out hs); replace HB := Aside0.mk (below_step HB.out hs); have hneD_g5 : D ≠ g5 := (by have := SZ2.out; have := HZ1.out; have := HZ2.out; have := HZ3.out; have := SZ1.out; omega); have hneg5_D : g5 ≠ D := hneD_g5.symm; have hnedr_g5 : dr ≠ g5 := (by have := SZ2.out; have := HZ1.out; have := HZ2.out; have := HZ3.out; have := SZ1.out; omega); have hneg5_dr : g5 ≠ dr := hnedr_g5.symm; have hneg_g5 : g ≠ g5 := (by have := SZ2.out; have := HZ1.out; have := HZ2.out; have := HZ3.out; have := SZ1.out; omega); have hneg5_g : g5 ≠ g := hneg_g5.symm; have BKg5 := Aside0.mk hbox; clear hb hbox hg hs; have hcD_0 : w2.cell? ⟨D, 0, none⟩ = some (.pointer (some ⟨dr, 0, none⟩)) := (blk_cell BKD.out 0).trans rfl; have hfD_0 := blk_frozen BKD.out 0; have hcD_1 : w2.cell? ⟨D, 1, none⟩ = some (.bool off) := (blk_cell BKD.out 1).trans rfl; have hfD_1 := blk_frozen BKD.out 1; have hcD_2 : w2.cell? ⟨D, 2, none⟩ = some (.int .i64 cut) := (blk_cell BKD.out 2).trans rfl; have hfD_2 := blk_frozen BKD.out 2; have hcD_3 : w2.cell? ⟨D, 3, none⟩ = some (.int .i64 wr0) := (blk_cell BKD.out 3).trans rfl; have hfD_3 := blk_frozen BKD.out 3; have hcdr_0 : w2.cell? ⟨dr, 0, none⟩ = some (.int .i64 a) := (blk_cell BKdr.out 0).trans rfl; have hfdr_0 := blk_frozen BKdr.out 0; have hcdr_1 : w2.cell? ⟨dr, 1, none⟩ = some (.int .i64 b) := (blk_cell BKdr.out 1).trans rfl; have hfdr_1 := blk_frozen BKdr.out 1; have hcdr_2 : w2.cell? ⟨dr, 2, none⟩ = some (.int .i64 c) := (blk_cell BKdr.out 2).trans rfl; have hfdr_2 := blk_frozen BKdr.out 2; have hcdr_3 : w2.cell? ⟨dr, 3, none⟩ = some (.int .i64 d) := (blk_cell BKdr.out 3).trans rfl; have hfdr_3 := blk_frozen BKdr.out 3; have hcdr_4 : w2.cell? ⟨dr, 4, none⟩ = some (.int .i64 sz) := (blk_cell BKdr.out 4).trans rfl; have hfdr_4 := blk_frozen BKdr.out 4; have hcdr_5 : w2.cell? ⟨dr, 5, none⟩ = some (.slice As slots.length cs) := (blk_cell BKdr.out 5).trans rfl; have hfdr_5 := blk_frozen BKdr.out 5; have hcdr_6 : w2.cell? ⟨dr, 6, none⟩ = some (.slice Ag gone.length cg) := (blk_cell BKdr.out 6).trans rfl; have hfdr_6 := blk_frozen BKdr.out 6; have hcg_0 : w2.cell? ⟨g, 0, none⟩ = some (.int .i64 a) := (blk_cell BKg.out 0).trans rfl; have hfg_0 := blk_frozen BKg.out 0; have hcg_1 : w2.cell? ⟨g, 1, none⟩ = some (.int .i64 b) := (blk_cell BKg.out 1).trans rfl; have hfg_1 := blk_frozen BKg.out 1; have hcg_2 : w2.cell? ⟨g, 2, none⟩ = some (.int .i64 c) := (blk_cell BKg.out 2).trans rfl; have hfg_2 := blk_frozen BKg.out 2; have hcg_3 : w2.cell? ⟨g, 3, none⟩ = some (.int .i64 d) := (blk_cell BKg.out 3).trans rfl; have hfg_3 := blk_frozen BKg.out 3; have hcg_4 : w2.cell? ⟨g, 4, none⟩ = some (.slice A4 slots.length c4) := (blk_cell BKg.out 4).trans rfl; have hfg_4 := blk_frozen BKg.out 4; have hcg_5 : w2.cell? ⟨g, 5, none⟩ = some (.bool off) := (blk_cell BKg.out 5).trans rfl; have hfg_5 := blk_frozen BKg.out 5; have hcg_6 : w2.cell? ⟨g, 6, none⟩ = some (.int .i64 cut2) := (blk_cell BKg.out 6).trans rfl; have hfg_6 := blk_frozen BKg.out 6; have hcg_7 : w2.cell? ⟨g, 7, none⟩ = some (.slice A7 gone.length c7) := (blk_cell BKg.out 7).trans rfl; have hfg_7 := blk_frozen BKg.out 7; have hcg_8 : w2.cell? ⟨g, 8, none⟩ = some (.int .i64 wr0) := (blk_cell BKg.out 8).trans rfl; have hfg_8 := blk_frozen BKg.out 8; have hcg5_0 : w2.cell? ⟨g5, 0, none⟩ = some (.int .i64 0) := (blk_cell BKg5.out 0).trans rfl; have hfg5_0 := blk_frozen BKg5.out 0; have hcg5_1 : w2.cell? ⟨g5, 1, none⟩ = some (.int .i64 0) := (blk_cell BKg5.out 1).trans rfl; have hfg5_1 := blk_frozen BKg5.out 1; have hcg5_2 : w2.cell? ⟨g5, 2, none⟩ = some (.int .i64 0) := (blk_cell BKg5.out 2).trans rfl; have hfg5_2 := blk_frozen BKg5.out 2; have hcg5_3 : w2.cell? ⟨g5, 3, none⟩ = some (.int .i64 0) := (blk_cell BKg5.out 3).trans rfl; have hfg5_3 := blk_frozen BKg5.out 3; have hcg5_4 : w2.cell? ⟨g5, 4, none⟩ = some (.slice none 0 0) := (blk_cell BKg5.out 4).trans rfl; have hfg5_4 := blk_frozen BKg5.out 4; clear tok2))
 (try clear hcD_0 hfD_0)
 (try clear hcD_1 hfD_1)
 (try clear hcD_2 hfD_2)
 (try clear hcD_3 hfD_3)
 (try clear hcdr_0 hfdr_0)
 (try clear hcdr_1 hfdr_1)
 (try clear hcdr_2 hfdr_2)
 (try clear hcdr_3 hfdr_3)
 (try clear hcdr_4 hfdr_4)
 (try clear hcdr_5 hfdr_5)
 (try clear hcdr_6 hfdr_6)
 (try clear hcg_0 hfg_0)
 (try clear hcg_1 hfg_1)
 (try clear hcg_2 hfg_2)
 (try clear hcg_3 hfg_3)
 (try clear hcg_4 hfg_4)
 (try clear hcg_5 hfg_5)
 (try clear hcg_6 hfg_6)
 (try clear hcg_7 hfg_7)
 (try clear hcg_8 hfg_8)
 (try clear hcg5_0 hfg5_0)
 (try clear hcg5_1 hfg5_1)
 (try clear hcg5_2 hfg5_2)
 (try clear hcg5_3 hfg5_3)
 (try clear hcg5_4 hfg5_4)
 replace BKD := Aside0.mk (blk_far BKD.out (p := ⟨g5, 0, none⟩) (by show _ ≠ _; have := HZ1.out; have := HZ2.out; have := HZ3.out; have := SZ1.out; have := SZ2.out; omega) (.int .i64 a))
 replace BKdr := Aside0.mk (blk_far BKdr.out (p := ⟨g5, 0, none⟩) (by show _ ≠ _; have := HZ1.out; have := HZ2.out; have := HZ3.out; have := SZ1.out; have := SZ2.out; omega) (.int .i64 a))
 replace BKg := Aside0.mk (blk_far BKg.out (p := ⟨g5, 0, none⟩) (by show _ ≠ _; have := HZ1.out; have := HZ2.out; have := HZ3.out; have := SZ1.out; have := SZ2.out; omega) (.int .i64 a))
 replace HOm := Aside0.mk (Kd.R_far HOm.out (p := ⟨g5, 0, none⟩) (Iv_ne (g := g5) (by have := HZ1.out; have := HZ2.out; have := HZ3.out; have := SZ1.out; have := SZ2.out; omega)) (.int .i64 a))
 replace BKg5 := Aside0.mk (blk_put BKg5.out 0 (.int .i64 a) rfl)
 replace HB := Aside0.mk (below_set HB.out (by have := HZ1.out; have := HZ2.out; have := HZ3.out; have := SZ1.out; have := SZ2.out; omega : w.heap.size ≤ g5) (j := 0) (v := .int .i64 a))
 replace BKD := Aside0.mk (blk_far BKD.out (p := ⟨g5, 1, none⟩) (by show _ ≠ _; have := HZ1.out; have := HZ2.out; have := HZ3.out; have := SZ1.out; have := SZ2.out; omega) (.int .i64 b))
 replace BKdr := Aside0.mk (blk_far BKdr.out (p := ⟨g5, 1, none⟩) (by show _ ≠ _; have := HZ1.out; have := HZ2.out; have := HZ3.out; have := SZ1.out; have := SZ2.out; omega) (.int .i64 b))
 replace BKg := Aside0.mk (blk_far BKg.out (p := ⟨g5, 1, none⟩) (by show _ ≠ _; have := HZ1.out; have := HZ2.out; have := HZ3.out; have := SZ1.out; have := SZ2.out; omega) (.int .i64 b))
 replace HOm := Aside0.mk (Kd.R_far HOm.out (p := ⟨g5, 1, none⟩) (Iv_ne (g := g5) (by have := HZ1.out; have := HZ2.out; have := HZ3.out; have := SZ1.out; have := SZ2.out; omega)) (.int .i64 b))
 replace BKg5 := Aside0.mk (blk_put BKg5.out 1 (.int .i64 b) rfl)
 replace HB := Aside0.mk (below_set HB.out (by have := HZ1.out; have := HZ2.out; have := HZ3.out; have := SZ1.out; have := SZ2.out; omega : w.heap.size ≤ g5) (j := 1) (v := .int .i64 b))
 replace BKD := Aside0.mk (blk_far BKD.out (p := ⟨g5, 2, none⟩) (by show _ ≠ _; have := HZ1.out; have := HZ2.out; have := HZ3.out; have := SZ1.out; have := SZ2.out; omega) (.int .i64 c))
 replace BKdr := Aside0.mk (blk_far BKdr.out (p := ⟨g5, 2, none⟩) (by show _ ≠ _; have := HZ1.out; have := HZ2.out; have := HZ3.out; have := SZ1.out; have := SZ2.out; omega) (.int .i64 c))
 replace BKg := Aside0.mk (blk_far BKg.out (p := ⟨g5, 2, none⟩) (by show _ ≠ _; have := HZ1.out; have := HZ2.out; have := HZ3.out; have := SZ1.out; have := SZ2.out; omega) (.int .i64 c))
 replace HOm := Aside0.mk (Kd.R_far HOm.out (p := ⟨g5, 2, none⟩) (Iv_ne (g := g5) (by have := HZ1.out; have := HZ2.out; have := HZ3.out; have := SZ1.out; have := SZ2.out; omega)) (.int .i64 c))
 replace BKg5 := Aside0.mk (blk_put BKg5.out 2 (.int .i64 c) rfl)
 replace HB := Aside0.mk (below_set HB.out (by have := HZ1.out; have := HZ2.out; have := HZ3.out; have := SZ1.out; have := SZ2.out; omega : w.heap.size ≤ g5) (j := 2) (v := .int .i64 c))
 replace BKD := Aside0.mk (blk_far BKD.out (p := ⟨g5, 3, none⟩) (by show _ ≠ _; have := HZ1.out; have := HZ2.out; have := HZ3.out; have := SZ1.out; have := SZ2.out; omega) (.int .i64 d))
 replace BKdr := Aside0.mk (blk_far BKdr.out (p := ⟨g5, 3, none⟩) (by show _ ≠ _; have := HZ1.out; have := HZ2.out; have := HZ3.out; have := SZ1.out; have := SZ2.out; omega) (.int .i64 d))
 replace BKg := Aside0.mk (blk_far BKg.out (p := ⟨g5, 3, none⟩) (by show _ ≠ _; have := HZ1.out; have := HZ2.out; have := HZ3.out; have := SZ1.out; have := SZ2.out; omega) (.int .i64 d))
 replace HOm := Aside0.mk (Kd.R_far HOm.out (p := ⟨g5, 3, none⟩) (Iv_ne (g := g5) (by have := HZ1.out; have := HZ2.out; have := HZ3.out; have := SZ1.out; have := SZ2.out; omega)) (.int .i64 d))
 replace BKg5 := Aside0.mk (blk_put BKg5.out 3 (.int .i64 d) rfl)
 replace HB := Aside0.mk (below_set HB.out (by have := HZ1.out; have := HZ2.out; have := HZ3.out; have := SZ1.out; have := SZ2.out; omega : w.heap.size ≤ g5) (j := 3) (v := .int .i64 d))
 replace BKD := Aside0.mk (blk_far BKD.out (p := ⟨g5, 4, none⟩) (by show _ ≠ _; have := HZ1.out; have := HZ2.out; have := HZ3.out; have := SZ1.out; have := SZ2.out; omega) (.slice m_A slots.length m_c))
 replace BKdr := Aside0.mk (blk_far BKdr.out (p := ⟨g5, 4, none⟩) (by show _ ≠ _; have := HZ1.out; have := HZ2.out; have := HZ3.out; have := SZ1.out; have := SZ2.out; omega) (.slice m_A slots.length m_c))
 replace BKg := Aside0.mk (blk_far BKg.out (p := ⟨g5, 4, none⟩) (by show _ ≠ _; have := HZ1.out; have := HZ2.out; have := HZ3.out; have := SZ1.out; have := SZ2.out; omega) (.slice m_A slots.length m_c))
 replace HOm := Aside0.mk (Kd.R_far HOm.out (p := ⟨g5, 4, none⟩) (Iv_ne (g := g5) (by have := HZ1.out; have := HZ2.out; have := HZ3.out; have := SZ1.out; have := SZ2.out; omega)) (.slice m_A slots.length m_c))
 replace BKg5 := Aside0.mk (blk_put BKg5.out 4 (.slice m_A slots.length m_c) rfl)
 replace HB := Aside0.mk (below_set HB.out (by have := HZ1.out; have := HZ2.out; have := HZ3.out; have := SZ1.out; have := SZ2.out; omega : w.heap.size ≤ g5) (j := 4) (v := .slice m_A slots.length m_c))
 have SZ3 := Aside0.mk (show w2.heap.size ≤ (((((w2.setCell ⟨g5, 0, none⟩ (.int .i64 a)).setCell ⟨g5, 1, none⟩ (.int .i64 b)).setCell ⟨g5, 2, none⟩ (.int .i64 c)).setCell ⟨g5, 3, none⟩ (.int .i64 d)).setCell ⟨g5, 4, none⟩ (.slice m_A slots.length m_c)).heap.size from by simp [World.setCell])
 generalize (((((w2.setCell ⟨g5, 0, none⟩ (.int .i64 a)).setCell ⟨g5, 1, none⟩ (.int .i64 b)).setCell ⟨g5, 2, none⟩ (.int .i64 c)).setCell ⟨g5, 3, none⟩ (.int .i64 d)).setCell ⟨g5, 4, none⟩ (.slice m_A slots.length m_c)) = w3 at HB BKD BKdr BKg HOm BKg5 SZ3 ⊢
 have hcD_0 : w3.cell? ⟨D, 0, none⟩ = some (.pointer (some ⟨dr, 0, none⟩)) := (blk_cell BKD.out 0).trans rfl
 have hfD_0 := blk_frozen BKD.out 0
 have hcD_1 : w3.cell? ⟨D, 1, none⟩ = some (.bool off) := (blk_cell BKD.out 1).trans rfl
 have hfD_1 := blk_frozen BKD.out 1
 have hcD_2 : w3.cell? ⟨D, 2, none⟩ = some (.int .i64 cut) := (blk_cell BKD.out 2).trans rfl
 have hfD_2 := blk_frozen BKD.out 2
 have hcD_3 : w3.cell? ⟨D, 3, none⟩ = some (.int .i64 wr0) := (blk_cell BKD.out 3).trans rfl
 have hfD_3 := blk_frozen BKD.out 3
 have hcdr_0 : w3.cell? ⟨dr, 0, none⟩ = some (.int .i64 a) := (blk_cell BKdr.out 0).trans rfl
 have hfdr_0 := blk_frozen BKdr.out 0
 have hcdr_1 : w3.cell? ⟨dr, 1, none⟩ = some (.int .i64 b) := (blk_cell BKdr.out 1).trans rfl
 have hfdr_1 := blk_frozen BKdr.out 1
 have hcdr_2 : w3.cell? ⟨dr, 2, none⟩ = some (.int .i64 c) := (blk_cell BKdr.out 2).trans rfl
 have hfdr_2 := blk_frozen BKdr.out 2
 have hcdr_3 : w3.cell? ⟨dr, 3, none⟩ = some (.int .i64 d) := (blk_cell BKdr.out 3).trans rfl
 have hfdr_3 := blk_frozen BKdr.out 3
 have hcdr_4 : w3.cell? ⟨dr, 4, none⟩ = some (.int .i64 sz) := (blk_cell BKdr.out 4).trans rfl
 have hfdr_4 := blk_frozen BKdr.out 4
 have hcdr_5 : w3.cell? ⟨dr, 5, none⟩ = some (.slice As slots.length cs) := (blk_cell BKdr.out 5).trans rfl
 have hfdr_5 := blk_frozen BKdr.out 5
 have hcdr_6 : w3.cell? ⟨dr, 6, none⟩ = some (.slice Ag gone.length cg) := (blk_cell BKdr.out 6).trans rfl
 have hfdr_6 := blk_frozen BKdr.out 6
 have hcg_0 : w3.cell? ⟨g, 0, none⟩ = some (.int .i64 a) := (blk_cell BKg.out 0).trans rfl
 have hfg_0 := blk_frozen BKg.out 0
 have hcg_1 : w3.cell? ⟨g, 1, none⟩ = some (.int .i64 b) := (blk_cell BKg.out 1).trans rfl
 have hfg_1 := blk_frozen BKg.out 1
 have hcg_2 : w3.cell? ⟨g, 2, none⟩ = some (.int .i64 c) := (blk_cell BKg.out 2).trans rfl
 have hfg_2 := blk_frozen BKg.out 2
 have hcg_3 : w3.cell? ⟨g, 3, none⟩ = some (.int .i64 d) := (blk_cell BKg.out 3).trans rfl
 have hfg_3 := blk_frozen BKg.out 3
 have hcg_4 : w3.cell? ⟨g, 4, none⟩ = some (.slice A4 slots.length c4) := (blk_cell BKg.out 4).trans rfl
 have hfg_4 := blk_frozen BKg.out 4
 have hcg_5 : w3.cell? ⟨g, 5, none⟩ = some (.bool off) := (blk_cell BKg.out 5).trans rfl
 have hfg_5 := blk_frozen BKg.out 5
 have hcg_6 : w3.cell? ⟨g, 6, none⟩ = some (.int .i64 cut2) := (blk_cell BKg.out 6).trans rfl
 have hfg_6 := blk_frozen BKg.out 6
 have hcg_7 : w3.cell? ⟨g, 7, none⟩ = some (.slice A7 gone.length c7) := (blk_cell BKg.out 7).trans rfl
 have hfg_7 := blk_frozen BKg.out 7
 have hcg_8 : w3.cell? ⟨g, 8, none⟩ = some (.int .i64 wr0) := (blk_cell BKg.out 8).trans rfl
 have hfg_8 := blk_frozen BKg.out 8
 have hcg5_0 : w3.cell? ⟨g5, 0, none⟩ = some (.int .i64 a) := (blk_cell BKg5.out 0).trans rfl
 have hfg5_0 := blk_frozen BKg5.out 0
 have hcg5_1 : w3.cell? ⟨g5, 1, none⟩ = some (.int .i64 b) := (blk_cell BKg5.out 1).trans rfl
 have hfg5_1 := blk_frozen BKg5.out 1
 have hcg5_2 : w3.cell? ⟨g5, 2, none⟩ = some (.int .i64 c) := (blk_cell BKg5.out 2).trans rfl
 have hfg5_2 := blk_frozen BKg5.out 2
 have hcg5_3 : w3.cell? ⟨g5, 3, none⟩ = some (.int .i64 d) := (blk_cell BKg5.out 3).trans rfl
 have hfg5_3 := blk_frozen BKg5.out 3
 have hcg5_4 : w3.cell? ⟨g5, 4, none⟩ = some (.slice m_A slots.length m_c) := (blk_cell BKg5.out 4).trans rfl
 have hfg5_4 := blk_frozen BKg5.out 4
 have tok3 : True := trivial
 go_wp2_with (first | (have _ := tok3; go_at_call 27; (with_reducible refine (Params_yes D dr a b c d sz off cut wr0 As Ag slots.length cs gone.length cg _ (by (with_reducible repeat (first | refine blk_drewN ?_ _ | refine blk_drew ?_ | refine blk_alloc ?_ _)); exact BKD.out) (by (with_reducible repeat (first | refine blk_drewN ?_ _ | refine blk_drew ?_ | refine blk_alloc ?_ _)); exact BKdr.out)).mono ?_); rintro e w4 ⟨rfl, hb⟩; (try clear hcD_0 hfD_0); (try clear hcD_1 hfD_1); (try clear hcD_2 hfD_2); (try clear hcD_3 hfD_3); (try clear hcdr_0 hfdr_0); (try clear hcdr_1 hfdr_1); (try clear hcdr_2 hfdr_2); (try clear hcdr_3 hfdr_3); (try clear hcdr_4 hfdr_4); (try clear hcdr_5 hfdr_5); (try clear hcdr_6 hfdr_6); (try clear hcg_0 hfg_0); (try clear hcg_1 hfg_1); (try clear hcg_2 hfg_2); (try clear hcg_3 hfg_3); (try clear hcg_4 hfg_4); (try clear hcg_5 hfg_5); (try clear hcg_6 hfg_6); (try clear hcg_7 hfg_7); (try clear hcg_8 hfg_8); (try clear hcg5_0 hfg5_0); (try clear hcg5_1 hfg5_1); (try clear hcg5_2 hfg5_2); (try clear hcg5_3 hfg5_3); (try clear hcg5_4 hfg5_4); have hs : Below w3.heap.size w3 w4 := below_step (by repeat (first | exact Below.refl _ _ | apply below_alloc | apply pw_below_drewN | apply below_drew1)) hb; have hl : w3.heap.size ≤ _ := below_size (w := w3) (by repeat (first | exact Below.refl _ _ | apply below_alloc | apply pw_below_drewN | apply below_drew1)); have SZ4 := Aside0.mk (show w3.heap.size ≤ w4.heap.size from hs.size); replace BKD := Aside0.mk (blk_below BKD.out hs); replace BKdr := Aside0.mk (blk_below BKdr.out hs); replace BKg := Aside0.mk (blk_below BKg.out hs); replace HOm := Aside0.mk (Kd.R_below HOm.out hs); replace BKg5 := Aside0.mk (blk_below BKg5.out hs); replace HB := Aside0.mk (below_step HB.out hs); clear hb hs; (try clear hl); have hcD_0 : w4.cell? ⟨D, 0, none⟩ = some (.pointer (some ⟨dr, 0, none⟩)) := (blk_cell BKD.out 0).trans rfl; have hfD_0 := blk_frozen BKD.out 0; have hcD_1 : w4.cell? ⟨D, 1, none⟩ = some (.bool off) := (blk_cell BKD.out 1).trans rfl; have hfD_1 := blk_frozen BKD.out 1; have hcD_2 : w4.cell? ⟨D, 2, none⟩ = some (.int .i64 cut) := (blk_cell BKD.out 2).trans rfl; have hfD_2 := blk_frozen BKD.out 2; have hcD_3 : w4.cell? ⟨D, 3, none⟩ = some (.int .i64 wr0) := (blk_cell BKD.out 3).trans rfl; have hfD_3 := blk_frozen BKD.out 3; have hcdr_0 : w4.cell? ⟨dr, 0, none⟩ = some (.int .i64 a) := (blk_cell BKdr.out 0).trans rfl; have hfdr_0 := blk_frozen BKdr.out 0; have hcdr_1 : w4.cell? ⟨dr, 1, none⟩ = some (.int .i64 b) := (blk_cell BKdr.out 1).trans rfl; have hfdr_1 := blk_frozen BKdr.out 1; have hcdr_2 : w4.cell? ⟨dr, 2, none⟩ = some (.int .i64 c) := (blk_cell BKdr.out 2).trans rfl; have hfdr_2 := blk_frozen BKdr.out 2; have hcdr_3 : w4.cell? ⟨dr, 3, none⟩ = some (.int .i64 d) := (blk_cell BKdr.out 3).trans rfl; have hfdr_3 := blk_frozen BKdr.out 3; have hcdr_4 : w4.cell? ⟨dr, 4, none⟩ = some (.int .i64 sz) := (blk_cell BKdr.out 4).trans rfl; have hfdr_4 := blk_frozen BKdr.out 4; have hcdr_5 : w4.cell? ⟨dr, 5, none⟩ = some (.slice As slots.length cs) := (blk_cell BKdr.out 5).trans rfl; have hfdr_5 := blk_frozen BKdr.out 5; have hcdr_6 : w4.cell? ⟨dr, 6, none⟩ = some (.slice Ag gone.length cg) := (blk_cell BKdr.out 6).trans rfl; have hfdr_6 := blk_frozen BKdr.out 6; have hcg_0 : w4.cell? ⟨g, 0, none⟩ = some (.int .i64 a) := (blk_cell BKg.out 0).trans rfl; have hfg_0 := blk_frozen BKg.out 0; have hcg_1 : w4.cell? ⟨g, 1, none⟩ = some (.int .i64 b) := (blk_cell BKg.out 1).trans rfl; have hfg_1 := blk_frozen BKg.out 1; have hcg_2 : w4.cell? ⟨g, 2, none⟩ = some (.int .i64 c) := (blk_cell BKg.out 2).trans rfl; have hfg_2 := blk_frozen BKg.out 2; have hcg_3 : w4.cell? ⟨g, 3, none⟩ = some (.int .i64 d) := (blk_cell BKg.out 3).trans rfl; have hfg_3 := blk_frozen BKg.out 3; have hcg_4 : w4.cell? ⟨g, 4, none⟩ = some (.slice A4 slots.length c4) := (blk_cell BKg.out 4).trans rfl; have hfg_4 := blk_frozen BKg.out 4; have hcg_5 : w4.cell? ⟨g, 5, none⟩ = some (.bool off) := (blk_cell BKg.out 5).trans rfl; have hfg_5 := blk_frozen BKg.out 5; have hcg_6 : w4.cell? ⟨g, 6, none⟩ = some (.int .i64 cut2) := (blk_cell BKg.out 6).trans rfl; have hfg_6 := blk_frozen BKg.out 6; have hcg_7 : w4.cell? ⟨g, 7, none⟩ = some (.slice A7 gone.length c7) := (blk_cell BKg.out 7).trans rfl; have hfg_7 := blk_frozen BKg.out 7; have hcg_8 : w4.cell? ⟨g, 8, none⟩ = some (.int .i64 wr0) := (blk_cell BKg.out 8).trans rfl; have hfg_8 := blk_frozen BKg.out 8; have hcg5_0 : w4.cell? ⟨g5, 0, none⟩ = some (.int .i64 a) := (blk_cell BKg5.out 0).trans rfl; have hfg5_0 := blk_frozen BKg5.out 0; have hcg5_1 : w4.cell? ⟨g5, 1, none⟩ = some (.int .i64 b) := (blk_cell BKg5.out 1).trans rfl; have hfg5_1 := blk_frozen BKg5.out 1; have hcg5_2 : w4.cell? ⟨g5, 2, none⟩ = some (.int .i64 c) := (blk_cell BKg5.out 2).trans rfl; have hfg5_2 := blk_frozen BKg5.out 2; have hcg5_3 : w4.cell? ⟨g5, 3, none⟩ = some (.int .i64 d) := (blk_cell BKg5.out 3).trans rfl; have hfg5_3 := blk_frozen BKg5.out 3; have hcg5_4 : w4.cell? ⟨g5, 4, none⟩ = some (.slice m_A slots.length m_c) := (blk_cell BKg5.out 4).trans rfl; have hfg5_4 := blk_frozen BKg5.out 4; clear tok3; have tok4 : True := trivial) | (have _ := tok4; (with_reducible refine gate_dst (N := 7) rfl ?_); refine box_event ?hg (N := 7) ?hd (cs := #[.int .i64 0, .int .i64 0, .int .i64 0, .int .i64 0]) (t := 23) ?hr ?_; (case hd => rfl); (case hg => rfl); (case hr => first | (go_simp; done) | (go_simp; rfl)); intro g7 hg w5 hbox hb; have hs : Below w4.heap.size w4 w5 := below_step (by repeat (first | exact Below.refl _ _ | apply below_alloc | apply pw_below_drewN | apply below_drew1)) hb; have SZ5 := Aside0.mk (show w4.heap.size ≤ g7 ∧ g7 < w5.heap.size from ⟨by rw [hg]; exact (below_size (by repeat (first | exact Below.refl _ _ | apply below_alloc | apply pw_below_drewN | apply below_drew1))), blk_lt hbox⟩); (try clear hcD_0 hfD_0); (try clear hcD_1 hfD_1); (try clear hcD_2 hfD_2); (try clear hcD_3 hfD_3); (try clear hcdr_0 hfdr_0); (try clear hcdr_1 hfdr_1); (try clear hcdr_2 hfdr_2); (try clear hcdr_3 hfdr_3); (try clear hcdr_4 hfdr_4); (try clear hcdr_5 hfdr_5); (try clear hcdr_6 hfdr_6); (try clear hcg_0 hfg_0); (try clear hcg_1 hfg_1); (try clear hcg_2 hfg_2); (try clear hcg_3 hfg_3); (try clear hcg_4 hfg_4); (try clear hcg_5 hfg_5); (try clear hcg_6 hfg_6); (try clear hcg_7 hfg_7); (try clear hcg_8 hfg_8); (try clear hcg5_0 hfg5_0); (try clear hcg5_1 hfg5_1); (try clear hcg5_2 hfg5_2); (try clear hcg5_3 hfg5_3); (try clear hcg5_4 hfg5_4); replace BKD := Aside0.mk (blk_below BKD.out hs); replace BKdr := Aside0.mk (blk_below BKdr.out hs); replace BKg := Aside0.mk (blk_below BKg.out hs); replace HOm := Aside0.mk (Kd.R_below HOm.out hs); replace BKg5 := Aside0.mk (blk_below BKg5.out hs); replace HB := Aside0.mk (below_step HB.out hs); have hneD_g7 : D ≠ g7 := (by have := SZ5.out; have := HZ1.out; have := HZ2.out; have := HZ3.out; have := SZ1.out; have := SZ2.out; have := SZ3.out; have := SZ4.out; omega); have hneg7_D : g7 ≠ D := hneD_g7.symm; have hnedr_g7 : dr ≠ g7 := (by have := SZ5.out; have := HZ1.out; have := HZ2.out; have := HZ3.out; have := SZ1.out; have := SZ2.out; have := SZ3.out; have := SZ4.out; omega); have hneg7_dr : g7 ≠ dr := hnedr_g7.symm; have hneg_g7 : g ≠ g7 := (by have := SZ5.out; have := HZ1.out; have := HZ2.out; have := HZ3.out; have := SZ1.out; have := SZ2.out; have := SZ3.out; have := SZ4.out; omega); have hneg7_g : g7 ≠ g := hneg_g7.symm; have hneg5_g7 : g5 ≠ g7 := (by have := SZ5.out; have := HZ1.out; have := HZ2.out; have := HZ3.out; have := SZ1.out; have := SZ2.out; have := SZ3.out; have := SZ4.out; omega); have hneg7_g5 : g7 ≠ g5 := hneg5_g7.symm; have BKg7 := Aside0.mk hbox; clear hb hbox hg hs; have hcD_0 : w5.cell? ⟨D, 0, none⟩ = some (.pointer (some ⟨dr, 0, none⟩)) := (blk_cell BKD.out 0).trans rfl; have hfD_0 := blk_frozen BKD.out 0; have hcD_1 : w5.cell? ⟨D, 1, none⟩ = some (.bool off) := (blk_cell BKD.out 1).trans rfl; have hfD_1 := blk_frozen BKD.out 1; have hcD_2 : w5.cell? ⟨D, 2, none⟩ = some (.int .i64 cut) := (blk_cell BKD.out 2).trans rfl; have hfD_2 := blk_frozen BKD.out 2; have hcD_3 : w5.cell? ⟨D, 3, none⟩ = some (.int .i64 wr0) := (blk_cell BKD.out 3).trans rfl; have hfD_3 := blk_frozen BKD.out 3; have hcdr_0 : w5.cell? ⟨dr, 0, none⟩ = some (.int .i64 a) := (blk_cell BKdr.out 0).trans rfl; have hfdr_0 := blk_frozen BKdr.out 0; have hcdr_1 : w5.cell? ⟨dr, 1, none⟩ = some (.int .i64 b) := (blk_cell BKdr.out 1).trans rfl; have hfdr_1 := blk_frozen BKdr.out 1; have hcdr_2 : w5.cell? ⟨dr, 2, none⟩ = some (.int .i64 c) := (blk_cell BKdr.out 2).trans rfl; have hfdr_2 := blk_frozen BKdr.out 2; have hcdr_3 : w5.cell? ⟨dr, 3, none⟩ = some (.int .i64 d) := (blk_cell BKdr.out 3).trans rfl; have hfdr_3 := blk_frozen BKdr.out 3; have hcdr_4 : w5.cell? ⟨dr, 4, none⟩ = some (.int .i64 sz) := (blk_cell BKdr.out 4).trans rfl; have hfdr_4 := blk_frozen BKdr.out 4; have hcdr_5 : w5.cell? ⟨dr, 5, none⟩ = some (.slice As slots.length cs) := (blk_cell BKdr.out 5).trans rfl; have hfdr_5 := blk_frozen BKdr.out 5; have hcdr_6 : w5.cell? ⟨dr, 6, none⟩ = some (.slice Ag gone.length cg) := (blk_cell BKdr.out 6).trans rfl; have hfdr_6 := blk_frozen BKdr.out 6; have hcg_0 : w5.cell? ⟨g, 0, none⟩ = some (.int .i64 a) := (blk_cell BKg.out 0).trans rfl; have hfg_0 := blk_frozen BKg.out 0; have hcg_1 : w5.cell? ⟨g, 1, none⟩ = some (.int .i64 b) := (blk_cell BKg.out 1).trans rfl; have hfg_1 := blk_frozen BKg.out 1; have hcg_2 : w5.cell? ⟨g, 2, none⟩ = some (.int .i64 c) := (blk_cell BKg.out 2).trans rfl; have hfg_2 := blk_frozen BKg.out 2; have hcg_3 : w5.cell? ⟨g, 3, none⟩ = some (.int .i64 d) := (blk_cell BKg.out 3).trans rfl; have hfg_3 := blk_frozen BKg.out 3; have hcg_4 : w5.cell? ⟨g, 4, none⟩ = some (.slice A4 slots.length c4) := (blk_cell BKg.out 4).trans rfl; have hfg_4 := blk_frozen BKg.out 4; have hcg_5 : w5.cell? ⟨g, 5, none⟩ = some (.bool off) := (blk_cell BKg.out 5).trans rfl; have hfg_5 := blk_frozen BKg.out 5; have hcg_6 : w5.cell? ⟨g, 6, none⟩ = some (.int .i64 cut2) := (blk_cell BKg.out 6).trans rfl; have hfg_6 := blk_frozen BKg.out 6; have hcg_7 : w5.cell? ⟨g, 7, none⟩ = some (.slice A7 gone.length c7) := (blk_cell BKg.out 7).trans rfl; have hfg_7 := blk_frozen BKg.out 7; have hcg_8 : w5.cell? ⟨g, 8, none⟩ = some (.int .i64 wr0) := (blk_cell BKg.out 8).trans rfl; have hfg_8 := blk_frozen BKg.out 8; have hcg5_0 : w5.cell? ⟨g5, 0, none⟩ = some (.int .i64 a) := (blk_cell BKg5.out 0).trans rfl; have hfg5_0 := blk_frozen BKg5.out 0; have hcg5_1 : w5.cell? ⟨g5, 1, none⟩ = some (.int .i64 b) := (blk_cell BKg5.out 1).trans rfl; have hfg5_1 := blk_frozen BKg5.out 1; have hcg5_2 : w5.cell? ⟨g5, 2, none⟩ = some (.int .i64 c) := (blk_cell BKg5.out 2).trans rfl; have hfg5_2 := blk_frozen BKg5.out 2; have hcg5_3 : w5.cell? ⟨g5, 3, none⟩ = some (.int .i64 d) := (blk_cell BKg5.out 3).trans rfl; have hfg5_3 := blk_frozen BKg5.out 3; have hcg5_4 : w5.cell? ⟨g5, 4, none⟩ = some (.slice m_A slots.length m_c) := (blk_cell BKg5.out 4).trans rfl; have hfg5_4 := blk_frozen BKg5.out 4; have hcg7_0 : w5.cell? ⟨g7, 0, none⟩ = some (.int .i64 0) := (blk_cell BKg7.out 0).trans rfl; have hfg7_0 := blk_frozen BKg7.out 0; have hcg7_1 : w5.cell? ⟨g7, 1, none⟩ = some (.int .i64 0) := (blk_cell BKg7.out 1).trans rfl; have hfg7_1 := blk_frozen BKg7.out 1; have hcg7_2 : w5.cell? ⟨g7, 2, none⟩ = some (.int .i64 0) := (blk_cell BKg7.out 2).trans rfl; have hfg7_2 := blk_frozen BKg7.out 2; have hcg7_3 : w5.cell? ⟨g7, 3, none⟩ = some (.int .i64 0) := (blk_cell BKg7.out 3).trans rfl; have hfg7_3 := blk_frozen BKg7.out 3; clear tok4))
 (try clear hcD_0 hfD_0)
 (try clear hcD_1 hfD_1)
 (try clear hcD_2 hfD_2)
 (try clear hcD_3 hfD_3)
 (try clear hcdr_0 hfdr_0)
 (try clear hcdr_1 hfdr_1)
 (try clear hcdr_2 hfdr_2)
 (try clear hcdr_3 hfdr_3)
 (try clear hcdr_4 hfdr_4)
 (try clear hcdr_5 hfdr_5)
 (try clear hcdr_6 hfdr_6)
 (try clear hcg_0 hfg_0)
 (try clear hcg_1 hfg_1)
 (try clear hcg_2 hfg_2)
 (try clear hcg_3 hfg_3)
 (try clear hcg_4 hfg_4)
 (try clear hcg_5 hfg_5)
 (try clear hcg_6 hfg_6)
 (try clear hcg_7 hfg_7)
 (try clear hcg_8 hfg_8)
 (try clear hcg5_0 hfg5_0)
 (try clear hcg5_1 hfg5_1)
 (try clear hcg5_2 hfg5_2)
 (try clear hcg5_3 hfg5_3)
 (try clear hcg5_4 hfg5_4)
 (try clear hcg7_0 hfg7_0)
 (try clear hcg7_1 hfg7_1)
 (try clear hcg7_2 hfg7_2)
 (try clear hcg7_3 hfg7_3)
 replace BKD := Aside0.mk (blk_far BKD.out (p := ⟨g7, 0, none⟩) (by show _ ≠ _; have := HZ1.out; have := HZ2.out; have := HZ3.out; have := SZ1.out; have := SZ2.out; have := SZ3.out; have := SZ4.out; have := SZ5.out; omega) (.int .i64 a))
 replace BKdr := Aside0.mk (blk_far BKdr.out (p := ⟨g7, 0, none⟩) (by show _ ≠ _; have := HZ1.out; have := HZ2.out; have := HZ3.out; have := SZ1.out; have := SZ2.out; have := SZ3.out; have := SZ4.out; have := SZ5.out; omega) (.int .i64 a))
 replace BKg := Aside0.mk (blk_far BKg.out (p := ⟨g7, 0, none⟩) (by show _ ≠ _; have := HZ1.out; have := HZ2.out; have := HZ3.out; have := SZ1.out; have := SZ2.out; have := SZ3.out; have := SZ4.out; have := SZ5.out; omega) (.int .i64 a))
 replace HOm := Aside0.mk (Kd.R_far HOm.out (p := ⟨g7, 0, none⟩) (Iv_ne (g := g7) (by have := HZ1.out; have := HZ2.out; have := HZ3.out; have := SZ1.out; have := SZ2.out; have := SZ3.out; have := SZ4.out; have := SZ5.out; omega)) (.int .i64 a))
 replace BKg5 := Aside0.mk (blk_far BKg5.out (p := ⟨g7, 0, none⟩) (by show _ ≠ _; have := HZ1.out; have := HZ2.out; have := HZ3.out; have := SZ1.out; have := SZ2.out; have := SZ3.out; have := SZ4.out; have := SZ5.out; omega) (.int .i64 a))
 replace BKg7 := Aside0.mk (blk_put BKg7.out 0 (.int .i64 a) rfl)
 replace HB := Aside0.mk (below_set HB.out (by have := HZ1.out; have := HZ2.out; have := HZ3.out; have := SZ1.out; have := SZ2.out; have := SZ3.out; have := SZ4.out; have := SZ5.out; omega : w.heap.size ≤ g7) (j := 0) (v := .int .i64 a))
 replace BKD := Aside0.mk (blk_far BKD.out (p := ⟨g7, 1, none⟩) (by show _ ≠ _; have := HZ1.out; have := HZ2.out; have := HZ3.out; have := SZ1.out; have := SZ2.out; have := SZ3.out; have := SZ4.out; have := SZ5.out; omega) (.int .i64 b))
 replace BKdr := Aside0.mk (blk_far BKdr.out (p := ⟨g7, 1, none⟩) (by show _ ≠ _; have := HZ1.out; have := HZ2.out; have := HZ3.out; have := SZ1.out; have := SZ2.out; have := SZ3.out; have := SZ4.out; have := SZ5.out; omega) (.int .i64 b))
 replace BKg := Aside0.mk (blk_far BKg.out (p := ⟨g7, 1, none⟩) (by show _ ≠ _; have := HZ1.out; have := HZ2.out; have := HZ3.out; have := SZ1.out; have := SZ2.out; have := SZ3.out; have := SZ4.out; have := SZ5.out; omega) (.int .i64 b))
 replace HOm := Aside0.mk (Kd.R_far HOm.out (p := ⟨g7, 1, none⟩) (Iv_ne (g := g7) (by have := HZ1.out; have := HZ2.out; have := HZ3.out; have := SZ1.out; have := SZ2.out; have := SZ3.out; have := SZ4.out; have := SZ5.out; omega)) (.int .i64 b))
 replace BKg5 := Aside0.mk (blk_far BKg5.out (p := ⟨g7, 1, none⟩) (by show _ ≠ _; have := HZ1.out; have := HZ2.out; have := HZ3.out; have := SZ1.out; have := SZ2.out; have := SZ3.out; have := SZ4.out; have := SZ5.out; omega) (.int .i64 b))
 replace BKg7 := Aside0.mk (blk_put BKg7.out 1 (.int .i64 b) rfl)
 replace HB := Aside0.mk (below_set HB.out (by have := HZ1.out; have := HZ2.out; have := HZ3.out; have := SZ1.out; have := SZ2.out; have := SZ3.out; have := SZ4.out; have := SZ5.out; omega : w.heap.size ≤ g7) (j := 1) (v := .int .i64 b))
 replace BKD := Aside0.mk (blk_far BKD.out (p := ⟨g7, 2, none⟩) (by show _ ≠ _; have := HZ1.out; have := HZ2.out; have := HZ3.out; have := SZ1.out; have := SZ2.out; have := SZ3.out; have := SZ4.out; have := SZ5.out; omega) (.int .i64 c))
 replace BKdr := Aside0.mk (blk_far BKdr.out (p := ⟨g7, 2, none⟩) (by show _ ≠ _; have := HZ1.out; have := HZ2.out; have := HZ3.out; have := SZ1.out; have := SZ2.out; have := SZ3.out; have := SZ4.out; have := SZ5.out; omega) (.int .i64 c))
 replace BKg := Aside0.mk (blk_far BKg.out (p := ⟨g7, 2, none⟩) (by show _ ≠ _; have := HZ1.out; have := HZ2.out; have := HZ3.out; have := SZ1.out; have := SZ2.out; have := SZ3.out; have := SZ4.out; have := SZ5.out; omega) (.int .i64 c))
 replace HOm := Aside0.mk (Kd.R_far HOm.out (p := ⟨g7, 2, none⟩) (Iv_ne (g := g7) (by have := HZ1.out; have := HZ2.out; have := HZ3.out; have := SZ1.out; have := SZ2.out; have := SZ3.out; have := SZ4.out; have := SZ5.out; omega)) (.int .i64 c))
 replace BKg5 := Aside0.mk (blk_far BKg5.out (p := ⟨g7, 2, none⟩) (by show _ ≠ _; have := HZ1.out; have := HZ2.out; have := HZ3.out; have := SZ1.out; have := SZ2.out; have := SZ3.out; have := SZ4.out; have := SZ5.out; omega) (.int .i64 c))
 replace BKg7 := Aside0.mk (blk_put BKg7.out 2 (.int .i64 c) rfl)
 replace HB := Aside0.mk (below_set HB.out (by have := HZ1.out; have := HZ2.out; have := HZ3.out; have := SZ1.out; have := SZ2.out; have := SZ3.out; have := SZ4.out; have := SZ5.out; omega : w.heap.size ≤ g7) (j := 2) (v := .int .i64 c))
 replace BKD := Aside0.mk (blk_far BKD.out (p := ⟨g7, 3, none⟩) (by show _ ≠ _; have := HZ1.out; have := HZ2.out; have := HZ3.out; have := SZ1.out; have := SZ2.out; have := SZ3.out; have := SZ4.out; have := SZ5.out; omega) (.int .i64 d))
 replace BKdr := Aside0.mk (blk_far BKdr.out (p := ⟨g7, 3, none⟩) (by show _ ≠ _; have := HZ1.out; have := HZ2.out; have := HZ3.out; have := SZ1.out; have := SZ2.out; have := SZ3.out; have := SZ4.out; have := SZ5.out; omega) (.int .i64 d))
 replace BKg := Aside0.mk (blk_far BKg.out (p := ⟨g7, 3, none⟩) (by show _ ≠ _; have := HZ1.out; have := HZ2.out; have := HZ3.out; have := SZ1.out; have := SZ2.out; have := SZ3.out; have := SZ4.out; have := SZ5.out; omega) (.int .i64 d))
 replace HOm := Aside0.mk (Kd.R_far HOm.out (p := ⟨g7, 3, none⟩) (Iv_ne (g := g7) (by have := HZ1.out; have := HZ2.out; have := HZ3.out; have := SZ1.out; have := SZ2.out; have := SZ3.out; have := SZ4.out; have := SZ5.out; omega)) (.int .i64 d))
 replace BKg5 := Aside0.mk (blk_far BKg5.out (p := ⟨g7, 3, none⟩) (by show _ ≠ _; have := HZ1.out; have := HZ2.out; have := HZ3.out; have := SZ1.out; have := SZ2.out; have := SZ3.out; have := SZ4.out; have := SZ5.out; omega) (.int .i64 d))
 replace BKg7 := Aside0.mk (blk_put BKg7.out 3 (.int .i64 d) rfl)
 replace HB := Aside0.mk (below_set HB.out (by have := HZ1.out; have := HZ2.out; have := HZ3.out; have := SZ1.out; have := SZ2.out; have := SZ3.out; have := SZ4.out; have := SZ5.out; omega : w.heap.size ≤ g7) (j := 3) (v := .int .i64 d))
 have SZ6 := Aside0.mk (show w5.heap.size ≤ ((((w5.setCell ⟨g7, 0, none⟩ (.int .i64 a)).setCell ⟨g7, 1, none⟩ (.int .i64 b)).setCell ⟨g7, 2, none⟩ (.int .i64 c)).setCell ⟨g7, 3, none⟩ (.int .i64 d)).heap.size from by simp [World.setCell])
 generalize ((((w5.setCell ⟨g7, 0, none⟩ (.int .i64 a)).setCell ⟨g7, 1, none⟩ (.int .i64 b)).setCell ⟨g7, 2, none⟩ (.int .i64 c)).setCell ⟨g7, 3, none⟩ (.int .i64 d)) = w6 at HB BKD BKdr BKg HOm BKg5 BKg7 SZ6 ⊢
 have hcD_0 : w6.cell? ⟨D, 0, none⟩ = some (.pointer (some ⟨dr, 0, none⟩)) := (blk_cell BKD.out 0).trans rfl
 have hfD_0 := blk_frozen BKD.out 0
 have hcD_1 : w6.cell? ⟨D, 1, none⟩ = some (.bool off) := (blk_cell BKD.out 1).trans rfl
 have hfD_1 := blk_frozen BKD.out 1
 have hcD_2 : w6.cell? ⟨D, 2, none⟩ = some (.int .i64 cut) := (blk_cell BKD.out 2).trans rfl
 have hfD_2 := blk_frozen BKD.out 2
 have hcD_3 : w6.cell? ⟨D, 3, none⟩ = some (.int .i64 wr0) := (blk_cell BKD.out 3).trans rfl
 have hfD_3 := blk_frozen BKD.out 3
 have hcdr_0 : w6.cell? ⟨dr, 0, none⟩ = some (.int .i64 a) := (blk_cell BKdr.out 0).trans rfl
 have hfdr_0 := blk_frozen BKdr.out 0
 have hcdr_1 : w6.cell? ⟨dr, 1, none⟩ = some (.int .i64 b) := (blk_cell BKdr.out 1).trans rfl
 have hfdr_1 := blk_frozen BKdr.out 1
 have hcdr_2 : w6.cell? ⟨dr, 2, none⟩ = some (.int .i64 c) := (blk_cell BKdr.out 2).trans rfl
 have hfdr_2 := blk_frozen BKdr.out 2
 have hcdr_3 : w6.cell? ⟨dr, 3, none⟩ = some (.int .i64 d) := (blk_cell BKdr.out 3).trans rfl
 have hfdr_3 := blk_frozen BKdr.out 3
 have hcdr_4 : w6.cell? ⟨dr, 4, none⟩ = some (.int .i64 sz) := (blk_cell BKdr.out 4).trans rfl
 have hfdr_4 := blk_frozen BKdr.out 4
 have hcdr_5 : w6.cell? ⟨dr, 5, none⟩ = some (.slice As slots.length cs) := (blk_cell BKdr.out 5).trans rfl
 have hfdr_5 := blk_frozen BKdr.out 5
 have hcdr_6 : w6.cell? ⟨dr, 6, none⟩ = some (.slice Ag gone.length cg) := (blk_cell BKdr.out 6).trans rfl
 have hfdr_6 := blk_frozen BKdr.out 6
 have hcg_0 : w6.cell? ⟨g, 0, none⟩ = some (.int .i64 a) := (blk_cell BKg.out 0).trans rfl
 have hfg_0 := blk_frozen BKg.out 0
 have hcg_1 : w6.cell? ⟨g, 1, none⟩ = some (.int .i64 b) := (blk_cell BKg.out 1).trans rfl
 have hfg_1 := blk_frozen BKg.out 1
 have hcg_2 : w6.cell? ⟨g, 2, none⟩ = some (.int .i64 c) := (blk_cell BKg.out 2).trans rfl
 have hfg_2 := blk_frozen BKg.out 2
 have hcg_3 : w6.cell? ⟨g, 3, none⟩ = some (.int .i64 d) := (blk_cell BKg.out 3).trans rfl
 have hfg_3 := blk_frozen BKg.out 3
 have hcg_4 : w6.cell? ⟨g, 4, none⟩ = some (.slice A4 slots.length c4) := (blk_cell BKg.out 4).trans rfl
 have hfg_4 := blk_frozen BKg.out 4
 have hcg_5 : w6.cell? ⟨g, 5, none⟩ = some (.bool off) := (blk_cell BKg.out 5).trans rfl
 have hfg_5 := blk_frozen BKg.out 5
 have hcg_6 : w6.cell? ⟨g, 6, none⟩ = some (.int .i64 cut2) := (blk_cell BKg.out 6).trans rfl
 have hfg_6 := blk_frozen BKg.out 6
 have hcg_7 : w6.cell? ⟨g, 7, none⟩ = some (.slice A7 gone.length c7) := (blk_cell BKg.out 7).trans rfl
 have hfg_7 := blk_frozen BKg.out 7
 have hcg_8 : w6.cell? ⟨g, 8, none⟩ = some (.int .i64 wr0) := (blk_cell BKg.out 8).trans rfl
 have hfg_8 := blk_frozen BKg.out 8
 have hcg5_0 : w6.cell? ⟨g5, 0, none⟩ = some (.int .i64 a) := (blk_cell BKg5.out 0).trans rfl
 have hfg5_0 := blk_frozen BKg5.out 0
 have hcg5_1 : w6.cell? ⟨g5, 1, none⟩ = some (.int .i64 b) := (blk_cell BKg5.out 1).trans rfl
 have hfg5_1 := blk_frozen BKg5.out 1
 have hcg5_2 : w6.cell? ⟨g5, 2, none⟩ = some (.int .i64 c) := (blk_cell BKg5.out 2).trans rfl
 have hfg5_2 := blk_frozen BKg5.out 2
 have hcg5_3 : w6.cell? ⟨g5, 3, none⟩ = some (.int .i64 d) := (blk_cell BKg5.out 3).trans rfl
 have hfg5_3 := blk_frozen BKg5.out 3
 have hcg5_4 : w6.cell? ⟨g5, 4, none⟩ = some (.slice m_A slots.length m_c) := (blk_cell BKg5.out 4).trans rfl
 have hfg5_4 := blk_frozen BKg5.out 4
 have hcg7_0 : w6.cell? ⟨g7, 0, none⟩ = some (.int .i64 a) := (blk_cell BKg7.out 0).trans rfl
 have hfg7_0 := blk_frozen BKg7.out 0
 have hcg7_1 : w6.cell? ⟨g7, 1, none⟩ = some (.int .i64 b) := (blk_cell BKg7.out 1).trans rfl
 have hfg7_1 := blk_frozen BKg7.out 1
 have hcg7_2 : w6.cell? ⟨g7, 2, none⟩ = some (.int .i64 c) := (blk_cell BKg7.out 2).trans rfl
 have hfg7_2 := blk_frozen BKg7.out 2
 have hcg7_3 : w6.cell? ⟨g7, 3, none⟩ = some (.int .i64 d) := (blk_cell BKg7.out 3).trans rfl
 have hfg7_3 := blk_frozen BKg7.out 3
 have tok5 : True := trivial
 go_wp2_with (first | (have _ := tok5; go_at_call 25; (with_reducible refine (Wiped_yes D dr a b c d sz off cut wr0 As Ag slots.length cs cg gone _ (by (with_reducible repeat (first | refine blk_drewN ?_ _ | refine blk_drew ?_ | refine blk_alloc ?_ _)); exact BKD.out) (by (with_reducible repeat (first | refine blk_drewN ?_ _ | refine blk_drew ?_ | refine blk_alloc ?_ _)); exact BKdr.out) ?s1 (by have := Ahl2.out; omega)).mono ?_); (case s1 => exact Kd.C_below AhG.out (by repeat (first | exact HB.out | apply below_alloc | apply pw_below_drewN | apply below_drew1))); rintro e w7 ⟨v, rfl, ho, hb⟩; (try clear hcD_0 hfD_0); (try clear hcD_1 hfD_1); (try clear hcD_2 hfD_2); (try clear hcD_3 hfD_3); (try clear hcdr_0 hfdr_0); (try clear hcdr_1 hfdr_1); (try clear hcdr_2 hfdr_2); (try clear hcdr_3 hfdr_3); (try clear hcdr_4 hfdr_4); (try clear hcdr_5 hfdr_5); (try clear hcdr_6 hfdr_6); (try clear hcg_0 hfg_0); (try clear hcg_1 hfg_1); (try clear hcg_2 hfg_2); (try clear hcg_3 hfg_3); (try clear hcg_4 hfg_4); (try clear hcg_5 hfg_5); (try clear hcg_6 hfg_6); (try clear hcg_7 hfg_7); (try clear hcg_8 hfg_8); (try clear hcg5_0 hfg5_0); (try clear hcg5_1 hfg5_1); (try clear hcg5_2 hfg5_2); (try clear hcg5_3 hfg5_3); (try clear hcg5_4 hfg5_4); (try clear hcg7_0 hfg7_0); (try clear hcg7_1 hfg7_1); (try clear hcg7_2 hfg7_2); (try clear hcg7_3 hfg7_3); have hs : Below w6.heap.size w6 w7 := below_step (by repeat (first | exact Below.refl _ _ | apply below_alloc | apply pw_below_drewN | apply below_drew1)) hb; have hl : w6.heap.size ≤ _ := below_size (w := w6) (by repeat (first | exact Below.refl _ _ | apply below_alloc | apply pw_below_drewN | apply below_drew1)); have SZ7 := Aside0.mk (show w6.heap.size ≤ w7.heap.size from hs.size); replace BKD := Aside0.mk (blk_below BKD.out hs); replace BKdr := Aside0.mk (blk_below BKdr.out hs); replace BKg := Aside0.mk (blk_below BKg.out hs); replace HOm := Aside0.mk (Kd.R_below HOm.out hs); replace BKg5 := Aside0.mk (blk_below BKg5.out hs); replace BKg7 := Aside0.mk (blk_below BKg7.out hs); have HOx := Aside0.mk (R_iv ho (below_size (by repeat (first | exact HB.out | apply below_alloc | apply pw_below_drewN | apply below_drew1))) hl); replace HB := Aside0.mk (below_step HB.out hs); clear ho; obtain ⟨x_A, x_c, e_⟩ := Kd.R_slice HOx.out; subst e_; clear hb hs; (try clear hl); have hcD_0 : w7.cell? ⟨D, 0, none⟩ = some (.pointer (some ⟨dr, 0, none⟩)) := (blk_cell BKD.out 0).trans rfl; have hfD_0 := blk_frozen BKD.out 0; have hcD_1 : w7.cell? ⟨D, 1, none⟩ = some (.bool off) := (blk_cell BKD.out 1).trans rfl; have hfD_1 := blk_frozen BKD.out 1; have hcD_2 : w7.cell? ⟨D, 2, none⟩ = some (.int .i64 cut) := (blk_cell BKD.out 2).trans rfl; have hfD_2 := blk_frozen BKD.out 2; have hcD_3 : w7.cell? ⟨D, 3, none⟩ = some (.int .i64 wr0) := (blk_cell BKD.out 3).trans rfl; have hfD_3 := blk_frozen BKD.out 3; have hcdr_0 : w7.cell? ⟨dr, 0, none⟩ = some (.int .i64 a) := (blk_cell BKdr.out 0).trans rfl; have hfdr_0 := blk_frozen BKdr.out 0; have hcdr_1 : w7.cell? ⟨dr, 1, none⟩ = some (.int .i64 b) := (blk_cell BKdr.out 1).trans rfl; have hfdr_1 := blk_frozen BKdr.out 1; have hcdr_2 : w7.cell? ⟨dr, 2, none⟩ = some (.int .i64 c) := (blk_cell BKdr.out 2).trans rfl; have hfdr_2 := blk_frozen BKdr.out 2; have hcdr_3 : w7.cell? ⟨dr, 3, none⟩ = some (.int .i64 d) := (blk_cell BKdr.out 3).trans rfl; have hfdr_3 := blk_frozen BKdr.out 3; have hcdr_4 : w7.cell? ⟨dr, 4, none⟩ = some (.int .i64 sz) := (blk_cell BKdr.out 4).trans rfl; have hfdr_4 := blk_frozen BKdr.out 4; have hcdr_5 : w7.cell? ⟨dr, 5, none⟩ = some (.slice As slots.length cs) := (blk_cell BKdr.out 5).trans rfl; have hfdr_5 := blk_frozen BKdr.out 5; have hcdr_6 : w7.cell? ⟨dr, 6, none⟩ = some (.slice Ag gone.length cg) := (blk_cell BKdr.out 6).trans rfl; have hfdr_6 := blk_frozen BKdr.out 6; have hcg_0 : w7.cell? ⟨g, 0, none⟩ = some (.int .i64 a) := (blk_cell BKg.out 0).trans rfl; have hfg_0 := blk_frozen BKg.out 0; have hcg_1 : w7.cell? ⟨g, 1, none⟩ = some (.int .i64 b) := (blk_cell BKg.out 1).trans rfl; have hfg_1 := blk_frozen BKg.out 1; have hcg_2 : w7.cell? ⟨g, 2, none⟩ = some (.int .i64 c) := (blk_cell BKg.out 2).trans rfl; have hfg_2 := blk_frozen BKg.out 2; have hcg_3 : w7.cell? ⟨g, 3, none⟩ = some (.int .i64 d) := (blk_cell BKg.out 3).trans rfl; have hfg_3 := blk_frozen BKg.out 3; have hcg_4 : w7.cell? ⟨g, 4, none⟩ = some (.slice A4 slots.length c4) := (blk_cell BKg.out 4).trans rfl; have hfg_4 := blk_frozen BKg.out 4; have hcg_5 : w7.cell? ⟨g, 5, none⟩ = some (.bool off) := (blk_cell BKg.out 5).trans rfl; have hfg_5 := blk_frozen BKg.out 5; have hcg_6 : w7.cell? ⟨g, 6, none⟩ = some (.int .i64 cut2) := (blk_cell BKg.out 6).trans rfl; have hfg_6 := blk_frozen BKg.out 6; have hcg_7 : w7.cell? ⟨g, 7, none⟩ = some (.slice A7 gone.length c7) := (blk_cell BKg.out 7).trans rfl; have hfg_7 := blk_frozen BKg.out 7; have hcg_8 : w7.cell? ⟨g, 8, none⟩ = some (.int .i64 wr0) := (blk_cell BKg.out 8).trans rfl; have hfg_8 := blk_frozen BKg.out 8; have hcg5_0 : w7.cell? ⟨g5, 0, none⟩ = some (.int .i64 a) := (blk_cell BKg5.out 0).trans rfl; have hfg5_0 := blk_frozen BKg5.out 0; have hcg5_1 : w7.cell? ⟨g5, 1, none⟩ = some (.int .i64 b) := (blk_cell BKg5.out 1).trans rfl; have hfg5_1 := blk_frozen BKg5.out 1; have hcg5_2 : w7.cell? ⟨g5, 2, none⟩ = some (.int .i64 c) := (blk_cell BKg5.out 2).trans rfl; have hfg5_2 := blk_frozen BKg5.out 2; have hcg5_3 : w7.cell? ⟨g5, 3, none⟩ = some (.int .i64 d) := (blk_cell BKg5.out 3).trans rfl; have hfg5_3 := blk_frozen BKg5.out 3; have hcg5_4 : w7.cell? ⟨g5, 4, none⟩ = some (.slice m_A slots.length m_c) := (blk_cell BKg5.out 4).trans rfl; have hfg5_4 := blk_frozen BKg5.out 4; have hcg7_0 : w7.cell? ⟨g7, 0, none⟩ = some (.int .i64 a) := (blk_cell BKg7.out 0).trans rfl; have hfg7_0 := blk_frozen BKg7.out 0; have hcg7_1 : w7.cell? ⟨g7, 1, none⟩ = some (.int .i64 b) := (blk_cell BKg7.out 1).trans rfl; have hfg7_1 := blk_frozen BKg7.out 1; have hcg7_2 : w7.cell? ⟨g7, 2, none⟩ = some (.int .i64 c) := (blk_cell BKg7.out 2).trans rfl; have hfg7_2 := blk_frozen BKg7.out 2; have hcg7_3 : w7.cell? ⟨g7, 3, none⟩ = some (.int .i64 d) := (blk_cell BKg7.out 3).trans rfl; have hfg7_3 := blk_frozen BKg7.out 3; clear tok5; have tok6 : True := trivial) | (have _ := tok6; go_at_call 43; (with_reducible refine (Gone_walk g a b c d off cut2 wr0 A4 A7 slots.length c4 c7 gone _ (by (with_reducible repeat (first | refine blk_drewN ?_ _ | refine blk_drew ?_ | refine blk_alloc ?_ _)); exact BKg.out) ?s1 (by have := Ahl2.out; omega)).mono ?_); (case s1 => exact Kd.C_below Ah7.out (by repeat (first | exact HB.out | apply below_alloc | apply pw_below_drewN | apply below_drew1))); rintro e w8 ⟨v, rfl, ho, hb⟩; (try clear hcD_0 hfD_0); (try clear hcD_1 hfD_1); (try clear hcD_2 hfD_2); (try clear hcD_3 hfD_3); (try clear hcdr_0 hfdr_0); (try clear hcdr_1 hfdr_1); (try clear hcdr_2 hfdr_2); (try clear hcdr_3 hfdr_3); (try clear hcdr_4 hfdr_4); (try clear hcdr_5 hfdr_5); (try clear hcdr_6 hfdr_6); (try clear hcg_0 hfg_0); (try clear hcg_1 hfg_1); (try clear hcg_2 hfg_2); (try clear hcg_3 hfg_3); (try clear hcg_4 hfg_4); (try clear hcg_5 hfg_5); (try clear hcg_6 hfg_6); (try clear hcg_7 hfg_7); (try clear hcg_8 hfg_8); (try clear hcg5_0 hfg5_0); (try clear hcg5_1 hfg5_1); (try clear hcg5_2 hfg5_2); (try clear hcg5_3 hfg5_3); (try clear hcg5_4 hfg5_4); (try clear hcg7_0 hfg7_0); (try clear hcg7_1 hfg7_1); (try clear hcg7_2 hfg7_2); (try clear hcg7_3 hfg7_3); have hs : Below w7.heap.size w7 w8 := below_step (by repeat (first | exact Below.refl _ _ | apply below_alloc | apply pw_below_drewN | apply below_drew1)) hb; have hl : w7.heap.size ≤ _ := below_size (w := w7) (by repeat (first | exact Below.refl _ _ | apply below_alloc | apply pw_below_drewN | apply below_drew1)); have SZ8 := Aside0.mk (show w7.heap.size ≤ w8.heap.size from hs.size); replace BKD := Aside0.mk (blk_below BKD.out hs); replace BKdr := Aside0.mk (blk_below BKdr.out hs); replace BKg := Aside0.mk (blk_below BKg.out hs); replace HOm := Aside0.mk (Kd.R_below HOm.out hs); replace BKg5 := Aside0.mk (blk_below BKg5.out hs); replace BKg7 := Aside0.mk (blk_below BKg7.out hs); replace HOx := Aside0.mk (Kd.R_below HOx.out hs); have HOy := Aside0.mk (R_iv ho (below_size (by repeat (first | exact HB.out | apply below_alloc | apply pw_below_drewN | apply below_drew1))) hl); replace HB := Aside0.mk (below_step HB.out hs); clear ho; obtain ⟨y_A, y_c, e_⟩ := Kd.R_slice HOy.out; subst e_; clear hb hs; (try clear hl); have hcD_0 : w8.cell? ⟨D, 0, none⟩ = some (.pointer (some ⟨dr, 0, none⟩)) := (blk_cell BKD.out 0).trans rfl; have hfD_0 := blk_frozen BKD.out 0; have hcD_1 : w8.cell? ⟨D, 1, none⟩ = some (.bool off) := (blk_cell BKD.out 1).trans rfl; have hfD_1 := blk_frozen BKD.out 1; have hcD_2 : w8.cell? ⟨D, 2, none⟩ = some (.int .i64 cut) := (blk_cell BKD.out 2).trans rfl; have hfD_2 := blk_frozen BKD.out 2; have hcD_3 : w8.cell? ⟨D, 3, none⟩ = some (.int .i64 wr0) := (blk_cell BKD.out 3).trans rfl; have hfD_3 := blk_frozen BKD.out 3; have hcdr_0 : w8.cell? ⟨dr, 0, none⟩ = some (.int .i64 a) := (blk_cell BKdr.out 0).trans rfl; have hfdr_0 := blk_frozen BKdr.out 0; have hcdr_1 : w8.cell? ⟨dr, 1, none⟩ = some (.int .i64 b) := (blk_cell BKdr.out 1).trans rfl; have hfdr_1 := blk_frozen BKdr.out 1; have hcdr_2 : w8.cell? ⟨dr, 2, none⟩ = some (.int .i64 c) := (blk_cell BKdr.out 2).trans rfl; have hfdr_2 := blk_frozen BKdr.out 2; have hcdr_3 : w8.cell? ⟨dr, 3, none⟩ = some (.int .i64 d) := (blk_cell BKdr.out 3).trans rfl; have hfdr_3 := blk_frozen BKdr.out 3; have hcdr_4 : w8.cell? ⟨dr, 4, none⟩ = some (.int .i64 sz) := (blk_cell BKdr.out 4).trans rfl; have hfdr_4 := blk_frozen BKdr.out 4; have hcdr_5 : w8.cell? ⟨dr, 5, none⟩ = some (.slice As slots.length cs) := (blk_cell BKdr.out 5).trans rfl; have hfdr_5 := blk_frozen BKdr.out 5; have hcdr_6 : w8.cell? ⟨dr, 6, none⟩ = some (.slice Ag gone.length cg) := (blk_cell BKdr.out 6).trans rfl; have hfdr_6 := blk_frozen BKdr.out 6; have hcg_0 : w8.cell? ⟨g, 0, none⟩ = some (.int .i64 a) := (blk_cell BKg.out 0).trans rfl; have hfg_0 := blk_frozen BKg.out 0; have hcg_1 : w8.cell? ⟨g, 1, none⟩ = some (.int .i64 b) := (blk_cell BKg.out 1).trans rfl; have hfg_1 := blk_frozen BKg.out 1; have hcg_2 : w8.cell? ⟨g, 2, none⟩ = some (.int .i64 c) := (blk_cell BKg.out 2).trans rfl; have hfg_2 := blk_frozen BKg.out 2; have hcg_3 : w8.cell? ⟨g, 3, none⟩ = some (.int .i64 d) := (blk_cell BKg.out 3).trans rfl; have hfg_3 := blk_frozen BKg.out 3; have hcg_4 : w8.cell? ⟨g, 4, none⟩ = some (.slice A4 slots.length c4) := (blk_cell BKg.out 4).trans rfl; have hfg_4 := blk_frozen BKg.out 4; have hcg_5 : w8.cell? ⟨g, 5, none⟩ = some (.bool off) := (blk_cell BKg.out 5).trans rfl; have hfg_5 := blk_frozen BKg.out 5; have hcg_6 : w8.cell? ⟨g, 6, none⟩ = some (.int .i64 cut2) := (blk_cell BKg.out 6).trans rfl; have hfg_6 := blk_frozen BKg.out 6; have hcg_7 : w8.cell? ⟨g, 7, none⟩ = some (.slice A7 gone.length c7) := (blk_cell BKg.out 7).trans rfl; have hfg_7 := blk_frozen BKg.out 7; have hcg_8 : w8.cell? ⟨g, 8, none⟩ = some (.int .i64 wr0) := (blk_cell BKg.out 8).trans rfl; have hfg_8 := blk_frozen BKg.out 8; have hcg5_0 : w8.cell? ⟨g5, 0, none⟩ = some (.int .i64 a) := (blk_cell BKg5.out 0).trans rfl; have hfg5_0 := blk_frozen BKg5.out 0; have hcg5_1 : w8.cell? ⟨g5, 1, none⟩ = some (.int .i64 b) := (blk_cell BKg5.out 1).trans rfl; have hfg5_1 := blk_frozen BKg5.out 1; have hcg5_2 : w8.cell? ⟨g5, 2, none⟩ = some (.int .i64 c) := (blk_cell BKg5.out 2).trans rfl; have hfg5_2 := blk_frozen BKg5.out 2; have hcg5_3 : w8.cell? ⟨g5, 3, none⟩ = some (.int .i64 d) := (blk_cell BKg5.out 3).trans rfl; have hfg5_3 := blk_frozen BKg5.out 3; have hcg5_4 : w8.cell? ⟨g5, 4, none⟩ = some (.slice m_A slots.length m_c) := (blk_cell BKg5.out 4).trans rfl; have hfg5_4 := blk_frozen BKg5.out 4; have hcg7_0 : w8.cell? ⟨g7, 0, none⟩ = some (.int .i64 a) := (blk_cell BKg7.out 0).trans rfl; have hfg7_0 := blk_frozen BKg7.out 0; have hcg7_1 : w8.cell? ⟨g7, 1, none⟩ = some (.int .i64 b) := (blk_cell BKg7.out 1).trans rfl; have hfg7_1 := blk_frozen BKg7.out 1; have hcg7_2 : w8.cell? ⟨g7, 2, none⟩ = some (.int .i64 c) := (blk_cell BKg7.out 2).trans rfl; have hfg7_2 := blk_frozen BKg7.out 2; have hcg7_3 : w8.cell? ⟨g7, 3, none⟩ = some (.int .i64 d) := (blk_cell BKg7.out 3).trans rfl; have hfg7_3 := blk_frozen BKg7.out 3; clear tok6))
 (try clear hcD_0 hfD_0)
 (try clear hcD_1 hfD_1)
 (try clear hcD_2 hfD_2)
 (try clear hcD_3 hfD_3)
 (try clear hcdr_0 hfdr_0)
 (try clear hcdr_1 hfdr_1)
 (try clear hcdr_2 hfdr_2)
 (try clear hcdr_3 hfdr_3)
 (try clear hcdr_4 hfdr_4)
 (try clear hcdr_5 hfdr_5)
 (try clear hcdr_6 hfdr_6)
 (try clear hcg_0 hfg_0)
 (try clear hcg_1 hfg_1)
 (try clear hcg_2 hfg_2)
 (try clear hcg_3 hfg_3)
 (try clear hcg_4 hfg_4)
 (try clear hcg_5 hfg_5)
 (try clear hcg_6 hfg_6)
 (try clear hcg_7 hfg_7)
 (try clear hcg_8 hfg_8)
 (try clear hcg5_0 hfg5_0)
 (try clear hcg5_1 hfg5_1)
 (try clear hcg5_2 hfg5_2)
 (try clear hcg5_3 hfg5_3)
 (try clear hcg5_4 hfg5_4)
 (try clear hcg7_0 hfg7_0)
 (try clear hcg7_1 hfg7_1)
 (try clear hcg7_2 hfg7_2)
 (try clear hcg7_3 hfg7_3)
 have hs : Below w8.heap.size w8 (World.drew w8) := below_drew1 (Below.refl _ _)
 have SZ9 := Aside0.mk (show w8.heap.size ≤ (World.drew w8).heap.size from hs.size)
 replace BKD := Aside0.mk (blk_below BKD.out hs)
 replace BKdr := Aside0.mk (blk_below BKdr.out hs)
 replace BKg := Aside0.mk (blk_below BKg.out hs)
 replace HOm := Aside0.mk (Kd.R_below HOm.out hs)
 replace BKg5 := Aside0.mk (blk_below BKg5.out hs)
 replace BKg7 := Aside0.mk (blk_below BKg7.out hs)
 replace HOx := Aside0.mk (Kd.R_below HOx.out hs)
 replace HOy := Aside0.mk (Kd.R_below HOy.out hs)
 have n_ := Aside0.mk (below_step HB.out hs)
 clear HB
 have HB := n_
 clear n_ hs
 refine start_ (n := 49) (S := fun w' => w'.cell? ⟨D, 0, none⟩ = some (.pointer (some ⟨dr, 0, none⟩)) ∧ w'.cell? ⟨D, 1, none⟩ = some (.bool off) ∧ w'.cell? ⟨D, 2, none⟩ = some (.int .i64 cut) ∧ w'.cell? ⟨D, 3, none⟩ = some (.int .i64 wr0) ∧ w'.cell? ⟨dr, 0, none⟩ = some (.int .i64 a) ∧ w'.cell? ⟨dr, 1, none⟩ = some (.int .i64 b) ∧ w'.cell? ⟨dr, 2, none⟩ = some (.int .i64 c) ∧ w'.cell? ⟨dr, 3, none⟩ = some (.int .i64 d) ∧ w'.cell? ⟨dr, 4, none⟩ = some (.int .i64 sz) ∧ w'.cell? ⟨dr, 5, none⟩ = some (.slice As slots.length cs) ∧ w'.cell? ⟨dr, 6, none⟩ = some (.slice Ag gone.length cg) ∧ w'.cell? ⟨g, 0, none⟩ = some (.int .i64 a) ∧ w'.cell? ⟨g, 1, none⟩ = some (.int .i64 b) ∧ w'.cell? ⟨g, 2, none⟩ = some (.int .i64 c) ∧ w'.cell? ⟨g, 3, none⟩ = some (.int .i64 d) ∧ w'.cell? ⟨g, 4, none⟩ = some (.slice A4 slots.length c4) ∧ w'.cell? ⟨g, 5, none⟩ = some (.bool off) ∧ w'.cell? ⟨g, 6, none⟩ = some (.int .i64 cut2) ∧ w'.cell? ⟨g, 7, none⟩ = some (.slice A7 gone.length c7) ∧ w'.cell? ⟨g, 8, none⟩ = some (.int .i64 wr0) ∧ w'.cell? ⟨g5, 0, none⟩ = some (.int .i64 a) ∧ w'.cell? ⟨g5, 1, none⟩ = some (.int .i64 b) ∧ w'.cell? ⟨g5, 2, none⟩ = some (.int .i64 c) ∧ w'.cell? ⟨g5, 3, none⟩ = some (.int .i64 d) ∧ w'.cell? ⟨g5, 4, none⟩ = some (.slice m_A slots.length m_c) ∧ w'.cell? ⟨g7, 0, none⟩ = some (.int .i64 a) ∧ w'.cell? ⟨g7, 1, none⟩ = some (.int .i64 b) ∧ w'.cell? ⟨g7, 2, none⟩ = some (.int .i64 c) ∧ w'.cell? ⟨g7, 3, none⟩ = some (.int .i64 d)) (ds := []) #[false, false, false, false, false, false, false, false, false, false, false, false, false, false, false, false, false, false, false, false, false, false, false, false, false, false, false, false, false, false, false, false, false, false, false, false, false, false, false, false, false, false, false, false, false, false, false, false, false] (by kernel_rfl) rfl rfl ⟨(blk_cell BKD.out 0).trans rfl, (blk_cell BKD.out 1).trans rfl, (blk_cell BKD.out 2).trans rfl, (blk_cell BKD.out 3).trans rfl, (blk_cell BKdr.out 0).trans rfl, (blk_cell BKdr.out 1).trans rfl, (blk_cell BKdr.out 2).trans rfl, (blk_cell BKdr.out 3).trans rfl, (blk_cell BKdr.out 4).trans rfl, (blk_cell BKdr.out 5).trans rfl, (blk_cell BKdr.out 6).trans rfl, (blk_cell BKg.out 0).trans rfl, (blk_cell BKg.out 1).trans rfl, (blk_cell BKg.out 2).trans rfl, (blk_cell BKg.out 3).trans rfl, (blk_cell BKg.out 4).trans rfl, (blk_cell BKg.out 5).trans rfl, (blk_cell BKg.out 6).trans rfl, (blk_cell BKg.out 7).trans rfl, (blk_cell BKg.out 8).trans rfl, (blk_cell BKg5.out 0).trans rfl, (blk_cell BKg5.out 1).trans rfl, (blk_cell BKg5.out 2).trans rfl, (blk_cell BKg5.out 3).trans rfl, (blk_cell BKg5.out 4).trans rfl, (blk_cell BKg7.out 0).trans rfl, (blk_cell BKg7.out 1).trans rfl, (blk_cell BKg7.out 2).trans rfl, (blk_cell BKg7.out 3).trans rfl⟩ (fun hHeld => ?_)
 generalize World.drew w8 = w9 at HB BKD BKdr BKg HOm BKg5 BKg7 HOx HOy SZ9 hHeld ⊢
 refine pure_ (i := 0) (N := some 26) (v := ?_) (a' := ?_) #[true, false, false, false, false, false, false, false, false, false, false, false, false, false, false, false, false, false, false, false, false, false, false, false, false, false, false, false, false, false, false, false, false, false, false, false, false, false, false, false, false, false, false, false, false, false, false, false, false] rfl rfl (by kernel_rfl) (fun _ _ _ h => h) (Or.inl ⟨by rfl, ?_⟩) ?_ ?_
 rotate_left
 ·
  intro w'
  go_simp
  with_reducible rfl
 rotate_left
 ·
  simp only [Act.put, List.setIfInBounds_toArray, List.set_cons_zero, List.set_cons_succ, i64_w, i32_w]
  rfl
 refine pure_ (i := 1) (N := some 27) (v := ?_) (a' := ?_) #[true, true, false, false, false, false, false, false, false, false, false, false, false, false, false, false, false, false, false, false, false, false, false, false, false, false, false, false, false, false, false, false, false, false, false, false, false, false, false, false, false, false, false, false, false, false, false, false, false] rfl rfl (by kernel_rfl) (fun _ _ _ h => h) (Or.inl ⟨by rfl, ?_⟩) ?_ ?_
 rotate_left
 ·
  intro w'
  go_simp
  with_reducible rfl
 rotate_left
 ·
  simp only [Act.put, List.setIfInBounds_toArray, List.set_cons_zero, List.set_cons_succ, i64_w, i32_w]
  rfl
 refine pure_ (i := 2) (N := some 28) (v := ?_) (a' := ?_) #[true, true, true, false, false, false, false, false, false, false, false, false, false, false, false, false, false, false, false, false, false, false, false, false, false, false, false, false, false, false, false, false, false, false, false, false, false, false, false, false, false, false, false, false, false, false, false, false, false] rfl rfl (by kernel_rfl) (fun _ _ _ h => h) (Or.inl ⟨by rfl, ?_⟩) ?_ ?_
 rotate_left
 ·
  intro w'
  go_simp
  with_reducible rfl
 rotate_left
 ·
  simp only [Act.put, List.setIfInBounds_toArray, List.set_cons_zero, List.set_cons_succ, i64_w, i32_w]
  rfl
 refine pure_ (i := 3) (N := some 29) (v := ?_) (a' := ?_) #[true, true, true, true, false, false, false, false, false, false, false, false, false, false, false, false, false, false, false, false, false, false, false, false, false, false, false, false, false, false, false, false, false, false, false, false, false, false, false, false, false, false, false, false, false, false, false, false, false] rfl rfl (by kernel_rfl) (fun _ _ _ h => h) (Or.inl ⟨by rfl, ?_⟩) ?_ ?_
 rotate_left
 ·
  intro w'
  go_simp
  with_reducible rfl
 rotate_left
 ·
  simp only [Act.put, List.setIfInBounds_toArray, List.set_cons_zero, List.set_cons_succ, i64_w, i32_w]
  rfl
 refine pure_ (i := 4) (N := some 30) (v := ?_) (a' := ?_) #[true, true, true, true, true, false, false, false, false, false, false, false, false, false, false, false, false, false, false, false, false, false, false, false, false, false, false, false, false, false, false, false, false, false, false, false, false, false, false, false, false, false, false, false, false, false, false, false, false] rfl rfl (by kernel_rfl) (fun _ _ _ h => h) (Or.inl ⟨by rfl, ?_⟩) ?_ ?_
 rotate_left
 ·
  intro w'
  go_simp
  with_reducible rfl
 rotate_left
 ·
  simp only [Act.put, List.setIfInBounds_toArray, List.set_cons_zero, List.set_cons_succ, i64_w, i32_w]
  rfl
 refine pure_ (i := 5) (N := some 31) (v := ?_) (a' := ?_) #[true, true, true, true, true, true, false, false, false, false, false, false, false, false, false, false, false, false, false, false, false, false, false, false, false, false, false, false, false, false, false, false, false, false, false, false, false, false, false, false, false, false, false, false, false, false, false, false, false] rfl rfl (by kernel_rfl) (fun _ _ _ h => h) (Or.inl ⟨by rfl, ?_⟩) ?_ ?_
 rotate_left
 ·
  intro w'
  go_simp
  with_reducible rfl
 rotate_left
 ·
  simp only [Act.put, List.setIfInBounds_toArray, List.set_cons_zero, List.set_cons_succ, i64_w, i32_w]
  rfl
 refine pure_ (i := 6) (N := some 32) (v := ?_) (a' := ?_) #[true, true, true, true, true, true, true, false, false, false, false, false, false, false, false, false, false, false, false, false, false, false, false, false, false, false, false, false, false, false, false, false, false, false, false, false, false, false, false, false, false, false, false, false, false, false, false, false, false] rfl rfl (by kernel_rfl) (fun _ _ _ h => h) (Or.inl ⟨by rfl, ?_⟩) ?_ ?_
 rotate_left
 ·
  intro w'
  go_simp
  with_reducible rfl
 rotate_left
 ·
  simp only [Act.put, List.setIfInBounds_toArray, List.set_cons_zero, List.set_cons_succ, i64_w, i32_w]
  rfl
 refine pure_ (i := 8) (N := some 34) (v := ?_) (a' := ?_) #[true, true, true, true, true, true, true, false, true, false, false, false, false, false, false, false, false, false, false, false, false, false, false, false, false, false, false, false, false, false, false, false, false, false, false, false, false, false, false, false, false, false, false, false, false, false, false, false, false] rfl rfl (by kernel_rfl) (fun _ _ _ h => h) (Or.inl ⟨by rfl, ?_⟩) ?_ ?_
 rotate_left
 ·
  intro w'
  go_simp
  with_reducible rfl
 rotate_left
 ·
  simp only [Act.put, List.setIfInBounds_toArray, List.set_cons_zero, List.set_cons_succ, i64_w, i32_w]
  rfl
 refine pure_ (i := 9) (N := some 35) (v := ?_) (a' := ?_) #[true, true, true, true, true, true, true, false, true, true, false, false, false, false, false, false, false, false, false, false, false, false, false, false, false, false, false, false, false, false, false, false, false, false, false, false, false, false, false, false, false, false, false, false, false, false, false, false, false] rfl rfl (by kernel_rfl) (fun _ _ _ h => h) (Or.inl ⟨by rfl, ?_⟩) ?_ ?_
 rotate_left
 ·
  intro w'
  go_simp
  with_reducible rfl
 rotate_left
 ·
  simp only [Act.put, List.setIfInBounds_toArray, List.set_cons_zero, List.set_cons_succ, i64_w, i32_w]
  rfl
 refine pure_ (i := 10) (N := some 36) (v := ?_) (a' := ?_) #[true, true, true, true, true, true, true, false, true, true, true, false, false, false, false, false, false, false, false, false, false, false, false, false, false, false, false, false, false, false, false, false, false, false, false, false, false, false, false, false, false, false, false, false, false, false, false, false, false] rfl rfl (by kernel_rfl) (fun _ _ _ h => h) (Or.inl ⟨by rfl, ?_⟩) ?_ ?_
 rotate_left
 ·
  intro w'
  go_simp
  with_reducible rfl
 rotate_left
 ·
  simp only [Act.put, List.setIfInBounds_toArray, List.set_cons_zero, List.set_cons_succ, i64_w, i32_w]
  rfl
 refine pure_ (i := 11) (N := some 37) (v := ?_) (a' := ?_) #[true, true, true, true, true, true, true, false, true, true, true, true, false, false, false, false, false, false, false, false, false, false, false, false, false, false, false, false, false, false, false, false, false, false, false, false, false, false, false, false, false, false, false, false, false, false, false, false, false] rfl rfl (by kernel_rfl) (fun _ _ _ h => h) (Or.inl ⟨by rfl, ?_⟩) ?_ ?_
 rotate_left
 ·
  intro w'
  go_simp
  with_reducible rfl
 rotate_left
 ·
  simp only [Act.put, List.setIfInBounds_toArray, List.set_cons_zero, List.set_cons_succ, i64_w, i32_w]
  rfl
 refine take_ (i := 7) (N := some 33) (v := ?_) (a' := ?_) #[true, true, true, true, true, true, true, true, true, true, true, true, false, false, false, false, false, false, false, false, false, false, false, false, false, false, false, false, false, false, false, false, false, false, false, false, false, false, false, false, false, false, false, false, false, false, false, false, false] rfl rfl (by kernel_rfl) (fun _ _ _ h => h) (Or.inl ⟨by rfl, ?_⟩) hHeld ?_ ?_
 rotate_left
 ·
  rintro w' ⟨s0, s1, s2, s3, s4, s5, s6, s7, s8, s9, s10, s11, s12, s13, s14, s15, s16, s17, s18, s19, s20, s21, s22, s23, s24, s25, s26, s27, s28⟩
  go_simp
  with_reducible rfl
 rotate_left
 ·
  simp only [Act.put, List.setIfInBounds_toArray, List.set_cons_zero, List.set_cons_succ, i64_w, i32_w]
  rfl
 refine take_ (i := 12) (N := some 38) (v := ?_) (a' := ?_) #[true, true, true, true, true, true, true, true, true, true, true, true, true, false, false, false, false, false, false, false, false, false, false, false, false, false, false, false, false, false, false, false, false, false, false, false, false, false, false, false, false, false, false, false, false, false, false, false, false] rfl rfl (by kernel_rfl) (fun _ _ _ h => h) (Or.inl ⟨by rfl, ?_⟩) hHeld ?_ ?_
 rotate_left
 ·
  rintro w' ⟨s0, s1, s2, s3, s4, s5, s6, s7, s8, s9, s10, s11, s12, s13, s14, s15, s16, s17, s18, s19, s20, s21, s22, s23, s24, s25, s26, s27, s28⟩
  go_simp
  with_reducible rfl
 rotate_left
 ·
  simp only [Act.put, List.setIfInBounds_toArray, List.set_cons_zero, List.set_cons_succ, i64_w, i32_w]
  rfl
 refine pure_ (i := 13) (N := some 39) (v := ?_) (a' := ?_) #[true, true, true, true, true, true, true, true, true, true, true, true, true, true, false, false, false, false, false, false, false, false, false, false, false, false, false, false, false, false, false, false, false, false, false, false, false, false, false, false, false, false, false, false, false, false, false, false, false] rfl rfl (by kernel_rfl) (fun _ _ _ h => h) (Or.inl ⟨by rfl, ?_⟩) ?_ ?_
 rotate_left
 ·
  intro w'
  go_simp
  with_reducible rfl
 rotate_left
 ·
  simp only [Act.put, List.setIfInBounds_toArray, List.set_cons_zero, List.set_cons_succ, i64_w, i32_w]
  rfl
 refine pure_ (i := 14) (N := some 40) (v := ?_) (a' := ?_) #[true, true, true, true, true, true, true, true, true, true, true, true, true, true, true, false, false, false, false, false, false, false, false, false, false, false, false, false, false, false, false, false, false, false, false, false, false, false, false, false, false, false, false, false, false, false, false, false, false] rfl rfl (by kernel_rfl) (fun _ _ _ h => h) (Or.inl ⟨by rfl, ?_⟩) ?_ ?_
 rotate_left
 ·
  intro w'
  go_simp
  with_reducible rfl
 rotate_left
 ·
  simp only [Act.put, List.setIfInBounds_toArray, List.set_cons_zero, List.set_cons_succ, i64_w, i32_w]
  rfl
 refine pure_ (i := 15) (N := some 41) (v := ?_) (a' := ?_) #[true, true, true, true, true, true, true, true, true, true, true, true, true, true, true, true, false, false, false, false, false, false, false, false, false, false, false, false, false, false, false, false, false, false, false, false, false, false, false, false, false, false, false, false, false, false, false, false, false] rfl rfl (by kernel_rfl) (fun _ _ _ h => h) (Or.inl ⟨by rfl, ?_⟩) ?_ ?_
 rotate_left
 ·
  intro w'
  go_simp
  with_reducible rfl
 rotate_left
 ·
  simp only [Act.put, List.setIfInBounds_toArray, List.set_cons_zero, List.set_cons_succ, i64_w, i32_w]
  rfl
 refine pure_ (i := 17) (N := some 43) (v := ?_) (a' := ?_) #[true, true, true, true, true, true, true, true, true, true, true, true, true, true, true, true, false, true, false, false, false, false, false, false, false, false, false, false, false, false, false, false, false, false, false, false, false, false, false, false, false, false, false, false, false, false, false, false, false] rfl rfl (by kernel_rfl) (fun _ _ _ h => h) (Or.inl ⟨by rfl, ?_⟩) ?_ ?_
 rotate_left
 ·
  intro w'
  go_simp
  with_reducible rfl
 rotate_left
 ·
  simp only [Act.put, List.setIfInBounds_toArray, List.set_cons_zero, List.set_cons_succ, i64_w, i32_w]
  rfl
 refine pure_ (i := 18) (N := some 44) (v := ?_) (a' := ?_) #[true, true, true, true, true, true, true, true, true, true, true, true, true, true, true, true, false, true, true, false, false, false, false, false, false, false, false, false, false, false, false, false, false, false, false, false, false, false, false, false, false, false, false, false, false, false, false, false, false] rfl rfl (by kernel_rfl) (fun _ _ _ h => h) (Or.inl ⟨by rfl, ?_⟩) ?_ ?_
 rotate_left
 ·
  intro w'
  go_simp
  with_reducible rfl
 rotate_left
 ·
  simp only [Act.put, List.setIfInBounds_toArray, List.set_cons_zero, List.set_cons_succ, i64_w, i32_w]
  rfl
 refine pure_ (i := 19) (N := some 45) (v := ?_) (a' := ?_) #[true, true, true, true, true, true, true, true, true, true, true, true, true, true, true, true, false, true, true, true, false, false, false, false, false, false, false, false, false, false, false, false, false, false, false, false, false, false, false, false, false, false, false, false, false, false, false, false, false] rfl rfl (by kernel_rfl) (fun _ _ _ h => h) (Or.inl ⟨by rfl, ?_⟩) ?_ ?_
 rotate_left
 ·
  intro w'
  go_simp
  with_reducible rfl
 rotate_left
 ·
  simp only [Act.put, List.setIfInBounds_toArray, List.set_cons_zero, List.set_cons_succ, i64_w, i32_w]
  rfl
 refine take_ (i := 16) (N := some 42) (v := ?_) (a' := ?_) #[true, true, true, true, true, true, true, true, true, true, true, true, true, true, true, true, true, true, true, true, false, false, false, false, false, false, false, false, false, false, false, false, false, false, false, false, false, false, false, false, false, false, false, false, false, false, false, false, false] rfl rfl (by kernel_rfl) (fun _ _ _ h => h) (Or.inl ⟨by rfl, ?_⟩) hHeld ?_ ?_
 rotate_left
 ·
  rintro w' ⟨s0, s1, s2, s3, s4, s5, s6, s7, s8, s9, s10, s11, s12, s13, s14, s15, s16, s17, s18, s19, s20, s21, s22, s23, s24, s25, s26, s27, s28⟩
  go_simp
  with_reducible rfl
 rotate_left
 ·
  simp only [Act.put, List.setIfInBounds_toArray, List.set_cons_zero, List.set_cons_succ, i64_w, i32_w]
  rfl
 refine take_ (i := 20) (N := some 46) (v := ?_) (a' := ?_) #[true, true, true, true, true, true, true, true, true, true, true, true, true, true, true, true, true, true, true, true, true, false, false, false, false, false, false, false, false, false, false, false, false, false, false, false, false, false, false, false, false, false, false, false, false, false, false, false, false] rfl rfl (by kernel_rfl) (fun _ _ _ h => h) (Or.inl ⟨by rfl, ?_⟩) hHeld ?_ ?_
 rotate_left
 ·
  rintro w' ⟨s0, s1, s2, s3, s4, s5, s6, s7, s8, s9, s10, s11, s12, s13, s14, s15, s16, s17, s18, s19, s20, s21, s22, s23, s24, s25, s26, s27, s28⟩
  go_simp
  with_reducible rfl
 rotate_left
 ·
  simp only [Act.put, List.setIfInBounds_toArray, List.set_cons_zero, List.set_cons_succ, i64_w, i32_w]
  rfl
 refine one_ (i := 21) (N := some 47) #[true, true, true, true, true, true, true, true, true, true, true, true, true, true, true, true, true, true, true, true, true, true, false, false, false, false, false, false, false, false, false, false, false, false, false, false, false, false, false, false, false, false, false, false, false, false, false, false, false] rfl rfl (by kernel_rfl) (by decide) (fun K hK => ?_)
 refine goes_ Try.func44 (by kernel_rfl) rfl #[.agg #[.int .i64 a, .int .i64 b, .int .i64 c, .int .i64 d, .slice m_A slots.length m_c], .agg #[.int .i64 a, .int .i64 b, .int .i64 c, .int .i64 d, .slice A4 slots.length c4]] (by rfl) rfl rfl (by simp only [List.map_toArray, List.map_cons, List.map_nil]; rfl) ?_
 with_reducible refine (twoslotref08_Same.calls 20000 a b c d m_A m_c slots a b c d A4 c4 slots true _ ?s1 (Kd.R_reads' HOm.out).2.1 ?s2 Ahc4.out AhSm.out).mono ?_
 (case s1 => exact Kd.C_below (Kd.R_reads' HOm.out).2.2 (by repeat (first | exact Below.refl _ _ | apply below_alloc | apply pw_below_drewN | apply below_drew1)))
 (case s2 => exact Kd.C_below Ah4.out (by repeat (first | exact HB.out | apply below_alloc | apply pw_below_drewN | apply below_drew1)))
 rintro e w10 ⟨rfl, hb⟩
 refine ⟨_, rfl, ?_⟩
 have hs : Below w9.heap.size w9 w10 := below_step (by repeat (first | exact Below.refl _ _ | apply below_alloc | apply pw_below_drewN | apply below_drew1)) hb
 have hl : w9.heap.size ≤ _ := below_size (w := w9) (by repeat (first | exact Below.refl _ _ | apply below_alloc | apply pw_below_drewN | apply below_drew1))
 have SZ10 := Aside0.mk (show w9.heap.size ≤ w10.heap.size from hs.size)
 replace BKD := Aside0.mk (blk_below BKD.out hs)
 replace BKdr := Aside0.mk (blk_below BKdr.out hs)
 replace BKg := Aside0.mk (blk_below BKg.out hs)
 replace HOm := Aside0.mk (Kd.R_below HOm.out hs)
 replace BKg5 := Aside0.mk (blk_below BKg5.out hs)
 replace BKg7 := Aside0.mk (blk_below BKg7.out hs)
 replace HOx := Aside0.mk (Kd.R_below HOx.out hs)
 replace HOy := Aside0.mk (Kd.R_below HOy.out hs)
 have n_ := Aside0.mk (below_step HB.out hs)
 clear HB
 have HB := n_
 clear n_ hs hb
 (try clear hl)
 refine hK.out _ _ ⟨(blk_cell BKD.out 0).trans rfl, (blk_cell BKD.out 1).trans rfl, (blk_cell BKD.out 2).trans rfl, (blk_cell BKD.out 3).trans rfl, (blk_cell BKdr.out 0).trans rfl, (blk_cell BKdr.out 1).trans rfl, (blk_cell BKdr.out 2).trans rfl, (blk_cell BKdr.out 3).trans rfl, (blk_cell BKdr.out 4).trans rfl, (blk_cell BKdr.out 5).trans rfl, (blk_cell BKdr.out 6).trans rfl, (blk_cell BKg.out 0).trans rfl, (blk_cell BKg.out 1).trans rfl, (blk_cell BKg.out 2).trans rfl, (blk_cell BKg.out 3).trans rfl, (blk_cell BKg.out 4).trans rfl, (blk_cell BKg.out 5).trans rfl, (blk_cell BKg.out 6).trans rfl, (blk_cell BKg.out 7).trans rfl, (blk_cell BKg.out 8).trans rfl, (blk_cell BKg5.out 0).trans rfl, (blk_cell BKg5.out 1).trans rfl, (blk_cell BKg5.out 2).trans rfl, (blk_cell BKg5.out 3).trans rfl, (blk_cell BKg5.out 4).trans rfl, (blk_cell BKg7.out 0).trans rfl, (blk_cell BKg7.out 1).trans rfl, (blk_cell BKg7.out 2).trans rfl, (blk_cell BKg7.out 3).trans rfl⟩ (fun hHeld => ?_)
 clear hK K
 refine norm_ (a' := ?_) ?_ ?_
 rotate_left
 ·
  show Act.put _ (some 47) _ = _
  simp only [Act.put, List.setIfInBounds_toArray, List.set_cons_zero, List.set_cons_succ, i64_w, i32_w]
  rfl
 refine pure_ (i := 22) (N := some 48) (v := ?_) (a' := ?_) #[true, true, true, true, true, true, true, true, true, true, true, true, true, true, true, true, true, true, true, true, true, true, true, false, false, false, false, false, false, false, false, false, false, false, false, false, false, false, false, false, false, false, false, false, false, false, false, false, false] rfl rfl (by kernel_rfl) (fun _ _ _ h => h) (Or.inl ⟨by rfl, ?_⟩) ?_ ?_
 rotate_left
 ·
  intro w'
  go_simp
  with_reducible rfl
 rotate_left
 ·
  simp only [Act.put, List.setIfInBounds_toArray, List.set_cons_zero, List.set_cons_succ, i64_w, i32_w]
  rfl
 refine pure_ (i := 23) (N := some 49) (v := ?_) (a' := ?_) #[true, true, true, true, true, true, true, true, true, true, true, true, true, true, true, true, true, true, true, true, true, true, true, true, false, false, false, false, false, false, false, false, false, false, false, false, false, false, false, false, false, false, false, false, false, false, false, false, false] rfl rfl (by kernel_rfl) (fun _ _ _ h => h) (Or.inl ⟨by rfl, ?_⟩) ?_ ?_
 rotate_left
 ·
  intro w'
  go_simp
  with_reducible rfl
 rotate_left
 ·
  simp only [Act.put, List.setIfInBounds_toArray, List.set_cons_zero, List.set_cons_succ, i64_w, i32_w]
  rfl
 refine pure_ (i := 24) (N := some 50) (v := ?_) (a' := ?_) #[true, true, true, true, true, true, true, true, true, true, true, true, true, true, true, true, true, true, true, true, true, true, true, true, true, false, false, false, false, false, false, false, false, false, false, false, false, false, false, false, false, false, false, false, false, false, false, false, false] rfl rfl (by kernel_rfl) (fun _ _ _ h => h) (Or.inl ⟨by rfl, ?_⟩) ?_ ?_
 rotate_left
 ·
  intro w'
  go_simp
  with_reducible rfl
 rotate_left
 ·
  simp only [Act.put, List.setIfInBounds_toArray, List.set_cons_zero, List.set_cons_succ, i64_w, i32_w]
  rfl
 refine pure_ (i := 25) (N := some 51) (v := ?_) (a' := ?_) #[true, true, true, true, true, true, true, true, true, true, true, true, true, true, true, true, true, true, true, true, true, true, true, true, true, true, false, false, false, false, false, false, false, false, false, false, false, false, false, false, false, false, false, false, false, false, false, false, false] rfl rfl (by kernel_rfl) (fun _ _ _ h => h) (Or.inl ⟨by rfl, ?_⟩) ?_ ?_
 rotate_left
 ·
  intro w'
  go_simp
  with_reducible rfl
 rotate_left
 ·
  simp only [Act.put, List.setIfInBounds_toArray, List.set_cons_zero, List.set_cons_succ, i64_w, i32_w]
  rfl
 refine pure_ (i := 27) (N := some 53) (v := ?_) (a' := ?_) #[true, true, true, true, true, true, true, true, true, true, true, true, true, true, true, true, true, true, true, true, true, true, true, true, true, true, false, true, false, false, false, false, false, false, false, false, false, false, false, false, false, false, false, false, false, false, false, false, false] rfl rfl (by kernel_rfl) (fun _ _ _ h => h) (Or.inl ⟨by rfl, ?_⟩) ?_ ?_
 rotate_left
 ·
  intro w'
  go_simp
  with_reducible rfl
 rotate_left
 ·
  simp only [Act.put, List.setIfInBounds_toArray, List.set_cons_zero, List.set_cons_succ, i64_w, i32_w]
  rfl
 refine pure_ (i := 28) (N := some 54) (v := ?_) (a' := ?_) #[true, true, true, true, true, true, true, true, true, true, true, true, true, true, true, true, true, true, true, true, true, true, true, true, true, true, false, true, true, false, false, false, false, false, false, false, false, false, false, false, false, false, false, false, false, false, false, false, false] rfl rfl (by kernel_rfl) (fun _ _ _ h => h) (Or.inl ⟨by rfl, ?_⟩) ?_ ?_
 rotate_left
 ·
  intro w'
  go_simp
  with_reducible rfl
 rotate_left
 ·
  simp only [Act.put, List.setIfInBounds_toArray, List.set_cons_zero, List.set_cons_succ, i64_w, i32_w]
  rfl
 refine pure_ (i := 29) (N := some 55) (v := ?_) (a' := ?_) #[true, true, true, true, true, true, true, true, true, true, true, true, true, true, true, true, true, true, true, true, true, true, true, true, true, true, false, true, true, true, false, false, false, false, false, false, false, false, false, false, false, false, false, false, false, false, false, false, false] rfl rfl (by kernel_rfl) (fun _ _ _ h => h) (Or.inl ⟨by rfl, ?_⟩) ?_ ?_
 rotate_left
 ·
  intro w'
  go_simp
  with_reducible rfl
 rotate_left
 ·
  simp only [Act.put, List.setIfInBounds_toArray, List.set_cons_zero, List.set_cons_succ, i64_w, i32_w]
  rfl
 refine take_ (i := 30) (N := some 56) (v := ?_) (a' := ?_) #[true, true, true, true, true, true, true, true, true, true, true, true, true, true, true, true, true, true, true, true, true, true, true, true, true, true, false, true, true, true, true, false, false, false, false, false, false, false, false, false, false, false, false, false, false, false, false, false, false] rfl rfl (by kernel_rfl) (fun _ _ _ h => h) (Or.inl ⟨by rfl, ?_⟩) hHeld ?_ ?_
 rotate_left
 ·
  rintro w' ⟨s0, s1, s2, s3, s4, s5, s6, s7, s8, s9, s10, s11, s12, s13, s14, s15, s16, s17, s18, s19, s20, s21, s22, s23, s24, s25, s26, s27, s28⟩
  go_simp
  with_reducible rfl
 rotate_left
 ·
  simp only [Act.put, List.setIfInBounds_toArray, List.set_cons_zero, List.set_cons_succ, i64_w, i32_w]
  rfl
 refine one_ (i := 26) (N := some 52) #[true, true, true, true, true, true, true, true, true, true, true, true, true, true, true, true, true, true, true, true, true, true, true, true, true, true, true, true, true, true, true, false, false, false, false, false, false, false, false, false, false, false, false, false, false, false, false, false, false] rfl rfl (by kernel_rfl) (by decide) (fun K hK => ?_)
 refine goes_ Try.func19 (by kernel_rfl) rfl #[.pointer (some ⟨D, 0, none⟩)] (by rfl) rfl rfl (by simp only [List.map_toArray, List.map_cons, List.map_nil]; rfl) ?_
 with_reducible refine (Off_yes D dr off _ wr0 _ (by (with_reducible repeat (first | refine blk_drewN ?_ _ | refine blk_drew ?_ | refine blk_alloc ?_ _)); exact BKD.out)).mono ?_
 rintro e w11 ⟨rfl, hb⟩
 refine ⟨_, rfl, ?_⟩
 have hs : Below w10.heap.size w10 w11 := below_step (by repeat (first | exact Below.refl _ _ | apply below_alloc | apply pw_below_drewN | apply below_drew1)) hb
 have hl : w10.heap.size ≤ _ := below_size (w := w10) (by repeat (first | exact Below.refl _ _ | apply below_alloc | apply pw_below_drewN | apply below_drew1))
 have SZ11 := Aside0.mk (show w10.heap.size ≤ w11.heap.size from hs.size)
 replace BKD := Aside0.mk (blk_below BKD.out hs)
 replace BKdr := Aside0.mk (blk_below BKdr.out hs)
 replace BKg := Aside0.mk (blk_below BKg.out hs)
 replace HOm := Aside0.mk (Kd.R_below HOm.out hs)
 replace BKg5 := Aside0.mk (blk_below BKg5.out hs)
 replace BKg7 := Aside0.mk (blk_below BKg7.out hs)
 replace HOx := Aside0.mk (Kd.R_below HOx.out hs)
 replace HOy := Aside0.mk (Kd.R_below HOy.out hs)
 have n_ := Aside0.mk (below_step HB.out hs)
 clear HB
 have HB := n_
 clear n_ hs hb
 (try clear hl)
 refine hK.out _ _ ⟨(blk_cell BKD.out 0).trans rfl, (blk_cell BKD.out 1).trans rfl, (blk_cell BKD.out 2).trans rfl, (blk_cell BKD.out 3).trans rfl, (blk_cell BKdr.out 0).trans rfl, (blk_cell BKdr.out 1).trans rfl, (blk_cell BKdr.out 2).trans rfl, (blk_cell BKdr.out 3).trans rfl, (blk_cell BKdr.out 4).trans rfl, (blk_cell BKdr.out 5).trans rfl, (blk_cell BKdr.out 6).trans rfl, (blk_cell BKg.out 0).trans rfl, (blk_cell BKg.out 1).trans rfl, (blk_cell BKg.out 2).trans rfl, (blk_cell BKg.out 3).trans rfl, (blk_cell BKg.out 4).trans rfl, (blk_cell BKg.out 5).trans rfl, (blk_cell BKg.out 6).trans rfl, (blk_cell BKg.out 7).trans rfl, (blk_cell BKg.out 8).trans rfl, (blk_cell BKg5.out 0).trans rfl, (blk_cell BKg5.out 1).trans rfl, (blk_cell BKg5.out 2).trans rfl, (blk_cell BKg5.out 3).trans rfl, (blk_cell BKg5.out 4).trans rfl, (blk_cell BKg7.out 0).trans rfl, (blk_cell BKg7.out 1).trans rfl, (blk_cell BKg7.out 2).trans rfl, (blk_cell BKg7.out 3).trans rfl⟩ (fun hHeld => ?_)
 clear hK K
 refine norm_ (a' := ?_) ?_ ?_
 rotate_left
 ·
  show Act.put _ (some 52) _ = _
  simp only [Act.put, List.setIfInBounds_toArray, List.set_cons_zero, List.set_cons_succ, i64_w, i32_w]
  rfl
 refine pure_ (i := 31) (N := some 57) (v := ?_) (a' := ?_) #[true, true, true, true, true, true, true, true, true, true, true, true, true, true, true, true, true, true, true, true, true, true, true, true, true, true, true, true, true, true, true, true, false, false, false, false, false, false, false, false, false, false, false, false, false, false, false, false, false] rfl rfl (by kernel_rfl) (fun _ _ _ h => h) (Or.inl ⟨by rfl, ?_⟩) ?_ ?_
 rotate_left
 ·
  intro w'
  go_simp
  with_reducible rfl
 rotate_left
 ·
  simp only [Act.put, List.setIfInBounds_toArray, List.set_cons_zero, List.set_cons_succ, i64_w, i32_w]
  rfl
 refine pure_ (i := 32) (N := some 58) (v := ?_) (a' := ?_) #[true, true, true, true, true, true, true, true, true, true, true, true, true, true, true, true, true, true, true, true, true, true, true, true, true, true, true, true, true, true, true, true, true, false, false, false, false, false, false, false, false, false, false, false, false, false, false, false, false] rfl rfl (by kernel_rfl) (fun _ _ _ h => h) (Or.inl ⟨by rfl, ?_⟩) ?_ ?_
 rotate_left
 ·
  intro w'
  go_simp
  with_reducible rfl
 rotate_left
 ·
  simp only [Act.put, List.setIfInBounds_toArray, List.set_cons_zero, List.set_cons_succ, i64_w, i32_w]
  rfl
 refine pure_ (i := 33) (N := some 59) (v := ?_) (a' := ?_) #[true, true, true, true, true, true, true, true, true, true, true, true, true, true, true, true, true, true, true, true, true, true, true, true, true, true, true, true, true, true, true, true, true, true, false, false, false, false, false, false, false, false, false, false, false, false, false, false, false] rfl rfl (by kernel_rfl) (fun _ _ _ h => h) (Or.inl ⟨by rfl, ?_⟩) ?_ ?_
 rotate_left
 ·
  intro w'
  go_simp
  with_reducible rfl
 rotate_left
 ·
  simp only [Act.put, List.setIfInBounds_toArray, List.set_cons_zero, List.set_cons_succ, i64_w, i32_w]
  rfl
 refine pure_ (i := 34) (N := some 60) (v := ?_) (a' := ?_) #[true, true, true, true, true, true, true, true, true, true, true, true, true, true, true, true, true, true, true, true, true, true, true, true, true, true, true, true, true, true, true, true, true, true, true, false, false, false, false, false, false, false, false, false, false, false, false, false, false] rfl rfl (by kernel_rfl) (fun _ _ _ h => h) (Or.inl ⟨by rfl, ?_⟩) ?_ ?_
 rotate_left
 ·
  intro w'
  go_simp
  with_reducible rfl
 rotate_left
 ·
  simp only [Act.put, List.setIfInBounds_toArray, List.set_cons_zero, List.set_cons_succ, i64_w, i32_w]
  rfl
 refine pure_ (i := 36) (N := some 62) (v := ?_) (a' := ?_) #[true, true, true, true, true, true, true, true, true, true, true, true, true, true, true, true, true, true, true, true, true, true, true, true, true, true, true, true, true, true, true, true, true, true, true, false, true, false, false, false, false, false, false, false, false, false, false, false, false] rfl rfl (by kernel_rfl) (fun _ _ _ h => h) (Or.inl ⟨by rfl, ?_⟩) ?_ ?_
 rotate_left
 ·
  intro w'
  go_simp
  with_reducible rfl
 rotate_left
 ·
  simp only [Act.put, List.setIfInBounds_toArray, List.set_cons_zero, List.set_cons_succ, i64_w, i32_w]
  rfl
 refine pure_ (i := 37) (N := some 63) (v := ?_) (a' := ?_) #[true, true, true, true, true, true, true, true, true, true, true, true, true, true, true, true, true, true, true, true, true, true, true, true, true, true, true, true, true, true, true, true, true, true, true, false, true, true, false, false, false, false, false, false, false, false, false, false, false] rfl rfl (by kernel_rfl) (fun _ _ _ h => h) (Or.inl ⟨by rfl, ?_⟩) ?_ ?_
 rotate_left
 ·
  intro w'
  go_simp
  with_reducible rfl
 rotate_left
 ·
  simp only [Act.put, List.setIfInBounds_toArray, List.set_cons_zero, List.set_cons_succ, i64_w, i32_w]
  rfl
 refine pure_ (i := 38) (N := some 64) (v := ?_) (a' := ?_) #[true, true, true, true, true, true, true, true, true, true, true, true, true, true, true, true, true, true, true, true, true, true, true, true, true, true, true, true, true, true, true, true, true, true, true, false, true, true, true, false, false, false, false, false, false, false, false, false, false] rfl rfl (by kernel_rfl) (fun _ _ _ h => h) (Or.inl ⟨by rfl, ?_⟩) ?_ ?_
 rotate_left
 ·
  intro w'
  go_simp
  with_reducible rfl
 rotate_left
 ·
  simp only [Act.put, List.setIfInBounds_toArray, List.set_cons_zero, List.set_cons_succ, i64_w, i32_w]
  rfl
 refine take_ (i := 39) (N := some 65) (v := ?_) (a' := ?_) #[true, true, true, true, true, true, true, true, true, true, true, true, true, true, true, true, true, true, true, true, true, true, true, true, true, true, true, true, true, true, true, true, true, true, true, false, true, true, true, true, false, false, false, false, false, false, false, false, false] rfl rfl (by kernel_rfl) (fun _ _ _ h => h) (Or.inl ⟨by rfl, ?_⟩) hHeld ?_ ?_
 rotate_left
 ·
  rintro w' ⟨s0, s1, s2, s3, s4, s5, s6, s7, s8, s9, s10, s11, s12, s13, s14, s15, s16, s17, s18, s19, s20, s21, s22, s23, s24, s25, s26, s27, s28⟩
  go_simp
  with_reducible rfl
 rotate_left
 ·
  simp only [Act.put, List.setIfInBounds_toArray, List.set_cons_zero, List.set_cons_succ, i64_w, i32_w]
  rfl
 refine one_ (i := 35) (N := some 61) #[true, true, true, true, true, true, true, true, true, true, true, true, true, true, true, true, true, true, true, true, true, true, true, true, true, true, true, true, true, true, true, true, true, true, true, true, true, true, true, true, false, false, false, false, false, false, false, false, false] rfl rfl (by kernel_rfl) (by decide) (fun K hK => ?_)
 refine goes_ Try.func20 (by kernel_rfl) rfl #[.pointer (some ⟨D, 0, none⟩)] (by rfl) rfl rfl (by simp only [List.map_toArray, List.map_cons, List.map_nil]; rfl) ?_
 with_reducible refine (Writes_yes D dr off _ wr0 _ (by (with_reducible repeat (first | refine blk_drewN ?_ _ | refine blk_drew ?_ | refine blk_alloc ?_ _)); exact BKD.out)).mono ?_
 rintro e w12 ⟨rfl, hb⟩
 refine ⟨_, rfl, ?_⟩
 have hs : Below w11.heap.size w11 w12 := below_step (by repeat (first | exact Below.refl _ _ | apply below_alloc | apply pw_below_drewN | apply below_drew1)) hb
 have hl : w11.heap.size ≤ _ := below_size (w := w11) (by repeat (first | exact Below.refl _ _ | apply below_alloc | apply pw_below_drewN | apply below_drew1))
 have SZ12 := Aside0.mk (show w11.heap.size ≤ w12.heap.size from hs.size)
 replace BKD := Aside0.mk (blk_below BKD.out hs)
 replace BKdr := Aside0.mk (blk_below BKdr.out hs)
 replace BKg := Aside0.mk (blk_below BKg.out hs)
 replace HOm := Aside0.mk (Kd.R_below HOm.out hs)
 replace BKg5 := Aside0.mk (blk_below BKg5.out hs)
 replace BKg7 := Aside0.mk (blk_below BKg7.out hs)
 replace HOx := Aside0.mk (Kd.R_below HOx.out hs)
 replace HOy := Aside0.mk (Kd.R_below HOy.out hs)
 have n_ := Aside0.mk (below_step HB.out hs)
 clear HB
 have HB := n_
 clear n_ hs hb
 (try clear hl)
 refine hK.out _ _ ⟨(blk_cell BKD.out 0).trans rfl, (blk_cell BKD.out 1).trans rfl, (blk_cell BKD.out 2).trans rfl, (blk_cell BKD.out 3).trans rfl, (blk_cell BKdr.out 0).trans rfl, (blk_cell BKdr.out 1).trans rfl, (blk_cell BKdr.out 2).trans rfl, (blk_cell BKdr.out 3).trans rfl, (blk_cell BKdr.out 4).trans rfl, (blk_cell BKdr.out 5).trans rfl, (blk_cell BKdr.out 6).trans rfl, (blk_cell BKg.out 0).trans rfl, (blk_cell BKg.out 1).trans rfl, (blk_cell BKg.out 2).trans rfl, (blk_cell BKg.out 3).trans rfl, (blk_cell BKg.out 4).trans rfl, (blk_cell BKg.out 5).trans rfl, (blk_cell BKg.out 6).trans rfl, (blk_cell BKg.out 7).trans rfl, (blk_cell BKg.out 8).trans rfl, (blk_cell BKg5.out 0).trans rfl, (blk_cell BKg5.out 1).trans rfl, (blk_cell BKg5.out 2).trans rfl, (blk_cell BKg5.out 3).trans rfl, (blk_cell BKg5.out 4).trans rfl, (blk_cell BKg7.out 0).trans rfl, (blk_cell BKg7.out 1).trans rfl, (blk_cell BKg7.out 2).trans rfl, (blk_cell BKg7.out 3).trans rfl⟩ (fun hHeld => ?_)
 clear hK K
 refine norm_ (a' := ?_) ?_ ?_
 rotate_left
 ·
  show Act.put _ (some 61) _ = _
  simp only [Act.put, List.setIfInBounds_toArray, List.set_cons_zero, List.set_cons_succ, i64_w, i32_w]
  rfl
 refine pure_ (i := 40) (N := some 66) (v := ?_) (a' := ?_) #[true, true, true, true, true, true, true, true, true, true, true, true, true, true, true, true, true, true, true, true, true, true, true, true, true, true, true, true, true, true, true, true, true, true, true, true, true, true, true, true, true, false, false, false, false, false, false, false, false] rfl rfl (by kernel_rfl) (fun _ _ _ h => h) (Or.inl ⟨by rfl, ?_⟩) ?_ ?_
 rotate_left
 ·
  intro w'
  go_simp
  with_reducible rfl
 rotate_left
 ·
  simp only [Act.put, List.setIfInBounds_toArray, List.set_cons_zero, List.set_cons_succ, i64_w, i32_w]
  rfl
 refine pure_ (i := 41) (N := some 67) (v := ?_) (a' := ?_) #[true, true, true, true, true, true, true, true, true, true, true, true, true, true, true, true, true, true, true, true, true, true, true, true, true, true, true, true, true, true, true, true, true, true, true, true, true, true, true, true, true, true, false, false, false, false, false, false, false] rfl rfl (by kernel_rfl) (fun _ _ _ h => h) (Or.inl ⟨by rfl, ?_⟩) ?_ ?_
 rotate_left
 ·
  intro w'
  go_simp
  with_reducible rfl
 rotate_left
 ·
  simp only [Act.put, List.setIfInBounds_toArray, List.set_cons_zero, List.set_cons_succ, i64_w, i32_w]
  rfl
 refine pure_ (i := 42) (N := some 68) (v := ?_) (a' := ?_) #[true, true, true, true, true, true, true, true, true, true, true, true, true, true, true, true, true, true, true, true, true, true, true, true, true, true, true, true, true, true, true, true, true, true, true, true, true, true, true, true, true, true, true, false, false, false, false, false, false] rfl rfl (by kernel_rfl) (fun _ _ _ h => h) (Or.inl ⟨by rfl, ?_⟩) ?_ ?_
 rotate_left
 ·
  intro w'
  go_simp
  with_reducible rfl
 rotate_left
 ·
  simp only [Act.put, List.setIfInBounds_toArray, List.set_cons_zero, List.set_cons_succ, i64_w, i32_w]
  rfl
 refine pure_ (i := 43) (N := some 69) (v := ?_) (a' := ?_) #[true, true, true, true, true, true, true, true, true, true, true, true, true, true, true, true, true, true, true, true, true, true, true, true, true, true, true, true, true, true, true, true, true, true, true, true, true, true, true, true, true, true, true, true, false, false, false, false, false] rfl rfl (by kernel_rfl) (fun _ _ _ h => h) (Or.inl ⟨by rfl, ?_⟩) ?_ ?_
 rotate_left
 ·
  intro w'
  go_simp
  with_reducible rfl
 rotate_left
 ·
  simp only [Act.put, List.setIfInBounds_toArray, List.set_cons_zero, List.set_cons_succ, i64_w, i32_w]
  rfl
 refine pure_ (i := 44) (N := some 70) (v := ?_) (a' := ?_) #[true, true, true, true, true, true, true, true, true, true, true, true, true, true, true, true, true, true, true, true, true, true, true, true, true, true, true, true, true, true, true, true, true, true, true, true, true, true, true, true, true, true, true, true, true, false, false, false, false] rfl rfl (by kernel_rfl) (fun _ _ _ h => h) (Or.inl ⟨by rfl, ?_⟩) ?_ ?_
 rotate_left
 ·
  intro w'
  go_simp
  with_reducible rfl
 rotate_left
 ·
  simp only [Act.put, List.setIfInBounds_toArray, List.set_cons_zero, List.set_cons_succ, i64_w, i32_w]
  rfl
 refine pure_ (i := 45) (N := some 71) (v := ?_) (a' := ?_) #[true, true, true, true, true, true, true, true, true, true, true, true, true, true, true, true, true, true, true, true, true, true, true, true, true, true, true, true, true, true, true, true, true, true, true, true, true, true, true, true, true, true, true, true, true, true, false, false, false] rfl rfl (by kernel_rfl) (fun _ _ _ h => h) (Or.inl ⟨by rfl, ?_⟩) ?_ ?_
 rotate_left
 ·
  intro w'
  go_simp
  with_reducible rfl
 rotate_left
 ·
  simp only [Act.put, List.setIfInBounds_toArray, List.set_cons_zero, List.set_cons_succ, i64_w, i32_w]
  rfl
 refine pure_ (i := 46) (N := some 72) (v := ?_) (a' := ?_) #[true, true, true, true, true, true, true, true, true, true, true, true, true, true, true, true, true, true, true, true, true, true, true, true, true, true, true, true, true, true, true, true, true, true, true, true, true, true, true, true, true, true, true, true, true, true, true, false, false] rfl rfl (by kernel_rfl) (fun _ _ _ h => h) (Or.inl ⟨by rfl, ?_⟩) ?_ ?_
 rotate_left
 ·
  intro w'
  go_simp
  with_reducible rfl
 rotate_left
 ·
  simp only [Act.put, List.setIfInBounds_toArray, List.set_cons_zero, List.set_cons_succ, i64_w, i32_w]
  rfl
 refine pure_ (i := 47) (N := some 73) (v := ?_) (a' := ?_) #[true, true, true, true, true, true, true, true, true, true, true, true, true, true, true, true, true, true, true, true, true, true, true, true, true, true, true, true, true, true, true, true, true, true, true, true, true, true, true, true, true, true, true, true, true, true, true, true, false] rfl rfl (by kernel_rfl) (fun _ _ _ h => h) (Or.inl ⟨by rfl, ?_⟩) ?_ ?_
 rotate_left
 ·
  intro w'
  go_simp
  with_reducible rfl
 rotate_left
 ·
  simp only [Act.put, List.setIfInBounds_toArray, List.set_cons_zero, List.set_cons_succ, i64_w, i32_w]
  rfl
 refine pure_ (i := 48) (N := some 74) (v := ?_) (a' := ?_) #[true, true, true, true, true, true, true, true, true, true, true, true, true, true, true, true, true, true, true, true, true, true, true, true, true, true, true, true, true, true, true, true, true, true, true, true, true, true, true, true, true, true, true, true, true, true, true, true, true] rfl rfl (by kernel_rfl) (fun _ _ _ h => h) (Or.inl ⟨by rfl, ?_⟩) ?_ ?_
 rotate_left
 ·
  intro w'
  go_simp
  with_reducible rfl
 rotate_left
 ·
  simp only [Act.put, List.setIfInBounds_toArray, List.set_cons_zero, List.set_cons_succ, i64_w, i32_w]
  rfl
 refine done_ (by kernel_rfl) ?_
 have hcD_0 : w12.cell? ⟨D, 0, none⟩ = some (.pointer (some ⟨dr, 0, none⟩)) := (blk_cell BKD.out 0).trans rfl
 have hfD_0 := blk_frozen BKD.out 0
 have hcD_1 : w12.cell? ⟨D, 1, none⟩ = some (.bool off) := (blk_cell BKD.out 1).trans rfl
 have hfD_1 := blk_frozen BKD.out 1
 have hcD_2 : w12.cell? ⟨D, 2, none⟩ = some (.int .i64 cut) := (blk_cell BKD.out 2).trans rfl
 have hfD_2 := blk_frozen BKD.out 2
 have hcD_3 : w12.cell? ⟨D, 3, none⟩ = some (.int .i64 wr0) := (blk_cell BKD.out 3).trans rfl
 have hfD_3 := blk_frozen BKD.out 3
 have hcdr_0 : w12.cell? ⟨dr, 0, none⟩ = some (.int .i64 a) := (blk_cell BKdr.out 0).trans rfl
 have hfdr_0 := blk_frozen BKdr.out 0
 have hcdr_1 : w12.cell? ⟨dr, 1, none⟩ = some (.int .i64 b) := (blk_cell BKdr.out 1).trans rfl
 have hfdr_1 := blk_frozen BKdr.out 1
 have hcdr_2 : w12.cell? ⟨dr, 2, none⟩ = some (.int .i64 c) := (blk_cell BKdr.out 2).trans rfl
 have hfdr_2 := blk_frozen BKdr.out 2
 have hcdr_3 : w12.cell? ⟨dr, 3, none⟩ = some (.int .i64 d) := (blk_cell BKdr.out 3).trans rfl
 have hfdr_3 := blk_frozen BKdr.out 3
 have hcdr_4 : w12.cell? ⟨dr, 4, none⟩ = some (.int .i64 sz) := (blk_cell BKdr.out 4).trans rfl
 have hfdr_4 := blk_frozen BKdr.out 4
 have hcdr_5 : w12.cell? ⟨dr, 5, none⟩ = some (.slice As slots.length cs) := (blk_cell BKdr.out 5).trans rfl
 have hfdr_5 := blk_frozen BKdr.out 5
 have hcdr_6 : w12.cell? ⟨dr, 6, none⟩ = some (.slice Ag gone.length cg) := (blk_cell BKdr.out 6).trans rfl
 have hfdr_6 := blk_frozen BKdr.out 6
 have hcg_0 : w12.cell? ⟨g, 0, none⟩ = some (.int .i64 a) := (blk_cell BKg.out 0).trans rfl
 have hfg_0 := blk_frozen BKg.out 0
 have hcg_1 : w12.cell? ⟨g, 1, none⟩ = some (.int .i64 b) := (blk_cell BKg.out 1).trans rfl
 have hfg_1 := blk_frozen BKg.out 1
 have hcg_2 : w12.cell? ⟨g, 2, none⟩ = some (.int .i64 c) := (blk_cell BKg.out 2).trans rfl
 have hfg_2 := blk_frozen BKg.out 2
 have hcg_3 : w12.cell? ⟨g, 3, none⟩ = some (.int .i64 d) := (blk_cell BKg.out 3).trans rfl
 have hfg_3 := blk_frozen BKg.out 3
 have hcg_4 : w12.cell? ⟨g, 4, none⟩ = some (.slice A4 slots.length c4) := (blk_cell BKg.out 4).trans rfl
 have hfg_4 := blk_frozen BKg.out 4
 have hcg_5 : w12.cell? ⟨g, 5, none⟩ = some (.bool off) := (blk_cell BKg.out 5).trans rfl
 have hfg_5 := blk_frozen BKg.out 5
 have hcg_6 : w12.cell? ⟨g, 6, none⟩ = some (.int .i64 cut2) := (blk_cell BKg.out 6).trans rfl
 have hfg_6 := blk_frozen BKg.out 6
 have hcg_7 : w12.cell? ⟨g, 7, none⟩ = some (.slice A7 gone.length c7) := (blk_cell BKg.out 7).trans rfl
 have hfg_7 := blk_frozen BKg.out 7
 have hcg_8 : w12.cell? ⟨g, 8, none⟩ = some (.int .i64 wr0) := (blk_cell BKg.out 8).trans rfl
 have hfg_8 := blk_frozen BKg.out 8
 have hcg5_0 : w12.cell? ⟨g5, 0, none⟩ = some (.int .i64 a) := (blk_cell BKg5.out 0).trans rfl
 have hfg5_0 := blk_frozen BKg5.out 0
 have hcg5_1 : w12.cell? ⟨g5, 1, none⟩ = some (.int .i64 b) := (blk_cell BKg5.out 1).trans rfl
 have hfg5_1 := blk_frozen BKg5.out 1
 have hcg5_2 : w12.cell? ⟨g5, 2, none⟩ = some (.int .i64 c) := (blk_cell BKg5.out 2).trans rfl
 have hfg5_2 := blk_frozen BKg5.out 2
 have hcg5_3 : w12.cell? ⟨g5, 3, none⟩ = some (.int .i64 d) := (blk_cell BKg5.out 3).trans rfl
 have hfg5_3 := blk_frozen BKg5.out 3
 have hcg5_4 : w12.cell? ⟨g5, 4, none⟩ = some (.slice m_A slots.length m_c) := (blk_cell BKg5.out 4).trans rfl
 have hfg5_4 := blk_frozen BKg5.out 4
 have hcg7_0 : w12.cell? ⟨g7, 0, none⟩ = some (.int .i64 a) := (blk_cell BKg7.out 0).trans rfl
 have hfg7_0 := blk_frozen BKg7.out 0
 have hcg7_1 : w12.cell? ⟨g7, 1, none⟩ = some (.int .i64 b) := (blk_cell BKg7.out 1).trans rfl
 have hfg7_1 := blk_frozen BKg7.out 1
 have hcg7_2 : w12.cell? ⟨g7, 2, none⟩ = some (.int .i64 c) := (blk_cell BKg7.out 2).trans rfl
 have hfg7_2 := blk_frozen BKg7.out 2
 have hcg7_3 : w12.cell? ⟨g7, 3, none⟩ = some (.int .i64 d) := (blk_cell BKg7.out 3).trans rfl
 have hfg7_3 := blk_frozen BKg7.out 3
 go_wp2_with (fail)
 (try clear hcD_0 hfD_0)
 (try clear hcD_1 hfD_1)
 (try clear hcD_2 hfD_2)
 (try clear hcD_3 hfD_3)
 (try clear hcdr_0 hfdr_0)
 (try clear hcdr_1 hfdr_1)
 (try clear hcdr_2 hfdr_2)
 (try clear hcdr_3 hfdr_3)
 (try clear hcdr_4 hfdr_4)
 (try clear hcdr_5 hfdr_5)
 (try clear hcdr_6 hfdr_6)
 (try clear hcg_0 hfg_0)
 (try clear hcg_1 hfg_1)
 (try clear hcg_2 hfg_2)
 (try clear hcg_3 hfg_3)
 (try clear hcg_4 hfg_4)
 (try clear hcg_5 hfg_5)
 (try clear hcg_6 hfg_6)
 (try clear hcg_7 hfg_7)
 (try clear hcg_8 hfg_8)
 (try clear hcg5_0 hfg5_0)
 (try clear hcg5_1 hfg5_1)
 (try clear hcg5_2 hfg5_2)
 (try clear hcg5_3 hfg5_3)
 (try clear hcg5_4 hfg5_4)
 (try clear hcg7_0 hfg7_0)
 (try clear hcg7_1 hfg7_1)
 (try clear hcg7_2 hfg7_2)
 (try clear hcg7_3 hfg7_3)
 have CX := Aside0.mk (Kd.R_reads' HOx.out).2.2
 have CY := Aside0.mk (Kd.R_reads' HOy.out).2.2
 clear HOx HOy
 go_loopg [11] (wipedOf gone.length gone).length (fun kq v11 wr => ∃ k : Nat, v11 = .int .i64 (k : Int) ∧ Aside0 (k ≤ (wipedOf gone.length gone).length ∧ (wipedOf gone.length gone).length - k ≤ kq) ∧ Aside0 (Below w12.heap.size w12 wr))
 case atStart => exact ⟨0, rfl, Aside0.mk ⟨by omega, by omega⟩, Aside0.mk (by repeat (first | exact Below.refl _ _ | apply below_alloc | apply pw_below_drewN | apply below_drew1))⟩
 case round =>
  have HB0 := HB
  clear HB
  obtain ⟨k, rfl, AX, HB⟩ := hrel
  by_cases hlt : k < (wipedOf gone.length gone).length
  ·
   obtain ⟨adx, ex, hx⟩ := Kd.at_int CX.out (k : Int) (by omega) (by omega)
   obtain ⟨ady, ey, hy⟩ := Kd.at_int CY.out (k : Int) (by omega) (by omega)
   rw [Int.toNat_natCast] at hx hy
   obtain ⟨xv, hxv⟩ : ∃ xv, rd (wipedOf gone.length gone) (k : Int) = xv := ⟨_, rfl⟩
   rw [hxv] at hx hy
   subst ex
   subst ey
   have hx := pw_cell_below HB.out hx
   have hy := pw_cell_below HB.out hy
   have b1 : decide ((k : Int) < ((wipedOf gone.length gone).length : Int)) = true := decide_eq_true (by omega)
   have b2 : decide (k < (wipedOf gone.length gone).length) = true := decide_eq_true hlt
   have b3 : (k < (wipedOf gone.length gone).length) = True := eq_true hlt
   have HK := Aside0.mk hlt
   clear hlt hxv
   go_wp2_with (fail)
   
   have hs : Below wr.heap.size wr (World.drew wr) := below_drew1 (Below.refl _ _)
   have SZ13 := Aside0.mk (show wr.heap.size ≤ (World.drew wr).heap.size from hs.size)
   
   have n_ := Aside0.mk (below_step HB.out hs)
   clear HB
   have HB := n_
   clear n_ hs
   refine start_ (n := 9) (S := fun w' => w'.cell? (adx.add k) = some (.int .i64 xv) ∧ w'.cell? (ady.add k) = some (.int .i64 xv)) (ds := []) #[false, false, false, false, false, false, false, false, false] (by kernel_rfl) rfl rfl ⟨(pw_cell_below (below_drew1 (Below.refl wr.heap.size wr)) hx), (pw_cell_below (below_drew1 (Below.refl wr.heap.size wr)) hy)⟩ (fun hHeld => ?_)
   generalize World.drew wr = w13 at HB  SZ13 hHeld ⊢
   refine pure_ (i := 0) (N := some 81) (v := ?_) (a' := ?_) #[true, false, false, false, false, false, false, false, false] rfl rfl (by kernel_rfl) (fun _ _ _ h => h) (Or.inl ⟨by rfl, ?_⟩) ?_ ?_
   rotate_left
   ·
    intro w'
    go_simp
    with_reducible rfl
   rotate_left
   ·
    simp only [Act.put, List.setIfInBounds_toArray, List.set_cons_zero, List.set_cons_succ, i64_w, i32_w]
    rfl
   refine pure_ (i := 1) (N := some 82) (v := ?_) (a' := ?_) #[true, true, false, false, false, false, false, false, false] rfl rfl (by kernel_rfl) (fun _ _ _ h => h) (Or.inl ⟨by rfl, ?_⟩) ?_ ?_
   rotate_left
   ·
    intro w'
    go_simp
    with_reducible rfl
   rotate_left
   ·
    simp only [Act.put, List.setIfInBounds_toArray, List.set_cons_zero, List.set_cons_succ, i64_w, i32_w]
    rfl
   refine pure_ (i := 2) (N := some 83) (v := ?_) (a' := ?_) #[true, true, true, false, false, false, false, false, false] rfl rfl (by kernel_rfl) (fun _ _ _ h => h) (Or.inl ⟨by rfl, ?_⟩) ?_ ?_
   rotate_left
   ·
    intro w'
    go_simp
    with_reducible rfl
   rotate_left
   ·
    simp only [Act.put, List.setIfInBounds_toArray, List.set_cons_zero, List.set_cons_succ, i64_w, i32_w]
    rfl
   refine pure_ (i := 4) (N := some 85) (v := ?_) (a' := ?_) #[true, true, true, false, true, false, false, false, false] rfl rfl (by kernel_rfl) (fun _ _ _ h => h) (Or.inl ⟨by rfl, ?_⟩) ?_ ?_
   rotate_left
   ·
    intro w'
    go_simp
    with_reducible rfl
   rotate_left
   ·
    simp only [Act.put, List.setIfInBounds_toArray, List.set_cons_zero, List.set_cons_succ, i64_w, i32_w]
    rfl
   refine pure_ (i := 5) (N := some 86) (v := ?_) (a' := ?_) #[true, true, true, false, true, true, false, false, false] rfl rfl (by kernel_rfl) (fun _ _ _ h => h) (Or.inl ⟨by rfl, ?_⟩) ?_ ?_
   rotate_left
   ·
    intro w'
    go_simp
    with_reducible rfl
   rotate_left
   ·
    simp only [Act.put, List.setIfInBounds_toArray, List.set_cons_zero, List.set_cons_succ, i64_w, i32_w]
    rfl
   refine pure_ (i := 6) (N := some 87) (v := ?_) (a' := ?_) #[true, true, true, false, true, true, true, false, false] rfl rfl (by kernel_rfl) (fun _ _ _ h => h) (Or.inl ⟨by rfl, ?_⟩) ?_ ?_
   rotate_left
   ·
    intro w'
    go_simp
    with_reducible rfl
   rotate_left
   ·
    simp only [Act.put, List.setIfInBounds_toArray, List.set_cons_zero, List.set_cons_succ, i64_w, i32_w]
    rfl
   refine take_ (i := 3) (N := some 84) (v := ?_) (a' := ?_) #[true, true, true, true, true, true, true, false, false] rfl rfl (by kernel_rfl) (fun _ _ _ h => h) (Or.inl ⟨by rfl, ?_⟩) hHeld ?_ ?_
   rotate_left
   ·
    rintro w' ⟨s0, s1⟩
    go_simp
    with_reducible rfl
   rotate_left
   ·
    simp only [Act.put, List.setIfInBounds_toArray, List.set_cons_zero, List.set_cons_succ, i64_w, i32_w]
    rfl
   refine take_ (i := 7) (N := some 88) (v := ?_) (a' := ?_) #[true, true, true, true, true, true, true, true, false] rfl rfl (by kernel_rfl) (fun _ _ _ h => h) (Or.inl ⟨by rfl, ?_⟩) hHeld ?_ ?_
   rotate_left
   ·
    rintro w' ⟨s0, s1⟩
    go_simp
    with_reducible rfl
   rotate_left
   ·
    simp only [Act.put, List.setIfInBounds_toArray, List.set_cons_zero, List.set_cons_succ, i64_w, i32_w]
    rfl
   refine pure_ (i := 8) (N := some 89) (v := ?_) (a' := ?_) #[true, true, true, true, true, true, true, true, true] rfl rfl (by kernel_rfl) (fun _ _ _ h => h) (Or.inl ⟨by rfl, ?_⟩) ?_ ?_
   rotate_left
   ·
    intro w'
    go_simp
    with_reducible rfl
   rotate_left
   ·
    simp only [Act.put, List.setIfInBounds_toArray, List.set_cons_zero, List.set_cons_succ, i64_w, i32_w]
    rfl
   refine done_ (by kernel_rfl) ?_
   
   go_wp2_with (fail)
   go_roundg (gk - 1)
   case measure =>
    have := AX.out
    have := HK.out
    omega
   case rel =>
    have h1 := AX.out
    have h2 := HK.out
    exact ⟨k + 1, by rw [show wrap64 ((k : Int) + 1) = ((k + 1 : Nat) : Int) by have := WL_.out; unfold wrap64; omega], Aside0.mk ⟨by omega, by omega⟩, HB⟩
  ·
   have b1 : decide ((k : Int) < ((wipedOf gone.length gone).length : Int)) = false := decide_eq_false (by omega)
   have b2 : decide (k < (wipedOf gone.length gone).length) = false := decide_eq_false hlt
   clear hlt
   go_wp2
   go_ret
   exact ⟨rfl, below_step HB0.out HB.out⟩
end Go.Proofs.Ytemmhgfjfbdggaa.P
namespace Go.Proofs.Ytemmhgfjfbdggaa.P
open Go.RowKit Go.Proofs.YtemmhgfjfbdggaaW.PrintWords Go.Proofs.YtemmhgfjfbdggaaW.PrintLast Go.Proofs.YtemmhgfjfbdggaaW.PrintMore
attribute [local go_sem] max2_int min2_int max_two min_two max_three min_three max_four min_four
set_option linter.unusedVariables false
set_option linter.unusedSimpArgs false
def Rk (W : World) (base : Nat) (ok : Nat → Prop) (r : Nat) (a b c d : Int) (g : List Bool) (s : DS) : Prop :=
 ∃ (As : Option Addr) (n cs : Nat) (Ag : Option Addr) (m cg : Nat), RefO W base ok r As n cs Ag m cg a b c d s.slots g s.off s.cut s.wr
theorem Rk.kept {W W2 : World} {base : Nat} {ok S : Nat → Prop} {r : Nat} {a b c d : Int} {g : List Bool} {s : DS} (h : Rk W base ok r a b c d g s) (hk : Kept W W2 S) (hne : ∀ k, ok k → ¬ S k) : Rk W2 base ok r a b c d g s := by
 obtain ⟨As, n, cs, Ag, m, cg, h⟩ := h
 exact ⟨As, n, cs, Ag, m, cg, h.kept hk hne⟩
theorem Rk.bound {W : World} {base : Nat} {ok : Nat → Prop} {r : Nat} {a b c d : Int} {g : List Bool} {s : DS} (h : Rk W base ok r a b c d g s) : ∀ k, ok k → base ≤ k ∧ k < W.heap.size := by
 obtain ⟨As, n, cs, Ag, m, cg, h⟩ := h
 exact h.bd
def DR (w0 W : World) (X : Nat → Prop) (a b c d : Int) (DA DB : Nat) (gA : List Bool) (sA : DS) (gB : List Bool) (sB : DS) : Prop :=
 ∃ (okA okB : Nat → Prop), Below w0.heap.size w0 W ∧ Dk W w0.heap.size okA DA a b c d gA sA ∧ Rk W w0.heap.size okB DB a b c d gB sB ∧ (∀ k, okA k → ¬ okB k) ∧ (∀ k, X k → k < W.heap.size ∧ ¬ okA k ∧ ¬ okB k)
section
variable {w0 W W2 : World} {X X' : Nat → Prop} {a b c d : Int} {DA DB : Nat} {gA gB g' : List Bool} {sA sB s' : DS} {base : Nat} {ok S : Nat → Prop} {D : Nat} {g : List Bool} {s : DS}
theorem DR.sub (h : DR w0 W X a b c d DA DB gA sA gB sB) (hX : ∀ k, X' k → X k) : DR w0 W X' a b c d DA DB gA sA gB sB := by
 obtain ⟨okA, okB, h1, h2, h3, h4, h5⟩ := h
 exact ⟨okA, okB, h1, h2, h3, h4, fun k hk => h5 k (hX k hk)⟩
theorem DR.below (h : DR w0 W X a b c d DA DB gA sA gB sB) : Below w0.heap.size w0 W := by
 obtain ⟨_, _, h1, _⟩ := h
 exact h1
theorem DR.step (h : DR w0 W X a b c d DA DB gA sA gB sB) (hb : Below W.heap.size W W2) : DR w0 W2 (fun k => X k ∨ (W.heap.size ≤ k ∧ k < W2.heap.size)) a b c d DA DB gA sA gB sB := by
 obtain ⟨okA, okB, h1, h2, h3, h4, h5⟩ := h
 have hk := Kept.of_below hb (fun _ => False)
 refine ⟨okA, okB, below_step h1 hb, h2.kept hk (fun _ _ hf => hf), h3.kept hk (fun _ _ hf => hf), h4, fun k hk => ?_⟩
 rcases hk with hk | hk
 ·
  exact ⟨Nat.lt_of_lt_of_le (h5 k hk).1 hb.size, (h5 k hk).2⟩
 ·
  exact ⟨hk.2, fun ho => by have := (h2.bound k ho).2; omega, fun ho => by have := (h3.bound k ho).2; omega⟩
theorem DR.step_ (h : DR w0 W X a b c d DA DB gA sA gB sB) (hb : Below W.heap.size W W2) : DR w0 W2 X a b c d DA DB gA sA gB sB := (h.step hb).sub (fun _ hk => .inl hk)
theorem DR.turn {okA okB : Nat → Prop} (h1 : Below w0.heap.size w0 W) (h3 : Rk W w0.heap.size okB DB a b c d gB sB) (h4 : ∀ k, okA k → ¬ okB k) (h5 : ∀ k, X k → k < W.heap.size ∧ ¬ okA k ∧ ¬ okB k)
  (hw : Wrote w0.heap.size okA W W2) (h2 : Dk W2 w0.heap.size (Gr okA W W2) DA a b c d g' s') : DR w0 W2 X a b c d DA DB g' s' gB sB ∧ ∀ k, X k → W2.heap[k]? = W.heap[k]? := by
 refine ⟨⟨Gr okA W W2, okB, hw.outer h1 (Nat.le_refl _), h2, h3.kept hw.2.2 (apart_symm h4), Gr.apart h4 (fun k hk => (h3.bound k hk).2), fun k hk => ⟨Nat.lt_of_lt_of_le (h5 k hk).1 hw.size, ?_, (h5 k hk).2.2⟩⟩, fun k hk => hw.2.2.2 k (h5 k hk).1 (h5 k hk).2.1⟩
 rintro ⟨_, hg | hg⟩
 ·
  exact (h5 k hk).2.1 hg
 ·
  have := (h5 k hk).1
  omega
end
section
variable {w0 W : World} {X : Nat → Prop} {a b c d : Int} {DA DB : Nat} {gA gB : List Bool} {sA sB : DS}
theorem DCutA (x : Int) (hx : 0 ≤ x) (h : DR w0 W X a b c d DA DB gA sA gB sB) : Calls Try.prog 16 #[.pointer (some ⟨DA, 0, none⟩), .int .i64 x] W fun e w' => e = .returned (.int .i64 0) ∧ DR w0 w' X a b c d DA DB gA ⟨sA.slots, sA.off, x, sA.wr⟩ gB sB ∧ ∀ k, X k → w'.heap[k]? = W.heap[k]? := by
 obtain ⟨okA, okB, h1, ⟨dr, As, n, cs, Ag, m, cg, h2⟩, h3, h4, h5⟩ := h
 refine (Cut_yes DA dr As Ag n cs m cg a b c d _ sA.slots gA sA.off sA.cut sA.wr _ okA x W h2 hx).mono ?_
 rintro e w' ⟨rfl, k1, k2⟩
 exact ⟨rfl, DR.turn h1 h3 h4 h5 k2 ⟨dr, As, n, cs, Ag, m, cg, k1⟩⟩
theorem DOnA (h : DR w0 W X a b c d DA DB gA sA gB sB) : Calls Try.prog 22 #[.pointer (some ⟨DA, 0, none⟩)] W fun e w' => e = .returned (.int .i64 0) ∧ DR w0 w' X a b c d DA DB gA ⟨sA.slots, false, -1, sA.wr⟩ gB sB ∧ ∀ k, X k → w'.heap[k]? = W.heap[k]? := by
 obtain ⟨okA, okB, h1, ⟨dr, As, n, cs, Ag, m, cg, h2⟩, h3, h4, h5⟩ := h
 refine (On_yes DA dr As Ag n cs m cg a b c d _ sA.slots gA sA.off sA.cut sA.wr _ okA W h2).mono ?_
 rintro e w' ⟨rfl, k1, k2⟩
 exact ⟨rfl, DR.turn h1 h3 h4 h5 k2 ⟨dr, As, n, cs, Ag, m, cg, k1⟩⟩
theorem DWholeA (hf : Fit a b c d gA sA) (h : DR w0 W X a b c d DA DB gA sA gB sB) : Calls Try.prog 26 #[.pointer (some ⟨DA, 0, none⟩)] W fun e w' => e = .returned (.int .i64 0) ∧ DR w0 w' X a b c d DA DB (wipeF false gA 0 gA.length) sA gB sB ∧ ∀ k, X k → w'.heap[k]? = W.heap[k]? := by
 obtain ⟨okA, okB, h1, ⟨dr, As, n, cs, Ag, m, cg, h2⟩, h3, h4, h5⟩ := h
 refine (Whole_yes DA dr As Ag n cs m cg a b c d _ sA.slots gA sA.off sA.cut sA.wr _ okA W h2 (by rw [h2.lens.2.2.1]; exact hf.small.2.2.1)).mono ?_
 rintro e w' ⟨rfl, k1, k2⟩
 exact ⟨rfl, DR.turn h1 h3 h4 h5 k2 ⟨dr, As, n, cs, Ag, m, cg, k1⟩⟩
theorem DWriteA (l : List S51) (A : Option Addr) (cl : Nat) (okl : Nat → Prop) (hf : Fit a b c d gA sA) (hcu : -1 ≤ sA.cut ∧ sA.cut ≤ 9223372036854775807) (hF : Kd.F k51 W okl A l.length l) (hokl : ∀ k, okl k → k < w0.heap.size ∨ X k) (hcl : l.length ≤ cl) (hln : l.length ≤ 100000) (h : DR w0 W X a b c d DA DB gA sA gB sB) :
  Calls Try.prog 18 #[.pointer (some ⟨DA, 0, none⟩), .slice A l.length cl] W fun e w' => e = .returned (.int .i64 (putsL gA.length d (sizeOf08 a b c) l sA).2) ∧ DR w0 w' X a b c d DA DB gA (putsL gA.length d (sizeOf08 a b c) l sA).1 gB sB ∧ ∀ k, X k → w'.heap[k]? = W.heap[k]? := by
 obtain ⟨okA, okB, h1, ⟨dr, As, n, cs, Ag, m, cg, h2⟩, h3, h4, h5⟩ := h
 have hm := h2.lens.2.2.1
 have hs := hf.small
 subst hm
 have hd1 : ∀ k, okl k → ¬ okA k := fun k hk ho => by
  rcases hokl k hk with h6 | h6
  ·
   have := (h2.2.2.2.2.2.2 k ho).1
   omega
  ·
   exact (h5 k h6).2.1 ho
 have hd2 : ∀ k, okl k → k < W.heap.size := fun k hk => by
  rcases hokl k hk with h6 | h6
  ·
   exact Nat.lt_of_lt_of_le h6 h1.size
  ·
   exact (h5 k h6).1
 refine (Write_yes DA dr As Ag n cs gA.length cg a b c d _ sA.slots gA sA.off sA.cut sA.wr _ okA l A cl okl W h2 hs.2.1 ⟨by omega, by omega⟩ (by omega) (by rw [hf.2.2.1, hf.2.2.2.1]) hF hd1 hd2 hcl hln ⟨hf.2.2.2.2.2.1, hf.2.2.2.2.2.2⟩ hcu).mono ?_
 rintro e w' ⟨rfl, k1, k2⟩
 exact ⟨rfl, DR.turn h1 h3 h4 h5 k2 ⟨dr, As, n, cs, Ag, gA.length, cg, k1⟩⟩
theorem DWipeA (x : Int) (i : Nat) (hf : Fit a b c d gA sA) (hat : atOf gA.length d x 0 0 = (i : Int)) (h : DR w0 W X a b c d DA DB gA sA gB sB) :
  Calls Try.prog 24 #[.pointer (some ⟨DA, 0, none⟩), .int .i64 x] W fun e w' => e = .returned (.int .i64 0) ∧ DR w0 w' X a b c d DA DB (gA.set x.toNat true) ⟨wipeF [] sA.slots i (2 * d.toNat), sA.off, sA.cut, sA.wr⟩ gB sB ∧ ∀ k, X k → w'.heap[k]? = W.heap[k]? := by
 obtain ⟨okA, okB, h1, ⟨dr, As, n, cs, Ag, m, cg, h2⟩, h3, h4, h5⟩ := h
 have hm := h2.lens.2.2.1
 have hs := hf.small
 subst hm
 have ha := atOf_lt (nd := gA.length) (d := d) (x := x) (y := 0) (z := 0) (by omega) (by omega)
 have hx1 : x * d ≤ ((gA.length : Int) - 1) * d := Int.mul_le_mul_of_nonneg_right (by omega) (by omega)
 rw [Int.sub_mul, Int.one_mul] at hx1
 have hn := hf.2.2.1
 rw [← hf.2.2.2.1] at hn
 refine (Wipe_good DA dr As Ag n cs gA.length cg a b c d _ sA.slots gA sA.off sA.cut sA.wr _ okA x i W h2 hs.2.1 ⟨by omega, by omega⟩ ⟨by omega, by omega⟩ hat (by omega) (by omega)).mono ?_
 rintro e w' ⟨rfl, k1, k2⟩
 exact ⟨rfl, DR.turn h1 h3 h4 h5 k2 ⟨dr, As, n, cs, Ag, gA.length, cg, k1⟩⟩
theorem DWipeA_bad (x : Int) (hf : Fit a b c d gA sA) (hat : atOf gA.length d x 0 0 < 0) (h : DR w0 W X a b c d DA DB gA sA gB sB) :
  Calls Try.prog 24 #[.pointer (some ⟨DA, 0, none⟩), .int .i64 x] W fun e w' => e = .returned (.int .i64 80) ∧ Below W.heap.size W w' := by
 obtain ⟨okA, okB, h1, ⟨dr, As, n, cs, Ag, m, cg, h2⟩, h3, h4, h5⟩ := h
 have hm := h2.lens.2.2.1
 have hs := hf.small
 subst hm
 exact Wipe_bad DA dr a b c d _ sA.off sA.cut sA.wr As Ag n cs gA.length cg x W h2.1 h2.2.1 hs.2.1 ⟨by omega, by omega⟩ hat
theorem DCutA_less (x : Int) (hx : x < 0) (h : DR w0 W X a b c d DA DB gA sA gB sB) : Calls Try.prog 16 #[.pointer (some ⟨DA, 0, none⟩), .int .i64 x] W fun e w' => e = .returned (.int .i64 2) ∧ Below W.heap.size W w' := by
 obtain ⟨okA, okB, h1, ⟨dr, As, n, cs, Ag, m, cg, h2⟩, h3, h4, h5⟩ := h
 refine (Cut_less DA dr _ _ _ x hx W h2.1).mono ?_
 rintro e w' ⟨rfl, k⟩
 exact ⟨rfl, k.below⟩
theorem DReadA_off (x y z : Int) (ho : sA.off = true) (h : DR w0 W X a b c d DA DB gA sA gB sB) : Calls Try.prog 21 #[.pointer (some ⟨DA, 0, none⟩), .int .i64 x, .int .i64 y, .int .i64 z] W fun e w' => e = .returned (.tuple #[.slice none 0 0, .int .i64 9]) ∧ Below W.heap.size W w' := by
 obtain ⟨okA, okB, h1, ⟨dr, As, n, cs, Ag, m, cg, h2⟩, h3, h4, h5⟩ := h
 exact Read_off DA dr As Ag n cs m cg a b c d _ sA.slots gA sA.off sA.cut sA.wr _ okA x y z W h2 ho
theorem DReadA (x y z : Int) (i : Nat) (ho : sA.off = false) (hf : Fit a b c d gA sA) (hat : atOf gA.length d x y z = (i : Int)) (hi : i < sA.slots.length) (h : DR w0 W X a b c d DA DB gA sA gB sB) : Calls Try.prog 21 #[.pointer (some ⟨DA, 0, none⟩), .int .i64 x, .int .i64 y, .int .i64 z] W fun e w' => (∃ v : Value, e = .returned (.tuple #[v, .int .i64 0]) ∧ Kd.R (Kd.int .u8) 5 w' W.heap.size (fun _ => True) v (sA.slots.getD i [])) ∧ Below W.heap.size W w' := by
 obtain ⟨okA, okB, h1, ⟨dr, As, n, cs, Ag, m, cg, h2⟩, h3, h4, h5⟩ := h
 have hm := h2.lens.2.2.1
 have hs := hf.small
 subst hm
 refine (Read_good DA dr As Ag n cs gA.length cg a b c d _ sA.slots gA sA.off sA.cut sA.wr _ okA x y z W h2 ho hs.2.1 ⟨by omega, by omega⟩ i hat hi hs.2.2.2.1).mono ?_
 rintro e w' ⟨v, rfl, k1, k2⟩
 exact ⟨⟨v, rfl, k1⟩, k2⟩
theorem DImageA (hf : Fit a b c d gA sA) (h : DR w0 W X a b c d DA DB gA sA gB sB) : Calls Try.prog 23 #[.pointer (some ⟨DA, 0, none⟩)] W fun e w' => ∃ v : Value, e = .returned (.tuple #[.agg #[.int .i64 a, .int .i64 b, .int .i64 c, .int .i64 d, v], .int .i64 0]) ∧ Kd.R (Kd.slice 5 (Kd.int .u8)) 45 w' W.heap.size (fun _ => True) v sA.slots ∧ Below W.heap.size W w' := by
 obtain ⟨okA, okB, h1, ⟨dr, As, n, cs, Ag, m, cg, h2⟩, h3, h4, h5⟩ := h
 have hs := hf.small
 have hn := h2.lens.1
 subst hn
 exact Image_yes DA dr a b c d _ sA.off sA.cut sA.wr As Ag cs m cg sA.slots W h2.1 h2.2.1 h2.slotsC hs.1 hs.2.2.2.1
end

section
variable {w0 W W2 : World} {X : Nat → Prop} {a b c d : Int} {DA DB : Nat} {gA gB g' : List Bool} {sA sB s' : DS}
theorem DR.turnB {okA okB : Nat → Prop} (h1 : Below w0.heap.size w0 W) (h2 : Dk W w0.heap.size okA DA a b c d gA sA) (h4 : ∀ k, okA k → ¬ okB k) (h5 : ∀ k, X k → k < W.heap.size ∧ ¬ okA k ∧ ¬ okB k)
  (hw : Wrote w0.heap.size okB W W2) (h3 : Rk W2 w0.heap.size (Gr okB W W2) DB a b c d g' s') : DR w0 W2 X a b c d DA DB gA sA g' s' ∧ ∀ k, X k → W2.heap[k]? = W.heap[k]? := by
 refine ⟨⟨okA, Gr okB W W2, hw.outer h1 (Nat.le_refl _), h2.kept hw.2.2 h4, h3, Gr.apart' h4 (fun k hk => (h2.bound k hk).2), fun k hk => ⟨Nat.lt_of_lt_of_le (h5 k hk).1 hw.size, (h5 k hk).2.1, ?_⟩⟩, fun k hk => hw.2.2.2 k (h5 k hk).1 (h5 k hk).2.2⟩
 rintro ⟨_, hg | hg⟩
 ·
  exact (h5 k hk).2.2 hg
 ·
  have := (h5 k hk).1
  omega
theorem DSetCutB (x : Int) (hx : 0 ≤ x) (h : DR w0 W X a b c d DA DB gA sA gB sB) : Calls Try.prog 37 #[.pointer (some ⟨DB, 0, none⟩), .int .i64 x] W fun e w' => e = .returned (.int .i64 0) ∧ DR w0 w' X a b c d DA DB gA sA gB ⟨sB.slots, sB.off, x, sB.wr⟩ ∧ ∀ k, X k → w'.heap[k]? = W.heap[k]? := by
 obtain ⟨okA, okB, h1, h2, ⟨As, n, cs, Ag, m, cg, h3⟩, h4, h5⟩ := h
 refine (RSetCut DB As Ag n cs m cg a b c d sB.slots gB sB.off sB.cut sB.wr _ okB x W h3 hx).mono ?_
 rintro e w' ⟨rfl, k1, k2⟩
 exact ⟨rfl, DR.turnB h1 h2 h4 h5 k2 ⟨As, n, cs, Ag, m, cg, k1⟩⟩
theorem DOnB (h : DR w0 W X a b c d DA DB gA sA gB sB) : Calls Try.prog 38 #[.pointer (some ⟨DB, 0, none⟩)] W fun e w' => e = .returned (.tuple #[]) ∧ DR w0 w' X a b c d DA DB gA sA gB ⟨sB.slots, false, -1, sB.wr⟩ ∧ ∀ k, X k → w'.heap[k]? = W.heap[k]? := by
 obtain ⟨okA, okB, h1, h2, ⟨As, n, cs, Ag, m, cg, h3⟩, h4, h5⟩ := h
 refine (ROn DB As Ag n cs m cg a b c d sB.slots gB sB.off sB.cut sB.wr _ okB W h3).mono ?_
 rintro e w' ⟨rfl, k1, k2⟩
 exact ⟨rfl, DR.turnB h1 h2 h4 h5 k2 ⟨As, n, cs, Ag, m, cg, k1⟩⟩
theorem DWholeB (hf : Fit a b c d gB sB) (h : DR w0 W X a b c d DA DB gA sA gB sB) : Calls Try.prog 39 #[.pointer (some ⟨DB, 0, none⟩)] W fun e w' => e = .returned (.tuple #[]) ∧ DR w0 w' X a b c d DA DB gA sA (List.replicate gB.length false) sB ∧ ∀ k, X k → w'.heap[k]? = W.heap[k]? := by
 obtain ⟨okA, okB, h1, h2, ⟨As, n, cs, Ag, m, cg, h3⟩, h4, h5⟩ := h
 have hm := h3.lens.2.2.1
 subst hm
 refine (RWhole DB As Ag n cs gB.length cg a b c d sB.slots gB sB.off sB.cut sB.wr _ okB W h3 hf.small.2.1).mono ?_
 rintro e w' ⟨rfl, Ag', cg', k1, k2⟩
 exact ⟨rfl, DR.turnB h1 h2 h4 h5 k2 ⟨As, n, cs, Ag', gB.length, cg', k1⟩⟩
theorem DAllB (l : List S51) (A : Option Addr) (cl : Nat) (okl : Nat → Prop) (hf : Fit a b c d gB sB) (hcu : -1 ≤ sB.cut ∧ sB.cut ≤ 9223372036854775807) (hF : Kd.F k51 W okl A l.length l) (hokl : ∀ k, okl k → k < w0.heap.size ∨ X k) (hel : ∀ x ∈ l, IsB x.f3 ∧ x.f3.length ≤ 1048576) (hln : l.length ≤ 100000) (hwr : sB.wr + l.length ≤ 1000000) (h : DR w0 W X a b c d DA DB gA sA gB sB) :
  Calls Try.prog 34 #[.pointer (some ⟨DB, 0, none⟩), .slice A l.length cl] W fun e w' => e = .returned (.int .i64 (putsL gB.length d (sizeOf08 a b c) l sB).2) ∧ DR w0 w' X a b c d DA DB gA sA gB (putsL gB.length d (sizeOf08 a b c) l sB).1 ∧ ∀ k, X k → w'.heap[k]? = W.heap[k]? := by
 obtain ⟨okA, okB, h1, h2, ⟨As, n, cs, Ag, m, cg, h3⟩, h4, h5⟩ := h
 have hm := h3.lens.2.2.1
 have hs := hf.small
 subst hm
 have hd1 : ∀ k, okl k → ¬ okB k := fun k hk ho => by
  rcases hokl k hk with h6 | h6
  ·
   have := (h3.bd k ho).1
   omega
  ·
   exact (h5 k h6).2.2 ho
 have hd2 : ∀ k, okl k → k < W.heap.size := fun k hk => by
  rcases hokl k hk with h6 | h6
  ·
   exact Nat.lt_of_lt_of_le h6 h1.size
  ·
   exact (h5 k h6).1
 refine (RAll DB As Ag n cs gB.length cg a b c d sB.slots gB sB.off sB.cut sB.wr _ okB l A cl okl W h3 hf.2.2.2.1 hs.2.1 ⟨by omega, by omega⟩ hF hd1 hd2 hel hln (by rw [hf.2.2.1, hf.2.2.2.1]) hcu ⟨hf.2.2.2.2.2.1, hwr⟩ _ rfl).mono ?_
 rintro e w' ⟨rfl, k1, k2⟩
 exact ⟨rfl, DR.turnB h1 h2 h4 h5 k2 ⟨As, n, cs, Ag, gB.length, cg, k1⟩⟩
theorem DWipeB (x : Int) (i : Nat) (hf : Fit a b c d gB sB) (hat : atOf gB.length d x 0 0 = (i : Int)) (h : DR w0 W X a b c d DA DB gA sA gB sB) :
  Calls Try.prog 36 #[.pointer (some ⟨DB, 0, none⟩), .int .i64 x] W fun e w' => e = .returned (.int .i64 0) ∧ DR w0 w' X a b c d DA DB gA sA (gB.set x.toNat true) ⟨wipeF [] sB.slots i (2 * d.toNat), sB.off, sB.cut, sB.wr⟩ ∧ ∀ k, X k → w'.heap[k]? = W.heap[k]? := by
 obtain ⟨okA, okB, h1, h2, ⟨As, n, cs, Ag, m, cg, h3⟩, h4, h5⟩ := h
 have hm := h3.lens.2.2.1
 have hs := hf.small
 subst hm
 have ha := atOf_lt (nd := gB.length) (d := d) (x := x) (y := 0) (z := 0) (by omega) (by omega)
 have hx1 : x * d ≤ ((gB.length : Int) - 1) * d := Int.mul_le_mul_of_nonneg_right (by omega) (by omega)
 rw [Int.sub_mul, Int.one_mul] at hx1
 have hn := hf.2.2.1
 rw [← hf.2.2.2.1] at hn
 refine (RWipe DB As Ag n cs gB.length cg a b c d sB.slots gB sB.off sB.cut sB.wr _ okB x i W h3 hf.2.2.2.1 hs.2.1 ⟨by omega, by omega⟩ ⟨by omega, by omega⟩ hat (by omega) hs.1).mono ?_
 rintro e w' ⟨rfl, k1, k2⟩
 exact ⟨rfl, DR.turnB h1 h2 h4 h5 k2 ⟨As, n, cs, Ag, gB.length, cg, k1⟩⟩
theorem DWipeB_bad (x : Int) (hf : Fit a b c d gB sB) (hat : atOf gB.length d x 0 0 < 0) (h : DR w0 W X a b c d DA DB gA sA gB sB) : Calls Try.prog 36 #[.pointer (some ⟨DB, 0, none⟩), .int .i64 x] W fun e w' => e = .returned (.int .i64 80) ∧ Below W.heap.size W w' := by
 obtain ⟨okA, okB, h1, h2, ⟨As, n, cs, Ag, m, cg, h3⟩, h4, h5⟩ := h
 have hm := h3.lens.2.2.1
 have hs := hf.small
 subst hm
 exact RWipe_bad DB As Ag n cs gB.length cg a b c d sB.slots gB sB.off sB.cut sB.wr _ okB x W h3 hf.2.2.2.1 hs.2.1 ⟨by omega, by omega⟩ hat
theorem DReadB_off (x y z : Int) (ho : sB.off = true) (h : DR w0 W X a b c d DA DB gA sA gB sB) : Calls Try.prog 35 #[.pointer (some ⟨DB, 0, none⟩), .int .i64 x, .int .i64 y, .int .i64 z] W fun e w' => e = .returned (.tuple #[.slice none 0 0, .int .i64 9]) ∧ Below W.heap.size W w' := by
 obtain ⟨okA, okB, h1, h2, ⟨As, n, cs, Ag, m, cg, h3⟩, h4, h5⟩ := h
 exact RRead_off DB As Ag n cs m cg a b c d sB.slots gB sB.off sB.cut sB.wr _ okB x y z W h3 ho
theorem DReadB_bad (x y z : Int) (ho : sB.off = false) (hf : Fit a b c d gB sB) (hat : atOf gB.length d x y z < 0) (h : DR w0 W X a b c d DA DB gA sA gB sB) : Calls Try.prog 35 #[.pointer (some ⟨DB, 0, none⟩), .int .i64 x, .int .i64 y, .int .i64 z] W fun e w' => e = .returned (.tuple #[.slice none 0 0, .int .i64 80]) ∧ Below W.heap.size W w' := by
 obtain ⟨okA, okB, h1, h2, ⟨As, n, cs, Ag, m, cg, h3⟩, h4, h5⟩ := h
 have hm := h3.lens.2.2.1
 have hs := hf.small
 subst hm
 exact RRead_bad DB As Ag n cs gB.length cg a b c d sB.slots gB sB.off sB.cut sB.wr _ okB x y z W h3 ho hf.2.2.2.1 hs.2.1 ⟨by omega, by omega⟩ hat
theorem DReadB (x y z : Int) (i : Nat) (ho : sB.off = false) (hf : Fit a b c d gB sB) (hat : atOf gB.length d x y z = (i : Int)) (hi : i < sB.slots.length) (hB : IsB (sB.slots.getD i [])) (h : DR w0 W X a b c d DA DB gA sA gB sB) : Calls Try.prog 35 #[.pointer (some ⟨DB, 0, none⟩), .int .i64 x, .int .i64 y, .int .i64 z] W fun e w' => ∃ v : Value, e = .returned (.tuple #[v, .int .i64 0]) ∧ Kd.V (Kd.int .u8) 5 w' W.heap.size (fun k_ => W.heap.size ≤ k_) v (sB.slots.getD i []) ∧ Below W.heap.size W w' := by
 obtain ⟨okA, okB, h1, h2, ⟨As, n, cs, Ag, m, cg, h3⟩, h4, h5⟩ := h
 have hm := h3.lens.2.2.1
 have hs := hf.small
 subst hm
 have hl : (sB.slots.getD i []).length ≤ 1048576 := by
  rw [List.getD_eq_getElem?_getD, List.getElem?_eq_getElem hi]
  exact Nat.le_trans (hf.2.2.2.2.1 _ (List.getElem_mem hi)) (by decide)
 exact RRead DB As Ag n cs gB.length cg a b c d sB.slots gB sB.off sB.cut sB.wr _ okB x y z W h3 ho hf.2.2.2.1 hs.2.1 ⟨by omega, by omega⟩ i hat hi hB hl
theorem DSame (hf : Fit a b c d gA sA) (h : DR w0 W X a b c d DA DB gA sA gA sA) : Calls Try.prog 12 #[.pointer (some ⟨DA, 0, none⟩), .pointer (some ⟨DB, 0, none⟩)] W fun e w' => e = .returned (.bool true) ∧ Below W.heap.size W w' := by
 obtain ⟨okA, okB, h1, ⟨dr, As, n, cs, Ag, m, cg, h2⟩, ⟨As2, n2, cs2, Ag2, m2, cg2, h3⟩, h4, h5⟩ := h
 have hs := hf.small
 obtain ⟨rfl, l1, rfl, l2⟩ := h2.lens
 obtain ⟨rfl, l3, rfl, l4⟩ := h3.lens
 have hb := hf.2.1
 have hn := hf.2.2.1
 exact same_walk DA dr DB a b c d (sizeOf08 a b c) sA.off sA.cut sA.cut sA.wr As Ag As2 Ag2 cs cg cs2 cg2 sA.slots gA W h2.1 h2.2.1 h3.1 h2.slotsC h2.goneC h3.slotsC h3.goneC l3 (by omega) (by omega) hs.2.2.2.1
end
end Go.Proofs.Ytemmhgfjfbdggaa.P

import Derived.Test.YtemmhgfjfbdggaaP08V
namespace Go.Proofs.Ytemmhgfjfbdggaa.P
open Go.RowKit Go.Proofs.YtemmhgfjfbdggaaW.PrintWords Go.Proofs.YtemmhgfjfbdggaaW.PrintLast Go.Proofs.YtemmhgfjfbdggaaW.PrintMore
attribute [local go_sem] max2_int min2_int max_two min_two max_three min_three max_four min_four
set_option linter.unusedVariables false
set_option linter.unusedSimpArgs false
/-! A part of a row is cleared. -/
def wipeF {α : Type} (z : α) (xs : List α) (i : Nat) : Nat → List α
  | 0 => xs
  | c + 1 => wipeF z (xs.set i z) (i + 1) c
theorem wipeF_len {α : Type} (z : α) : ∀ (c : Nat) (xs : List α) (i : Nat), (wipeF z xs i c).length = xs.length
  | 0, _, _ => rfl
  | c + 1, xs, i => by rw [wipeF, wipeF_len z c]; simp
theorem wipeF_get {α : Type} (z : α) : ∀ (c : Nat) (xs : List α) (i j : Nat), j < xs.length → (wipeF z xs i c).getD j z = if i ≤ j ∧ j < i + c then z else xs.getD j z
  | 0, xs, i, j, hj => by rw [wipeF, if_neg (by omega)]
  | c + 1, xs, i, j, hj => by
    rw [wipeF, wipeF_get z c (xs.set i z) (i + 1) j (by simpa using hj)]
    by_cases h1 : i = j
    · subst h1
      rw [if_neg (by omega), if_pos (by omega)]
      simp [List.getD_eq_getElem?_getD, hj]
    · by_cases h2 : i + 1 ≤ j ∧ j < i + 1 + c
      · rw [if_pos h2, if_pos (by omega)]
      · rw [if_neg h2, if_neg (by omega)]
        simp [List.getD_eq_getElem?_getD, List.getElem?_set_ne h1]
theorem wipeF_mem {α : Type} (z : α) (Q : α → Prop) (hz : Q z) : ∀ (c : Nat) (xs : List α) (i : Nat), (∀ x ∈ xs, Q x) → ∀ x ∈ wipeF z xs i c, Q x
  | 0, _, _, h => h
  | c + 1, xs, i, h => wipeF_mem z Q hz c (xs.set i z) (i + 1) (fun x hx => by
    rcases List.mem_or_eq_of_mem_set hx with hx | rfl
    · exact h x hx
    · exact hz)
theorem DiskO.clearSlots {base : Nat} {ok : Nat → Prop} {w : World} {D dr g n cs m cg : Nat} {Ag : Option Addr} {a b c d sz : Int} {gone : List Bool} {off : Bool} {cut wr : Int} : ∀ (q : Nat) (W : World) (slots : List (List Int)) (i : Nat),
    DiskO W base ok D dr (some ⟨g, 0, none⟩) n cs Ag m cg a b c d sz slots gone off cut wr → Wrote base ok w W → i + q ≤ slots.length →
    DiskO (W.setCells g i (List.replicate q (.slice none 0 0))) base ok D dr (some ⟨g, 0, none⟩) n cs Ag m cg a b c d sz (wipeF [] slots i q) gone off cut wr ∧ Wrote base ok w (W.setCells g i (List.replicate q (.slice none 0 0)))
  | 0, W, slots, i, h, hw, _ => ⟨h, hw⟩
  | q + 1, W, slots, i, h, hw, hi => by
    have h1 := h.setSlot (i := i) (by omega) (Kd.R_nil (Kd.int .u8) 5 W base (fun k => ok k ∧ k ≠ g))
    rw [List.replicate_succ]
    exact DiskO.clearSlots q (W.setCell ⟨g, i, none⟩ (.slice none 0 0)) (slots.set i []) (i + 1) h1.1 (hw.cell h1.2 (h.base_ g h1.2) _) (by rw [List.length_set]; omega)
theorem DiskO.clearGone {base : Nat} {ok : Nat → Prop} {w : World} {D dr g n cs m cg : Nat} {As : Option Addr} {a b c d sz : Int} {slots : List (List Int)} {off : Bool} {cut wr : Int} : ∀ (q : Nat) (W : World) (gone : List Bool) (i : Nat),
    DiskO W base ok D dr As n cs (some ⟨g, 0, none⟩) m cg a b c d sz slots gone off cut wr → Wrote base ok w W → i + q ≤ gone.length →
    DiskO (W.setCells g i (List.replicate q (.bool false))) base ok D dr As n cs (some ⟨g, 0, none⟩) m cg a b c d sz slots (wipeF false gone i q) off cut wr ∧ Wrote base ok w (W.setCells g i (List.replicate q (.bool false)))
  | 0, W, gone, i, h, hw, _ => ⟨h, hw⟩
  | q + 1, W, gone, i, h, hw, hi => by
    have h1 := h.setGone (i := i) (x := false)
    rw [List.replicate_succ]
    exact DiskO.clearGone q (W.setCell ⟨g, i, none⟩ (.bool false)) (gone.set i false) (i + 1) h1.1 (hw.cell h1.2 (h.base_ g h1.2) _) (by rw [List.length_set]; omega)
theorem DiskO.slotCell {W : World} {base : Nat} {ok : Nat → Prop} {D dr g n cs m cg : Nat} {Ag : Option Addr} {a b c d sz : Int} {slots : List (List Int)} {gone : List Bool} {off : Bool} {cut wr : Int} (h : DiskO W base ok D dr (some ⟨g, 0, none⟩) n cs Ag m cg a b c d sz slots gone off cut wr) {i : Nat} (hi : i < slots.length) : (W.cell? ⟨g, i, none⟩).isSome = true ∧ W.frozen? ⟨g, i, none⟩ = false := by
  obtain ⟨u, h1, h2⟩ := R_cell_row h.2.2.1 hi
  rw [h1]
  exact ⟨rfl, h2⟩
theorem DiskO.goneCell {W : World} {base : Nat} {ok : Nat → Prop} {D dr g n cs m cg : Nat} {As : Option Addr} {a b c d sz : Int} {slots : List (List Int)} {gone : List Bool} {off : Bool} {cut wr : Int} (h : DiskO W base ok D dr As n cs (some ⟨g, 0, none⟩) m cg a b c d sz slots gone off cut wr) {i : Nat} (hi : i < gone.length) : (W.cell? ⟨g, i, none⟩).isSome = true ∧ W.frozen? ⟨g, i, none⟩ = false := by
  have hr := h.2.2.2.1
  rw [h.lens.2.2.1] at hr
  have h1 := Kd.R_cell false hr (i : Int) (by omega) (by omega)
  rw [Int.toNat_natCast] at h1
  rw [h1.1]
  exact ⟨rfl, h1.2⟩
theorem wrap_add2 (i dn : Nat) (h : i + 2 * dn ≤ 1000000) : wrap64 ((i : Int) + wrap64 (2 * (dn : Int))) = ((i + 2 * dn : Nat) : Int) := by
  have e1 : wrap64 (2 * (dn : Int)) = 2 * (dn : Int) := by
    unfold wrap64
    omega
  rw [e1]
  unfold wrap64
  omega
theorem zero45 (w : World) : (zeroValue 45).run Try.prog w = .ok (.slice none 0 0) w := by kernel_rfl
theorem zero4 (w : World) : (zeroValue 4).run Try.prog w = .ok (.bool false) w := by kernel_rfl
set_option maxHeartbeats 8000000 in
set_option maxRecDepth 100000 in
theorem Whole_yes (D dr : Nat) (As Ag : Option Addr) (n cs m cg : Nat) (a b c d sz : Int) (slots : List (List Int)) (gone : List Bool) (off : Bool) (cut wr : Int) (base : Nat) (ok : Nat → Prop) (w : World) (H : DiskO w base ok D dr As n cs Ag m cg a b c d sz slots gone off cut wr) (hm : 1 ≤ m) : Calls Try.prog 26 #[.pointer (some ⟨D, 0, none⟩)] w fun e w' => e = .returned (.int .i64 0) ∧ DiskO w' base (Gr ok w w') D dr As n cs Ag m cg a b c d sz slots (wipeF false gone 0 gone.length) off cut wr ∧ Wrote base ok w w' := by
  have hl := H.lens
  obtain ⟨g, cap, e, _⟩ := Kd.R_form H.2.2.2.1 (by omega)
  injection e with e1 e2 e3
  subst e1
  have HH0 := Aside0.mk H
  have HHr := Aside0.mk H
  have HM1 := Aside0.mk hm
  have HML := Aside0.mk hl.2.2.1
  have HB := Aside0.mk (Wrote.start (ok := ok) (w := w) H.low)
  have BKD := Aside0.mk H.1
  have BKdr := Aside0.mk H.2.1
  have HZ1 := Aside0.mk (show D < w.heap.size from blk_lt H.1)
  have HZ2 := Aside0.mk (show dr < w.heap.size from blk_lt H.2.1)
  have hneDd : D ≠ dr := H.ne
  have hnedD : dr ≠ D := hneDd.symm
  clear H hm hl e2 e3
  have hcD_0 : w.cell? ⟨D, 0, none⟩ = some (.pointer (some ⟨dr, 0, none⟩)) := (blk_cell BKD.out 0).trans rfl
  have hfD_0 := blk_frozen BKD.out 0
  have hcD_1 : w.cell? ⟨D, 1, none⟩ = some (.bool off) := (blk_cell BKD.out 1).trans rfl
  have hfD_1 := blk_frozen BKD.out 1
  have hcD_2 : w.cell? ⟨D, 2, none⟩ = some (.int .i64 cut) := (blk_cell BKD.out 2).trans rfl
  have hfD_2 := blk_frozen BKD.out 2
  have hcD_3 : w.cell? ⟨D, 3, none⟩ = some (.int .i64 wr) := (blk_cell BKD.out 3).trans rfl
  have hfD_3 := blk_frozen BKD.out 3
  have hcdr_0 : w.cell? ⟨dr, 0, none⟩ = some (.int .i64 a) := (blk_cell BKdr.out 0).trans rfl
  have hfdr_0 := blk_frozen BKdr.out 0
  have hcdr_1 : w.cell? ⟨dr, 1, none⟩ = some (.int .i64 b) := (blk_cell BKdr.out 1).trans rfl
  have hfdr_1 := blk_frozen BKdr.out 1
  have hcdr_2 : w.cell? ⟨dr, 2, none⟩ = some (.int .i64 c) := (blk_cell BKdr.out 2).trans rfl
  have hfdr_2 := blk_frozen BKdr.out 2
  have hcdr_3 : w.cell? ⟨dr, 3, none⟩ = some (.int .i64 d) := (blk_cell BKdr.out 3).trans rfl
  have hfdr_3 := blk_frozen BKdr.out 3
  have hcdr_4 : w.cell? ⟨dr, 4, none⟩ = some (.int .i64 sz) := (blk_cell BKdr.out 4).trans rfl
  have hfdr_4 := blk_frozen BKdr.out 4
  have hcdr_5 : w.cell? ⟨dr, 5, none⟩ = some (.slice As n cs) := (blk_cell BKdr.out 5).trans rfl
  have hfdr_5 := blk_frozen BKdr.out 5
  have hcdr_6 : w.cell? ⟨dr, 6, none⟩ = some (.slice (some ⟨g, 0, none⟩) m cg) := (blk_cell BKdr.out 6).trans rfl
  have hfdr_6 := blk_frozen BKdr.out 6
  go_enter Try.func26, Try.ntmps26
  have tok1 : True := trivial
  go_wp2_with (first | (have _ := tok1; go_at_call 45; (with_reducible refine (made_yes D dr _ _ _ _ (by (with_reducible repeat (first | refine blk_drewN ?_ _ | refine blk_drew ?_ | refine blk_alloc ?_ _)); exact BKD.out)).mono ?_); rintro e w1 ⟨rfl, hd⟩; have hb := hd.below; (try clear hcD_0 hfD_0); (try clear hcD_1 hfD_1); (try clear hcD_2 hfD_2); (try clear hcD_3 hfD_3); (try clear hcdr_0 hfdr_0); (try clear hcdr_1 hfdr_1); (try clear hcdr_2 hfdr_2); (try clear hcdr_3 hfdr_3); (try clear hcdr_4 hfdr_4); (try clear hcdr_5 hfdr_5); (try clear hcdr_6 hfdr_6); have hs : Below w.heap.size w w1 := below_step (by repeat (first | exact Below.refl _ _ | apply below_alloc | apply pw_below_drewN | apply below_drew1)) hb; have SZ1 := Aside0.mk (show w.heap.size ≤ w1.heap.size from hs.size); replace BKD := Aside0.mk (blk_below BKD.out hs); replace BKdr := Aside0.mk (blk_below BKdr.out hs); replace HHr := Aside0.mk (DiskO.below HHr.out hs); replace HB := Aside0.mk (Wrote.below HB.out hs); clear hb hd hs; have hcD_0 : w1.cell? ⟨D, 0, none⟩ = some (.pointer (some ⟨dr, 0, none⟩)) := (blk_cell BKD.out 0).trans rfl; have hfD_0 := blk_frozen BKD.out 0; have hcD_1 : w1.cell? ⟨D, 1, none⟩ = some (.bool off) := (blk_cell BKD.out 1).trans rfl; have hfD_1 := blk_frozen BKD.out 1; have hcD_2 : w1.cell? ⟨D, 2, none⟩ = some (.int .i64 cut) := (blk_cell BKD.out 2).trans rfl; have hfD_2 := blk_frozen BKD.out 2; have hcD_3 : w1.cell? ⟨D, 3, none⟩ = some (.int .i64 wr) := (blk_cell BKD.out 3).trans rfl; have hfD_3 := blk_frozen BKD.out 3; have hcdr_0 : w1.cell? ⟨dr, 0, none⟩ = some (.int .i64 a) := (blk_cell BKdr.out 0).trans rfl; have hfdr_0 := blk_frozen BKdr.out 0; have hcdr_1 : w1.cell? ⟨dr, 1, none⟩ = some (.int .i64 b) := (blk_cell BKdr.out 1).trans rfl; have hfdr_1 := blk_frozen BKdr.out 1; have hcdr_2 : w1.cell? ⟨dr, 2, none⟩ = some (.int .i64 c) := (blk_cell BKdr.out 2).trans rfl; have hfdr_2 := blk_frozen BKdr.out 2; have hcdr_3 : w1.cell? ⟨dr, 3, none⟩ = some (.int .i64 d) := (blk_cell BKdr.out 3).trans rfl; have hfdr_3 := blk_frozen BKdr.out 3; have hcdr_4 : w1.cell? ⟨dr, 4, none⟩ = some (.int .i64 sz) := (blk_cell BKdr.out 4).trans rfl; have hfdr_4 := blk_frozen BKdr.out 4; have hcdr_5 : w1.cell? ⟨dr, 5, none⟩ = some (.slice As n cs) := (blk_cell BKdr.out 5).trans rfl; have hfdr_5 := blk_frozen BKdr.out 5; have hcdr_6 : w1.cell? ⟨dr, 6, none⟩ = some (.slice (some ⟨g, 0, none⟩) m cg) := (blk_cell BKdr.out 6).trans rfl; have hfdr_6 := blk_frozen BKdr.out 6; clear tok1))
  have hcl : ∀ ty, (Builtin.clear_ #[76] ty #[.slice (some ⟨g, 0, none⟩) m cg]).run Try.prog w1 = .ok (.tuple #[]) (w1.setCells g 0 (List.replicate m (.bool false))) := fun ty =>
    Lib.run_clear_slice w1 76 4 ty (.bool false) Try.underlying76 zero4 rfl rfl g 0 m cg HM1.out (fun j hj => by rw [Nat.zero_add]; exact (HHr.out.goneCell (i := j) (by have := HML.out; omega)).1) (fun j hj => by rw [Nat.zero_add]; exact (HHr.out.goneCell (i := j) (by have := HML.out; omega)).2)
  go_wp2_with (simp only [hcl])
  go_ret
  have K := DiskO.clearGone m w1 gone 0 HHr.out HB.out (by have := HML.out; omega)
  have e := HML.out
  rw [← e]
  exact ⟨rfl, K.1.gr HB.out.1 (fun k hk => .inl hk) HH0.out.base_, K.2⟩
set_option maxHeartbeats 8000000 in
set_option maxRecDepth 100000 in
theorem blank_good (D dr : Nat) (As Ag : Option Addr) (n cs m cg : Nat) (a b c d sz : Int) (slots : List (List Int)) (gone : List Bool) (off : Bool) (cut wr : Int) (base : Nat) (ok : Nat → Prop) (x : Int) (i : Nat) (w : World) (H : DiskO w base ok D dr As n cs Ag m cg a b c d sz slots gone off cut wr) (hm : m ≤ 16) (hd : 1 ≤ d ∧ d ≤ 4096) (hx : 0 ≤ x ∧ x < m) (hat : atOf m d x 0 0 = (i : Int)) (hi : i + 2 * d.toNat ≤ slots.length) (hsl : slots.length ≤ 1000000) : Calls Try.prog 50 #[.pointer (some ⟨dr, 0, none⟩), .int .i64 x] w fun e w' => e = .returned (.int .i64 0) ∧ DiskO w' base (Gr ok w w') D dr As n cs Ag m cg a b c d sz (wipeF [] slots i (2 * d.toNat)) (gone.set x.toNat true) off cut wr ∧ Wrote base ok w w' := by
  have hl := H.lens
  obtain ⟨g, cap, e, _⟩ := Kd.R_form H.2.2.1 (by omega)
  injection e with e1 e2 e3
  subst e1
  obtain ⟨g2, cap2, e', _⟩ := Kd.R_form H.2.2.2.1 (by omega)
  injection e' with e1' e2' e3'
  subst e1'
  obtain ⟨dn, rfl⟩ : ∃ dn : Nat, d = (dn : Int) := ⟨d.toNat, by omega⟩
  rw [Int.toNat_natCast] at hi ⊢
  obtain ⟨xn, rfl⟩ : ∃ xn : Nat, x = (xn : Int) := ⟨x.toNat, by omega⟩
  rw [Int.toNat_natCast]
  have HH0 := Aside0.mk H
  have HHr := Aside0.mk H
  have HM := Aside0.mk hm
  have HDD := Aside0.mk hd
  have HX := Aside0.mk hx
  have HAT := Aside0.mk hat
  have HI := Aside0.mk hi
  have HLN := Aside0.mk hl
  have HB := Aside0.mk (Wrote.start (ok := ok) (w := w) H.low)
  have BKD := Aside0.mk H.1
  have BKdr := Aside0.mk H.2.1
  have HZ2 := Aside0.mk (show dr < w.heap.size from blk_lt H.2.1)
  have b1 : decide ((i : Int) < 0) = false := decide_eq_false (by omega)
  have b2 : decide (xn < m) = true := decide_eq_true (by omega)
  have b3 : (xn < m) = True := eq_true (by omega)
  obtain ⟨j, hj⟩ : ∃ j : Nat, j = i + 2 * dn := ⟨_, rfl⟩
  have f1 : (j ≤ cs) = True := eq_true (by omega)
  have f2 : (i ≤ j) = True := eq_true (by omega)
  have f3 : (cs = i) = False := eq_false (by omega)
  have HJ := Aside0.mk hj
  have hij : i + 2 * dn ≤ 1000000 := by omega
  have hE : wrap64 ((i : Int) + wrap64 (2 * (dn : Int))) = (j : Int) := by
    rw [hj]
    exact wrap_add2 i dn hij
  clear hj hij
  clear H hm hd hx hat hi hl e2 e3 e2' e3' hsl
  have hcdr_0 : w.cell? ⟨dr, 0, none⟩ = some (.int .i64 a) := (blk_cell BKdr.out 0).trans rfl
  have hfdr_0 := blk_frozen BKdr.out 0
  have hcdr_1 : w.cell? ⟨dr, 1, none⟩ = some (.int .i64 b) := (blk_cell BKdr.out 1).trans rfl
  have hfdr_1 := blk_frozen BKdr.out 1
  have hcdr_2 : w.cell? ⟨dr, 2, none⟩ = some (.int .i64 c) := (blk_cell BKdr.out 2).trans rfl
  have hfdr_2 := blk_frozen BKdr.out 2
  have hcdr_3 : w.cell? ⟨dr, 3, none⟩ = some (.int .i64 (dn : Int)) := (blk_cell BKdr.out 3).trans rfl
  have hfdr_3 := blk_frozen BKdr.out 3
  have hcdr_4 : w.cell? ⟨dr, 4, none⟩ = some (.int .i64 sz) := (blk_cell BKdr.out 4).trans rfl
  have hfdr_4 := blk_frozen BKdr.out 4
  have hcdr_5 : w.cell? ⟨dr, 5, none⟩ = some (.slice (some ⟨g, 0, none⟩) n cs) := (blk_cell BKdr.out 5).trans rfl
  have hfdr_5 := blk_frozen BKdr.out 5
  have hcdr_6 : w.cell? ⟨dr, 6, none⟩ = some (.slice (some ⟨g2, 0, none⟩) m cg) := (blk_cell BKdr.out 6).trans rfl
  have hfdr_6 := blk_frozen BKdr.out 6
  go_enter Try.func50, Try.ntmps50
  have tok1 : True := trivial
  go_wp2_with (first | (have _ := tok1; go_at_call 46; (with_reducible refine (at_yes dr a b c (dn : Int) sz (some ⟨g, 0, none⟩) (some ⟨g2, 0, none⟩) n cs m cg (xn : Int) 0 0 _ (by (with_reducible repeat (first | refine blk_drewN ?_ _ | refine blk_drew ?_ | refine blk_alloc ?_ _)); exact BKdr.out) HM.out (by have := HDD.out; omega)).mono ?_); rintro e w1 ⟨rfl, hd⟩; rw [HAT.out]; have hb := hd.below; (try clear hcdr_0 hfdr_0); (try clear hcdr_1 hfdr_1); (try clear hcdr_2 hfdr_2); (try clear hcdr_3 hfdr_3); (try clear hcdr_4 hfdr_4); (try clear hcdr_5 hfdr_5); (try clear hcdr_6 hfdr_6); have hs : Below w.heap.size w w1 := below_step (by repeat (first | exact Below.refl _ _ | apply below_alloc | apply pw_below_drewN | apply below_drew1)) hb; have SZ1 := Aside0.mk (show w.heap.size ≤ w1.heap.size from hs.size); replace BKdr := Aside0.mk (blk_below BKdr.out hs); replace HHr := Aside0.mk (DiskO.below HHr.out hs); replace HB := Aside0.mk (Wrote.below HB.out hs); clear hb hd hs; have hcdr_0 : w1.cell? ⟨dr, 0, none⟩ = some (.int .i64 a) := (blk_cell BKdr.out 0).trans rfl; have hfdr_0 := blk_frozen BKdr.out 0; have hcdr_1 : w1.cell? ⟨dr, 1, none⟩ = some (.int .i64 b) := (blk_cell BKdr.out 1).trans rfl; have hfdr_1 := blk_frozen BKdr.out 1; have hcdr_2 : w1.cell? ⟨dr, 2, none⟩ = some (.int .i64 c) := (blk_cell BKdr.out 2).trans rfl; have hfdr_2 := blk_frozen BKdr.out 2; have hcdr_3 : w1.cell? ⟨dr, 3, none⟩ = some (.int .i64 (dn : Int)) := (blk_cell BKdr.out 3).trans rfl; have hfdr_3 := blk_frozen BKdr.out 3; have hcdr_4 : w1.cell? ⟨dr, 4, none⟩ = some (.int .i64 sz) := (blk_cell BKdr.out 4).trans rfl; have hfdr_4 := blk_frozen BKdr.out 4; have hcdr_5 : w1.cell? ⟨dr, 5, none⟩ = some (.slice (some ⟨g, 0, none⟩) n cs) := (blk_cell BKdr.out 5).trans rfl; have hfdr_5 := blk_frozen BKdr.out 5; have hcdr_6 : w1.cell? ⟨dr, 6, none⟩ = some (.slice (some ⟨g2, 0, none⟩) m cg) := (blk_cell BKdr.out 6).trans rfl; have hfdr_6 := blk_frozen BKdr.out 6; clear tok1))
  (try clear hcdr_0 hfdr_0)
  (try clear hcdr_1 hfdr_1)
  (try clear hcdr_2 hfdr_2)
  (try clear hcdr_3 hfdr_3)
  (try clear hcdr_4 hfdr_4)
  (try clear hcdr_5 hfdr_5)
  (try clear hcdr_6 hfdr_6)
  have hs : Below w1.heap.size w1 (World.drew w1) := below_drew1 (Below.refl _ _)
  have SZ2 := Aside0.mk (show w1.heap.size ≤ (World.drew w1).heap.size from hs.size)
  replace BKdr := Aside0.mk (blk_below BKdr.out hs)
  replace HHr := Aside0.mk (DiskO.below HHr.out hs)
  have n_ := Aside0.mk (Wrote.below HB.out hs)
  clear HB
  have HB := n_
  clear n_ hs
  refine start_ (n := 15) (S := fun w' => w'.cell? ⟨dr, 0, none⟩ = some (.int .i64 a) ∧ w'.cell? ⟨dr, 1, none⟩ = some (.int .i64 b) ∧ w'.cell? ⟨dr, 2, none⟩ = some (.int .i64 c) ∧ w'.cell? ⟨dr, 3, none⟩ = some (.int .i64 (dn : Int)) ∧ w'.cell? ⟨dr, 4, none⟩ = some (.int .i64 sz) ∧ w'.cell? ⟨dr, 5, none⟩ = some (.slice (some ⟨g, 0, none⟩) n cs) ∧ w'.cell? ⟨dr, 6, none⟩ = some (.slice (some ⟨g2, 0, none⟩) m cg)) (ds := [14]) #[false, false, false, false, false, false, false, false, false, false, false, false, false, false, false] (by kernel_rfl) rfl rfl ⟨(blk_cell BKdr.out 0).trans rfl, (blk_cell BKdr.out 1).trans rfl, (blk_cell BKdr.out 2).trans rfl, (blk_cell BKdr.out 3).trans rfl, (blk_cell BKdr.out 4).trans rfl, (blk_cell BKdr.out 5).trans rfl, (blk_cell BKdr.out 6).trans rfl⟩ (fun hHeld => ?_)
  generalize World.drew w1 = w2 at HB BKdr HHr SZ2 hHeld ⊢
  refine pure_ (i := 0) (N := some 11) (v := ?_) (a' := ?_) #[true, false, false, false, false, false, false, false, false, false, false, false, false, false, false] rfl rfl (by kernel_rfl) (fun _ _ _ h => h) (Or.inl ⟨by rfl, ?_⟩) ?_ ?_
  rotate_left
  · intro w'
    go_simp
    with_reducible rfl
  rotate_left
  · simp only [Act.put, List.setIfInBounds_toArray, List.set_cons_zero, List.set_cons_succ, i64_w, i32_w]
    rfl
  refine pure_ (i := 1) (N := some 12) (v := ?_) (a' := ?_) #[true, true, false, false, false, false, false, false, false, false, false, false, false, false, false] rfl rfl (by kernel_rfl) (fun _ _ _ h => h) (Or.inl ⟨by rfl, ?_⟩) ?_ ?_
  rotate_left
  · intro w'
    go_simp
    with_reducible rfl
  rotate_left
  · simp only [Act.put, List.setIfInBounds_toArray, List.set_cons_zero, List.set_cons_succ, i64_w, i32_w]
    rfl
  refine pure_ (i := 2) (N := some 13) (v := ?_) (a' := ?_) #[true, true, true, false, false, false, false, false, false, false, false, false, false, false, false] rfl rfl (by kernel_rfl) (fun _ _ _ h => h) (Or.inl ⟨by rfl, ?_⟩) ?_ ?_
  rotate_left
  · intro w'
    go_simp
    with_reducible rfl
  rotate_left
  · simp only [Act.put, List.setIfInBounds_toArray, List.set_cons_zero, List.set_cons_succ, i64_w, i32_w]
    rfl
  refine pure_ (i := 4) (N := some 15) (v := ?_) (a' := ?_) #[true, true, true, false, true, false, false, false, false, false, false, false, false, false, false] rfl rfl (by kernel_rfl) (fun _ _ _ h => h) (Or.inl ⟨by rfl, ?_⟩) ?_ ?_
  rotate_left
  · intro w'
    go_simp
    with_reducible rfl
  rotate_left
  · simp only [Act.put, List.setIfInBounds_toArray, List.set_cons_zero, List.set_cons_succ, i64_w, i32_w]
    rfl
  refine pure_ (i := 5) (N := some 16) (v := ?_) (a' := ?_) #[true, true, true, false, true, true, false, false, false, false, false, false, false, false, false] rfl rfl (by kernel_rfl) (fun _ _ _ h => h) (Or.inl ⟨by rfl, ?_⟩) ?_ ?_
  rotate_left
  · intro w'
    go_simp
    with_reducible rfl
  rotate_left
  · simp only [Act.put, List.setIfInBounds_toArray, List.set_cons_zero, List.set_cons_succ, i64_w, i32_w]
    rfl
  refine pure_ (i := 6) (N := some 17) (v := ?_) (a' := ?_) #[true, true, true, false, true, true, true, false, false, false, false, false, false, false, false] rfl rfl (by kernel_rfl) (fun _ _ _ h => h) (Or.inl ⟨by rfl, ?_⟩) ?_ ?_
  rotate_left
  · intro w'
    go_simp
    with_reducible rfl
  rotate_left
  · simp only [Act.put, List.setIfInBounds_toArray, List.set_cons_zero, List.set_cons_succ, i64_w, i32_w]
    rfl
  refine pure_ (i := 7) (N := some 18) (v := ?_) (a' := ?_) #[true, true, true, false, true, true, true, true, false, false, false, false, false, false, false] rfl rfl (by kernel_rfl) (fun _ _ _ h => h) (Or.inl ⟨by rfl, ?_⟩) ?_ ?_
  rotate_left
  · intro w'
    go_simp
    with_reducible rfl
  rotate_left
  · simp only [Act.put, List.setIfInBounds_toArray, List.set_cons_zero, List.set_cons_succ, i64_w, i32_w]
    rfl
  refine pure_ (i := 8) (N := some 19) (v := ?_) (a' := ?_) #[true, true, true, false, true, true, true, true, true, false, false, false, false, false, false] rfl rfl (by kernel_rfl) (fun _ _ _ h => h) (Or.inl ⟨by rfl, ?_⟩) ?_ ?_
  rotate_left
  · intro w'
    go_simp
    with_reducible rfl
  rotate_left
  · simp only [Act.put, List.setIfInBounds_toArray, List.set_cons_zero, List.set_cons_succ, i64_w, i32_w]
    rfl
  refine pure_ (i := 9) (N := some 20) (v := ?_) (a' := ?_) #[true, true, true, false, true, true, true, true, true, true, false, false, false, false, false] rfl rfl (by kernel_rfl) (fun _ _ _ h => h) (Or.inl ⟨by rfl, ?_⟩) ?_ ?_
  rotate_left
  · intro w'
    go_simp
    with_reducible rfl
  rotate_left
  · simp only [Act.put, List.setIfInBounds_toArray, List.set_cons_zero, List.set_cons_succ, i64_w, i32_w]
    rfl
  refine take_ (i := 3) (N := some 14) (v := ?_) (a' := ?_) #[true, true, true, true, true, true, true, true, true, true, false, false, false, false, false] rfl rfl (by kernel_rfl) (fun _ _ _ h => h) (Or.inl ⟨by rfl, ?_⟩) hHeld ?_ ?_
  rotate_left
  · rintro w' ⟨s0, s1, s2, s3, s4, s5, s6⟩
    go_simp
    with_reducible rfl
  rotate_left
  · simp only [Act.put, List.setIfInBounds_toArray, List.set_cons_zero, List.set_cons_succ, i64_w, i32_w]
    rfl
  refine take_ (i := 10) (N := some 21) (v := ?_) (a' := ?_) #[true, true, true, true, true, true, true, true, true, true, true, false, false, false, false] rfl rfl (by kernel_rfl) (fun _ _ _ h => h) (Or.inl ⟨by rfl, ?_⟩) hHeld ?_ ?_
  rotate_left
  · rintro w' ⟨s0, s1, s2, s3, s4, s5, s6⟩
    go_simp
    with_reducible rfl
  rotate_left
  · simp only [Act.put, List.setIfInBounds_toArray, List.set_cons_zero, List.set_cons_succ, i64_w, i32_w]
    rfl
  refine pure_ (i := 11) (N := some 22) (v := ?_) (a' := ?_) #[true, true, true, true, true, true, true, true, true, true, true, true, false, false, false] rfl rfl (by kernel_rfl) (fun _ _ _ h => h) (Or.inl ⟨by rfl, ?_⟩) ?_ ?_
  rotate_left
  · intro w'
    go_simp
    with_reducible rfl
  rotate_left
  · simp only [Act.put, List.setIfInBounds_toArray, List.set_cons_zero, List.set_cons_succ, i64_w, i32_w]
    rfl
  refine pure_ (i := 12) (N := some 23) (v := ?_) (a' := ?_) #[true, true, true, true, true, true, true, true, true, true, true, true, true, false, false] rfl rfl (by kernel_rfl) (fun _ _ _ h => h) (Or.inl ⟨by rfl, ?_⟩) ?_ ?_
  rotate_left
  · intro w'
    go_simp
    with_reducible rfl
  rotate_left
  · simp only [Act.put, List.setIfInBounds_toArray, List.set_cons_zero, List.set_cons_succ, i64_w, i32_w]
    rfl
  refine pure_ (i := 13) (N := some 24) (v := ?_) (a' := ?_) #[true, true, true, true, true, true, true, true, true, true, true, true, true, true, false] rfl rfl (by kernel_rfl) (fun _ _ _ h => h) (Or.inl ⟨by rfl, ?_⟩) ?_ ?_
  rotate_left
  · intro w'
    go_simp
    with_reducible rfl
  rotate_left
  · simp only [Act.put, List.setIfInBounds_toArray, List.set_cons_zero, List.set_cons_succ, i64_w, i32_w]
    rfl
  refine last_ (i := 14) (N := none) #[true, true, true, true, true, true, true, true, true, true, true, true, true, true, true] rfl rfl (by kernel_rfl) (by decide) (fun K hK => ?_)
  have hcl : ∀ ty, (Builtin.clear_ #[34] ty #[.slice (some ⟨g, i, none⟩) (j - i) (cs - i)]).run Try.prog w2 = .ok (.tuple #[]) (w2.setCells g i (List.replicate (j - i) (.slice none 0 0))) := fun ty => Lib.run_clear_slice w2 34 45 ty (.slice none 0 0) Try.underlying34 zero45 rfl rfl g i (j - i) (cs - i) (by clear hE; have := HJ.out; have := HDD.out; omega) (fun q hq => (HHr.out.slotCell (i := i + q) (by clear hE; have := HJ.out; have := HI.out; omega)).1) (fun q hq => (HHr.out.slotCell (i := i + q) (by clear hE; have := HJ.out; have := HI.out; omega)).2)
  refine value_ (w1 := ?_) (v := ?_) (by rfl) rfl ?_ ?_
  rotate_left 2
  · go_simp
    constructor
    · rfl
    · rfl
  refine hK.out _ _ ?_
  clear hK K
  refine done_ (by kernel_rfl) ?_
  have hcdr_0 : w2.cell? ⟨dr, 0, none⟩ = some (.int .i64 a) := (blk_cell BKdr.out 0).trans rfl
  have hfdr_0 := blk_frozen BKdr.out 0
  have hcdr_1 : w2.cell? ⟨dr, 1, none⟩ = some (.int .i64 b) := (blk_cell BKdr.out 1).trans rfl
  have hfdr_1 := blk_frozen BKdr.out 1
  have hcdr_2 : w2.cell? ⟨dr, 2, none⟩ = some (.int .i64 c) := (blk_cell BKdr.out 2).trans rfl
  have hfdr_2 := blk_frozen BKdr.out 2
  have hcdr_3 : w2.cell? ⟨dr, 3, none⟩ = some (.int .i64 (dn : Int)) := (blk_cell BKdr.out 3).trans rfl
  have hfdr_3 := blk_frozen BKdr.out 3
  have hcdr_4 : w2.cell? ⟨dr, 4, none⟩ = some (.int .i64 sz) := (blk_cell BKdr.out 4).trans rfl
  have hfdr_4 := blk_frozen BKdr.out 4
  have hcdr_5 : w2.cell? ⟨dr, 5, none⟩ = some (.slice (some ⟨g, 0, none⟩) n cs) := (blk_cell BKdr.out 5).trans rfl
  have hfdr_5 := blk_frozen BKdr.out 5
  have hcdr_6 : w2.cell? ⟨dr, 6, none⟩ = some (.slice (some ⟨g2, 0, none⟩) m cg) := (blk_cell BKdr.out 6).trans rfl
  have hfdr_6 := blk_frozen BKdr.out 6
  (try clear hcdr_0 hfdr_0)
  (try clear hcdr_1 hfdr_1)
  (try clear hcdr_2 hfdr_2)
  (try clear hcdr_3 hfdr_3)
  (try clear hcdr_4 hfdr_4)
  (try clear hcdr_5 hfdr_5)
  (try clear hcdr_6 hfdr_6)
  clear hE
  have K := DiskO.clearSlots (j - i) w2 slots i HHr.out HB.out (by have := HJ.out; have := HI.out; omega)
  generalize w2.setCells g i (List.replicate (j - i) (.slice none 0 0)) = w3 at K ⊢
  clear HHr HB BKdr
  have HHr := Aside0.mk K.1
  have HB := Aside0.mk K.2
  have BKdr := Aside0.mk K.1.2.1
  clear K
  obtain ⟨u0, hcu⟩ := Option.isSome_iff_exists.mp (HHr.out.goneCell (i := xn) (by have := HX.out; have := HLN.out; omega)).1
  have hfu := (HHr.out.goneCell (i := xn) (by have := HX.out; have := HLN.out; omega)).2
  have hcdr_0 : w3.cell? ⟨dr, 0, none⟩ = some (.int .i64 a) := (blk_cell BKdr.out 0).trans rfl
  have hfdr_0 := blk_frozen BKdr.out 0
  have hcdr_1 : w3.cell? ⟨dr, 1, none⟩ = some (.int .i64 b) := (blk_cell BKdr.out 1).trans rfl
  have hfdr_1 := blk_frozen BKdr.out 1
  have hcdr_2 : w3.cell? ⟨dr, 2, none⟩ = some (.int .i64 c) := (blk_cell BKdr.out 2).trans rfl
  have hfdr_2 := blk_frozen BKdr.out 2
  have hcdr_3 : w3.cell? ⟨dr, 3, none⟩ = some (.int .i64 (dn : Int)) := (blk_cell BKdr.out 3).trans rfl
  have hfdr_3 := blk_frozen BKdr.out 3
  have hcdr_4 : w3.cell? ⟨dr, 4, none⟩ = some (.int .i64 sz) := (blk_cell BKdr.out 4).trans rfl
  have hfdr_4 := blk_frozen BKdr.out 4
  have hcdr_5 : w3.cell? ⟨dr, 5, none⟩ = some (.slice (some ⟨g, 0, none⟩) n cs) := (blk_cell BKdr.out 5).trans rfl
  have hfdr_5 := blk_frozen BKdr.out 5
  have hcdr_6 : w3.cell? ⟨dr, 6, none⟩ = some (.slice (some ⟨g2, 0, none⟩) m cg) := (blk_cell BKdr.out 6).trans rfl
  have hfdr_6 := blk_frozen BKdr.out 6
  go_wp2_with (fail)
  go_ret
  have K2 := HHr.out.setGone (i := xn) (x := true)
  have e : j - i = 2 * dn := by have := HJ.out; omega
  rw [e] at K2
  exact ⟨rfl, K2.1.gr HB.out.1 (fun k hk => .inl hk) HH0.out.base_, HB.out.cell K2.2 (HH0.out.base_ g2 K2.2) _⟩
set_option maxHeartbeats 8000000 in
set_option maxRecDepth 100000 in
theorem blank_bad (dr : Nat) (a b c d sz : Int) (As Ag : Option Addr) (n cs m cg : Nat) (x : Int) (w : World) (hR : w.heap[dr]? = some (.cells #[.int .i64 a, .int .i64 b, .int .i64 c, .int .i64 d, .int .i64 sz, .slice As n cs, .slice Ag m cg] 78 (0, 0))) (hm : m ≤ 16) (hd : 0 ≤ d ∧ d ≤ 4096) (hat : atOf m d x 0 0 < 0) : Calls Try.prog 50 #[.pointer (some ⟨dr, 0, none⟩), .int .i64 x] w fun e w' => e = .returned (.int .i64 80) ∧ Below w.heap.size w w' := by
  have HM := Aside0.mk hm
  have HDD := Aside0.mk hd
  have BKdr := Aside0.mk hR
  have HB := Aside0.mk (Below.refl w.heap.size w)
  have f0 : decide (atOf m d x 0 0 < 0) = true := decide_eq_true hat
  clear hR hm hd hat
  have hcdr_0 : w.cell? ⟨dr, 0, none⟩ = some (.int .i64 a) := (blk_cell BKdr.out 0).trans rfl
  have hfdr_0 := blk_frozen BKdr.out 0
  have hcdr_1 : w.cell? ⟨dr, 1, none⟩ = some (.int .i64 b) := (blk_cell BKdr.out 1).trans rfl
  have hfdr_1 := blk_frozen BKdr.out 1
  have hcdr_2 : w.cell? ⟨dr, 2, none⟩ = some (.int .i64 c) := (blk_cell BKdr.out 2).trans rfl
  have hfdr_2 := blk_frozen BKdr.out 2
  have hcdr_3 : w.cell? ⟨dr, 3, none⟩ = some (.int .i64 d) := (blk_cell BKdr.out 3).trans rfl
  have hfdr_3 := blk_frozen BKdr.out 3
  have hcdr_4 : w.cell? ⟨dr, 4, none⟩ = some (.int .i64 sz) := (blk_cell BKdr.out 4).trans rfl
  have hfdr_4 := blk_frozen BKdr.out 4
  have hcdr_5 : w.cell? ⟨dr, 5, none⟩ = some (.slice As n cs) := (blk_cell BKdr.out 5).trans rfl
  have hfdr_5 := blk_frozen BKdr.out 5
  have hcdr_6 : w.cell? ⟨dr, 6, none⟩ = some (.slice Ag m cg) := (blk_cell BKdr.out 6).trans rfl
  have hfdr_6 := blk_frozen BKdr.out 6
  go_enter Try.func50, Try.ntmps50
  have tok1 : True := trivial
  go_wp2_with (first | (have _ := tok1; go_at_call 46; (with_reducible refine (at_yes dr a b c d sz As Ag n cs m cg x 0 0 _ (by (with_reducible repeat (first | refine blk_drewN ?_ _ | refine blk_drew ?_ | refine blk_alloc ?_ _)); exact BKdr.out) HM.out HDD.out).mono ?_); rintro e w1 ⟨rfl, hd⟩; have hb := hd.below; (try clear hcdr_0 hfdr_0); (try clear hcdr_1 hfdr_1); (try clear hcdr_2 hfdr_2); (try clear hcdr_3 hfdr_3); (try clear hcdr_4 hfdr_4); (try clear hcdr_5 hfdr_5); (try clear hcdr_6 hfdr_6); have hs : Below w.heap.size w w1 := below_step (by repeat (first | exact Below.refl _ _ | apply below_alloc | apply pw_below_drewN | apply below_drew1)) hb; have SZ1 := Aside0.mk (show w.heap.size ≤ w1.heap.size from hs.size); replace BKdr := Aside0.mk (blk_below BKdr.out hs); replace HB := Aside0.mk (below_step HB.out hs); clear hb hd hs; have hcdr_0 : w1.cell? ⟨dr, 0, none⟩ = some (.int .i64 a) := (blk_cell BKdr.out 0).trans rfl; have hfdr_0 := blk_frozen BKdr.out 0; have hcdr_1 : w1.cell? ⟨dr, 1, none⟩ = some (.int .i64 b) := (blk_cell BKdr.out 1).trans rfl; have hfdr_1 := blk_frozen BKdr.out 1; have hcdr_2 : w1.cell? ⟨dr, 2, none⟩ = some (.int .i64 c) := (blk_cell BKdr.out 2).trans rfl; have hfdr_2 := blk_frozen BKdr.out 2; have hcdr_3 : w1.cell? ⟨dr, 3, none⟩ = some (.int .i64 d) := (blk_cell BKdr.out 3).trans rfl; have hfdr_3 := blk_frozen BKdr.out 3; have hcdr_4 : w1.cell? ⟨dr, 4, none⟩ = some (.int .i64 sz) := (blk_cell BKdr.out 4).trans rfl; have hfdr_4 := blk_frozen BKdr.out 4; have hcdr_5 : w1.cell? ⟨dr, 5, none⟩ = some (.slice As n cs) := (blk_cell BKdr.out 5).trans rfl; have hfdr_5 := blk_frozen BKdr.out 5; have hcdr_6 : w1.cell? ⟨dr, 6, none⟩ = some (.slice Ag m cg) := (blk_cell BKdr.out 6).trans rfl; have hfdr_6 := blk_frozen BKdr.out 6; clear tok1))
  go_ret
  exact ⟨rfl, HB.out⟩
set_option maxHeartbeats 8000000 in
set_option maxRecDepth 100000 in
theorem Wipe_bad (D dr : Nat) (a b c d sz : Int) (off : Bool) (cut wr : Int) (As Ag : Option Addr) (n cs m cg : Nat) (x : Int) (w : World) (hD : w.heap[D]? = some (.cells #[.pointer (some ⟨dr, 0, none⟩), .bool off, .int .i64 cut, .int .i64 wr] 58 (0, 0))) (hR : w.heap[dr]? = some (.cells #[.int .i64 a, .int .i64 b, .int .i64 c, .int .i64 d, .int .i64 sz, .slice As n cs, .slice Ag m cg] 78 (0, 0))) (hm : m ≤ 16) (hd : 0 ≤ d ∧ d ≤ 4096) (hat : atOf m d x 0 0 < 0) : Calls Try.prog 24 #[.pointer (some ⟨D, 0, none⟩), .int .i64 x] w fun e w' => e = .returned (.int .i64 80) ∧ Below w.heap.size w w' := by
  have HM := Aside0.mk hm
  have HDD := Aside0.mk hd
  have HA := Aside0.mk hat
  have BKD := Aside0.mk hD
  have BKdr := Aside0.mk hR
  have HB := Aside0.mk (Below.refl w.heap.size w)
  clear hD hR hm hd hat
  have hcD_0 : w.cell? ⟨D, 0, none⟩ = some (.pointer (some ⟨dr, 0, none⟩)) := (blk_cell BKD.out 0).trans rfl
  have hfD_0 := blk_frozen BKD.out 0
  have hcD_1 : w.cell? ⟨D, 1, none⟩ = some (.bool off) := (blk_cell BKD.out 1).trans rfl
  have hfD_1 := blk_frozen BKD.out 1
  have hcD_2 : w.cell? ⟨D, 2, none⟩ = some (.int .i64 cut) := (blk_cell BKD.out 2).trans rfl
  have hfD_2 := blk_frozen BKD.out 2
  have hcD_3 : w.cell? ⟨D, 3, none⟩ = some (.int .i64 wr) := (blk_cell BKD.out 3).trans rfl
  have hfD_3 := blk_frozen BKD.out 3
  have hcdr_0 : w.cell? ⟨dr, 0, none⟩ = some (.int .i64 a) := (blk_cell BKdr.out 0).trans rfl
  have hfdr_0 := blk_frozen BKdr.out 0
  have hcdr_1 : w.cell? ⟨dr, 1, none⟩ = some (.int .i64 b) := (blk_cell BKdr.out 1).trans rfl
  have hfdr_1 := blk_frozen BKdr.out 1
  have hcdr_2 : w.cell? ⟨dr, 2, none⟩ = some (.int .i64 c) := (blk_cell BKdr.out 2).trans rfl
  have hfdr_2 := blk_frozen BKdr.out 2
  have hcdr_3 : w.cell? ⟨dr, 3, none⟩ = some (.int .i64 d) := (blk_cell BKdr.out 3).trans rfl
  have hfdr_3 := blk_frozen BKdr.out 3
  have hcdr_4 : w.cell? ⟨dr, 4, none⟩ = some (.int .i64 sz) := (blk_cell BKdr.out 4).trans rfl
  have hfdr_4 := blk_frozen BKdr.out 4
  have hcdr_5 : w.cell? ⟨dr, 5, none⟩ = some (.slice As n cs) := (blk_cell BKdr.out 5).trans rfl
  have hfdr_5 := blk_frozen BKdr.out 5
  have hcdr_6 : w.cell? ⟨dr, 6, none⟩ = some (.slice Ag m cg) := (blk_cell BKdr.out 6).trans rfl
  have hfdr_6 := blk_frozen BKdr.out 6
  go_enter Try.func24, Try.ntmps24
  have tok1 : True := trivial
  go_wp2_with (first | (have _ := tok1; go_at_call 45; (with_reducible refine (made_yes D dr _ _ _ _ (by (with_reducible repeat (first | refine blk_drewN ?_ _ | refine blk_drew ?_ | refine blk_alloc ?_ _)); exact BKD.out)).mono ?_); rintro e w1 ⟨rfl, hd⟩; have hb := hd.below; (try clear hcD_0 hfD_0); (try clear hcD_1 hfD_1); (try clear hcD_2 hfD_2); (try clear hcD_3 hfD_3); (try clear hcdr_0 hfdr_0); (try clear hcdr_1 hfdr_1); (try clear hcdr_2 hfdr_2); (try clear hcdr_3 hfdr_3); (try clear hcdr_4 hfdr_4); (try clear hcdr_5 hfdr_5); (try clear hcdr_6 hfdr_6); have hs : Below w.heap.size w w1 := below_step (by repeat (first | exact Below.refl _ _ | apply below_alloc | apply pw_below_drewN | apply below_drew1)) hb; have SZ1 := Aside0.mk (show w.heap.size ≤ w1.heap.size from hs.size); replace BKD := Aside0.mk (blk_below BKD.out hs); replace BKdr := Aside0.mk (blk_below BKdr.out hs); replace HB := Aside0.mk (below_step HB.out hs); clear hb hd hs; have hcD_0 : w1.cell? ⟨D, 0, none⟩ = some (.pointer (some ⟨dr, 0, none⟩)) := (blk_cell BKD.out 0).trans rfl; have hfD_0 := blk_frozen BKD.out 0; have hcD_1 : w1.cell? ⟨D, 1, none⟩ = some (.bool off) := (blk_cell BKD.out 1).trans rfl; have hfD_1 := blk_frozen BKD.out 1; have hcD_2 : w1.cell? ⟨D, 2, none⟩ = some (.int .i64 cut) := (blk_cell BKD.out 2).trans rfl; have hfD_2 := blk_frozen BKD.out 2; have hcD_3 : w1.cell? ⟨D, 3, none⟩ = some (.int .i64 wr) := (blk_cell BKD.out 3).trans rfl; have hfD_3 := blk_frozen BKD.out 3; have hcdr_0 : w1.cell? ⟨dr, 0, none⟩ = some (.int .i64 a) := (blk_cell BKdr.out 0).trans rfl; have hfdr_0 := blk_frozen BKdr.out 0; have hcdr_1 : w1.cell? ⟨dr, 1, none⟩ = some (.int .i64 b) := (blk_cell BKdr.out 1).trans rfl; have hfdr_1 := blk_frozen BKdr.out 1; have hcdr_2 : w1.cell? ⟨dr, 2, none⟩ = some (.int .i64 c) := (blk_cell BKdr.out 2).trans rfl; have hfdr_2 := blk_frozen BKdr.out 2; have hcdr_3 : w1.cell? ⟨dr, 3, none⟩ = some (.int .i64 d) := (blk_cell BKdr.out 3).trans rfl; have hfdr_3 := blk_frozen BKdr.out 3; have hcdr_4 : w1.cell? ⟨dr, 4, none⟩ = some (.int .i64 sz) := (blk_cell BKdr.out 4).trans rfl; have hfdr_4 := blk_frozen BKdr.out 4; have hcdr_5 : w1.cell? ⟨dr, 5, none⟩ = some (.slice As n cs) := (blk_cell BKdr.out 5).trans rfl; have hfdr_5 := blk_frozen BKdr.out 5; have hcdr_6 : w1.cell? ⟨dr, 6, none⟩ = some (.slice Ag m cg) := (blk_cell BKdr.out 6).trans rfl; have hfdr_6 := blk_frozen BKdr.out 6; clear tok1; have tok2 : True := trivial) | (have _ := tok2; go_at_call 50; (with_reducible refine (blank_bad dr a b c d sz As Ag n cs m cg x _ (by (with_reducible repeat (first | refine blk_drewN ?_ _ | refine blk_drew ?_ | refine blk_alloc ?_ _)); exact BKdr.out) HM.out HDD.out HA.out).mono ?_); rintro e w2 ⟨rfl, hb⟩; (try clear hcD_0 hfD_0); (try clear hcD_1 hfD_1); (try clear hcD_2 hfD_2); (try clear hcD_3 hfD_3); (try clear hcdr_0 hfdr_0); (try clear hcdr_1 hfdr_1); (try clear hcdr_2 hfdr_2); (try clear hcdr_3 hfdr_3); (try clear hcdr_4 hfdr_4); (try clear hcdr_5 hfdr_5); (try clear hcdr_6 hfdr_6); have hs : Below w1.heap.size w1 w2 := below_step (by repeat (first | exact Below.refl _ _ | apply below_alloc | apply pw_below_drewN | apply below_drew1)) hb; have hl : w1.heap.size ≤ _ := below_size (w := w1) (by repeat (first | exact Below.refl _ _ | apply below_alloc | apply pw_below_drewN | apply below_drew1)); have SZ2 := Aside0.mk (show w1.heap.size ≤ w2.heap.size from hs.size); replace BKD := Aside0.mk (blk_below BKD.out hs); replace BKdr := Aside0.mk (blk_below BKdr.out hs); replace HB := Aside0.mk (below_step HB.out hs); clear hb hs; (try clear hl); have hcD_0 : w2.cell? ⟨D, 0, none⟩ = some (.pointer (some ⟨dr, 0, none⟩)) := (blk_cell BKD.out 0).trans rfl; have hfD_0 := blk_frozen BKD.out 0; have hcD_1 : w2.cell? ⟨D, 1, none⟩ = some (.bool off) := (blk_cell BKD.out 1).trans rfl; have hfD_1 := blk_frozen BKD.out 1; have hcD_2 : w2.cell? ⟨D, 2, none⟩ = some (.int .i64 cut) := (blk_cell BKD.out 2).trans rfl; have hfD_2 := blk_frozen BKD.out 2; have hcD_3 : w2.cell? ⟨D, 3, none⟩ = some (.int .i64 wr) := (blk_cell BKD.out 3).trans rfl; have hfD_3 := blk_frozen BKD.out 3; have hcdr_0 : w2.cell? ⟨dr, 0, none⟩ = some (.int .i64 a) := (blk_cell BKdr.out 0).trans rfl; have hfdr_0 := blk_frozen BKdr.out 0; have hcdr_1 : w2.cell? ⟨dr, 1, none⟩ = some (.int .i64 b) := (blk_cell BKdr.out 1).trans rfl; have hfdr_1 := blk_frozen BKdr.out 1; have hcdr_2 : w2.cell? ⟨dr, 2, none⟩ = some (.int .i64 c) := (blk_cell BKdr.out 2).trans rfl; have hfdr_2 := blk_frozen BKdr.out 2; have hcdr_3 : w2.cell? ⟨dr, 3, none⟩ = some (.int .i64 d) := (blk_cell BKdr.out 3).trans rfl; have hfdr_3 := blk_frozen BKdr.out 3; have hcdr_4 : w2.cell? ⟨dr, 4, none⟩ = some (.int .i64 sz) := (blk_cell BKdr.out 4).trans rfl; have hfdr_4 := blk_frozen BKdr.out 4; have hcdr_5 : w2.cell? ⟨dr, 5, none⟩ = some (.slice As n cs) := (blk_cell BKdr.out 5).trans rfl; have hfdr_5 := blk_frozen BKdr.out 5; have hcdr_6 : w2.cell? ⟨dr, 6, none⟩ = some (.slice Ag m cg) := (blk_cell BKdr.out 6).trans rfl; have hfdr_6 := blk_frozen BKdr.out 6; clear tok2))
  go_ret
  exact ⟨rfl, HB.out⟩
set_option maxHeartbeats 8000000 in
set_option maxRecDepth 100000 in
theorem Wipe_good (D dr : Nat) (As Ag : Option Addr) (n cs m cg : Nat) (a b c d sz : Int) (slots : List (List Int)) (gone : List Bool) (off : Bool) (cut wr : Int) (base : Nat) (ok : Nat → Prop) (x : Int) (i : Nat) (w : World) (H : DiskO w base ok D dr As n cs Ag m cg a b c d sz slots gone off cut wr) (hm : m ≤ 16) (hd : 1 ≤ d ∧ d ≤ 4096) (hx : 0 ≤ x ∧ x < m) (hat : atOf m d x 0 0 = (i : Int)) (hi : i + 2 * d.toNat ≤ slots.length) (hsl : slots.length ≤ 1000000) : Calls Try.prog 24 #[.pointer (some ⟨D, 0, none⟩), .int .i64 x] w fun e w' => e = .returned (.int .i64 0) ∧ DiskO w' base (Gr ok w w') D dr As n cs Ag m cg a b c d sz (wipeF [] slots i (2 * d.toNat)) (gone.set x.toNat true) off cut wr ∧ Wrote base ok w w' := by
  have HH0 := Aside0.mk H
  have HHr := Aside0.mk H
  have HM := Aside0.mk hm
  have HDD := Aside0.mk hd
  have HX := Aside0.mk hx
  have HAT := Aside0.mk hat
  have HI := Aside0.mk hi
  have HSL := Aside0.mk hsl
  have HB := Aside0.mk (Wrote.start (ok := ok) (w := w) H.low)
  have BKD := Aside0.mk H.1
  clear H hm hd hx hat hi hsl
  have hcD_0 : w.cell? ⟨D, 0, none⟩ = some (.pointer (some ⟨dr, 0, none⟩)) := (blk_cell BKD.out 0).trans rfl
  have hfD_0 := blk_frozen BKD.out 0
  have hcD_1 : w.cell? ⟨D, 1, none⟩ = some (.bool off) := (blk_cell BKD.out 1).trans rfl
  have hfD_1 := blk_frozen BKD.out 1
  have hcD_2 : w.cell? ⟨D, 2, none⟩ = some (.int .i64 cut) := (blk_cell BKD.out 2).trans rfl
  have hfD_2 := blk_frozen BKD.out 2
  have hcD_3 : w.cell? ⟨D, 3, none⟩ = some (.int .i64 wr) := (blk_cell BKD.out 3).trans rfl
  have hfD_3 := blk_frozen BKD.out 3
  go_enter Try.func24, Try.ntmps24
  have tok1 : True := trivial
  go_wp2_with (first | (have _ := tok1; go_at_call 45; (with_reducible refine (made_yes D dr _ _ _ _ (by (with_reducible repeat (first | refine blk_drewN ?_ _ | refine blk_drew ?_ | refine blk_alloc ?_ _)); exact BKD.out)).mono ?_); rintro e w1 ⟨rfl, hd⟩; have hb := hd.below; (try clear hcD_0 hfD_0); (try clear hcD_1 hfD_1); (try clear hcD_2 hfD_2); (try clear hcD_3 hfD_3); have hs : Below w.heap.size w w1 := below_step (by repeat (first | exact Below.refl _ _ | apply below_alloc | apply pw_below_drewN | apply below_drew1)) hb; have SZ1 := Aside0.mk (show w.heap.size ≤ w1.heap.size from hs.size); replace BKD := Aside0.mk (blk_below BKD.out hs); replace HHr := Aside0.mk (DiskO.below HHr.out hs); replace HB := Aside0.mk (Wrote.below HB.out hs); clear hb hd hs; have hcD_0 : w1.cell? ⟨D, 0, none⟩ = some (.pointer (some ⟨dr, 0, none⟩)) := (blk_cell BKD.out 0).trans rfl; have hfD_0 := blk_frozen BKD.out 0; have hcD_1 : w1.cell? ⟨D, 1, none⟩ = some (.bool off) := (blk_cell BKD.out 1).trans rfl; have hfD_1 := blk_frozen BKD.out 1; have hcD_2 : w1.cell? ⟨D, 2, none⟩ = some (.int .i64 cut) := (blk_cell BKD.out 2).trans rfl; have hfD_2 := blk_frozen BKD.out 2; have hcD_3 : w1.cell? ⟨D, 3, none⟩ = some (.int .i64 wr) := (blk_cell BKD.out 3).trans rfl; have hfD_3 := blk_frozen BKD.out 3; clear tok1))
  go_wp2_with (go_at_call 50; (with_reducible refine (blank_good D dr As Ag n cs m cg a b c d sz slots gone off cut wr base ok x i _ ?s1 HM.out HDD.out HX.out HAT.out HI.out HSL.out).mono ?_); (case s1 => exact DiskO.below HHr.out (by repeat (first | exact Below.refl _ _ | apply below_alloc | apply pw_below_drewN | apply below_drew1))); rintro e wh ⟨rfl, hD2, hW2⟩)
  go_ret
  exact ⟨rfl, hD2.gr HB.out.1 (fun k hk => hk.2.elim .inl (fun h => .inr (Nat.le_trans HB.out.size h))) HH0.out.base_, HB.out.then_ hW2 (fun _ hk => .inl hk)⟩
end Go.Proofs.Ytemmhgfjfbdggaa.P

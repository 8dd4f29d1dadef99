import Derived.Test.YtemmhgfjfbdggaaP08U
namespace Go.Proofs.Ytemmhgfjfbdggaa.P
open Go.RowKit Go.Proofs.YtemmhgfjfbdggaaW.PrintWords Go.Proofs.YtemmhgfjfbdggaaW.PrintLast Go.Proofs.YtemmhgfjfbdggaaW.PrintMore
attribute [local go_sem] max2_int min2_int max_two min_two max_three min_three max_four min_four
set_option linter.unusedVariables false
set_option linter.unusedSimpArgs false
set_option maxHeartbeats 8000000 in
set_option maxRecDepth 100000 in
theorem Read_off (D dr : Nat) (As Ag : Option Addr) (n cs m cg : Nat) (a b c d sz : Int) (slots : List (List Int)) (gone : List Bool) (off : Bool) (cut wr : Int) (base : Nat) (ok : Nat → Prop) (x y z : Int) (w : World) (H : DiskO w base ok D dr As n cs Ag m cg a b c d sz slots gone off cut wr) (ho : off = true) : Calls Try.prog 21 #[.pointer (some ⟨D, 0, none⟩), .int .i64 x, .int .i64 y, .int .i64 z] w fun e w' => e = .returned (.tuple #[.slice none 0 0, .int .i64 9]) ∧ Below w.heap.size w w' := by
  have BKD := Aside0.mk H.1
  have BKdr := Aside0.mk H.2.1
  have HB := Aside0.mk (Below.refl w.heap.size w)
  have HZ1 := Aside0.mk (show D < w.heap.size from blk_lt H.1)
  have HZ2 := Aside0.mk (show dr < w.heap.size from blk_lt H.2.1)
  have hneDd : D ≠ dr := H.ne
  have hnedD : dr ≠ D := hneDd.symm
  obtain rfl : off = true := ho
  clear H
  have hcD_0 : w.cell? ⟨D, 0, none⟩ = some (.pointer (some ⟨dr, 0, none⟩)) := (blk_cell BKD.out 0).trans rfl
  have hfD_0 := blk_frozen BKD.out 0
  have hcD_1 : w.cell? ⟨D, 1, none⟩ = some (.bool true) := (blk_cell BKD.out 1).trans rfl
  have hfD_1 := blk_frozen BKD.out 1
  have hcD_2 : w.cell? ⟨D, 2, none⟩ = some (.int .i64 cut) := (blk_cell BKD.out 2).trans rfl
  have hfD_2 := blk_frozen BKD.out 2
  have hcD_3 : w.cell? ⟨D, 3, none⟩ = some (.int .i64 wr) := (blk_cell BKD.out 3).trans rfl
  have hfD_3 := blk_frozen BKD.out 3
  have hcdr_0 : w.cell? ⟨dr, 0, none⟩ = some (.int .i64 a) := (blk_cell BKdr.out 0).trans rfl
  have hfdr_0 := blk_frozen BKdr.out 0
  have hcdr_1 : w.cell? ⟨dr, 1, none⟩ = some (.int .i64 b) := (blk_cell BKdr.out 1).trans rfl
  have hfdr_1 := blk_frozen BKdr.out 1
  have hcdr_2 : w.cell? ⟨dr, 2, none⟩ = some (.int .i64 c) := (blk_cell BKdr.out 2).trans rfl
  have hfdr_2 := blk_frozen BKdr.out 2
  have hcdr_3 : w.cell? ⟨dr, 3, none⟩ = some (.int .i64 d) := (blk_cell BKdr.out 3).trans rfl
  have hfdr_3 := blk_frozen BKdr.out 3
  have hcdr_4 : w.cell? ⟨dr, 4, none⟩ = some (.int .i64 sz) := (blk_cell BKdr.out 4).trans rfl
  have hfdr_4 := blk_frozen BKdr.out 4
  have hcdr_5 : w.cell? ⟨dr, 5, none⟩ = some (.slice As n cs) := (blk_cell BKdr.out 5).trans rfl
  have hfdr_5 := blk_frozen BKdr.out 5
  have hcdr_6 : w.cell? ⟨dr, 6, none⟩ = some (.slice Ag m cg) := (blk_cell BKdr.out 6).trans rfl
  have hfdr_6 := blk_frozen BKdr.out 6
  go_enter Try.func21, Try.ntmps21
  have tok1 : True := trivial
  go_wp2_with (first | (have _ := tok1; go_at_call 45; (with_reducible refine (made_yes D dr _ _ _ _ (by (with_reducible repeat (first | refine blk_drewN ?_ _ | refine blk_drew ?_ | refine blk_alloc ?_ _)); exact BKD.out)).mono ?_); rintro e w1 ⟨rfl, hd⟩; have hb := hd.below; (try clear hcD_0 hfD_0); (try clear hcD_1 hfD_1); (try clear hcD_2 hfD_2); (try clear hcD_3 hfD_3); (try clear hcdr_0 hfdr_0); (try clear hcdr_1 hfdr_1); (try clear hcdr_2 hfdr_2); (try clear hcdr_3 hfdr_3); (try clear hcdr_4 hfdr_4); (try clear hcdr_5 hfdr_5); (try clear hcdr_6 hfdr_6); have hs : Below w.heap.size w w1 := below_step (by repeat (first | exact Below.refl _ _ | apply below_alloc | apply pw_below_drewN | apply below_drew1)) hb; have SZ1 := Aside0.mk (show w.heap.size ≤ w1.heap.size from hs.size); replace BKD := Aside0.mk (blk_below BKD.out hs); replace BKdr := Aside0.mk (blk_below BKdr.out hs); replace HB := Aside0.mk (below_step HB.out hs); clear hb hd hs; have hcD_0 : w1.cell? ⟨D, 0, none⟩ = some (.pointer (some ⟨dr, 0, none⟩)) := (blk_cell BKD.out 0).trans rfl; have hfD_0 := blk_frozen BKD.out 0; have hcD_1 : w1.cell? ⟨D, 1, none⟩ = some (.bool true) := (blk_cell BKD.out 1).trans rfl; have hfD_1 := blk_frozen BKD.out 1; have hcD_2 : w1.cell? ⟨D, 2, none⟩ = some (.int .i64 cut) := (blk_cell BKD.out 2).trans rfl; have hfD_2 := blk_frozen BKD.out 2; have hcD_3 : w1.cell? ⟨D, 3, none⟩ = some (.int .i64 wr) := (blk_cell BKD.out 3).trans rfl; have hfD_3 := blk_frozen BKD.out 3; have hcdr_0 : w1.cell? ⟨dr, 0, none⟩ = some (.int .i64 a) := (blk_cell BKdr.out 0).trans rfl; have hfdr_0 := blk_frozen BKdr.out 0; have hcdr_1 : w1.cell? ⟨dr, 1, none⟩ = some (.int .i64 b) := (blk_cell BKdr.out 1).trans rfl; have hfdr_1 := blk_frozen BKdr.out 1; have hcdr_2 : w1.cell? ⟨dr, 2, none⟩ = some (.int .i64 c) := (blk_cell BKdr.out 2).trans rfl; have hfdr_2 := blk_frozen BKdr.out 2; have hcdr_3 : w1.cell? ⟨dr, 3, none⟩ = some (.int .i64 d) := (blk_cell BKdr.out 3).trans rfl; have hfdr_3 := blk_frozen BKdr.out 3; have hcdr_4 : w1.cell? ⟨dr, 4, none⟩ = some (.int .i64 sz) := (blk_cell BKdr.out 4).trans rfl; have hfdr_4 := blk_frozen BKdr.out 4; have hcdr_5 : w1.cell? ⟨dr, 5, none⟩ = some (.slice As n cs) := (blk_cell BKdr.out 5).trans rfl; have hfdr_5 := blk_frozen BKdr.out 5; have hcdr_6 : w1.cell? ⟨dr, 6, none⟩ = some (.slice Ag m cg) := (blk_cell BKdr.out 6).trans rfl; have hfdr_6 := blk_frozen BKdr.out 6; clear tok1))
  go_ret2
  exact ⟨rfl, HB.out⟩
set_option maxHeartbeats 8000000 in
set_option maxRecDepth 100000 in
theorem Read_good (D dr : Nat) (As Ag : Option Addr) (n cs m cg : Nat) (a b c d sz : Int) (slots : List (List Int)) (gone : List Bool) (off : Bool) (cut wr : Int) (base : Nat) (ok : Nat → Prop) (x y z : Int) (w : World) (H : DiskO w base ok D dr As n cs Ag m cg a b c d sz slots gone off cut wr) (ho : off = false) (hm : m ≤ 16) (hd : 0 ≤ d ∧ d ≤ 4096) (i : Nat) (hat : atOf m d x y z = (i : Int)) (hi : i < slots.length) (hel : ∀ x ∈ slots, x.length ≤ 1000000) : Calls Try.prog 21 #[.pointer (some ⟨D, 0, none⟩), .int .i64 x, .int .i64 y, .int .i64 z] w fun e w' => ∃ v : Value, e = .returned (.tuple #[v, .int .i64 0]) ∧ Kd.R (Kd.int .u8) 5 w' w.heap.size (fun _ => True) v (slots.getD i []) ∧ Below w.heap.size w w' := by
  have BKD := Aside0.mk H.1
  have BKdr := Aside0.mk H.2.1
  have HB := Aside0.mk (Below.refl w.heap.size w)
  have HZ1 := Aside0.mk (show D < w.heap.size from blk_lt H.1)
  have HZ2 := Aside0.mk (show dr < w.heap.size from blk_lt H.2.1)
  have hneDd : D ≠ dr := H.ne
  have hnedD : dr ≠ D := hneDd.symm
  obtain rfl : off = false := ho
  have HM := Aside0.mk hm
  have HDD := Aside0.mk hd
  have HAT := Aside0.mk hat
  have HI := Aside0.mk hi
  obtain ⟨ad, x0, eA, hf, hx, B, cc, hcell, hle, hCx⟩ := bytes_elem H.slotsC i hi
  have eX : slots.getD i [] = x0 := by
    have h1 := congrArg (fun l => l.getD i []) hf
    have hl : (slots.take i).length = i := by rw [List.length_take]; omega
    simp only [List.getD_eq_getElem?_getD] at h1 ⊢
    rw [List.getElem?_take_of_lt (by omega), List.getElem?_append_right (by omega), hl] at h1
    simpa using h1
  obtain ⟨eN, hncs, eM, hmcg⟩ := H.lens
  subst eA
  have AC := Aside0.mk (show slices_Clone_byte_byte.f x0 = some x0 by unfold slices_Clone_byte_byte.f; rw [if_pos (by have := hel x0 hx; omega)])
  have ACx := Aside0.mk hCx
  have ALe := Aside0.mk hle
  have EX := Aside0.mk eX
  have HCe := Aside0.mk hcell
  have b1 : decide ((i : Int) < 0) = false := decide_eq_false (by omega)
  have b2 : decide (i < n) = true := decide_eq_true (by omega)
  have b3 : (i < n) = True := eq_true (by omega)
  have b4 : decide ((i : Int) < (n : Int)) = true := decide_eq_true (by omega)
  clear H hm hd hat hi hf hx hcell hle hCx hel eX eN eM hncs hmcg
  have hcD_0 : w.cell? ⟨D, 0, none⟩ = some (.pointer (some ⟨dr, 0, none⟩)) := (blk_cell BKD.out 0).trans rfl
  have hfD_0 := blk_frozen BKD.out 0
  have hcD_1 : w.cell? ⟨D, 1, none⟩ = some (.bool false) := (blk_cell BKD.out 1).trans rfl
  have hfD_1 := blk_frozen BKD.out 1
  have hcD_2 : w.cell? ⟨D, 2, none⟩ = some (.int .i64 cut) := (blk_cell BKD.out 2).trans rfl
  have hfD_2 := blk_frozen BKD.out 2
  have hcD_3 : w.cell? ⟨D, 3, none⟩ = some (.int .i64 wr) := (blk_cell BKD.out 3).trans rfl
  have hfD_3 := blk_frozen BKD.out 3
  have hcdr_0 : w.cell? ⟨dr, 0, none⟩ = some (.int .i64 a) := (blk_cell BKdr.out 0).trans rfl
  have hfdr_0 := blk_frozen BKdr.out 0
  have hcdr_1 : w.cell? ⟨dr, 1, none⟩ = some (.int .i64 b) := (blk_cell BKdr.out 1).trans rfl
  have hfdr_1 := blk_frozen BKdr.out 1
  have hcdr_2 : w.cell? ⟨dr, 2, none⟩ = some (.int .i64 c) := (blk_cell BKdr.out 2).trans rfl
  have hfdr_2 := blk_frozen BKdr.out 2
  have hcdr_3 : w.cell? ⟨dr, 3, none⟩ = some (.int .i64 d) := (blk_cell BKdr.out 3).trans rfl
  have hfdr_3 := blk_frozen BKdr.out 3
  have hcdr_4 : w.cell? ⟨dr, 4, none⟩ = some (.int .i64 sz) := (blk_cell BKdr.out 4).trans rfl
  have hfdr_4 := blk_frozen BKdr.out 4
  have hcdr_5 : w.cell? ⟨dr, 5, none⟩ = some (.slice (some ad) n cs) := (blk_cell BKdr.out 5).trans rfl
  have hfdr_5 := blk_frozen BKdr.out 5
  have hcdr_6 : w.cell? ⟨dr, 6, none⟩ = some (.slice Ag m cg) := (blk_cell BKdr.out 6).trans rfl
  have hfdr_6 := blk_frozen BKdr.out 6
  have xHCe := HCe.out
  go_enter Try.func21, Try.ntmps21
  have tok1 : True := trivial
  go_wp2_with (first | (have _ := tok1; go_at_call 45; (with_reducible refine (made_yes D dr _ _ _ _ (by (with_reducible repeat (first | refine blk_drewN ?_ _ | refine blk_drew ?_ | refine blk_alloc ?_ _)); exact BKD.out)).mono ?_); rintro e w1 ⟨rfl, hd⟩; have hb := hd.below; (try clear hcD_0 hfD_0); (try clear hcD_1 hfD_1); (try clear hcD_2 hfD_2); (try clear hcD_3 hfD_3); (try clear hcdr_0 hfdr_0); (try clear hcdr_1 hfdr_1); (try clear hcdr_2 hfdr_2); (try clear hcdr_3 hfdr_3); (try clear hcdr_4 hfdr_4); (try clear hcdr_5 hfdr_5); (try clear hcdr_6 hfdr_6); (try clear xHCe); have hs : Below w.heap.size w w1 := below_step (by repeat (first | exact Below.refl _ _ | apply below_alloc | apply pw_below_drewN | apply below_drew1)) hb; have SZ1 := Aside0.mk (show w.heap.size ≤ w1.heap.size from hs.size); replace BKD := Aside0.mk (blk_below BKD.out hs); replace BKdr := Aside0.mk (blk_below BKdr.out hs); replace HCe := Aside0.mk (pw_cell_below hs HCe.out); replace HB := Aside0.mk (below_step HB.out hs); clear hb hd hs; have hcD_0 : w1.cell? ⟨D, 0, none⟩ = some (.pointer (some ⟨dr, 0, none⟩)) := (blk_cell BKD.out 0).trans rfl; have hfD_0 := blk_frozen BKD.out 0; have hcD_1 : w1.cell? ⟨D, 1, none⟩ = some (.bool false) := (blk_cell BKD.out 1).trans rfl; have hfD_1 := blk_frozen BKD.out 1; have hcD_2 : w1.cell? ⟨D, 2, none⟩ = some (.int .i64 cut) := (blk_cell BKD.out 2).trans rfl; have hfD_2 := blk_frozen BKD.out 2; have hcD_3 : w1.cell? ⟨D, 3, none⟩ = some (.int .i64 wr) := (blk_cell BKD.out 3).trans rfl; have hfD_3 := blk_frozen BKD.out 3; have hcdr_0 : w1.cell? ⟨dr, 0, none⟩ = some (.int .i64 a) := (blk_cell BKdr.out 0).trans rfl; have hfdr_0 := blk_frozen BKdr.out 0; have hcdr_1 : w1.cell? ⟨dr, 1, none⟩ = some (.int .i64 b) := (blk_cell BKdr.out 1).trans rfl; have hfdr_1 := blk_frozen BKdr.out 1; have hcdr_2 : w1.cell? ⟨dr, 2, none⟩ = some (.int .i64 c) := (blk_cell BKdr.out 2).trans rfl; have hfdr_2 := blk_frozen BKdr.out 2; have hcdr_3 : w1.cell? ⟨dr, 3, none⟩ = some (.int .i64 d) := (blk_cell BKdr.out 3).trans rfl; have hfdr_3 := blk_frozen BKdr.out 3; have hcdr_4 : w1.cell? ⟨dr, 4, none⟩ = some (.int .i64 sz) := (blk_cell BKdr.out 4).trans rfl; have hfdr_4 := blk_frozen BKdr.out 4; have hcdr_5 : w1.cell? ⟨dr, 5, none⟩ = some (.slice (some ad) n cs) := (blk_cell BKdr.out 5).trans rfl; have hfdr_5 := blk_frozen BKdr.out 5; have hcdr_6 : w1.cell? ⟨dr, 6, none⟩ = some (.slice Ag m cg) := (blk_cell BKdr.out 6).trans rfl; have hfdr_6 := blk_frozen BKdr.out 6; have xHCe := HCe.out; clear tok1; have tok2 : True := trivial) | (have _ := tok2; go_at_call 46; (with_reducible refine (at_yes dr a b c d sz (some ad) Ag n cs m cg x y z _ (by (with_reducible repeat (first | refine blk_drewN ?_ _ | refine blk_drew ?_ | refine blk_alloc ?_ _)); exact BKdr.out) HM.out HDD.out).mono ?_); rintro e w2 ⟨rfl, hd⟩; rw [HAT.out]; have hb := hd.below; (try clear hcD_0 hfD_0); (try clear hcD_1 hfD_1); (try clear hcD_2 hfD_2); (try clear hcD_3 hfD_3); (try clear hcdr_0 hfdr_0); (try clear hcdr_1 hfdr_1); (try clear hcdr_2 hfdr_2); (try clear hcdr_3 hfdr_3); (try clear hcdr_4 hfdr_4); (try clear hcdr_5 hfdr_5); (try clear hcdr_6 hfdr_6); (try clear xHCe); have hs : Below w1.heap.size w1 w2 := below_step (by repeat (first | exact Below.refl _ _ | apply below_alloc | apply pw_below_drewN | apply below_drew1)) hb; have SZ2 := Aside0.mk (show w1.heap.size ≤ w2.heap.size from hs.size); replace BKD := Aside0.mk (blk_below BKD.out hs); replace BKdr := Aside0.mk (blk_below BKdr.out hs); replace HCe := Aside0.mk (pw_cell_below hs HCe.out); replace HB := Aside0.mk (below_step HB.out hs); clear hb hd hs; have hcD_0 : w2.cell? ⟨D, 0, none⟩ = some (.pointer (some ⟨dr, 0, none⟩)) := (blk_cell BKD.out 0).trans rfl; have hfD_0 := blk_frozen BKD.out 0; have hcD_1 : w2.cell? ⟨D, 1, none⟩ = some (.bool false) := (blk_cell BKD.out 1).trans rfl; have hfD_1 := blk_frozen BKD.out 1; have hcD_2 : w2.cell? ⟨D, 2, none⟩ = some (.int .i64 cut) := (blk_cell BKD.out 2).trans rfl; have hfD_2 := blk_frozen BKD.out 2; have hcD_3 : w2.cell? ⟨D, 3, none⟩ = some (.int .i64 wr) := (blk_cell BKD.out 3).trans rfl; have hfD_3 := blk_frozen BKD.out 3; have hcdr_0 : w2.cell? ⟨dr, 0, none⟩ = some (.int .i64 a) := (blk_cell BKdr.out 0).trans rfl; have hfdr_0 := blk_frozen BKdr.out 0; have hcdr_1 : w2.cell? ⟨dr, 1, none⟩ = some (.int .i64 b) := (blk_cell BKdr.out 1).trans rfl; have hfdr_1 := blk_frozen BKdr.out 1; have hcdr_2 : w2.cell? ⟨dr, 2, none⟩ = some (.int .i64 c) := (blk_cell BKdr.out 2).trans rfl; have hfdr_2 := blk_frozen BKdr.out 2; have hcdr_3 : w2.cell? ⟨dr, 3, none⟩ = some (.int .i64 d) := (blk_cell BKdr.out 3).trans rfl; have hfdr_3 := blk_frozen BKdr.out 3; have hcdr_4 : w2.cell? ⟨dr, 4, none⟩ = some (.int .i64 sz) := (blk_cell BKdr.out 4).trans rfl; have hfdr_4 := blk_frozen BKdr.out 4; have hcdr_5 : w2.cell? ⟨dr, 5, none⟩ = some (.slice (some ad) n cs) := (blk_cell BKdr.out 5).trans rfl; have hfdr_5 := blk_frozen BKdr.out 5; have hcdr_6 : w2.cell? ⟨dr, 6, none⟩ = some (.slice Ag m cg) := (blk_cell BKdr.out 6).trans rfl; have hfdr_6 := blk_frozen BKdr.out 6; have xHCe := HCe.out; clear tok2; have tok3 : True := trivial) | (have _ := tok3; go_at_call 48; (with_reducible refine (slices_Clone_byte_byte.calls B cc x0 x0 _ ?s1 ALe.out AC.out).mono ?_); (case s1 => exact Kd.C_below ACx.out (by repeat (first | exact HB.out | apply below_alloc | apply pw_below_drewN | apply below_drew1))); rintro e w3 ⟨v5, rfl, hv, hb⟩; (try clear hcD_0 hfD_0); (try clear hcD_1 hfD_1); (try clear hcD_2 hfD_2); (try clear hcD_3 hfD_3); (try clear hcdr_0 hfdr_0); (try clear hcdr_1 hfdr_1); (try clear hcdr_2 hfdr_2); (try clear hcdr_3 hfdr_3); (try clear hcdr_4 hfdr_4); (try clear hcdr_5 hfdr_5); (try clear hcdr_6 hfdr_6); (try clear xHCe); have hs : Below w2.heap.size w2 w3 := below_step (by repeat (first | exact Below.refl _ _ | apply below_alloc | apply pw_below_drewN | apply below_drew1)) hb; have hl : w2.heap.size ≤ _ := below_size (w := w2) (by repeat (first | exact Below.refl _ _ | apply below_alloc | apply pw_below_drewN | apply below_drew1)); have SZ3 := Aside0.mk (show w2.heap.size ≤ w3.heap.size from hs.size); replace BKD := Aside0.mk (blk_below BKD.out hs); replace BKdr := Aside0.mk (blk_below BKdr.out hs); replace HCe := Aside0.mk (pw_cell_below hs HCe.out); replace HB := Aside0.mk (below_step HB.out hs); have HV := Aside0.mk (Kd.R_lower hv (by have h1 := hl; have h2 := SZ1.out; have h3 := SZ2.out; omega : w.heap.size ≤ _)); clear hv; clear hb hs; (try clear hl); have hcD_0 : w3.cell? ⟨D, 0, none⟩ = some (.pointer (some ⟨dr, 0, none⟩)) := (blk_cell BKD.out 0).trans rfl; have hfD_0 := blk_frozen BKD.out 0; have hcD_1 : w3.cell? ⟨D, 1, none⟩ = some (.bool false) := (blk_cell BKD.out 1).trans rfl; have hfD_1 := blk_frozen BKD.out 1; have hcD_2 : w3.cell? ⟨D, 2, none⟩ = some (.int .i64 cut) := (blk_cell BKD.out 2).trans rfl; have hfD_2 := blk_frozen BKD.out 2; have hcD_3 : w3.cell? ⟨D, 3, none⟩ = some (.int .i64 wr) := (blk_cell BKD.out 3).trans rfl; have hfD_3 := blk_frozen BKD.out 3; have hcdr_0 : w3.cell? ⟨dr, 0, none⟩ = some (.int .i64 a) := (blk_cell BKdr.out 0).trans rfl; have hfdr_0 := blk_frozen BKdr.out 0; have hcdr_1 : w3.cell? ⟨dr, 1, none⟩ = some (.int .i64 b) := (blk_cell BKdr.out 1).trans rfl; have hfdr_1 := blk_frozen BKdr.out 1; have hcdr_2 : w3.cell? ⟨dr, 2, none⟩ = some (.int .i64 c) := (blk_cell BKdr.out 2).trans rfl; have hfdr_2 := blk_frozen BKdr.out 2; have hcdr_3 : w3.cell? ⟨dr, 3, none⟩ = some (.int .i64 d) := (blk_cell BKdr.out 3).trans rfl; have hfdr_3 := blk_frozen BKdr.out 3; have hcdr_4 : w3.cell? ⟨dr, 4, none⟩ = some (.int .i64 sz) := (blk_cell BKdr.out 4).trans rfl; have hfdr_4 := blk_frozen BKdr.out 4; have hcdr_5 : w3.cell? ⟨dr, 5, none⟩ = some (.slice (some ad) n cs) := (blk_cell BKdr.out 5).trans rfl; have hfdr_5 := blk_frozen BKdr.out 5; have hcdr_6 : w3.cell? ⟨dr, 6, none⟩ = some (.slice Ag m cg) := (blk_cell BKdr.out 6).trans rfl; have hfdr_6 := blk_frozen BKdr.out 6; have xHCe := HCe.out; clear tok3))
  go_ret2
  exact ⟨_, rfl, by rw [EX.out]; exact HV.out, HB.out⟩
set_option maxHeartbeats 8000000 in
set_option maxRecDepth 100000 in
theorem hold_yes (D dr : Nat) (g : Nat) (Ag : Option Addr) (n cs m cg : Nat) (a b c d sz : Int) (slots : List (List Int)) (gone : List Bool) (off : Bool) (cut wr : Int) (base : Nat) (ok : Nat → Prop) (x y z : Int) (B : Option Addr) (p : List Int) (cc i : Nat) (w : World) (H : DiskO w base ok D dr (some ⟨g, 0, none⟩) n cs Ag m cg a b c d sz slots gone off cut wr) (hm : m ≤ 16) (hd : 0 ≤ d ∧ d ≤ 4096) (hat : atOf m d x y z = (i : Int)) (hi : i < slots.length) (hp : (p.length : Int) = sz) (hple : p.length ≤ cc) (hC : Kd.C (Kd.int .u8) w B p.length p) (hpl : p.length ≤ 1000000) : Calls Try.prog 47 #[.pointer (some ⟨dr, 0, none⟩), .agg #[.int .i64 x, .int .i64 y, .int .i64 z, .slice B p.length cc]] w fun e w' => e = .returned (.int .i64 0) ∧ DiskO w' base (Gr ok w w') D dr (some ⟨g, 0, none⟩) n cs Ag m cg a b c d sz (slots.set i p) gone off cut wr ∧ Wrote base ok w w' := by
  subst hp
  have hu51 := Try.underlying51
  have HM := Aside0.mk hm
  have HDD := Aside0.mk hd
  have HAT := Aside0.mk hat
  have HI := Aside0.mk hi
  have AC := Aside0.mk (show slices_Clone_byte_byte.f p = some p by unfold slices_Clone_byte_byte.f; rw [if_pos (by omega)])
  have ACx := Aside0.mk hC
  have ALe := Aside0.mk hple
  have HG := Aside0.mk (show g < w.heap.size ∧ base ≤ w.heap.size from ⟨H.bound g (H.2.2.1.1 g rfl), H.low⟩)
  have HH0 := Aside0.mk H
  have HH := Aside0.mk H
  have BKdr := Aside0.mk H.2.1
  have HB := Aside0.mk (Below.refl w.heap.size w)
  have HZ2 := Aside0.mk (show dr < w.heap.size from blk_lt H.2.1)
  have b1 : decide ((i : Int) < 0) = false := decide_eq_false (by omega)
  have hnl := H.lens.1
  have b2 : decide (i < n) = true := decide_eq_true (by omega)
  have b3 : (i < n) = True := eq_true (by omega)
  have b4 : decide ((i : Int) < (n : Int)) = true := decide_eq_true (by omega)
  clear H hm hd hat hi hple hC hpl hnl
  have hcdr_0 : w.cell? ⟨dr, 0, none⟩ = some (.int .i64 a) := (blk_cell BKdr.out 0).trans rfl
  have hfdr_0 := blk_frozen BKdr.out 0
  have hcdr_1 : w.cell? ⟨dr, 1, none⟩ = some (.int .i64 b) := (blk_cell BKdr.out 1).trans rfl
  have hfdr_1 := blk_frozen BKdr.out 1
  have hcdr_2 : w.cell? ⟨dr, 2, none⟩ = some (.int .i64 c) := (blk_cell BKdr.out 2).trans rfl
  have hfdr_2 := blk_frozen BKdr.out 2
  have hcdr_3 : w.cell? ⟨dr, 3, none⟩ = some (.int .i64 d) := (blk_cell BKdr.out 3).trans rfl
  have hfdr_3 := blk_frozen BKdr.out 3
  have hcdr_4 : w.cell? ⟨dr, 4, none⟩ = some (.int .i64 (p.length : Int)) := (blk_cell BKdr.out 4).trans rfl
  have hfdr_4 := blk_frozen BKdr.out 4
  have hcdr_5 : w.cell? ⟨dr, 5, none⟩ = some (.slice (some ⟨g, 0, none⟩) n cs) := (blk_cell BKdr.out 5).trans rfl
  have hfdr_5 := blk_frozen BKdr.out 5
  have hcdr_6 : w.cell? ⟨dr, 6, none⟩ = some (.slice Ag m cg) := (blk_cell BKdr.out 6).trans rfl
  have hfdr_6 := blk_frozen BKdr.out 6
  go_enter Try.func47, Try.ntmps47
  have tok1 : True := trivial
  go_wp2_with (first | (have _ := tok1; (with_reducible refine gate_dst (N := 3) rfl ?_); refine box_event ?hg (N := 3) ?hd (cs := #[.int .i64 x, .int .i64 y, .int .i64 z, .slice B p.length cc]) (t := 51) ?hr ?_; (case hd => rfl); (case hg => rfl); (case hr => first | (go_simp; done) | (go_simp; rfl)); intro g3 hg w1 hbox hb; have hs : Below w.heap.size w w1 := below_step (by repeat (first | exact Below.refl _ _ | apply below_alloc | apply pw_below_drewN | apply below_drew1)) hb; have SZ1 := Aside0.mk (show w.heap.size ≤ g3 ∧ g3 < w1.heap.size from ⟨by rw [hg]; exact (below_size (by repeat (first | exact Below.refl _ _ | apply below_alloc | apply pw_below_drewN | apply below_drew1))), blk_lt hbox⟩); (try clear hcdr_0 hfdr_0); (try clear hcdr_1 hfdr_1); (try clear hcdr_2 hfdr_2); (try clear hcdr_3 hfdr_3); (try clear hcdr_4 hfdr_4); (try clear hcdr_5 hfdr_5); (try clear hcdr_6 hfdr_6); replace BKdr := Aside0.mk (blk_below BKdr.out hs); replace HH := Aside0.mk (DiskO.below HH.out hs); replace HB := Aside0.mk (below_step HB.out hs); have hnedr_g3 : dr ≠ g3 := (by have := SZ1.out; have := HZ2.out; omega); have hneg3_dr : g3 ≠ dr := hnedr_g3.symm; have BKg3 := Aside0.mk hbox; clear hb hbox hg hs; have hcdr_0 : w1.cell? ⟨dr, 0, none⟩ = some (.int .i64 a) := (blk_cell BKdr.out 0).trans rfl; have hfdr_0 := blk_frozen BKdr.out 0; have hcdr_1 : w1.cell? ⟨dr, 1, none⟩ = some (.int .i64 b) := (blk_cell BKdr.out 1).trans rfl; have hfdr_1 := blk_frozen BKdr.out 1; have hcdr_2 : w1.cell? ⟨dr, 2, none⟩ = some (.int .i64 c) := (blk_cell BKdr.out 2).trans rfl; have hfdr_2 := blk_frozen BKdr.out 2; have hcdr_3 : w1.cell? ⟨dr, 3, none⟩ = some (.int .i64 d) := (blk_cell BKdr.out 3).trans rfl; have hfdr_3 := blk_frozen BKdr.out 3; have hcdr_4 : w1.cell? ⟨dr, 4, none⟩ = some (.int .i64 (p.length : Int)) := (blk_cell BKdr.out 4).trans rfl; have hfdr_4 := blk_frozen BKdr.out 4; have hcdr_5 : w1.cell? ⟨dr, 5, none⟩ = some (.slice (some ⟨g, 0, none⟩) n cs) := (blk_cell BKdr.out 5).trans rfl; have hfdr_5 := blk_frozen BKdr.out 5; have hcdr_6 : w1.cell? ⟨dr, 6, none⟩ = some (.slice Ag m cg) := (blk_cell BKdr.out 6).trans rfl; have hfdr_6 := blk_frozen BKdr.out 6; have hcg3_0 : w1.cell? ⟨g3, 0, none⟩ = some (.int .i64 x) := (blk_cell BKg3.out 0).trans rfl; have hfg3_0 := blk_frozen BKg3.out 0; have hcg3_1 : w1.cell? ⟨g3, 1, none⟩ = some (.int .i64 y) := (blk_cell BKg3.out 1).trans rfl; have hfg3_1 := blk_frozen BKg3.out 1; have hcg3_2 : w1.cell? ⟨g3, 2, none⟩ = some (.int .i64 z) := (blk_cell BKg3.out 2).trans rfl; have hfg3_2 := blk_frozen BKg3.out 2; have hcg3_3 : w1.cell? ⟨g3, 3, none⟩ = some (.slice B p.length cc) := (blk_cell BKg3.out 3).trans rfl; have hfg3_3 := blk_frozen BKg3.out 3; clear tok1; have tok2 : True := trivial) | (have _ := tok2; go_at_call 46; (with_reducible refine (at_yes dr a b c d (p.length : Int) (some ⟨g, 0, none⟩) Ag n cs m cg x y z _ (by (with_reducible repeat (first | refine blk_drewN ?_ _ | refine blk_drew ?_ | refine blk_alloc ?_ _)); exact BKdr.out) HM.out HDD.out).mono ?_); rintro e w2 ⟨rfl, hd⟩; rw [HAT.out]; have hb := hd.below; (try clear hcdr_0 hfdr_0); (try clear hcdr_1 hfdr_1); (try clear hcdr_2 hfdr_2); (try clear hcdr_3 hfdr_3); (try clear hcdr_4 hfdr_4); (try clear hcdr_5 hfdr_5); (try clear hcdr_6 hfdr_6); (try clear hcg3_0 hfg3_0); (try clear hcg3_1 hfg3_1); (try clear hcg3_2 hfg3_2); (try clear hcg3_3 hfg3_3); have hs : Below w1.heap.size w1 w2 := below_step (by repeat (first | exact Below.refl _ _ | apply below_alloc | apply pw_below_drewN | apply below_drew1)) hb; have SZ2 := Aside0.mk (show w1.heap.size ≤ w2.heap.size from hs.size); replace BKdr := Aside0.mk (blk_below BKdr.out hs); replace HH := Aside0.mk (DiskO.below HH.out hs); replace BKg3 := Aside0.mk (blk_below BKg3.out hs); replace HB := Aside0.mk (below_step HB.out hs); clear hb hd hs; have hcdr_0 : w2.cell? ⟨dr, 0, none⟩ = some (.int .i64 a) := (blk_cell BKdr.out 0).trans rfl; have hfdr_0 := blk_frozen BKdr.out 0; have hcdr_1 : w2.cell? ⟨dr, 1, none⟩ = some (.int .i64 b) := (blk_cell BKdr.out 1).trans rfl; have hfdr_1 := blk_frozen BKdr.out 1; have hcdr_2 : w2.cell? ⟨dr, 2, none⟩ = some (.int .i64 c) := (blk_cell BKdr.out 2).trans rfl; have hfdr_2 := blk_frozen BKdr.out 2; have hcdr_3 : w2.cell? ⟨dr, 3, none⟩ = some (.int .i64 d) := (blk_cell BKdr.out 3).trans rfl; have hfdr_3 := blk_frozen BKdr.out 3; have hcdr_4 : w2.cell? ⟨dr, 4, none⟩ = some (.int .i64 (p.length : Int)) := (blk_cell BKdr.out 4).trans rfl; have hfdr_4 := blk_frozen BKdr.out 4; have hcdr_5 : w2.cell? ⟨dr, 5, none⟩ = some (.slice (some ⟨g, 0, none⟩) n cs) := (blk_cell BKdr.out 5).trans rfl; have hfdr_5 := blk_frozen BKdr.out 5; have hcdr_6 : w2.cell? ⟨dr, 6, none⟩ = some (.slice Ag m cg) := (blk_cell BKdr.out 6).trans rfl; have hfdr_6 := blk_frozen BKdr.out 6; have hcg3_0 : w2.cell? ⟨g3, 0, none⟩ = some (.int .i64 x) := (blk_cell BKg3.out 0).trans rfl; have hfg3_0 := blk_frozen BKg3.out 0; have hcg3_1 : w2.cell? ⟨g3, 1, none⟩ = some (.int .i64 y) := (blk_cell BKg3.out 1).trans rfl; have hfg3_1 := blk_frozen BKg3.out 1; have hcg3_2 : w2.cell? ⟨g3, 2, none⟩ = some (.int .i64 z) := (blk_cell BKg3.out 2).trans rfl; have hfg3_2 := blk_frozen BKg3.out 2; have hcg3_3 : w2.cell? ⟨g3, 3, none⟩ = some (.slice B p.length cc) := (blk_cell BKg3.out 3).trans rfl; have hfg3_3 := blk_frozen BKg3.out 3; clear tok2))
  (try clear hcdr_0 hfdr_0)
  (try clear hcdr_1 hfdr_1)
  (try clear hcdr_2 hfdr_2)
  (try clear hcdr_3 hfdr_3)
  (try clear hcdr_4 hfdr_4)
  (try clear hcdr_5 hfdr_5)
  (try clear hcdr_6 hfdr_6)
  (try clear hcg3_0 hfg3_0)
  (try clear hcg3_1 hfg3_1)
  (try clear hcg3_2 hfg3_2)
  (try clear hcg3_3 hfg3_3)
  have hs : Below w2.heap.size w2 (World.drew w2) := below_drew1 (Below.refl _ _)
  have SZ3 := Aside0.mk (show w2.heap.size ≤ (World.drew w2).heap.size from hs.size)
  replace BKdr := Aside0.mk (blk_below BKdr.out hs)
  replace HH := Aside0.mk (DiskO.below HH.out hs)
  replace BKg3 := Aside0.mk (blk_below BKg3.out hs)
  have n_ := Aside0.mk (below_step HB.out hs)
  clear HB
  have HB := n_
  clear n_ hs
  refine start_ (n := 12) (S := fun w' => w'.cell? ⟨dr, 0, none⟩ = some (.int .i64 a) ∧ w'.cell? ⟨dr, 1, none⟩ = some (.int .i64 b) ∧ w'.cell? ⟨dr, 2, none⟩ = some (.int .i64 c) ∧ w'.cell? ⟨dr, 3, none⟩ = some (.int .i64 d) ∧ w'.cell? ⟨dr, 4, none⟩ = some (.int .i64 (p.length : Int)) ∧ w'.cell? ⟨dr, 5, none⟩ = some (.slice (some ⟨g, 0, none⟩) n cs) ∧ w'.cell? ⟨dr, 6, none⟩ = some (.slice Ag m cg) ∧ w'.cell? ⟨g3, 0, none⟩ = some (.int .i64 x) ∧ w'.cell? ⟨g3, 1, none⟩ = some (.int .i64 y) ∧ w'.cell? ⟨g3, 2, none⟩ = some (.int .i64 z) ∧ w'.cell? ⟨g3, 3, none⟩ = some (.slice B p.length cc)) (ds := []) #[false, false, false, false, false, false, false, false, false, false, false, false] (by kernel_rfl) rfl rfl ⟨(blk_cell BKdr.out 0).trans rfl, (blk_cell BKdr.out 1).trans rfl, (blk_cell BKdr.out 2).trans rfl, (blk_cell BKdr.out 3).trans rfl, (blk_cell BKdr.out 4).trans rfl, (blk_cell BKdr.out 5).trans rfl, (blk_cell BKdr.out 6).trans rfl, (blk_cell BKg3.out 0).trans rfl, (blk_cell BKg3.out 1).trans rfl, (blk_cell BKg3.out 2).trans rfl, (blk_cell BKg3.out 3).trans rfl⟩ (fun hHeld => ?_)
  generalize World.drew w2 = w3 at HB BKdr HH BKg3 SZ3 hHeld ⊢
  refine pure_ (i := 0) (N := some 14) (v := ?_) (a' := ?_) #[true, false, false, false, false, false, false, false, false, false, false, false] rfl rfl (by kernel_rfl) (fun _ _ _ h => h) (Or.inl ⟨by rfl, ?_⟩) ?_ ?_
  rotate_left
  · intro w'
    go_simp
    with_reducible rfl
  rotate_left
  · simp only [Act.put, List.setIfInBounds_toArray, List.set_cons_zero, List.set_cons_succ, i64_w, i32_w]
    rfl
  refine pure_ (i := 1) (N := some 15) (v := ?_) (a' := ?_) #[true, true, false, false, false, false, false, false, false, false, false, false] rfl rfl (by kernel_rfl) (fun _ _ _ h => h) (Or.inl ⟨by rfl, ?_⟩) ?_ ?_
  rotate_left
  · intro w'
    go_simp
    with_reducible rfl
  rotate_left
  · simp only [Act.put, List.setIfInBounds_toArray, List.set_cons_zero, List.set_cons_succ, i64_w, i32_w]
    rfl
  refine pure_ (i := 2) (N := some 16) (v := ?_) (a' := ?_) #[true, true, true, false, false, false, false, false, false, false, false, false] rfl rfl (by kernel_rfl) (fun _ _ _ h => h) (Or.inl ⟨by rfl, ?_⟩) ?_ ?_
  rotate_left
  · intro w'
    go_simp
    with_reducible rfl
  rotate_left
  · simp only [Act.put, List.setIfInBounds_toArray, List.set_cons_zero, List.set_cons_succ, i64_w, i32_w]
    rfl
  refine pure_ (i := 3) (N := some 17) (v := ?_) (a' := ?_) #[true, true, true, true, false, false, false, false, false, false, false, false] rfl rfl (by kernel_rfl) (fun _ _ _ h => h) (Or.inl ⟨by rfl, ?_⟩) ?_ ?_
  rotate_left
  · intro w'
    go_simp
    with_reducible rfl
  rotate_left
  · simp only [Act.put, List.setIfInBounds_toArray, List.set_cons_zero, List.set_cons_succ, i64_w, i32_w]
    rfl
  refine pure_ (i := 6) (N := some 20) (v := ?_) (a' := ?_) #[true, true, true, true, false, false, true, false, false, false, false, false] rfl rfl (by kernel_rfl) (fun _ _ _ h => h) (Or.inl ⟨by rfl, ?_⟩) ?_ ?_
  rotate_left
  · intro w'
    go_simp
    with_reducible rfl
  rotate_left
  · simp only [Act.put, List.setIfInBounds_toArray, List.set_cons_zero, List.set_cons_succ, i64_w, i32_w]
    rfl
  refine pure_ (i := 7) (N := some 21) (v := ?_) (a' := ?_) #[true, true, true, true, false, false, true, true, false, false, false, false] rfl rfl (by kernel_rfl) (fun _ _ _ h => h) (Or.inl ⟨by rfl, ?_⟩) ?_ ?_
  rotate_left
  · intro w'
    go_simp
    with_reducible rfl
  rotate_left
  · simp only [Act.put, List.setIfInBounds_toArray, List.set_cons_zero, List.set_cons_succ, i64_w, i32_w]
    rfl
  refine pure_ (i := 8) (N := some 22) (v := ?_) (a' := ?_) #[true, true, true, true, false, false, true, true, true, false, false, false] rfl rfl (by kernel_rfl) (fun _ _ _ h => h) (Or.inl ⟨by rfl, ?_⟩) ?_ ?_
  rotate_left
  · intro w'
    go_simp
    with_reducible rfl
  rotate_left
  · simp only [Act.put, List.setIfInBounds_toArray, List.set_cons_zero, List.set_cons_succ, i64_w, i32_w]
    rfl
  refine take_ (i := 4) (N := some 18) (v := ?_) (a' := ?_) #[true, true, true, true, true, false, true, true, true, false, false, false] rfl rfl (by kernel_rfl) (fun _ _ _ h => h) (Or.inl ⟨by rfl, ?_⟩) hHeld ?_ ?_
  rotate_left
  · rintro w' ⟨s0, s1, s2, s3, s4, s5, s6, s7, s8, s9, s10⟩
    go_simp
    with_reducible rfl
  rotate_left
  · simp only [Act.put, List.setIfInBounds_toArray, List.set_cons_zero, List.set_cons_succ, i64_w, i32_w]
    rfl
  refine pure_ (i := 5) (N := some 19) (v := ?_) (a' := ?_) #[true, true, true, true, true, true, true, true, true, false, false, false] rfl rfl (by kernel_rfl) (fun _ _ _ h => h) (Or.inl ⟨by rfl, ?_⟩) ?_ ?_
  rotate_left
  · intro w'
    go_simp
    with_reducible rfl
  rotate_left
  · simp only [Act.put, List.setIfInBounds_toArray, List.set_cons_zero, List.set_cons_succ, i64_w, i32_w]
    rfl
  refine take_ (i := 9) (N := some 23) (v := ?_) (a' := ?_) #[true, true, true, true, true, true, true, true, true, true, false, false] rfl rfl (by kernel_rfl) (fun _ _ _ h => h) (Or.inl ⟨by rfl, ?_⟩) hHeld ?_ ?_
  rotate_left
  · rintro w' ⟨s0, s1, s2, s3, s4, s5, s6, s7, s8, s9, s10⟩
    go_simp
    with_reducible rfl
  rotate_left
  · simp only [Act.put, List.setIfInBounds_toArray, List.set_cons_zero, List.set_cons_succ, i64_w, i32_w]
    rfl
  refine pure_ (i := 10) (N := some 24) (v := ?_) (a' := ?_) #[true, true, true, true, true, true, true, true, true, true, true, false] rfl rfl (by kernel_rfl) (fun _ _ _ h => h) (Or.inl ⟨by rfl, ?_⟩) ?_ ?_
  rotate_left
  · intro w'
    go_simp
    with_reducible rfl
  rotate_left
  · simp only [Act.put, List.setIfInBounds_toArray, List.set_cons_zero, List.set_cons_succ, i64_w, i32_w]
    rfl
  refine pure_ (i := 11) (N := some 25) (v := ?_) (a' := ?_) #[true, true, true, true, true, true, true, true, true, true, true, true] rfl rfl (by kernel_rfl) (fun _ _ _ h => h) (Or.inl ⟨by rfl, ?_⟩) ?_ ?_
  rotate_left
  · intro w'
    go_simp
    with_reducible rfl
  rotate_left
  · simp only [Act.put, List.setIfInBounds_toArray, List.set_cons_zero, List.set_cons_succ, i64_w, i32_w]
    rfl
  refine done_ (by kernel_rfl) ?_
  have hcdr_0 : w3.cell? ⟨dr, 0, none⟩ = some (.int .i64 a) := (blk_cell BKdr.out 0).trans rfl
  have hfdr_0 := blk_frozen BKdr.out 0
  have hcdr_1 : w3.cell? ⟨dr, 1, none⟩ = some (.int .i64 b) := (blk_cell BKdr.out 1).trans rfl
  have hfdr_1 := blk_frozen BKdr.out 1
  have hcdr_2 : w3.cell? ⟨dr, 2, none⟩ = some (.int .i64 c) := (blk_cell BKdr.out 2).trans rfl
  have hfdr_2 := blk_frozen BKdr.out 2
  have hcdr_3 : w3.cell? ⟨dr, 3, none⟩ = some (.int .i64 d) := (blk_cell BKdr.out 3).trans rfl
  have hfdr_3 := blk_frozen BKdr.out 3
  have hcdr_4 : w3.cell? ⟨dr, 4, none⟩ = some (.int .i64 (p.length : Int)) := (blk_cell BKdr.out 4).trans rfl
  have hfdr_4 := blk_frozen BKdr.out 4
  have hcdr_5 : w3.cell? ⟨dr, 5, none⟩ = some (.slice (some ⟨g, 0, none⟩) n cs) := (blk_cell BKdr.out 5).trans rfl
  have hfdr_5 := blk_frozen BKdr.out 5
  have hcdr_6 : w3.cell? ⟨dr, 6, none⟩ = some (.slice Ag m cg) := (blk_cell BKdr.out 6).trans rfl
  have hfdr_6 := blk_frozen BKdr.out 6
  have hcg3_0 : w3.cell? ⟨g3, 0, none⟩ = some (.int .i64 x) := (blk_cell BKg3.out 0).trans rfl
  have hfg3_0 := blk_frozen BKg3.out 0
  have hcg3_1 : w3.cell? ⟨g3, 1, none⟩ = some (.int .i64 y) := (blk_cell BKg3.out 1).trans rfl
  have hfg3_1 := blk_frozen BKg3.out 1
  have hcg3_2 : w3.cell? ⟨g3, 2, none⟩ = some (.int .i64 z) := (blk_cell BKg3.out 2).trans rfl
  have hfg3_2 := blk_frozen BKg3.out 2
  have hcg3_3 : w3.cell? ⟨g3, 3, none⟩ = some (.slice B p.length cc) := (blk_cell BKg3.out 3).trans rfl
  have hfg3_3 := blk_frozen BKg3.out 3
  go_wp2_with (fail)
  (try clear hcdr_0 hfdr_0)
  (try clear hcdr_1 hfdr_1)
  (try clear hcdr_2 hfdr_2)
  (try clear hcdr_3 hfdr_3)
  (try clear hcdr_4 hfdr_4)
  (try clear hcdr_5 hfdr_5)
  (try clear hcdr_6 hfdr_6)
  (try clear hcg3_0 hfg3_0)
  (try clear hcg3_1 hfg3_1)
  (try clear hcg3_2 hfg3_2)
  (try clear hcg3_3 hfg3_3)
  have hs : Below w3.heap.size w3 (World.drew w3) := below_drew1 (Below.refl _ _)
  have SZ4 := Aside0.mk (show w3.heap.size ≤ (World.drew w3).heap.size from hs.size)
  replace BKdr := Aside0.mk (blk_below BKdr.out hs)
  replace HH := Aside0.mk (DiskO.below HH.out hs)
  replace BKg3 := Aside0.mk (blk_below BKg3.out hs)
  have n_ := Aside0.mk (below_step HB.out hs)
  clear HB
  have HB := n_
  clear n_ hs
  refine start_ (n := 10) (S := fun w' => w'.cell? ⟨dr, 0, none⟩ = some (.int .i64 a) ∧ w'.cell? ⟨dr, 1, none⟩ = some (.int .i64 b) ∧ w'.cell? ⟨dr, 2, none⟩ = some (.int .i64 c) ∧ w'.cell? ⟨dr, 3, none⟩ = some (.int .i64 d) ∧ w'.cell? ⟨dr, 4, none⟩ = some (.int .i64 (p.length : Int)) ∧ w'.cell? ⟨dr, 5, none⟩ = some (.slice (some ⟨g, 0, none⟩) n cs) ∧ w'.cell? ⟨dr, 6, none⟩ = some (.slice Ag m cg) ∧ w'.cell? ⟨g3, 0, none⟩ = some (.int .i64 x) ∧ w'.cell? ⟨g3, 1, none⟩ = some (.int .i64 y) ∧ w'.cell? ⟨g3, 2, none⟩ = some (.int .i64 z) ∧ w'.cell? ⟨g3, 3, none⟩ = some (.slice B p.length cc)) (ds := [9]) #[false, false, false, false, false, false, false, false, false, false] (by kernel_rfl) rfl rfl ⟨(blk_cell BKdr.out 0).trans rfl, (blk_cell BKdr.out 1).trans rfl, (blk_cell BKdr.out 2).trans rfl, (blk_cell BKdr.out 3).trans rfl, (blk_cell BKdr.out 4).trans rfl, (blk_cell BKdr.out 5).trans rfl, (blk_cell BKdr.out 6).trans rfl, (blk_cell BKg3.out 0).trans rfl, (blk_cell BKg3.out 1).trans rfl, (blk_cell BKg3.out 2).trans rfl, (blk_cell BKg3.out 3).trans rfl⟩ (fun hHeld => ?_)
  generalize World.drew w3 = w4 at HB BKdr HH BKg3 SZ4 hHeld ⊢
  refine pure_ (i := 0) (N := some 26) (v := ?_) (a' := ?_) #[true, false, false, false, false, false, false, false, false, false] rfl rfl (by kernel_rfl) (fun _ _ _ h => h) (Or.inl ⟨by rfl, ?_⟩) ?_ ?_
  rotate_left
  · intro w'
    go_simp
    with_reducible rfl
  rotate_left
  · simp only [Act.put, List.setIfInBounds_toArray, List.set_cons_zero, List.set_cons_succ, i64_w, i32_w]
    rfl
  refine pure_ (i := 1) (N := some 27) (v := ?_) (a' := ?_) #[true, true, false, false, false, false, false, false, false, false] rfl rfl (by kernel_rfl) (fun _ _ _ h => h) (Or.inl ⟨by rfl, ?_⟩) ?_ ?_
  rotate_left
  · intro w'
    go_simp
    with_reducible rfl
  rotate_left
  · simp only [Act.put, List.setIfInBounds_toArray, List.set_cons_zero, List.set_cons_succ, i64_w, i32_w]
    rfl
  refine pure_ (i := 2) (N := some 28) (v := ?_) (a' := ?_) #[true, true, true, false, false, false, false, false, false, false] rfl rfl (by kernel_rfl) (fun _ _ _ h => h) (Or.inl ⟨by rfl, ?_⟩) ?_ ?_
  rotate_left
  · intro w'
    go_simp
    with_reducible rfl
  rotate_left
  · simp only [Act.put, List.setIfInBounds_toArray, List.set_cons_zero, List.set_cons_succ, i64_w, i32_w]
    rfl
  refine pure_ (i := 4) (N := some 30) (v := ?_) (a' := ?_) #[true, true, true, false, true, false, false, false, false, false] rfl rfl (by kernel_rfl) (fun _ _ _ h => h) (Or.inl ⟨by rfl, ?_⟩) ?_ ?_
  rotate_left
  · intro w'
    go_simp
    with_reducible rfl
  rotate_left
  · simp only [Act.put, List.setIfInBounds_toArray, List.set_cons_zero, List.set_cons_succ, i64_w, i32_w]
    rfl
  refine pure_ (i := 5) (N := some 31) (v := ?_) (a' := ?_) #[true, true, true, false, true, true, false, false, false, false] rfl rfl (by kernel_rfl) (fun _ _ _ h => h) (Or.inl ⟨by rfl, ?_⟩) ?_ ?_
  rotate_left
  · intro w'
    go_simp
    with_reducible rfl
  rotate_left
  · simp only [Act.put, List.setIfInBounds_toArray, List.set_cons_zero, List.set_cons_succ, i64_w, i32_w]
    rfl
  refine take_ (i := 3) (N := some 29) (v := ?_) (a' := ?_) #[true, true, true, true, true, true, false, false, false, false] rfl rfl (by kernel_rfl) (fun _ _ _ h => h) (Or.inl ⟨by rfl, ?_⟩) hHeld ?_ ?_
  rotate_left
  · rintro w' ⟨s0, s1, s2, s3, s4, s5, s6, s7, s8, s9, s10⟩
    go_simp
    with_reducible rfl
  rotate_left
  · simp only [Act.put, List.setIfInBounds_toArray, List.set_cons_zero, List.set_cons_succ, i64_w, i32_w]
    rfl
  refine take_ (i := 6) (N := some 32) (v := ?_) (a' := ?_) #[true, true, true, true, true, true, true, false, false, false] rfl rfl (by kernel_rfl) (fun _ _ _ h => h) (Or.inl ⟨by rfl, ?_⟩) hHeld ?_ ?_
  rotate_left
  · rintro w' ⟨s0, s1, s2, s3, s4, s5, s6, s7, s8, s9, s10⟩
    go_simp
    with_reducible rfl
  rotate_left
  · simp only [Act.put, List.setIfInBounds_toArray, List.set_cons_zero, List.set_cons_succ, i64_w, i32_w]
    rfl
  refine one_ (i := 7) (N := some 33) #[true, true, true, true, true, true, true, true, false, false] rfl rfl (by kernel_rfl) (by decide) (fun K hK => ?_)
  refine goes_ Try.func48 (by kernel_rfl) rfl #[.slice B p.length cc] (by rfl) rfl rfl (by simp only [List.map_toArray, List.map_cons, List.map_nil]; rfl) ?_
  with_reducible refine (slices_Clone_byte_byte.calls B cc p p _ ?s1 ALe.out AC.out).mono ?_
  (case s1 => exact Kd.C_below ACx.out (by repeat (first | exact HB.out | apply below_alloc | apply pw_below_drewN | apply below_drew1)))
  rintro e w5 ⟨v5, rfl, hv, hb⟩
  refine ⟨_, rfl, ?_⟩
  have hs : Below w4.heap.size w4 w5 := below_step (by repeat (first | exact Below.refl _ _ | apply below_alloc | apply pw_below_drewN | apply below_drew1)) hb
  have hl : w4.heap.size ≤ _ := below_size (w := w4) (by repeat (first | exact Below.refl _ _ | apply below_alloc | apply pw_below_drewN | apply below_drew1))
  have SZ5 := Aside0.mk (show w4.heap.size ≤ w5.heap.size from hs.size)
  replace BKdr := Aside0.mk (blk_below BKdr.out hs)
  replace HH := Aside0.mk (DiskO.below HH.out hs)
  replace BKg3 := Aside0.mk (blk_below BKg3.out hs)
  have HV := Aside0.mk (show Kd.R (Kd.int .u8) 5 w5 base (fun k => Gr ok w w5 k ∧ k ≠ g) v5 p from Kd.R_mono (Kd.R_lower (Kd.R_bound hv) (by have h1 := hl; have h3 := HG.out; have := HZ2.out; have := SZ1.out; have := SZ2.out; have := SZ3.out; have := SZ4.out; omega)) (fun k hk => ⟨⟨hk.2.2.1, .inr (by have h2 := hk.2.1; have h1 := hl; have h3 := HG.out; have := HZ2.out; have := SZ1.out; have := SZ2.out; have := SZ3.out; have := SZ4.out; omega)⟩, by have h2 := hk.2.1; have h1 := hl; have h3 := HG.out; have := HZ2.out; have := SZ1.out; have := SZ2.out; have := SZ3.out; have := SZ4.out; omega⟩))
  clear hv
  obtain ⟨A5, c5, e5_⟩ := Kd.R_slice HV.out
  subst e5_
  have hqs := HI.out
  obtain ⟨u0, hcu, hfu⟩ := R_cell_row HH.out.2.2.1 (i := i) hqs
  clear hqs
  have n_ := Aside0.mk (below_step HB.out hs)
  clear HB
  have HB := n_
  clear n_ hs hb
  (try clear hl)
  refine hK.out _ _ ⟨(blk_cell BKdr.out 0).trans rfl, (blk_cell BKdr.out 1).trans rfl, (blk_cell BKdr.out 2).trans rfl, (blk_cell BKdr.out 3).trans rfl, (blk_cell BKdr.out 4).trans rfl, (blk_cell BKdr.out 5).trans rfl, (blk_cell BKdr.out 6).trans rfl, (blk_cell BKg3.out 0).trans rfl, (blk_cell BKg3.out 1).trans rfl, (blk_cell BKg3.out 2).trans rfl, (blk_cell BKg3.out 3).trans rfl⟩ (fun hHeld => ?_)
  clear hK K
  refine norm_ (a' := ?_) ?_ ?_
  rotate_left
  · show Act.put _ (some 33) _ = _
    simp only [Act.put, List.setIfInBounds_toArray, List.set_cons_zero, List.set_cons_succ, i64_w, i32_w]
    rfl
  refine pure_ (i := 8) (N := some 34) (v := ?_) (a' := ?_) #[true, true, true, true, true, true, true, true, true, false] rfl rfl (by kernel_rfl) (fun _ _ _ h => h) (Or.inl ⟨by rfl, ?_⟩) ?_ ?_
  rotate_left
  · intro w'
    go_simp
    with_reducible rfl
  rotate_left
  · simp only [Act.put, List.setIfInBounds_toArray, List.set_cons_zero, List.set_cons_succ, i64_w, i32_w]
    rfl
  refine last_ (i := 9) (N := none) #[true, true, true, true, true, true, true, true, true, true] rfl rfl (by kernel_rfl) (by decide) (fun K hK => ?_)
  refine skip_ (w1 := ?_) (by rfl) rfl ?_ ?_
  rotate_left
  · go_simp
    rfl
  refine hK.out _ _ ?_
  clear hK K
  refine done_ (by kernel_rfl) ?_
  have hcdr_0 : w5.cell? ⟨dr, 0, none⟩ = some (.int .i64 a) := (blk_cell BKdr.out 0).trans rfl
  have hfdr_0 := blk_frozen BKdr.out 0
  have hcdr_1 : w5.cell? ⟨dr, 1, none⟩ = some (.int .i64 b) := (blk_cell BKdr.out 1).trans rfl
  have hfdr_1 := blk_frozen BKdr.out 1
  have hcdr_2 : w5.cell? ⟨dr, 2, none⟩ = some (.int .i64 c) := (blk_cell BKdr.out 2).trans rfl
  have hfdr_2 := blk_frozen BKdr.out 2
  have hcdr_3 : w5.cell? ⟨dr, 3, none⟩ = some (.int .i64 d) := (blk_cell BKdr.out 3).trans rfl
  have hfdr_3 := blk_frozen BKdr.out 3
  have hcdr_4 : w5.cell? ⟨dr, 4, none⟩ = some (.int .i64 (p.length : Int)) := (blk_cell BKdr.out 4).trans rfl
  have hfdr_4 := blk_frozen BKdr.out 4
  have hcdr_5 : w5.cell? ⟨dr, 5, none⟩ = some (.slice (some ⟨g, 0, none⟩) n cs) := (blk_cell BKdr.out 5).trans rfl
  have hfdr_5 := blk_frozen BKdr.out 5
  have hcdr_6 : w5.cell? ⟨dr, 6, none⟩ = some (.slice Ag m cg) := (blk_cell BKdr.out 6).trans rfl
  have hfdr_6 := blk_frozen BKdr.out 6
  have hcg3_0 : w5.cell? ⟨g3, 0, none⟩ = some (.int .i64 x) := (blk_cell BKg3.out 0).trans rfl
  have hfg3_0 := blk_frozen BKg3.out 0
  have hcg3_1 : w5.cell? ⟨g3, 1, none⟩ = some (.int .i64 y) := (blk_cell BKg3.out 1).trans rfl
  have hfg3_1 := blk_frozen BKg3.out 1
  have hcg3_2 : w5.cell? ⟨g3, 2, none⟩ = some (.int .i64 z) := (blk_cell BKg3.out 2).trans rfl
  have hfg3_2 := blk_frozen BKg3.out 2
  have hcg3_3 : w5.cell? ⟨g3, 3, none⟩ = some (.slice B p.length cc) := (blk_cell BKg3.out 3).trans rfl
  have hfg3_3 := blk_frozen BKg3.out 3
  go_wp2_with (fail)
  go_ret
  have K1 := HH.out.gr (ok := ok) (w := w) HG.out.2 (fun k hk => .inl hk) HH0.out.base_
  have K2 := (K1.setSlot HI.out HV.out).1
  have hg := HH0.out.2.2.1.1 g rfl
  refine ⟨rfl, K2.gr HG.out.2 (fun k hk => hk.2) HH0.out.base_, ((Wrote.start HG.out.2).below HB.out).cell hg (HH0.out.base_ g hg) _⟩
end Go.Proofs.Ytemmhgfjfbdggaa.P

import Derived.Test.YtemmhgfjfbdggaaP08I
namespace Go.Proofs.Ytemmhgfjfbdggaa.P
open Go.RowKit Go.Proofs.YtemmhgfjfbdggaaW.PrintWords Go.Proofs.YtemmhgfjfbdggaaW.PrintLast Go.Proofs.YtemmhgfjfbdggaaW.PrintMore
attribute [local go_sem] max2_int min2_int max_two min_two max_three min_three max_four min_four
set_option linter.unusedVariables false
set_option linter.unusedSimpArgs false
set_option maxHeartbeats 8000000 in
set_option maxRecDepth 100000 in
theorem Image_yes (D dr : Nat) (a b c d sz : Int) (off : Bool) (cut wr : Int) (As Ag : Option Addr) (cs ng cg : Nat) (slots : List (List Int)) (w : World) (hD : w.heap[D]? = some (.cells #[.pointer (some ⟨dr, 0, none⟩), .bool off, .int .i64 cut, .int .i64 wr] 58 (0, 0))) (hR : w.heap[dr]? = some (.cells #[.int .i64 a, .int .i64 b, .int .i64 c, .int .i64 d, .int .i64 sz, .slice As slots.length cs, .slice Ag ng cg] 78 (0, 0))) (hC : Kd.C (Kd.slice 5 (Kd.int .u8)) w As slots.length slots) (hl : slots.length ≤ 100000) (hel : ∀ x ∈ slots, x.length ≤ 1000000) : Calls Try.prog 23 #[.pointer (some ⟨D, 0, none⟩)] w fun e w' => ∃ v : Value, e = .returned (.tuple #[.agg #[.int .i64 a, .int .i64 b, .int .i64 c, .int .i64 d, v], .int .i64 0]) ∧ Kd.R (Kd.slice 5 (Kd.int .u8)) 45 w' w.heap.size (fun _ => True) v slots ∧ Below w.heap.size w w' := by
  have hu36 := Try.underlying36
  have HB := Aside0.mk (Below.refl w.heap.size w)
  have BKD := Aside0.mk hD
  have BKdr := Aside0.mk hR
  have HC := Aside0.mk hC
  have HL := Aside0.mk hl
  have HE := Aside0.mk hel
  have HZ1 := Aside0.mk (show D < w.heap.size from blk_lt hD)
  have HZ2 := Aside0.mk (show dr < w.heap.size from blk_lt hR)
  clear hD hR hC hl hel
  have hcD_0 : w.cell? ⟨D, 0, none⟩ = some (.pointer (some ⟨dr, 0, none⟩)) := (blk_cell BKD.out 0).trans rfl
  have hfD_0 := blk_frozen BKD.out 0
  have hcD_1 : w.cell? ⟨D, 1, none⟩ = some (.bool off) := (blk_cell BKD.out 1).trans rfl
  have hfD_1 := blk_frozen BKD.out 1
  have hcD_2 : w.cell? ⟨D, 2, none⟩ = some (.int .i64 cut) := (blk_cell BKD.out 2).trans rfl
  have hfD_2 := blk_frozen BKD.out 2
  have hcD_3 : w.cell? ⟨D, 3, none⟩ = some (.int .i64 wr) := (blk_cell BKD.out 3).trans rfl
  have hfD_3 := blk_frozen BKD.out 3
  have hcdr_0 : w.cell? ⟨dr, 0, none⟩ = some (.int .i64 a) := (blk_cell BKdr.out 0).trans rfl
  have hfdr_0 := blk_frozen BKdr.out 0
  have hcdr_1 : w.cell? ⟨dr, 1, none⟩ = some (.int .i64 b) := (blk_cell BKdr.out 1).trans rfl
  have hfdr_1 := blk_frozen BKdr.out 1
  have hcdr_2 : w.cell? ⟨dr, 2, none⟩ = some (.int .i64 c) := (blk_cell BKdr.out 2).trans rfl
  have hfdr_2 := blk_frozen BKdr.out 2
  have hcdr_3 : w.cell? ⟨dr, 3, none⟩ = some (.int .i64 d) := (blk_cell BKdr.out 3).trans rfl
  have hfdr_3 := blk_frozen BKdr.out 3
  have hcdr_4 : w.cell? ⟨dr, 4, none⟩ = some (.int .i64 sz) := (blk_cell BKdr.out 4).trans rfl
  have hfdr_4 := blk_frozen BKdr.out 4
  have hcdr_5 : w.cell? ⟨dr, 5, none⟩ = some (.slice As slots.length cs) := (blk_cell BKdr.out 5).trans rfl
  have hfdr_5 := blk_frozen BKdr.out 5
  have hcdr_6 : w.cell? ⟨dr, 6, none⟩ = some (.slice Ag ng cg) := (blk_cell BKdr.out 6).trans rfl
  have hfdr_6 := blk_frozen BKdr.out 6
  go_enter Try.func23, Try.ntmps23
  have tok1 : True := trivial
  go_wp2_with (first | (have _ := tok1; (with_reducible refine gate_dst (N := 2) rfl ?_); refine box_event ?hg (N := 2) ?hd (cs := #[.int .i64 0, .int .i64 0, .int .i64 0, .int .i64 0, .slice none 0 0]) (t := 36) ?hr ?_; (case hd => rfl); (case hg => rfl); (case hr => first | (go_simp; done) | (go_simp; rfl)); intro g2 hg w1 hbox hb; have hs : Below w.heap.size w w1 := below_step (by repeat (first | exact Below.refl _ _ | apply below_alloc | apply pw_below_drewN | apply below_drew1)) hb; have SZ1 := Aside0.mk (show w.heap.size ≤ g2 ∧ g2 < w1.heap.size from ⟨by rw [hg]; exact (below_size (by repeat (first | exact Below.refl _ _ | apply below_alloc | apply pw_below_drewN | apply below_drew1))), blk_lt hbox⟩); (try clear hcD_0 hfD_0); (try clear hcD_1 hfD_1); (try clear hcD_2 hfD_2); (try clear hcD_3 hfD_3); (try clear hcdr_0 hfdr_0); (try clear hcdr_1 hfdr_1); (try clear hcdr_2 hfdr_2); (try clear hcdr_3 hfdr_3); (try clear hcdr_4 hfdr_4); (try clear hcdr_5 hfdr_5); (try clear hcdr_6 hfdr_6); replace BKD := Aside0.mk (blk_below BKD.out hs); replace BKdr := Aside0.mk (blk_below BKdr.out hs); replace HB := Aside0.mk (below_step HB.out hs); have hneD_g2 : D ≠ g2 := (by have := SZ1.out; have := HZ1.out; have := HZ2.out; omega); have hneg2_D : g2 ≠ D := hneD_g2.symm; have hnedr_g2 : dr ≠ g2 := (by have := SZ1.out; have := HZ1.out; have := HZ2.out; omega); have hneg2_dr : g2 ≠ dr := hnedr_g2.symm; have BKg2 := Aside0.mk hbox; clear hb hbox hg hs; have hcD_0 : w1.cell? ⟨D, 0, none⟩ = some (.pointer (some ⟨dr, 0, none⟩)) := (blk_cell BKD.out 0).trans rfl; have hfD_0 := blk_frozen BKD.out 0; have hcD_1 : w1.cell? ⟨D, 1, none⟩ = some (.bool off) := (blk_cell BKD.out 1).trans rfl; have hfD_1 := blk_frozen BKD.out 1; have hcD_2 : w1.cell? ⟨D, 2, none⟩ = some (.int .i64 cut) := (blk_cell BKD.out 2).trans rfl; have hfD_2 := blk_frozen BKD.out 2; have hcD_3 : w1.cell? ⟨D, 3, none⟩ = some (.int .i64 wr) := (blk_cell BKD.out 3).trans rfl; have hfD_3 := blk_frozen BKD.out 3; have hcdr_0 : w1.cell? ⟨dr, 0, none⟩ = some (.int .i64 a) := (blk_cell BKdr.out 0).trans rfl; have hfdr_0 := blk_frozen BKdr.out 0; have hcdr_1 : w1.cell? ⟨dr, 1, none⟩ = some (.int .i64 b) := (blk_cell BKdr.out 1).trans rfl; have hfdr_1 := blk_frozen BKdr.out 1; have hcdr_2 : w1.cell? ⟨dr, 2, none⟩ = some (.int .i64 c) := (blk_cell BKdr.out 2).trans rfl; have hfdr_2 := blk_frozen BKdr.out 2; have hcdr_3 : w1.cell? ⟨dr, 3, none⟩ = some (.int .i64 d) := (blk_cell BKdr.out 3).trans rfl; have hfdr_3 := blk_frozen BKdr.out 3; have hcdr_4 : w1.cell? ⟨dr, 4, none⟩ = some (.int .i64 sz) := (blk_cell BKdr.out 4).trans rfl; have hfdr_4 := blk_frozen BKdr.out 4; have hcdr_5 : w1.cell? ⟨dr, 5, none⟩ = some (.slice As slots.length cs) := (blk_cell BKdr.out 5).trans rfl; have hfdr_5 := blk_frozen BKdr.out 5; have hcdr_6 : w1.cell? ⟨dr, 6, none⟩ = some (.slice Ag ng cg) := (blk_cell BKdr.out 6).trans rfl; have hfdr_6 := blk_frozen BKdr.out 6; have hcg2_0 : w1.cell? ⟨g2, 0, none⟩ = some (.int .i64 0) := (blk_cell BKg2.out 0).trans rfl; have hfg2_0 := blk_frozen BKg2.out 0; have hcg2_1 : w1.cell? ⟨g2, 1, none⟩ = some (.int .i64 0) := (blk_cell BKg2.out 1).trans rfl; have hfg2_1 := blk_frozen BKg2.out 1; have hcg2_2 : w1.cell? ⟨g2, 2, none⟩ = some (.int .i64 0) := (blk_cell BKg2.out 2).trans rfl; have hfg2_2 := blk_frozen BKg2.out 2; have hcg2_3 : w1.cell? ⟨g2, 3, none⟩ = some (.int .i64 0) := (blk_cell BKg2.out 3).trans rfl; have hfg2_3 := blk_frozen BKg2.out 3; have hcg2_4 : w1.cell? ⟨g2, 4, none⟩ = some (.slice none 0 0) := (blk_cell BKg2.out 4).trans rfl; have hfg2_4 := blk_frozen BKg2.out 4; clear tok1; have tok2 : True := trivial) | (have _ := tok2; go_at_call 45; (with_reducible refine (made_yes D dr _ _ _ _ (by (with_reducible repeat (first | refine blk_drewN ?_ _ | refine blk_drew ?_ | refine blk_alloc ?_ _)); exact BKD.out)).mono ?_); rintro e w2 ⟨rfl, hd⟩; have hb := hd.below; (try clear hcD_0 hfD_0); (try clear hcD_1 hfD_1); (try clear hcD_2 hfD_2); (try clear hcD_3 hfD_3); (try clear hcdr_0 hfdr_0); (try clear hcdr_1 hfdr_1); (try clear hcdr_2 hfdr_2); (try clear hcdr_3 hfdr_3); (try clear hcdr_4 hfdr_4); (try clear hcdr_5 hfdr_5); (try clear hcdr_6 hfdr_6); (try clear hcg2_0 hfg2_0); (try clear hcg2_1 hfg2_1); (try clear hcg2_2 hfg2_2); (try clear hcg2_3 hfg2_3); (try clear hcg2_4 hfg2_4); have hs : Below w1.heap.size w1 w2 := below_step (by repeat (first | exact Below.refl _ _ | apply below_alloc | apply pw_below_drewN | apply below_drew1)) hb; have SZ2 := Aside0.mk (show w1.heap.size ≤ w2.heap.size from hs.size); replace BKD := Aside0.mk (blk_below BKD.out hs); replace BKdr := Aside0.mk (blk_below BKdr.out hs); replace BKg2 := Aside0.mk (blk_below BKg2.out hs); replace HB := Aside0.mk (below_step HB.out hs); clear hb hd hs; have hcD_0 : w2.cell? ⟨D, 0, none⟩ = some (.pointer (some ⟨dr, 0, none⟩)) := (blk_cell BKD.out 0).trans rfl; have hfD_0 := blk_frozen BKD.out 0; have hcD_1 : w2.cell? ⟨D, 1, none⟩ = some (.bool off) := (blk_cell BKD.out 1).trans rfl; have hfD_1 := blk_frozen BKD.out 1; have hcD_2 : w2.cell? ⟨D, 2, none⟩ = some (.int .i64 cut) := (blk_cell BKD.out 2).trans rfl; have hfD_2 := blk_frozen BKD.out 2; have hcD_3 : w2.cell? ⟨D, 3, none⟩ = some (.int .i64 wr) := (blk_cell BKD.out 3).trans rfl; have hfD_3 := blk_frozen BKD.out 3; have hcdr_0 : w2.cell? ⟨dr, 0, none⟩ = some (.int .i64 a) := (blk_cell BKdr.out 0).trans rfl; have hfdr_0 := blk_frozen BKdr.out 0; have hcdr_1 : w2.cell? ⟨dr, 1, none⟩ = some (.int .i64 b) := (blk_cell BKdr.out 1).trans rfl; have hfdr_1 := blk_frozen BKdr.out 1; have hcdr_2 : w2.cell? ⟨dr, 2, none⟩ = some (.int .i64 c) := (blk_cell BKdr.out 2).trans rfl; have hfdr_2 := blk_frozen BKdr.out 2; have hcdr_3 : w2.cell? ⟨dr, 3, none⟩ = some (.int .i64 d) := (blk_cell BKdr.out 3).trans rfl; have hfdr_3 := blk_frozen BKdr.out 3; have hcdr_4 : w2.cell? ⟨dr, 4, none⟩ = some (.int .i64 sz) := (blk_cell BKdr.out 4).trans rfl; have hfdr_4 := blk_frozen BKdr.out 4; have hcdr_5 : w2.cell? ⟨dr, 5, none⟩ = some (.slice As slots.length cs) := (blk_cell BKdr.out 5).trans rfl; have hfdr_5 := blk_frozen BKdr.out 5; have hcdr_6 : w2.cell? ⟨dr, 6, none⟩ = some (.slice Ag ng cg) := (blk_cell BKdr.out 6).trans rfl; have hfdr_6 := blk_frozen BKdr.out 6; have hcg2_0 : w2.cell? ⟨g2, 0, none⟩ = some (.int .i64 0) := (blk_cell BKg2.out 0).trans rfl; have hfg2_0 := blk_frozen BKg2.out 0; have hcg2_1 : w2.cell? ⟨g2, 1, none⟩ = some (.int .i64 0) := (blk_cell BKg2.out 1).trans rfl; have hfg2_1 := blk_frozen BKg2.out 1; have hcg2_2 : w2.cell? ⟨g2, 2, none⟩ = some (.int .i64 0) := (blk_cell BKg2.out 2).trans rfl; have hfg2_2 := blk_frozen BKg2.out 2; have hcg2_3 : w2.cell? ⟨g2, 3, none⟩ = some (.int .i64 0) := (blk_cell BKg2.out 3).trans rfl; have hfg2_3 := blk_frozen BKg2.out 3; have hcg2_4 : w2.cell? ⟨g2, 4, none⟩ = some (.slice none 0 0) := (blk_cell BKg2.out 4).trans rfl; have hfg2_4 := blk_frozen BKg2.out 4; clear tok2; have tok3 : True := trivial) | (have _ := tok3; go_at_call 49; (with_reducible refine (image_yes dr a b c d sz As Ag cs ng cg slots _ (by (with_reducible repeat (first | refine blk_drewN ?_ _ | refine blk_drew ?_ | refine blk_alloc ?_ _)); exact BKdr.out) ?s1 HL.out HE.out).mono ?_); (case s1 => exact Kd.C_below HC.out (by repeat (first | exact HB.out | apply below_alloc | apply pw_below_drewN | apply below_drew1))); rintro e w3 ⟨v, rfl, ho, hb⟩; (try clear hcD_0 hfD_0); (try clear hcD_1 hfD_1); (try clear hcD_2 hfD_2); (try clear hcD_3 hfD_3); (try clear hcdr_0 hfdr_0); (try clear hcdr_1 hfdr_1); (try clear hcdr_2 hfdr_2); (try clear hcdr_3 hfdr_3); (try clear hcdr_4 hfdr_4); (try clear hcdr_5 hfdr_5); (try clear hcdr_6 hfdr_6); (try clear hcg2_0 hfg2_0); (try clear hcg2_1 hfg2_1); (try clear hcg2_2 hfg2_2); (try clear hcg2_3 hfg2_3); (try clear hcg2_4 hfg2_4); have hs : Below w2.heap.size w2 w3 := below_step (by repeat (first | exact Below.refl _ _ | apply below_alloc | apply pw_below_drewN | apply below_drew1)) hb; have hl : w2.heap.size ≤ _ := below_size (w := w2) (by repeat (first | exact Below.refl _ _ | apply below_alloc | apply pw_below_drewN | apply below_drew1)); have SZ3 := Aside0.mk (show w2.heap.size ≤ w3.heap.size from hs.size); replace BKD := Aside0.mk (blk_below BKD.out hs); replace BKdr := Aside0.mk (blk_below BKdr.out hs); replace BKg2 := Aside0.mk (blk_below BKg2.out hs); have HOv := Aside0.mk (R_iv ho (below_size (by repeat (first | exact HB.out | apply below_alloc | apply pw_below_drewN | apply below_drew1))) hl); replace HB := Aside0.mk (below_step HB.out hs); clear ho; obtain ⟨A7, c7, e_⟩ := Kd.R_slice HOv.out; subst e_; clear hb hs; (try clear hl); have hcD_0 : w3.cell? ⟨D, 0, none⟩ = some (.pointer (some ⟨dr, 0, none⟩)) := (blk_cell BKD.out 0).trans rfl; have hfD_0 := blk_frozen BKD.out 0; have hcD_1 : w3.cell? ⟨D, 1, none⟩ = some (.bool off) := (blk_cell BKD.out 1).trans rfl; have hfD_1 := blk_frozen BKD.out 1; have hcD_2 : w3.cell? ⟨D, 2, none⟩ = some (.int .i64 cut) := (blk_cell BKD.out 2).trans rfl; have hfD_2 := blk_frozen BKD.out 2; have hcD_3 : w3.cell? ⟨D, 3, none⟩ = some (.int .i64 wr) := (blk_cell BKD.out 3).trans rfl; have hfD_3 := blk_frozen BKD.out 3; have hcdr_0 : w3.cell? ⟨dr, 0, none⟩ = some (.int .i64 a) := (blk_cell BKdr.out 0).trans rfl; have hfdr_0 := blk_frozen BKdr.out 0; have hcdr_1 : w3.cell? ⟨dr, 1, none⟩ = some (.int .i64 b) := (blk_cell BKdr.out 1).trans rfl; have hfdr_1 := blk_frozen BKdr.out 1; have hcdr_2 : w3.cell? ⟨dr, 2, none⟩ = some (.int .i64 c) := (blk_cell BKdr.out 2).trans rfl; have hfdr_2 := blk_frozen BKdr.out 2; have hcdr_3 : w3.cell? ⟨dr, 3, none⟩ = some (.int .i64 d) := (blk_cell BKdr.out 3).trans rfl; have hfdr_3 := blk_frozen BKdr.out 3; have hcdr_4 : w3.cell? ⟨dr, 4, none⟩ = some (.int .i64 sz) := (blk_cell BKdr.out 4).trans rfl; have hfdr_4 := blk_frozen BKdr.out 4; have hcdr_5 : w3.cell? ⟨dr, 5, none⟩ = some (.slice As slots.length cs) := (blk_cell BKdr.out 5).trans rfl; have hfdr_5 := blk_frozen BKdr.out 5; have hcdr_6 : w3.cell? ⟨dr, 6, none⟩ = some (.slice Ag ng cg) := (blk_cell BKdr.out 6).trans rfl; have hfdr_6 := blk_frozen BKdr.out 6; have hcg2_0 : w3.cell? ⟨g2, 0, none⟩ = some (.int .i64 0) := (blk_cell BKg2.out 0).trans rfl; have hfg2_0 := blk_frozen BKg2.out 0; have hcg2_1 : w3.cell? ⟨g2, 1, none⟩ = some (.int .i64 0) := (blk_cell BKg2.out 1).trans rfl; have hfg2_1 := blk_frozen BKg2.out 1; have hcg2_2 : w3.cell? ⟨g2, 2, none⟩ = some (.int .i64 0) := (blk_cell BKg2.out 2).trans rfl; have hfg2_2 := blk_frozen BKg2.out 2; have hcg2_3 : w3.cell? ⟨g2, 3, none⟩ = some (.int .i64 0) := (blk_cell BKg2.out 3).trans rfl; have hfg2_3 := blk_frozen BKg2.out 3; have hcg2_4 : w3.cell? ⟨g2, 4, none⟩ = some (.slice none 0 0) := (blk_cell BKg2.out 4).trans rfl; have hfg2_4 := blk_frozen BKg2.out 4; clear tok3))
  (try clear hcD_0 hfD_0)
  (try clear hcD_1 hfD_1)
  (try clear hcD_2 hfD_2)
  (try clear hcD_3 hfD_3)
  (try clear hcdr_0 hfdr_0)
  (try clear hcdr_1 hfdr_1)
  (try clear hcdr_2 hfdr_2)
  (try clear hcdr_3 hfdr_3)
  (try clear hcdr_4 hfdr_4)
  (try clear hcdr_5 hfdr_5)
  (try clear hcdr_6 hfdr_6)
  (try clear hcg2_0 hfg2_0)
  (try clear hcg2_1 hfg2_1)
  (try clear hcg2_2 hfg2_2)
  (try clear hcg2_3 hfg2_3)
  (try clear hcg2_4 hfg2_4)
  replace BKD := Aside0.mk (blk_far BKD.out (p := ⟨g2, 0, none⟩) (by show _ ≠ _; have := HZ1.out; have := HZ2.out; have := SZ1.out; have := SZ2.out; have := SZ3.out; omega) (.int .i64 a))
  replace BKdr := Aside0.mk (blk_far BKdr.out (p := ⟨g2, 0, none⟩) (by show _ ≠ _; have := HZ1.out; have := HZ2.out; have := SZ1.out; have := SZ2.out; have := SZ3.out; omega) (.int .i64 a))
  replace BKg2 := Aside0.mk (blk_put BKg2.out 0 (.int .i64 a) rfl)
  replace HOv := Aside0.mk (Kd.R_far HOv.out (p := ⟨g2, 0, none⟩) (Iv_ne (g := g2) (by have := HZ1.out; have := HZ2.out; have := SZ1.out; have := SZ2.out; have := SZ3.out; omega)) (.int .i64 a))
  replace HB := Aside0.mk (below_set HB.out (by have := HZ1.out; have := HZ2.out; have := SZ1.out; have := SZ2.out; have := SZ3.out; omega : w.heap.size ≤ g2) (j := 0) (v := .int .i64 a))
  replace BKD := Aside0.mk (blk_far BKD.out (p := ⟨g2, 1, none⟩) (by show _ ≠ _; have := HZ1.out; have := HZ2.out; have := SZ1.out; have := SZ2.out; have := SZ3.out; omega) (.int .i64 b))
  replace BKdr := Aside0.mk (blk_far BKdr.out (p := ⟨g2, 1, none⟩) (by show _ ≠ _; have := HZ1.out; have := HZ2.out; have := SZ1.out; have := SZ2.out; have := SZ3.out; omega) (.int .i64 b))
  replace BKg2 := Aside0.mk (blk_put BKg2.out 1 (.int .i64 b) rfl)
  replace HOv := Aside0.mk (Kd.R_far HOv.out (p := ⟨g2, 1, none⟩) (Iv_ne (g := g2) (by have := HZ1.out; have := HZ2.out; have := SZ1.out; have := SZ2.out; have := SZ3.out; omega)) (.int .i64 b))
  replace HB := Aside0.mk (below_set HB.out (by have := HZ1.out; have := HZ2.out; have := SZ1.out; have := SZ2.out; have := SZ3.out; omega : w.heap.size ≤ g2) (j := 1) (v := .int .i64 b))
  replace BKD := Aside0.mk (blk_far BKD.out (p := ⟨g2, 2, none⟩) (by show _ ≠ _; have := HZ1.out; have := HZ2.out; have := SZ1.out; have := SZ2.out; have := SZ3.out; omega) (.int .i64 c))
  replace BKdr := Aside0.mk (blk_far BKdr.out (p := ⟨g2, 2, none⟩) (by show _ ≠ _; have := HZ1.out; have := HZ2.out; have := SZ1.out; have := SZ2.out; have := SZ3.out; omega) (.int .i64 c))
  replace BKg2 := Aside0.mk (blk_put BKg2.out 2 (.int .i64 c) rfl)
  replace HOv := Aside0.mk (Kd.R_far HOv.out (p := ⟨g2, 2, none⟩) (Iv_ne (g := g2) (by have := HZ1.out; have := HZ2.out; have := SZ1.out; have := SZ2.out; have := SZ3.out; omega)) (.int .i64 c))
  replace HB := Aside0.mk (below_set HB.out (by have := HZ1.out; have := HZ2.out; have := SZ1.out; have := SZ2.out; have := SZ3.out; omega : w.heap.size ≤ g2) (j := 2) (v := .int .i64 c))
  replace BKD := Aside0.mk (blk_far BKD.out (p := ⟨g2, 3, none⟩) (by show _ ≠ _; have := HZ1.out; have := HZ2.out; have := SZ1.out; have := SZ2.out; have := SZ3.out; omega) (.int .i64 d))
  replace BKdr := Aside0.mk (blk_far BKdr.out (p := ⟨g2, 3, none⟩) (by show _ ≠ _; have := HZ1.out; have := HZ2.out; have := SZ1.out; have := SZ2.out; have := SZ3.out; omega) (.int .i64 d))
  replace BKg2 := Aside0.mk (blk_put BKg2.out 3 (.int .i64 d) rfl)
  replace HOv := Aside0.mk (Kd.R_far HOv.out (p := ⟨g2, 3, none⟩) (Iv_ne (g := g2) (by have := HZ1.out; have := HZ2.out; have := SZ1.out; have := SZ2.out; have := SZ3.out; omega)) (.int .i64 d))
  replace HB := Aside0.mk (below_set HB.out (by have := HZ1.out; have := HZ2.out; have := SZ1.out; have := SZ2.out; have := SZ3.out; omega : w.heap.size ≤ g2) (j := 3) (v := .int .i64 d))
  replace BKD := Aside0.mk (blk_far BKD.out (p := ⟨g2, 4, none⟩) (by show _ ≠ _; have := HZ1.out; have := HZ2.out; have := SZ1.out; have := SZ2.out; have := SZ3.out; omega) (.slice A7 slots.length c7))
  replace BKdr := Aside0.mk (blk_far BKdr.out (p := ⟨g2, 4, none⟩) (by show _ ≠ _; have := HZ1.out; have := HZ2.out; have := SZ1.out; have := SZ2.out; have := SZ3.out; omega) (.slice A7 slots.length c7))
  replace BKg2 := Aside0.mk (blk_put BKg2.out 4 (.slice A7 slots.length c7) rfl)
  replace HOv := Aside0.mk (Kd.R_far HOv.out (p := ⟨g2, 4, none⟩) (Iv_ne (g := g2) (by have := HZ1.out; have := HZ2.out; have := SZ1.out; have := SZ2.out; have := SZ3.out; omega)) (.slice A7 slots.length c7))
  replace HB := Aside0.mk (below_set HB.out (by have := HZ1.out; have := HZ2.out; have := SZ1.out; have := SZ2.out; have := SZ3.out; omega : w.heap.size ≤ g2) (j := 4) (v := .slice A7 slots.length c7))
  have SZ4 := Aside0.mk (show w3.heap.size ≤ (((((w3.setCell ⟨g2, 0, none⟩ (.int .i64 a)).setCell ⟨g2, 1, none⟩ (.int .i64 b)).setCell ⟨g2, 2, none⟩ (.int .i64 c)).setCell ⟨g2, 3, none⟩ (.int .i64 d)).setCell ⟨g2, 4, none⟩ (.slice A7 slots.length c7)).heap.size from by simp [World.setCell])
  generalize (((((w3.setCell ⟨g2, 0, none⟩ (.int .i64 a)).setCell ⟨g2, 1, none⟩ (.int .i64 b)).setCell ⟨g2, 2, none⟩ (.int .i64 c)).setCell ⟨g2, 3, none⟩ (.int .i64 d)).setCell ⟨g2, 4, none⟩ (.slice A7 slots.length c7)) = w4 at HB BKD BKdr BKg2 HOv SZ4 ⊢
  have hcD_0 : w4.cell? ⟨D, 0, none⟩ = some (.pointer (some ⟨dr, 0, none⟩)) := (blk_cell BKD.out 0).trans rfl
  have hfD_0 := blk_frozen BKD.out 0
  have hcD_1 : w4.cell? ⟨D, 1, none⟩ = some (.bool off) := (blk_cell BKD.out 1).trans rfl
  have hfD_1 := blk_frozen BKD.out 1
  have hcD_2 : w4.cell? ⟨D, 2, none⟩ = some (.int .i64 cut) := (blk_cell BKD.out 2).trans rfl
  have hfD_2 := blk_frozen BKD.out 2
  have hcD_3 : w4.cell? ⟨D, 3, none⟩ = some (.int .i64 wr) := (blk_cell BKD.out 3).trans rfl
  have hfD_3 := blk_frozen BKD.out 3
  have hcdr_0 : w4.cell? ⟨dr, 0, none⟩ = some (.int .i64 a) := (blk_cell BKdr.out 0).trans rfl
  have hfdr_0 := blk_frozen BKdr.out 0
  have hcdr_1 : w4.cell? ⟨dr, 1, none⟩ = some (.int .i64 b) := (blk_cell BKdr.out 1).trans rfl
  have hfdr_1 := blk_frozen BKdr.out 1
  have hcdr_2 : w4.cell? ⟨dr, 2, none⟩ = some (.int .i64 c) := (blk_cell BKdr.out 2).trans rfl
  have hfdr_2 := blk_frozen BKdr.out 2
  have hcdr_3 : w4.cell? ⟨dr, 3, none⟩ = some (.int .i64 d) := (blk_cell BKdr.out 3).trans rfl
  have hfdr_3 := blk_frozen BKdr.out 3
  have hcdr_4 : w4.cell? ⟨dr, 4, none⟩ = some (.int .i64 sz) := (blk_cell BKdr.out 4).trans rfl
  have hfdr_4 := blk_frozen BKdr.out 4
  have hcdr_5 : w4.cell? ⟨dr, 5, none⟩ = some (.slice As slots.length cs) := (blk_cell BKdr.out 5).trans rfl
  have hfdr_5 := blk_frozen BKdr.out 5
  have hcdr_6 : w4.cell? ⟨dr, 6, none⟩ = some (.slice Ag ng cg) := (blk_cell BKdr.out 6).trans rfl
  have hfdr_6 := blk_frozen BKdr.out 6
  have hcg2_0 : w4.cell? ⟨g2, 0, none⟩ = some (.int .i64 a) := (blk_cell BKg2.out 0).trans rfl
  have hfg2_0 := blk_frozen BKg2.out 0
  have hcg2_1 : w4.cell? ⟨g2, 1, none⟩ = some (.int .i64 b) := (blk_cell BKg2.out 1).trans rfl
  have hfg2_1 := blk_frozen BKg2.out 1
  have hcg2_2 : w4.cell? ⟨g2, 2, none⟩ = some (.int .i64 c) := (blk_cell BKg2.out 2).trans rfl
  have hfg2_2 := blk_frozen BKg2.out 2
  have hcg2_3 : w4.cell? ⟨g2, 3, none⟩ = some (.int .i64 d) := (blk_cell BKg2.out 3).trans rfl
  have hfg2_3 := blk_frozen BKg2.out 3
  have hcg2_4 : w4.cell? ⟨g2, 4, none⟩ = some (.slice A7 slots.length c7) := (blk_cell BKg2.out 4).trans rfl
  have hfg2_4 := blk_frozen BKg2.out 4
  refine bodyPost_ret (results_ct rfl _ _ g2 36 #[.int .i64 a, .int .i64 b, .int .i64 c, .int .i64 d, .slice A7 slots.length c7] (0, 0) _ rfl (by (with_reducible repeat (first | refine blk_drewN ?_ _ | refine blk_drew ?_ | refine blk_alloc ?_ _)); exact BKg2.out) hu36 rfl (by kernel_rfl)) rfl ?_
  exact ⟨_, rfl, Kd.R_mono HOv.out (fun _ _ => trivial), HB.out⟩
end Go.Proofs.Ytemmhgfjfbdggaa.P

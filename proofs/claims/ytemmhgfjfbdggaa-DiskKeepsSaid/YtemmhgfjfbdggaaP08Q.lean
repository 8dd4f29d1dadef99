import Derived.Test.YtemmhgfjfbdggaaP08T
namespace Go.Proofs.Ytemmhgfjfbdggaa.P
open Go.RowKit Go.Proofs.YtemmhgfjfbdggaaW.PrintWords Go.Proofs.YtemmhgfjfbdggaaW.PrintLast Go.Proofs.YtemmhgfjfbdggaaW.PrintMore
attribute [local go_sem] max2_int min2_int max_two min_two max_three min_three max_four min_four
set_option linter.unusedVariables false
set_option linter.unusedSimpArgs false
/-- A store into a block that no disk has. -/
theorem TwoD.cell {w0 W : World} {X : Nat → Prop} {a b c d : Int} {DA DB : Nat} {gA gB : List Bool} {sA sB : DS} (h : TwoD w0 W X a b c d DA DB gA sA gB sB) {g j : Nat} (hg : X g) (hb : w0.heap.size ≤ g) (v : Value) : TwoD w0 (W.setCell ⟨g, j, none⟩ v) X a b c d DA DB gA sA gB sB := by
  obtain ⟨okA, okB, h1, h2, h3, h4, h5⟩ := h
  have hk : Kept W (W.setCell ⟨g, j, none⟩ v) (fun k => k = g) := kept_set W ⟨g, j, none⟩ v
  exact ⟨okA, okB, h1.setCell (p := ⟨g, j, none⟩) hb v, h2.kept hk (fun k hk e => (h5 g hg).2.1 (e ▸ hk)), h3.kept hk (fun k hk e => (h5 g hg).2.2 (e ▸ hk)), h4, fun k hx => ⟨by simpa [World.setCell] using (h5 k hx).1, (h5 k hx).2⟩⟩
set_option maxHeartbeats 8000000 in
set_option maxRecDepth 100000 in
theorem alike_yes (w0 : World) (X : Nat → Prop) (a b c d : Int) (DA DB : Nat) (gA gB : List Bool) (sl : List (List Int)) (o : Bool) (cA cB n : Int) (w : World) (hf : Fit a b c d gA ⟨sl, o, cA, n⟩) (hf2 : Fit a b c d gB ⟨sl, o, cB, n⟩) (h : TwoD w0 w X a b c d DA DB gA ⟨sl, o, cA, n⟩ gB ⟨sl, o, cB, n⟩) : Calls Try.prog 17 #[.pointer (some ⟨DA, 0, none⟩), .pointer (some ⟨DB, 0, none⟩)] w fun e w' => e = .returned (.bool true) ∧ Below w.heap.size w w' := by
  have hu36 := Try.underlying36
  have hu23 := Try.underlying23
  have HB := Aside0.mk (Below.refl w.heap.size w)
  have HF := Aside0.mk hf
  have HF2 := Aside0.mk hf2
  have HT := Aside0.mk h
  have HW0 := Aside0.mk (show w0.heap.size ≤ w.heap.size from h.below.size)
  have HLS := Aside0.mk (show sl.length ≤ 100000 from hf.small.1)
  clear hf hf2 h
  go_enter Try.func17, Try.ntmps17
  have tok1 : True := trivial
  go_wp2_with (first | (have _ := tok1; go_at_call 23; (with_reducible refine (ImageA HF.out (TwoD.step_ HT.out (by repeat (first | exact Below.refl _ _ | apply below_alloc | apply pw_below_drewN | apply below_drew1)))).mono ?_); rintro e w1 ⟨v, rfl, ho, hb⟩; have hs : Below w.heap.size w w1 := below_step (by repeat (first | exact Below.refl _ _ | apply below_alloc | apply pw_below_drewN | apply below_drew1)) hb; have hl : w.heap.size ≤ _ := below_size (w := w) (by repeat (first | exact Below.refl _ _ | apply below_alloc | apply pw_below_drewN | apply below_drew1)); have SZ1 := Aside0.mk (show w.heap.size ≤ w1.heap.size from hs.size); replace HT := Aside0.mk (TwoD.step_ HT.out hs); have HOm := Aside0.mk (R_iv ho (below_size (by repeat (first | exact HB.out | apply below_alloc | apply pw_below_drewN | apply below_drew1))) hl); replace HB := Aside0.mk (below_step HB.out hs); clear ho; obtain ⟨m_A, m_c, e_⟩ := Kd.R_slice HOm.out; subst e_; clear hb hs; (try clear hl); clear tok1; have tok2 : True := trivial) | (have _ := tok2; (with_reducible refine gate_dst (N := 5) rfl ?_); refine box_event ?hg (N := 5) ?hd (cs := #[.int .i64 0, .int .i64 0, .int .i64 0, .int .i64 0, .slice none 0 0]) (t := 36) ?hr ?_; (case hd => rfl); (case hg => rfl); (case hr => first | (go_simp; done) | (go_simp; rfl)); intro g5 hg w2 hbox hb; have hs : Below w1.heap.size w1 w2 := below_step (by repeat (first | exact Below.refl _ _ | apply below_alloc | apply pw_below_drewN | apply below_drew1)) hb; have SZ2 := Aside0.mk (show w1.heap.size ≤ g5 ∧ g5 < w2.heap.size from ⟨by rw [hg]; exact (below_size (by repeat (first | exact Below.refl _ _ | apply below_alloc | apply pw_below_drewN | apply below_drew1))), blk_lt hbox⟩); replace HT := Aside0.mk (TwoD.step HT.out hs); replace HOm := Aside0.mk (Kd.R_below HOm.out hs); replace HB := Aside0.mk (below_step HB.out hs); have BKg5 := Aside0.mk hbox; clear hb hbox hg hs; have hcg5_0 : w2.cell? ⟨g5, 0, none⟩ = some (.int .i64 0) := (blk_cell BKg5.out 0).trans rfl; have hfg5_0 := blk_frozen BKg5.out 0; have hcg5_1 : w2.cell? ⟨g5, 1, none⟩ = some (.int .i64 0) := (blk_cell BKg5.out 1).trans rfl; have hfg5_1 := blk_frozen BKg5.out 1; have hcg5_2 : w2.cell? ⟨g5, 2, none⟩ = some (.int .i64 0) := (blk_cell BKg5.out 2).trans rfl; have hfg5_2 := blk_frozen BKg5.out 2; have hcg5_3 : w2.cell? ⟨g5, 3, none⟩ = some (.int .i64 0) := (blk_cell BKg5.out 3).trans rfl; have hfg5_3 := blk_frozen BKg5.out 3; have hcg5_4 : w2.cell? ⟨g5, 4, none⟩ = some (.slice none 0 0) := (blk_cell BKg5.out 4).trans rfl; have hfg5_4 := blk_frozen BKg5.out 4; clear tok2))
  (try clear hcg5_0 hfg5_0)
  (try clear hcg5_1 hfg5_1)
  (try clear hcg5_2 hfg5_2)
  (try clear hcg5_3 hfg5_3)
  (try clear hcg5_4 hfg5_4)
  replace HT := Aside0.mk (TwoD.cell HT.out (g := g5) (j := 0) (Or.inr SZ2.out) (by have := HW0.out; have := SZ1.out; have := SZ2.out; omega) (.int .i64 a))
  replace HOm := Aside0.mk (Kd.R_far HOm.out (p := ⟨g5, 0, none⟩) (Iv_ne (g := g5) (by have := SZ1.out; have := SZ2.out; omega)) (.int .i64 a))
  replace BKg5 := Aside0.mk (blk_put BKg5.out 0 (.int .i64 a) rfl)
  replace HB := Aside0.mk (below_set HB.out (by have := SZ1.out; have := SZ2.out; omega : w.heap.size ≤ g5) (j := 0) (v := .int .i64 a))
  replace HT := Aside0.mk (TwoD.cell HT.out (g := g5) (j := 1) (Or.inr SZ2.out) (by have := HW0.out; have := SZ1.out; have := SZ2.out; omega) (.int .i64 b))
  replace HOm := Aside0.mk (Kd.R_far HOm.out (p := ⟨g5, 1, none⟩) (Iv_ne (g := g5) (by have := SZ1.out; have := SZ2.out; omega)) (.int .i64 b))
  replace BKg5 := Aside0.mk (blk_put BKg5.out 1 (.int .i64 b) rfl)
  replace HB := Aside0.mk (below_set HB.out (by have := SZ1.out; have := SZ2.out; omega : w.heap.size ≤ g5) (j := 1) (v := .int .i64 b))
  replace HT := Aside0.mk (TwoD.cell HT.out (g := g5) (j := 2) (Or.inr SZ2.out) (by have := HW0.out; have := SZ1.out; have := SZ2.out; omega) (.int .i64 c))
  replace HOm := Aside0.mk (Kd.R_far HOm.out (p := ⟨g5, 2, none⟩) (Iv_ne (g := g5) (by have := SZ1.out; have := SZ2.out; omega)) (.int .i64 c))
  replace BKg5 := Aside0.mk (blk_put BKg5.out 2 (.int .i64 c) rfl)
  replace HB := Aside0.mk (below_set HB.out (by have := SZ1.out; have := SZ2.out; omega : w.heap.size ≤ g5) (j := 2) (v := .int .i64 c))
  replace HT := Aside0.mk (TwoD.cell HT.out (g := g5) (j := 3) (Or.inr SZ2.out) (by have := HW0.out; have := SZ1.out; have := SZ2.out; omega) (.int .i64 d))
  replace HOm := Aside0.mk (Kd.R_far HOm.out (p := ⟨g5, 3, none⟩) (Iv_ne (g := g5) (by have := SZ1.out; have := SZ2.out; omega)) (.int .i64 d))
  replace BKg5 := Aside0.mk (blk_put BKg5.out 3 (.int .i64 d) rfl)
  replace HB := Aside0.mk (below_set HB.out (by have := SZ1.out; have := SZ2.out; omega : w.heap.size ≤ g5) (j := 3) (v := .int .i64 d))
  replace HT := Aside0.mk (TwoD.cell HT.out (g := g5) (j := 4) (Or.inr SZ2.out) (by have := HW0.out; have := SZ1.out; have := SZ2.out; omega) (.slice m_A sl.length m_c))
  replace HOm := Aside0.mk (Kd.R_far HOm.out (p := ⟨g5, 4, none⟩) (Iv_ne (g := g5) (by have := SZ1.out; have := SZ2.out; omega)) (.slice m_A sl.length m_c))
  replace BKg5 := Aside0.mk (blk_put BKg5.out 4 (.slice m_A sl.length m_c) rfl)
  replace HB := Aside0.mk (below_set HB.out (by have := SZ1.out; have := SZ2.out; omega : w.heap.size ≤ g5) (j := 4) (v := .slice m_A sl.length m_c))
  have SZ3 := Aside0.mk (show w2.heap.size ≤ (((((w2.setCell ⟨g5, 0, none⟩ (.int .i64 a)).setCell ⟨g5, 1, none⟩ (.int .i64 b)).setCell ⟨g5, 2, none⟩ (.int .i64 c)).setCell ⟨g5, 3, none⟩ (.int .i64 d)).setCell ⟨g5, 4, none⟩ (.slice m_A sl.length m_c)).heap.size from by simp [World.setCell])
  generalize (((((w2.setCell ⟨g5, 0, none⟩ (.int .i64 a)).setCell ⟨g5, 1, none⟩ (.int .i64 b)).setCell ⟨g5, 2, none⟩ (.int .i64 c)).setCell ⟨g5, 3, none⟩ (.int .i64 d)).setCell ⟨g5, 4, none⟩ (.slice m_A sl.length m_c)) = w3 at HB HT HOm BKg5 SZ3 ⊢
  have hcg5_0 : w3.cell? ⟨g5, 0, none⟩ = some (.int .i64 a) := (blk_cell BKg5.out 0).trans rfl
  have hfg5_0 := blk_frozen BKg5.out 0
  have hcg5_1 : w3.cell? ⟨g5, 1, none⟩ = some (.int .i64 b) := (blk_cell BKg5.out 1).trans rfl
  have hfg5_1 := blk_frozen BKg5.out 1
  have hcg5_2 : w3.cell? ⟨g5, 2, none⟩ = some (.int .i64 c) := (blk_cell BKg5.out 2).trans rfl
  have hfg5_2 := blk_frozen BKg5.out 2
  have hcg5_3 : w3.cell? ⟨g5, 3, none⟩ = some (.int .i64 d) := (blk_cell BKg5.out 3).trans rfl
  have hfg5_3 := blk_frozen BKg5.out 3
  have hcg5_4 : w3.cell? ⟨g5, 4, none⟩ = some (.slice m_A sl.length m_c) := (blk_cell BKg5.out 4).trans rfl
  have hfg5_4 := blk_frozen BKg5.out 4
  have tok3 : True := trivial
  go_wp2_with (first | (have _ := tok3; go_at_call 23; (with_reducible refine (ImageA HF2.out (TwoD.step_ HT.out (by repeat (first | exact Below.refl _ _ | apply below_alloc | apply pw_below_drewN | apply below_drew1))).symm).mono ?_); rintro e w4 ⟨v, rfl, ho, hb⟩; (try clear hcg5_0 hfg5_0); (try clear hcg5_1 hfg5_1); (try clear hcg5_2 hfg5_2); (try clear hcg5_3 hfg5_3); (try clear hcg5_4 hfg5_4); have hs : Below w3.heap.size w3 w4 := below_step (by repeat (first | exact Below.refl _ _ | apply below_alloc | apply pw_below_drewN | apply below_drew1)) hb; have hl : w3.heap.size ≤ _ := below_size (w := w3) (by repeat (first | exact Below.refl _ _ | apply below_alloc | apply pw_below_drewN | apply below_drew1)); have SZ4 := Aside0.mk (show w3.heap.size ≤ w4.heap.size from hs.size); replace HT := Aside0.mk (TwoD.step_ HT.out hs); replace HOm := Aside0.mk (Kd.R_below HOm.out hs); replace BKg5 := Aside0.mk (blk_below BKg5.out hs); have HOn := Aside0.mk (R_iv ho (below_size (by repeat (first | exact HB.out | apply below_alloc | apply pw_below_drewN | apply below_drew1))) hl); replace HB := Aside0.mk (below_step HB.out hs); clear ho; obtain ⟨n_A, n_c, e_⟩ := Kd.R_slice HOn.out; subst e_; clear hb hs; (try clear hl); have hcg5_0 : w4.cell? ⟨g5, 0, none⟩ = some (.int .i64 a) := (blk_cell BKg5.out 0).trans rfl; have hfg5_0 := blk_frozen BKg5.out 0; have hcg5_1 : w4.cell? ⟨g5, 1, none⟩ = some (.int .i64 b) := (blk_cell BKg5.out 1).trans rfl; have hfg5_1 := blk_frozen BKg5.out 1; have hcg5_2 : w4.cell? ⟨g5, 2, none⟩ = some (.int .i64 c) := (blk_cell BKg5.out 2).trans rfl; have hfg5_2 := blk_frozen BKg5.out 2; have hcg5_3 : w4.cell? ⟨g5, 3, none⟩ = some (.int .i64 d) := (blk_cell BKg5.out 3).trans rfl; have hfg5_3 := blk_frozen BKg5.out 3; have hcg5_4 : w4.cell? ⟨g5, 4, none⟩ = some (.slice m_A sl.length m_c) := (blk_cell BKg5.out 4).trans rfl; have hfg5_4 := blk_frozen BKg5.out 4; clear tok3; have tok4 : True := trivial) | (have _ := tok4; (with_reducible refine gate_dst (N := 7) rfl ?_); refine box_event ?hg (N := 7) ?hd (cs := #[.int .i64 0, .int .i64 0, .int .i64 0, .int .i64 0, .slice none 0 0]) (t := 36) ?hr ?_; (case hd => rfl); (case hg => rfl); (case hr => first | (go_simp; done) | (go_simp; rfl)); intro g7 hg w5 hbox hb; have hs : Below w4.heap.size w4 w5 := below_step (by repeat (first | exact Below.refl _ _ | apply below_alloc | apply pw_below_drewN | apply below_drew1)) hb; have SZ5 := Aside0.mk (show w4.heap.size ≤ g7 ∧ g7 < w5.heap.size from ⟨by rw [hg]; exact (below_size (by repeat (first | exact Below.refl _ _ | apply below_alloc | apply pw_below_drewN | apply below_drew1))), blk_lt hbox⟩); (try clear hcg5_0 hfg5_0); (try clear hcg5_1 hfg5_1); (try clear hcg5_2 hfg5_2); (try clear hcg5_3 hfg5_3); (try clear hcg5_4 hfg5_4); replace HT := Aside0.mk (TwoD.step HT.out hs); replace HOm := Aside0.mk (Kd.R_below HOm.out hs); replace BKg5 := Aside0.mk (blk_below BKg5.out hs); replace HOn := Aside0.mk (Kd.R_below HOn.out hs); replace HB := Aside0.mk (below_step HB.out hs); have hneg5_g7 : g5 ≠ g7 := (by have := SZ5.out; have := SZ1.out; have := SZ2.out; have := SZ3.out; have := SZ4.out; omega); have hneg7_g5 : g7 ≠ g5 := hneg5_g7.symm; have BKg7 := Aside0.mk hbox; clear hb hbox hg hs; have hcg5_0 : w5.cell? ⟨g5, 0, none⟩ = some (.int .i64 a) := (blk_cell BKg5.out 0).trans rfl; have hfg5_0 := blk_frozen BKg5.out 0; have hcg5_1 : w5.cell? ⟨g5, 1, none⟩ = some (.int .i64 b) := (blk_cell BKg5.out 1).trans rfl; have hfg5_1 := blk_frozen BKg5.out 1; have hcg5_2 : w5.cell? ⟨g5, 2, none⟩ = some (.int .i64 c) := (blk_cell BKg5.out 2).trans rfl; have hfg5_2 := blk_frozen BKg5.out 2; have hcg5_3 : w5.cell? ⟨g5, 3, none⟩ = some (.int .i64 d) := (blk_cell BKg5.out 3).trans rfl; have hfg5_3 := blk_frozen BKg5.out 3; have hcg5_4 : w5.cell? ⟨g5, 4, none⟩ = some (.slice m_A sl.length m_c) := (blk_cell BKg5.out 4).trans rfl; have hfg5_4 := blk_frozen BKg5.out 4; have hcg7_0 : w5.cell? ⟨g7, 0, none⟩ = some (.int .i64 0) := (blk_cell BKg7.out 0).trans rfl; have hfg7_0 := blk_frozen BKg7.out 0; have hcg7_1 : w5.cell? ⟨g7, 1, none⟩ = some (.int .i64 0) := (blk_cell BKg7.out 1).trans rfl; have hfg7_1 := blk_frozen BKg7.out 1; have hcg7_2 : w5.cell? ⟨g7, 2, none⟩ = some (.int .i64 0) := (blk_cell BKg7.out 2).trans rfl; have hfg7_2 := blk_frozen BKg7.out 2; have hcg7_3 : w5.cell? ⟨g7, 3, none⟩ = some (.int .i64 0) := (blk_cell BKg7.out 3).trans rfl; have hfg7_3 := blk_frozen BKg7.out 3; have hcg7_4 : w5.cell? ⟨g7, 4, none⟩ = some (.slice none 0 0) := (blk_cell BKg7.out 4).trans rfl; have hfg7_4 := blk_frozen BKg7.out 4; clear tok4))
  (try clear hcg5_0 hfg5_0)
  (try clear hcg5_1 hfg5_1)
  (try clear hcg5_2 hfg5_2)
  (try clear hcg5_3 hfg5_3)
  (try clear hcg5_4 hfg5_4)
  (try clear hcg7_0 hfg7_0)
  (try clear hcg7_1 hfg7_1)
  (try clear hcg7_2 hfg7_2)
  (try clear hcg7_3 hfg7_3)
  (try clear hcg7_4 hfg7_4)
  replace HT := Aside0.mk (TwoD.cell HT.out (g := g7) (j := 0) (Or.inr SZ5.out) (by have := HW0.out; have := SZ1.out; have := SZ2.out; have := SZ3.out; have := SZ4.out; have := SZ5.out; omega) (.int .i64 a))
  replace HOm := Aside0.mk (Kd.R_far HOm.out (p := ⟨g7, 0, none⟩) (Iv_ne (g := g7) (by have := SZ1.out; have := SZ2.out; have := SZ3.out; have := SZ4.out; have := SZ5.out; omega)) (.int .i64 a))
  replace BKg5 := Aside0.mk (blk_far BKg5.out (p := ⟨g7, 0, none⟩) (by show _ ≠ _; have := SZ1.out; have := SZ2.out; have := SZ3.out; have := SZ4.out; have := SZ5.out; omega) (.int .i64 a))
  replace HOn := Aside0.mk (Kd.R_far HOn.out (p := ⟨g7, 0, none⟩) (Iv_ne (g := g7) (by have := SZ1.out; have := SZ2.out; have := SZ3.out; have := SZ4.out; have := SZ5.out; omega)) (.int .i64 a))
  replace BKg7 := Aside0.mk (blk_put BKg7.out 0 (.int .i64 a) rfl)
  replace HB := Aside0.mk (below_set HB.out (by have := SZ1.out; have := SZ2.out; have := SZ3.out; have := SZ4.out; have := SZ5.out; omega : w.heap.size ≤ g7) (j := 0) (v := .int .i64 a))
  replace HT := Aside0.mk (TwoD.cell HT.out (g := g7) (j := 1) (Or.inr SZ5.out) (by have := HW0.out; have := SZ1.out; have := SZ2.out; have := SZ3.out; have := SZ4.out; have := SZ5.out; omega) (.int .i64 b))
  replace HOm := Aside0.mk (Kd.R_far HOm.out (p := ⟨g7, 1, none⟩) (Iv_ne (g := g7) (by have := SZ1.out; have := SZ2.out; have := SZ3.out; have := SZ4.out; have := SZ5.out; omega)) (.int .i64 b))
  replace BKg5 := Aside0.mk (blk_far BKg5.out (p := ⟨g7, 1, none⟩) (by show _ ≠ _; have := SZ1.out; have := SZ2.out; have := SZ3.out; have := SZ4.out; have := SZ5.out; omega) (.int .i64 b))
  replace HOn := Aside0.mk (Kd.R_far HOn.out (p := ⟨g7, 1, none⟩) (Iv_ne (g := g7) (by have := SZ1.out; have := SZ2.out; have := SZ3.out; have := SZ4.out; have := SZ5.out; omega)) (.int .i64 b))
  replace BKg7 := Aside0.mk (blk_put BKg7.out 1 (.int .i64 b) rfl)
  replace HB := Aside0.mk (below_set HB.out (by have := SZ1.out; have := SZ2.out; have := SZ3.out; have := SZ4.out; have := SZ5.out; omega : w.heap.size ≤ g7) (j := 1) (v := .int .i64 b))
  replace HT := Aside0.mk (TwoD.cell HT.out (g := g7) (j := 2) (Or.inr SZ5.out) (by have := HW0.out; have := SZ1.out; have := SZ2.out; have := SZ3.out; have := SZ4.out; have := SZ5.out; omega) (.int .i64 c))
  replace HOm := Aside0.mk (Kd.R_far HOm.out (p := ⟨g7, 2, none⟩) (Iv_ne (g := g7) (by have := SZ1.out; have := SZ2.out; have := SZ3.out; have := SZ4.out; have := SZ5.out; omega)) (.int .i64 c))
  replace BKg5 := Aside0.mk (blk_far BKg5.out (p := ⟨g7, 2, none⟩) (by show _ ≠ _; have := SZ1.out; have := SZ2.out; have := SZ3.out; have := SZ4.out; have := SZ5.out; omega) (.int .i64 c))
  replace HOn := Aside0.mk (Kd.R_far HOn.out (p := ⟨g7, 2, none⟩) (Iv_ne (g := g7) (by have := SZ1.out; have := SZ2.out; have := SZ3.out; have := SZ4.out; have := SZ5.out; omega)) (.int .i64 c))
  replace BKg7 := Aside0.mk (blk_put BKg7.out 2 (.int .i64 c) rfl)
  replace HB := Aside0.mk (below_set HB.out (by have := SZ1.out; have := SZ2.out; have := SZ3.out; have := SZ4.out; have := SZ5.out; omega : w.heap.size ≤ g7) (j := 2) (v := .int .i64 c))
  replace HT := Aside0.mk (TwoD.cell HT.out (g := g7) (j := 3) (Or.inr SZ5.out) (by have := HW0.out; have := SZ1.out; have := SZ2.out; have := SZ3.out; have := SZ4.out; have := SZ5.out; omega) (.int .i64 d))
  replace HOm := Aside0.mk (Kd.R_far HOm.out (p := ⟨g7, 3, none⟩) (Iv_ne (g := g7) (by have := SZ1.out; have := SZ2.out; have := SZ3.out; have := SZ4.out; have := SZ5.out; omega)) (.int .i64 d))
  replace BKg5 := Aside0.mk (blk_far BKg5.out (p := ⟨g7, 3, none⟩) (by show _ ≠ _; have := SZ1.out; have := SZ2.out; have := SZ3.out; have := SZ4.out; have := SZ5.out; omega) (.int .i64 d))
  replace HOn := Aside0.mk (Kd.R_far HOn.out (p := ⟨g7, 3, none⟩) (Iv_ne (g := g7) (by have := SZ1.out; have := SZ2.out; have := SZ3.out; have := SZ4.out; have := SZ5.out; omega)) (.int .i64 d))
  replace BKg7 := Aside0.mk (blk_put BKg7.out 3 (.int .i64 d) rfl)
  replace HB := Aside0.mk (below_set HB.out (by have := SZ1.out; have := SZ2.out; have := SZ3.out; have := SZ4.out; have := SZ5.out; omega : w.heap.size ≤ g7) (j := 3) (v := .int .i64 d))
  replace HT := Aside0.mk (TwoD.cell HT.out (g := g7) (j := 4) (Or.inr SZ5.out) (by have := HW0.out; have := SZ1.out; have := SZ2.out; have := SZ3.out; have := SZ4.out; have := SZ5.out; omega) (.slice n_A sl.length n_c))
  replace HOm := Aside0.mk (Kd.R_far HOm.out (p := ⟨g7, 4, none⟩) (Iv_ne (g := g7) (by have := SZ1.out; have := SZ2.out; have := SZ3.out; have := SZ4.out; have := SZ5.out; omega)) (.slice n_A sl.length n_c))
  replace BKg5 := Aside0.mk (blk_far BKg5.out (p := ⟨g7, 4, none⟩) (by show _ ≠ _; have := SZ1.out; have := SZ2.out; have := SZ3.out; have := SZ4.out; have := SZ5.out; omega) (.slice n_A sl.length n_c))
  replace HOn := Aside0.mk (Kd.R_far HOn.out (p := ⟨g7, 4, none⟩) (Iv_ne (g := g7) (by have := SZ1.out; have := SZ2.out; have := SZ3.out; have := SZ4.out; have := SZ5.out; omega)) (.slice n_A sl.length n_c))
  replace BKg7 := Aside0.mk (blk_put BKg7.out 4 (.slice n_A sl.length n_c) rfl)
  replace HB := Aside0.mk (below_set HB.out (by have := SZ1.out; have := SZ2.out; have := SZ3.out; have := SZ4.out; have := SZ5.out; omega : w.heap.size ≤ g7) (j := 4) (v := .slice n_A sl.length n_c))
  have SZ6 := Aside0.mk (show w5.heap.size ≤ (((((w5.setCell ⟨g7, 0, none⟩ (.int .i64 a)).setCell ⟨g7, 1, none⟩ (.int .i64 b)).setCell ⟨g7, 2, none⟩ (.int .i64 c)).setCell ⟨g7, 3, none⟩ (.int .i64 d)).setCell ⟨g7, 4, none⟩ (.slice n_A sl.length n_c)).heap.size from by simp [World.setCell])
  generalize (((((w5.setCell ⟨g7, 0, none⟩ (.int .i64 a)).setCell ⟨g7, 1, none⟩ (.int .i64 b)).setCell ⟨g7, 2, none⟩ (.int .i64 c)).setCell ⟨g7, 3, none⟩ (.int .i64 d)).setCell ⟨g7, 4, none⟩ (.slice n_A sl.length n_c)) = w6 at HB HT HOm BKg5 HOn BKg7 SZ6 ⊢
  have hcg5_0 : w6.cell? ⟨g5, 0, none⟩ = some (.int .i64 a) := (blk_cell BKg5.out 0).trans rfl
  have hfg5_0 := blk_frozen BKg5.out 0
  have hcg5_1 : w6.cell? ⟨g5, 1, none⟩ = some (.int .i64 b) := (blk_cell BKg5.out 1).trans rfl
  have hfg5_1 := blk_frozen BKg5.out 1
  have hcg5_2 : w6.cell? ⟨g5, 2, none⟩ = some (.int .i64 c) := (blk_cell BKg5.out 2).trans rfl
  have hfg5_2 := blk_frozen BKg5.out 2
  have hcg5_3 : w6.cell? ⟨g5, 3, none⟩ = some (.int .i64 d) := (blk_cell BKg5.out 3).trans rfl
  have hfg5_3 := blk_frozen BKg5.out 3
  have hcg5_4 : w6.cell? ⟨g5, 4, none⟩ = some (.slice m_A sl.length m_c) := (blk_cell BKg5.out 4).trans rfl
  have hfg5_4 := blk_frozen BKg5.out 4
  have hcg7_0 : w6.cell? ⟨g7, 0, none⟩ = some (.int .i64 a) := (blk_cell BKg7.out 0).trans rfl
  have hfg7_0 := blk_frozen BKg7.out 0
  have hcg7_1 : w6.cell? ⟨g7, 1, none⟩ = some (.int .i64 b) := (blk_cell BKg7.out 1).trans rfl
  have hfg7_1 := blk_frozen BKg7.out 1
  have hcg7_2 : w6.cell? ⟨g7, 2, none⟩ = some (.int .i64 c) := (blk_cell BKg7.out 2).trans rfl
  have hfg7_2 := blk_frozen BKg7.out 2
  have hcg7_3 : w6.cell? ⟨g7, 3, none⟩ = some (.int .i64 d) := (blk_cell BKg7.out 3).trans rfl
  have hfg7_3 := blk_frozen BKg7.out 3
  have hcg7_4 : w6.cell? ⟨g7, 4, none⟩ = some (.slice n_A sl.length n_c) := (blk_cell BKg7.out 4).trans rfl
  have hfg7_4 := blk_frozen BKg7.out 4
  have tok5 : True := trivial
  go_wp2_with (first | (have _ := tok5; go_at_call 20; (with_reducible refine (WritesA (TwoD.step_ HT.out (by repeat (first | exact Below.refl _ _ | apply below_alloc | apply pw_below_drewN | apply below_drew1)))).mono ?_); rintro e w7 ⟨rfl, hb⟩; (try clear hcg5_0 hfg5_0); (try clear hcg5_1 hfg5_1); (try clear hcg5_2 hfg5_2); (try clear hcg5_3 hfg5_3); (try clear hcg5_4 hfg5_4); (try clear hcg7_0 hfg7_0); (try clear hcg7_1 hfg7_1); (try clear hcg7_2 hfg7_2); (try clear hcg7_3 hfg7_3); (try clear hcg7_4 hfg7_4); have hs : Below w6.heap.size w6 w7 := below_step (by repeat (first | exact Below.refl _ _ | apply below_alloc | apply pw_below_drewN | apply below_drew1)) hb; have hl : w6.heap.size ≤ _ := below_size (w := w6) (by repeat (first | exact Below.refl _ _ | apply below_alloc | apply pw_below_drewN | apply below_drew1)); have SZ7 := Aside0.mk (show w6.heap.size ≤ w7.heap.size from hs.size); replace HT := Aside0.mk (TwoD.step_ HT.out hs); replace HOm := Aside0.mk (Kd.R_below HOm.out hs); replace BKg5 := Aside0.mk (blk_below BKg5.out hs); replace HOn := Aside0.mk (Kd.R_below HOn.out hs); replace BKg7 := Aside0.mk (blk_below BKg7.out hs); replace HB := Aside0.mk (below_step HB.out hs); clear hb hs; (try clear hl); have hcg5_0 : w7.cell? ⟨g5, 0, none⟩ = some (.int .i64 a) := (blk_cell BKg5.out 0).trans rfl; have hfg5_0 := blk_frozen BKg5.out 0; have hcg5_1 : w7.cell? ⟨g5, 1, none⟩ = some (.int .i64 b) := (blk_cell BKg5.out 1).trans rfl; have hfg5_1 := blk_frozen BKg5.out 1; have hcg5_2 : w7.cell? ⟨g5, 2, none⟩ = some (.int .i64 c) := (blk_cell BKg5.out 2).trans rfl; have hfg5_2 := blk_frozen BKg5.out 2; have hcg5_3 : w7.cell? ⟨g5, 3, none⟩ = some (.int .i64 d) := (blk_cell BKg5.out 3).trans rfl; have hfg5_3 := blk_frozen BKg5.out 3; have hcg5_4 : w7.cell? ⟨g5, 4, none⟩ = some (.slice m_A sl.length m_c) := (blk_cell BKg5.out 4).trans rfl; have hfg5_4 := blk_frozen BKg5.out 4; have hcg7_0 : w7.cell? ⟨g7, 0, none⟩ = some (.int .i64 a) := (blk_cell BKg7.out 0).trans rfl; have hfg7_0 := blk_frozen BKg7.out 0; have hcg7_1 : w7.cell? ⟨g7, 1, none⟩ = some (.int .i64 b) := (blk_cell BKg7.out 1).trans rfl; have hfg7_1 := blk_frozen BKg7.out 1; have hcg7_2 : w7.cell? ⟨g7, 2, none⟩ = some (.int .i64 c) := (blk_cell BKg7.out 2).trans rfl; have hfg7_2 := blk_frozen BKg7.out 2; have hcg7_3 : w7.cell? ⟨g7, 3, none⟩ = some (.int .i64 d) := (blk_cell BKg7.out 3).trans rfl; have hfg7_3 := blk_frozen BKg7.out 3; have hcg7_4 : w7.cell? ⟨g7, 4, none⟩ = some (.slice n_A sl.length n_c) := (blk_cell BKg7.out 4).trans rfl; have hfg7_4 := blk_frozen BKg7.out 4; clear tok5; have tok6 : True := trivial) | (have _ := tok6; go_at_call 20; (with_reducible refine (WritesA (TwoD.step_ HT.out (by repeat (first | exact Below.refl _ _ | apply below_alloc | apply pw_below_drewN | apply below_drew1))).symm).mono ?_); rintro e w8 ⟨rfl, hb⟩; (try clear hcg5_0 hfg5_0); (try clear hcg5_1 hfg5_1); (try clear hcg5_2 hfg5_2); (try clear hcg5_3 hfg5_3); (try clear hcg5_4 hfg5_4); (try clear hcg7_0 hfg7_0); (try clear hcg7_1 hfg7_1); (try clear hcg7_2 hfg7_2); (try clear hcg7_3 hfg7_3); (try clear hcg7_4 hfg7_4); have hs : Below w7.heap.size w7 w8 := below_step (by repeat (first | exact Below.refl _ _ | apply below_alloc | apply pw_below_drewN | apply below_drew1)) hb; have hl : w7.heap.size ≤ _ := below_size (w := w7) (by repeat (first | exact Below.refl _ _ | apply below_alloc | apply pw_below_drewN | apply below_drew1)); have SZ8 := Aside0.mk (show w7.heap.size ≤ w8.heap.size from hs.size); replace HT := Aside0.mk (TwoD.step_ HT.out hs); replace HOm := Aside0.mk (Kd.R_below HOm.out hs); replace BKg5 := Aside0.mk (blk_below BKg5.out hs); replace HOn := Aside0.mk (Kd.R_below HOn.out hs); replace BKg7 := Aside0.mk (blk_below BKg7.out hs); replace HB := Aside0.mk (below_step HB.out hs); clear hb hs; (try clear hl); have hcg5_0 : w8.cell? ⟨g5, 0, none⟩ = some (.int .i64 a) := (blk_cell BKg5.out 0).trans rfl; have hfg5_0 := blk_frozen BKg5.out 0; have hcg5_1 : w8.cell? ⟨g5, 1, none⟩ = some (.int .i64 b) := (blk_cell BKg5.out 1).trans rfl; have hfg5_1 := blk_frozen BKg5.out 1; have hcg5_2 : w8.cell? ⟨g5, 2, none⟩ = some (.int .i64 c) := (blk_cell BKg5.out 2).trans rfl; have hfg5_2 := blk_frozen BKg5.out 2; have hcg5_3 : w8.cell? ⟨g5, 3, none⟩ = some (.int .i64 d) := (blk_cell BKg5.out 3).trans rfl; have hfg5_3 := blk_frozen BKg5.out 3; have hcg5_4 : w8.cell? ⟨g5, 4, none⟩ = some (.slice m_A sl.length m_c) := (blk_cell BKg5.out 4).trans rfl; have hfg5_4 := blk_frozen BKg5.out 4; have hcg7_0 : w8.cell? ⟨g7, 0, none⟩ = some (.int .i64 a) := (blk_cell BKg7.out 0).trans rfl; have hfg7_0 := blk_frozen BKg7.out 0; have hcg7_1 : w8.cell? ⟨g7, 1, none⟩ = some (.int .i64 b) := (blk_cell BKg7.out 1).trans rfl; have hfg7_1 := blk_frozen BKg7.out 1; have hcg7_2 : w8.cell? ⟨g7, 2, none⟩ = some (.int .i64 c) := (blk_cell BKg7.out 2).trans rfl; have hfg7_2 := blk_frozen BKg7.out 2; have hcg7_3 : w8.cell? ⟨g7, 3, none⟩ = some (.int .i64 d) := (blk_cell BKg7.out 3).trans rfl; have hfg7_3 := blk_frozen BKg7.out 3; have hcg7_4 : w8.cell? ⟨g7, 4, none⟩ = some (.slice n_A sl.length n_c) := (blk_cell BKg7.out 4).trans rfl; have hfg7_4 := blk_frozen BKg7.out 4; clear tok6; have tok7 : True := trivial) | (have _ := tok7; go_at_call 19; (with_reducible refine (OffA (TwoD.step_ HT.out (by repeat (first | exact Below.refl _ _ | apply below_alloc | apply pw_below_drewN | apply below_drew1)))).mono ?_); rintro e w9 ⟨rfl, hb⟩; (try clear hcg5_0 hfg5_0); (try clear hcg5_1 hfg5_1); (try clear hcg5_2 hfg5_2); (try clear hcg5_3 hfg5_3); (try clear hcg5_4 hfg5_4); (try clear hcg7_0 hfg7_0); (try clear hcg7_1 hfg7_1); (try clear hcg7_2 hfg7_2); (try clear hcg7_3 hfg7_3); (try clear hcg7_4 hfg7_4); have hs : Below w8.heap.size w8 w9 := below_step (by repeat (first | exact Below.refl _ _ | apply below_alloc | apply pw_below_drewN | apply below_drew1)) hb; have hl : w8.heap.size ≤ _ := below_size (w := w8) (by repeat (first | exact Below.refl _ _ | apply below_alloc | apply pw_below_drewN | apply below_drew1)); have SZ9 := Aside0.mk (show w8.heap.size ≤ w9.heap.size from hs.size); replace HT := Aside0.mk (TwoD.step_ HT.out hs); replace HOm := Aside0.mk (Kd.R_below HOm.out hs); replace BKg5 := Aside0.mk (blk_below BKg5.out hs); replace HOn := Aside0.mk (Kd.R_below HOn.out hs); replace BKg7 := Aside0.mk (blk_below BKg7.out hs); replace HB := Aside0.mk (below_step HB.out hs); clear hb hs; (try clear hl); have hcg5_0 : w9.cell? ⟨g5, 0, none⟩ = some (.int .i64 a) := (blk_cell BKg5.out 0).trans rfl; have hfg5_0 := blk_frozen BKg5.out 0; have hcg5_1 : w9.cell? ⟨g5, 1, none⟩ = some (.int .i64 b) := (blk_cell BKg5.out 1).trans rfl; have hfg5_1 := blk_frozen BKg5.out 1; have hcg5_2 : w9.cell? ⟨g5, 2, none⟩ = some (.int .i64 c) := (blk_cell BKg5.out 2).trans rfl; have hfg5_2 := blk_frozen BKg5.out 2; have hcg5_3 : w9.cell? ⟨g5, 3, none⟩ = some (.int .i64 d) := (blk_cell BKg5.out 3).trans rfl; have hfg5_3 := blk_frozen BKg5.out 3; have hcg5_4 : w9.cell? ⟨g5, 4, none⟩ = some (.slice m_A sl.length m_c) := (blk_cell BKg5.out 4).trans rfl; have hfg5_4 := blk_frozen BKg5.out 4; have hcg7_0 : w9.cell? ⟨g7, 0, none⟩ = some (.int .i64 a) := (blk_cell BKg7.out 0).trans rfl; have hfg7_0 := blk_frozen BKg7.out 0; have hcg7_1 : w9.cell? ⟨g7, 1, none⟩ = some (.int .i64 b) := (blk_cell BKg7.out 1).trans rfl; have hfg7_1 := blk_frozen BKg7.out 1; have hcg7_2 : w9.cell? ⟨g7, 2, none⟩ = some (.int .i64 c) := (blk_cell BKg7.out 2).trans rfl; have hfg7_2 := blk_frozen BKg7.out 2; have hcg7_3 : w9.cell? ⟨g7, 3, none⟩ = some (.int .i64 d) := (blk_cell BKg7.out 3).trans rfl; have hfg7_3 := blk_frozen BKg7.out 3; have hcg7_4 : w9.cell? ⟨g7, 4, none⟩ = some (.slice n_A sl.length n_c) := (blk_cell BKg7.out 4).trans rfl; have hfg7_4 := blk_frozen BKg7.out 4; clear tok7; have tok8 : True := trivial) | (have _ := tok8; go_at_call 19; (with_reducible refine (OffA (TwoD.step_ HT.out (by repeat (first | exact Below.refl _ _ | apply below_alloc | apply pw_below_drewN | apply below_drew1))).symm).mono ?_); rintro e w10 ⟨rfl, hb⟩; (try clear hcg5_0 hfg5_0); (try clear hcg5_1 hfg5_1); (try clear hcg5_2 hfg5_2); (try clear hcg5_3 hfg5_3); (try clear hcg5_4 hfg5_4); (try clear hcg7_0 hfg7_0); (try clear hcg7_1 hfg7_1); (try clear hcg7_2 hfg7_2); (try clear hcg7_3 hfg7_3); (try clear hcg7_4 hfg7_4); have hs : Below w9.heap.size w9 w10 := below_step (by repeat (first | exact Below.refl _ _ | apply below_alloc | apply pw_below_drewN | apply below_drew1)) hb; have hl : w9.heap.size ≤ _ := below_size (w := w9) (by repeat (first | exact Below.refl _ _ | apply below_alloc | apply pw_below_drewN | apply below_drew1)); have SZ10 := Aside0.mk (show w9.heap.size ≤ w10.heap.size from hs.size); replace HT := Aside0.mk (TwoD.step_ HT.out hs); replace HOm := Aside0.mk (Kd.R_below HOm.out hs); replace BKg5 := Aside0.mk (blk_below BKg5.out hs); replace HOn := Aside0.mk (Kd.R_below HOn.out hs); replace BKg7 := Aside0.mk (blk_below BKg7.out hs); replace HB := Aside0.mk (below_step HB.out hs); clear hb hs; (try clear hl); have hcg5_0 : w10.cell? ⟨g5, 0, none⟩ = some (.int .i64 a) := (blk_cell BKg5.out 0).trans rfl; have hfg5_0 := blk_frozen BKg5.out 0; have hcg5_1 : w10.cell? ⟨g5, 1, none⟩ = some (.int .i64 b) := (blk_cell BKg5.out 1).trans rfl; have hfg5_1 := blk_frozen BKg5.out 1; have hcg5_2 : w10.cell? ⟨g5, 2, none⟩ = some (.int .i64 c) := (blk_cell BKg5.out 2).trans rfl; have hfg5_2 := blk_frozen BKg5.out 2; have hcg5_3 : w10.cell? ⟨g5, 3, none⟩ = some (.int .i64 d) := (blk_cell BKg5.out 3).trans rfl; have hfg5_3 := blk_frozen BKg5.out 3; have hcg5_4 : w10.cell? ⟨g5, 4, none⟩ = some (.slice m_A sl.length m_c) := (blk_cell BKg5.out 4).trans rfl; have hfg5_4 := blk_frozen BKg5.out 4; have hcg7_0 : w10.cell? ⟨g7, 0, none⟩ = some (.int .i64 a) := (blk_cell BKg7.out 0).trans rfl; have hfg7_0 := blk_frozen BKg7.out 0; have hcg7_1 : w10.cell? ⟨g7, 1, none⟩ = some (.int .i64 b) := (blk_cell BKg7.out 1).trans rfl; have hfg7_1 := blk_frozen BKg7.out 1; have hcg7_2 : w10.cell? ⟨g7, 2, none⟩ = some (.int .i64 c) := (blk_cell BKg7.out 2).trans rfl; have hfg7_2 := blk_frozen BKg7.out 2; have hcg7_3 : w10.cell? ⟨g7, 3, none⟩ = some (.int .i64 d) := (blk_cell BKg7.out 3).trans rfl; have hfg7_3 := blk_frozen BKg7.out 3; have hcg7_4 : w10.cell? ⟨g7, 4, none⟩ = some (.slice n_A sl.length n_c) := (blk_cell BKg7.out 4).trans rfl; have hfg7_4 := blk_frozen BKg7.out 4; clear tok8))
  (try clear hcg5_0 hfg5_0)
  (try clear hcg5_1 hfg5_1)
  (try clear hcg5_2 hfg5_2)
  (try clear hcg5_3 hfg5_3)
  (try clear hcg5_4 hfg5_4)
  (try clear hcg7_0 hfg7_0)
  (try clear hcg7_1 hfg7_1)
  (try clear hcg7_2 hfg7_2)
  (try clear hcg7_3 hfg7_3)
  (try clear hcg7_4 hfg7_4)
  have CX := Aside0.mk (Kd.R_reads' HOm.out).2.2
  have CY := Aside0.mk (Kd.R_reads' HOn.out).2.2
  clear HOm HOn
  go_loopg [9] sl.length (fun kq v9 wr => ∃ k : Nat, v9 = .int .i64 (k : Int) ∧ Aside0 (k ≤ sl.length ∧ sl.length - k ≤ kq) ∧ Aside0 (wr.heap[g5]? = some (.cells #[.int .i64 a, .int .i64 b, .int .i64 c, .int .i64 d, .slice m_A sl.length m_c] 36 (0, 0))) ∧ Aside0 (wr.heap[g7]? = some (.cells #[.int .i64 a, .int .i64 b, .int .i64 c, .int .i64 d, .slice n_A sl.length n_c] 36 (0, 0))) ∧ Aside0 (Below w10.heap.size w10 wr))
  case atStart => exact ⟨0, rfl, Aside0.mk ⟨by omega, by omega⟩, Aside0.mk (by (with_reducible repeat (first | refine blk_drewN ?_ _ | refine blk_drew ?_ | refine blk_alloc ?_ _)); exact BKg5.out), Aside0.mk (by (with_reducible repeat (first | refine blk_drewN ?_ _ | refine blk_drew ?_ | refine blk_alloc ?_ _)); exact BKg7.out), Aside0.mk (by repeat (first | exact Below.refl _ _ | apply below_alloc | apply pw_below_drewN | apply below_drew1))⟩
  case round =>
    have HB0 := HB
    clear HB BKg5 BKg7 HT
    obtain ⟨k, rfl, AX, BKg5, BKg7, HB⟩ := hrel
    have hcg5_0 : wr.cell? ⟨g5, 0, none⟩ = some (.int .i64 a) := (blk_cell BKg5.out 0).trans rfl
    have hfg5_0 := blk_frozen BKg5.out 0
    have hcg5_1 : wr.cell? ⟨g5, 1, none⟩ = some (.int .i64 b) := (blk_cell BKg5.out 1).trans rfl
    have hfg5_1 := blk_frozen BKg5.out 1
    have hcg5_2 : wr.cell? ⟨g5, 2, none⟩ = some (.int .i64 c) := (blk_cell BKg5.out 2).trans rfl
    have hfg5_2 := blk_frozen BKg5.out 2
    have hcg5_3 : wr.cell? ⟨g5, 3, none⟩ = some (.int .i64 d) := (blk_cell BKg5.out 3).trans rfl
    have hfg5_3 := blk_frozen BKg5.out 3
    have hcg5_4 : wr.cell? ⟨g5, 4, none⟩ = some (.slice m_A sl.length m_c) := (blk_cell BKg5.out 4).trans rfl
    have hfg5_4 := blk_frozen BKg5.out 4
    have hcg7_0 : wr.cell? ⟨g7, 0, none⟩ = some (.int .i64 a) := (blk_cell BKg7.out 0).trans rfl
    have hfg7_0 := blk_frozen BKg7.out 0
    have hcg7_1 : wr.cell? ⟨g7, 1, none⟩ = some (.int .i64 b) := (blk_cell BKg7.out 1).trans rfl
    have hfg7_1 := blk_frozen BKg7.out 1
    have hcg7_2 : wr.cell? ⟨g7, 2, none⟩ = some (.int .i64 c) := (blk_cell BKg7.out 2).trans rfl
    have hfg7_2 := blk_frozen BKg7.out 2
    have hcg7_3 : wr.cell? ⟨g7, 3, none⟩ = some (.int .i64 d) := (blk_cell BKg7.out 3).trans rfl
    have hfg7_3 := blk_frozen BKg7.out 3
    have hcg7_4 : wr.cell? ⟨g7, 4, none⟩ = some (.slice n_A sl.length n_c) := (blk_cell BKg7.out 4).trans rfl
    have hfg7_4 := blk_frozen BKg7.out 4
    by_cases hlt : k < sl.length
    · obtain ⟨adx, x, ex, hfx, hxm, Bx, cx, hcx, hlex, hCx⟩ := bytes_elem CX.out k hlt
      obtain ⟨ady, y, ey, hfy, hym, By, cy, hcy, hley, hCy⟩ := bytes_elem CY.out k hlt
      obtain rfl : x = y := by
        rw [hfx] at hfy
        exact (List.append_cancel_left hfy) |> fun h => by injection h
      subst ex
      subst ey
      have hx := pw_cell_below HB.out hcx
      have hy := pw_cell_below HB.out hcy
      have HCX := Aside0.mk hCx
      have HCY := Aside0.mk hCy
      have b1 : decide ((k : Int) < (sl.length : Int)) = true := decide_eq_true (by omega)
      have b2 : decide (k < sl.length) = true := decide_eq_true hlt
      have b3 : (k < sl.length) = True := eq_true hlt
      have d1 : ((strOfNums x).toList == (strOfNums x).toList) = true := beq_self_eq_true _
      have d2 : ((strOfNums x).toList != (strOfNums x).toList) = false := bne_self_eq_false _
      have HK := Aside0.mk hlt
      clear hlt hfx hfy hxm hym hcx hcy hlex hley hCx hCy
      have hcv20 := Kd.C_string (P := Try.prog) (A := Bx) (c := cx) Try.underlying45 Try.underlying5 Try.underlying9 (Kd.C_below HCX.out HB.out)
      have hq20 := fun n => Kd.C_string (P := Try.prog) (A := Bx) (c := cx) Try.underlying45 Try.underlying5 Try.underlying9 (Kd.C_drewN (Kd.C_below HCX.out HB.out) n)
      have hcv22 := Kd.C_string (P := Try.prog) (A := By) (c := cy) Try.underlying45 Try.underlying5 Try.underlying9 (Kd.C_below HCY.out HB.out)
      have hq22 := fun n => Kd.C_string (P := Try.prog) (A := By) (c := cy) Try.underlying45 Try.underlying5 Try.underlying9 (Kd.C_drewN (Kd.C_below HCY.out HB.out) n)
      go_wp2
      repeat (go_quiet ((first | (rintro ⟨n_, rfl⟩; exact hq20 n_) | (rintro ⟨n_, rfl⟩; exact hq22 n_) | (intro hS_; obtain ⟨n_, rfl⟩ := hS_; exact hq20 n_) | (intro hS_; obtain ⟨n_, rfl⟩ := hS_; exact hq22 n_))); try go_wp2)
      go_roundg (gk - 1)
      case measure =>
        have := AX.out
        have := HK.out
        omega
      case rel =>
        have h1 := AX.out
        have h2 := HK.out
        exact ⟨k + 1, by rw [show wrap64 ((k : Int) + 1) = ((k + 1 : Nat) : Int) by have := HLS.out; unfold wrap64; omega], Aside0.mk ⟨by omega, by omega⟩, Aside0.mk (by (with_reducible repeat (first | refine blk_drewN ?_ _ | refine blk_drew ?_ | refine blk_alloc ?_ _)); exact BKg5.out), Aside0.mk (by (with_reducible repeat (first | refine blk_drewN ?_ _ | refine blk_drew ?_ | refine blk_alloc ?_ _)); exact BKg7.out), Aside0.mk (by repeat (first | exact HB.out | apply below_alloc | apply pw_below_drewN | apply below_drew1))⟩
    · have b1 : decide ((k : Int) < (sl.length : Int)) = false := decide_eq_false (by omega)
      have b2 : decide (k < sl.length) = false := decide_eq_false hlt
      clear hlt
      go_wp2
      go_ret
      exact ⟨rfl, below_step HB0.out HB.out⟩
end Go.Proofs.Ytemmhgfjfbdggaa.P

import Derived.Test.YtemmhgfjfbdggaaP08J
namespace Go.Proofs.Ytemmhgfjfbdggaa.P
open Go.RowKit Go.Proofs.YtemmhgfjfbdggaaW.PrintWords Go.Proofs.YtemmhgfjfbdggaaW.PrintLast Go.Proofs.YtemmhgfjfbdggaaW.PrintMore
attribute [local go_sem] max2_int min2_int max_two min_two max_three min_three max_four min_four
set_option linter.unusedVariables false
set_option linter.unusedSimpArgs false
set_option maxHeartbeats 8000000 in
set_option maxRecDepth 100000 in
theorem New_bad (a b c d : Int) (w : World) (hp : ¬ okP a b c d = true) : Calls Try.prog 10 #[.agg #[.int .i64 a, .int .i64 b, .int .i64 c, .int .i64 d]] w fun e w' => e = .returned (.tuple #[.pointer none, .int .i64 2]) ∧ Below w.heap.size w w' := by
  have hu23 := Try.underlying23
  have HB := Aside0.mk (Below.refl w.heap.size w)
  have HD := Aside0.mk (show layout_Drives.f a b c d = some (0, 2) by unfold layout_Drives.f; rw [if_neg hp])
  clear hp
  go_enter Try.func10, Try.ntmps10
  have tok1 : True := trivial
  go_wp2_with (first | (have _ := tok1; (with_reducible refine gate_dst (N := 1) rfl ?_); refine box_event ?hg (N := 1) ?hd (cs := #[.int .i64 a, .int .i64 b, .int .i64 c, .int .i64 d]) (t := 23) ?hr ?_; (case hd => rfl); (case hg => rfl); (case hr => first | (go_simp; done) | (go_simp; rfl)); intro g1 hg w1 hbox hb; have hs : Below w.heap.size w w1 := below_step (by repeat (first | exact Below.refl _ _ | apply below_alloc | apply pw_below_drewN | apply below_drew1)) hb; have SZ1 := Aside0.mk (show w.heap.size ≤ g1 ∧ g1 < w1.heap.size from ⟨by rw [hg]; exact (below_size (by repeat (first | exact Below.refl _ _ | apply below_alloc | apply pw_below_drewN | apply below_drew1))), blk_lt hbox⟩); have n_ := Aside0.mk (below_step HB.out hs); clear HB; have HB := n_; clear n_; have BKg1 := Aside0.mk hbox; clear hb hbox hg hs; have hcg1_0 : w1.cell? ⟨g1, 0, none⟩ = some (.int .i64 a) := (blk_cell BKg1.out 0).trans rfl; have hfg1_0 := blk_frozen BKg1.out 0; have hcg1_1 : w1.cell? ⟨g1, 1, none⟩ = some (.int .i64 b) := (blk_cell BKg1.out 1).trans rfl; have hfg1_1 := blk_frozen BKg1.out 1; have hcg1_2 : w1.cell? ⟨g1, 2, none⟩ = some (.int .i64 c) := (blk_cell BKg1.out 2).trans rfl; have hfg1_2 := blk_frozen BKg1.out 2; have hcg1_3 : w1.cell? ⟨g1, 3, none⟩ = some (.int .i64 d) := (blk_cell BKg1.out 3).trans rfl; have hfg1_3 := blk_frozen BKg1.out 3; clear tok1; have tok2 : True := trivial) | (have _ := tok2; go_at_call 42; (with_reducible refine (layout_Drives.calls a b c d 0 2 _ HD.out).mono ?_); rintro e w2 ⟨rfl, hb⟩; (try clear hcg1_0 hfg1_0); (try clear hcg1_1 hfg1_1); (try clear hcg1_2 hfg1_2); (try clear hcg1_3 hfg1_3); have hs : Below w1.heap.size w1 w2 := below_step (by repeat (first | exact Below.refl _ _ | apply below_alloc | apply pw_below_drewN | apply below_drew1)) hb; have hl : w1.heap.size ≤ _ := below_size (w := w1) (by repeat (first | exact Below.refl _ _ | apply below_alloc | apply pw_below_drewN | apply below_drew1)); have SZ2 := Aside0.mk (show w1.heap.size ≤ w2.heap.size from hs.size); have n_ := Aside0.mk (blk_below BKg1.out hs); clear BKg1; have BKg1 := n_; clear n_; have n_ := Aside0.mk (below_step HB.out hs); clear HB; have HB := n_; clear n_; clear hb hs; (try clear hl); have hcg1_0 : w2.cell? ⟨g1, 0, none⟩ = some (.int .i64 a) := (blk_cell BKg1.out 0).trans rfl; have hfg1_0 := blk_frozen BKg1.out 0; have hcg1_1 : w2.cell? ⟨g1, 1, none⟩ = some (.int .i64 b) := (blk_cell BKg1.out 1).trans rfl; have hfg1_1 := blk_frozen BKg1.out 1; have hcg1_2 : w2.cell? ⟨g1, 2, none⟩ = some (.int .i64 c) := (blk_cell BKg1.out 2).trans rfl; have hfg1_2 := blk_frozen BKg1.out 2; have hcg1_3 : w2.cell? ⟨g1, 3, none⟩ = some (.int .i64 d) := (blk_cell BKg1.out 3).trans rfl; have hfg1_3 := blk_frozen BKg1.out 3; clear tok2))
  go_ret2
  exact ⟨rfl, HB.out⟩
theorem May_ev (a b c d : Int) : twoslotref06_May.f a b c d = some (okP a b c d) := by
  unfold twoslotref06_May.f
  by_cases h1 : a ≥ 1
  · rw [if_pos h1]
    by_cases h2 : a ≤ 12
    · rw [if_pos h2]
      by_cases h3 : b ≥ 0
      · rw [if_pos h3]
        by_cases h4 : b ≤ 4
        · rw [if_pos h4]
          by_cases h5 : c ≥ 8
          · rw [if_pos h5]
            by_cases h6 : c ≤ 64
            · rw [if_pos h6]
              obtain ⟨ml, mr⟩ := mul_small h1 h2 h5 h6
              rw [show wrap64 (a * c) = a * c from by unfold wrap64; omega]
              by_cases h7 : a * c ≥ 32
              · rw [if_pos h7]
                by_cases h8 : d ≥ 8
                · rw [if_pos h8]
                  congr 1
                  rw [Bool.eq_iff_iff, okP_iff, decide_eq_true_iff]
                  omega
                · rw [if_neg h8]; congr 1; symm; rw [Bool.eq_false_iff, Ne, okP_iff]; omega
              · rw [if_neg h7]; congr 1; symm; rw [Bool.eq_false_iff, Ne, okP_iff]; omega
            · rw [if_neg h6]; congr 1; symm; rw [Bool.eq_false_iff, Ne, okP_iff]; omega
          · rw [if_neg h5]; congr 1; symm; rw [Bool.eq_false_iff, Ne, okP_iff]; omega
        · rw [if_neg h4]; congr 1; symm; rw [Bool.eq_false_iff, Ne, okP_iff]; omega
      · rw [if_neg h3]; congr 1; symm; rw [Bool.eq_false_iff, Ne, okP_iff]; omega
    · rw [if_neg h2]; congr 1; symm; rw [Bool.eq_false_iff, Ne, okP_iff]; omega
  · rw [if_neg h1]; congr 1; symm; rw [Bool.eq_false_iff, Ne, okP_iff]; omega
theorem big_ev (a b c d : Int) : twoslotlaw08_big.f a b c d = some (okP a b c d && decide ((a + b) * d > 400)) := by
  unfold twoslotlaw08_big.f twoslotref06_N.f
  rw [May_ev, Option.bind_some]
  by_cases hp : okP a b c d = true
  · have hm := many a b c d hp
    have e1 : wrap64 (a + b) = a + b := by unfold wrap64; omega
    have e2 : wrap64 ((a + b) * d) = (a + b) * d := by unfold wrap64; omega
    rw [if_pos hp, Option.bind_some, e1, e2, hp]
    rfl
  · have hf : okP a b c d = false := by simpa using hp
    rw [if_neg hp, hf]
    rfl
end Go.Proofs.Ytemmhgfjfbdggaa.P

import Derived.Test.YtemmhgfjfbdggaaP08M
import Derived.Test.YtemmhgfjfbdggaaPx2
namespace Go.Proofs.Ytemmhgfjfbdggaa.P
open Go.RowKit Go.Proofs.YtemmhgfjfbdggaaW.PrintWords Go.Proofs.YtemmhgfjfbdggaaW.PrintLast Go.Proofs.YtemmhgfjfbdggaaW.PrintMore
attribute [local go_sem] max2_int min2_int max_two min_two max_three min_three max_four min_four
set_option linter.unusedVariables false
set_option linter.unusedSimpArgs false
theorem many (a b c d : Int) (h : okP a b c d = true) : wrap64 (wrap64 ((a + b) * d) * 2) = (a + b) * d * 2 ∧ 0 ≤ (a + b) * d ∧ (a + b) * d ≤ 4096 ∧ 1 ≤ a + b ∧ a + b ≤ 16 := by
  have hp := okP_iff.mp h
  have h1 : 0 ≤ (a + b) * d := Int.mul_nonneg (by omega) (by omega)
  have h2 : (a + b) * d ≤ 16 * d := Int.mul_le_mul_of_nonneg_right (by omega) (by omega)
  refine ⟨?_, h1, by omega, by omega, by omega⟩
  have e : wrap64 ((a + b) * d) = (a + b) * d := by unfold wrap64; omega
  rw [e]
  unfold wrap64
  omega
set_option maxHeartbeats 8000000 in
set_option maxRecDepth 100000 in
theorem New_some (a b c d : Int) (w : World) (hp : okP a b c d = true) : Calls Try.prog 10 #[.agg #[.int .i64 a, .int .i64 b, .int .i64 c, .int .i64 d]] w fun e w' => ∃ (D dr : Nat), e = .returned (.tuple #[.pointer (some ⟨D, 0, none⟩), .int .i64 0]) ∧ w'.heap[D]? = some (.cells #[.pointer (some ⟨dr, 0, none⟩), .bool false, .int .i64 (-1), .int .i64 0] 58 (0, 0)) ∧ Below w.heap.size w w' := by
  have hu23 := Try.underlying23
  have hu58 := Try.underlying58
  have hu78 := Try.underlying78
  have HB := Aside0.mk (Below.refl w.heap.size w)
  have HD := Aside0.mk (show layout_Drives.f a b c d = some (a + b, 0) by unfold layout_Drives.f; rw [if_pos hp])
  have HM := Aside0.mk (many a b c d hp)
  clear hp
  go_enter Try.func10, Try.ntmps10
  have tok1 : True := trivial
  go_wp2_with (first | (have _ := tok1; (with_reducible refine gate_dst (N := 1) rfl ?_); refine box_event ?hg (N := 1) ?hd (cs := #[.int .i64 a, .int .i64 b, .int .i64 c, .int .i64 d]) (t := 23) ?hr ?_; (case hd => rfl); (case hg => rfl); (case hr => first | (go_simp; done) | (go_simp; rfl)); intro g1 hg w1 hbox hb; have hs : Below w.heap.size w w1 := below_step (by repeat (first | exact Below.refl _ _ | apply below_alloc | apply pw_below_drewN | apply below_drew1)) hb; have SZ1 := Aside0.mk (show w.heap.size ≤ g1 ∧ g1 < w1.heap.size from ⟨by rw [hg]; exact (below_size (by repeat (first | exact Below.refl _ _ | apply below_alloc | apply pw_below_drewN | apply below_drew1))), blk_lt hbox⟩); have n_ := Aside0.mk (below_step HB.out hs); clear HB; have HB := n_; clear n_; have BKg1 := Aside0.mk hbox; clear hb hbox hg hs; have hcg1_0 : w1.cell? ⟨g1, 0, none⟩ = some (.int .i64 a) := (blk_cell BKg1.out 0).trans rfl; have hfg1_0 := blk_frozen BKg1.out 0; have hcg1_1 : w1.cell? ⟨g1, 1, none⟩ = some (.int .i64 b) := (blk_cell BKg1.out 1).trans rfl; have hfg1_1 := blk_frozen BKg1.out 1; have hcg1_2 : w1.cell? ⟨g1, 2, none⟩ = some (.int .i64 c) := (blk_cell BKg1.out 2).trans rfl; have hfg1_2 := blk_frozen BKg1.out 2; have hcg1_3 : w1.cell? ⟨g1, 3, none⟩ = some (.int .i64 d) := (blk_cell BKg1.out 3).trans rfl; have hfg1_3 := blk_frozen BKg1.out 3; clear tok1; have tok2 : True := trivial) | (have _ := tok2; go_at_call 42; (with_reducible refine (layout_Drives.calls a b c d (a + b) 0 _ HD.out).mono ?_); rintro e w2 ⟨rfl, hb⟩; (try clear hcg1_0 hfg1_0); (try clear hcg1_1 hfg1_1); (try clear hcg1_2 hfg1_2); (try clear hcg1_3 hfg1_3); have hs : Below w1.heap.size w1 w2 := below_step (by repeat (first | exact Below.refl _ _ | apply below_alloc | apply pw_below_drewN | apply below_drew1)) hb; have hl : w1.heap.size ≤ _ := below_size (w := w1) (by repeat (first | exact Below.refl _ _ | apply below_alloc | apply pw_below_drewN | apply below_drew1)); have SZ2 := Aside0.mk (show w1.heap.size ≤ w2.heap.size from hs.size); have n_ := Aside0.mk (blk_below BKg1.out hs); clear BKg1; have BKg1 := n_; clear n_; have n_ := Aside0.mk (below_step HB.out hs); clear HB; have HB := n_; clear n_; clear hb hs; (try clear hl); have hcg1_0 : w2.cell? ⟨g1, 0, none⟩ = some (.int .i64 a) := (blk_cell BKg1.out 0).trans rfl; have hfg1_0 := blk_frozen BKg1.out 0; have hcg1_1 : w2.cell? ⟨g1, 1, none⟩ = some (.int .i64 b) := (blk_cell BKg1.out 1).trans rfl; have hfg1_1 := blk_frozen BKg1.out 1; have hcg1_2 : w2.cell? ⟨g1, 2, none⟩ = some (.int .i64 c) := (blk_cell BKg1.out 2).trans rfl; have hfg1_2 := blk_frozen BKg1.out 2; have hcg1_3 : w2.cell? ⟨g1, 3, none⟩ = some (.int .i64 d) := (blk_cell BKg1.out 3).trans rfl; have hfg1_3 := blk_frozen BKg1.out 3; clear tok2))
  (try clear hcg1_0 hfg1_0)
  (try clear hcg1_1 hfg1_1)
  (try clear hcg1_2 hfg1_2)
  (try clear hcg1_3 hfg1_3)
  have hs : Below w2.heap.size w2 (World.drew w2) := below_drew1 (Below.refl _ _)
  have n_ := Aside0.mk (blk_below BKg1.out hs)
  clear BKg1
  have BKg1 := n_
  clear n_
  have n_ := Aside0.mk (below_step HB.out hs)
  clear HB
  have HB := n_
  clear n_ hs
  refine start_ (n := 18) (S := fun w' => w'.cell? ⟨g1, 0, none⟩ = some (.int .i64 a) ∧ w'.cell? ⟨g1, 1, none⟩ = some (.int .i64 b) ∧ w'.cell? ⟨g1, 2, none⟩ = some (.int .i64 c) ∧ w'.cell? ⟨g1, 3, none⟩ = some (.int .i64 d)) (ds := []) #[false, false, false, false, false, false, false, false, false, false, false, false, false, false, false, false, false, false] (by kernel_rfl) rfl rfl ⟨(blk_cell BKg1.out 0).trans rfl, (blk_cell BKg1.out 1).trans rfl, (blk_cell BKg1.out 2).trans rfl, (blk_cell BKg1.out 3).trans rfl⟩ (fun hHeld => ?_)
  generalize World.drew w2 = w3 at HB BKg1 hHeld ⊢
  refine pure_ (i := 1) (N := some 16) (v := ?_) (a' := ?_) #[false, true, false, false, false, false, false, false, false, false, false, false, false, false, false, false, false, false] rfl rfl (by kernel_rfl) (fun _ _ _ h => h) (Or.inl ⟨by rfl, ?_⟩) ?_ ?_
  rotate_left
  · intro w'
    go_simp
    with_reducible rfl
  rotate_left
  · simp only [Act.put, List.setIfInBounds_toArray, List.set_cons_zero, List.set_cons_succ, i64_w, i32_w]
    rfl
  refine pure_ (i := 2) (N := some 17) (v := ?_) (a' := ?_) #[false, true, true, false, false, false, false, false, false, false, false, false, false, false, false, false, false, false] rfl rfl (by kernel_rfl) (fun _ _ _ h => h) (Or.inl ⟨by rfl, ?_⟩) ?_ ?_
  rotate_left
  · intro w'
    go_simp
    with_reducible rfl
  rotate_left
  · simp only [Act.put, List.setIfInBounds_toArray, List.set_cons_zero, List.set_cons_succ, i64_w, i32_w]
    rfl
  refine pure_ (i := 3) (N := some 18) (v := ?_) (a' := ?_) #[false, true, true, true, false, false, false, false, false, false, false, false, false, false, false, false, false, false] rfl rfl (by kernel_rfl) (fun _ _ _ h => h) (Or.inl ⟨by rfl, ?_⟩) ?_ ?_
  rotate_left
  · intro w'
    go_simp
    with_reducible rfl
  rotate_left
  · simp only [Act.put, List.setIfInBounds_toArray, List.set_cons_zero, List.set_cons_succ, i64_w, i32_w]
    rfl
  refine pure_ (i := 4) (N := some 19) (v := ?_) (a' := ?_) #[false, true, true, true, true, false, false, false, false, false, false, false, false, false, false, false, false, false] rfl rfl (by kernel_rfl) (fun _ _ _ h => h) (Or.inl ⟨by rfl, ?_⟩) ?_ ?_
  rotate_left
  · intro w'
    go_simp
    with_reducible rfl
  rotate_left
  · simp only [Act.put, List.setIfInBounds_toArray, List.set_cons_zero, List.set_cons_succ, i64_w, i32_w]
    rfl
  refine pure_ (i := 7) (N := some 22) (v := ?_) (a' := ?_) #[false, true, true, true, true, false, false, true, false, false, false, false, false, false, false, false, false, false] rfl rfl (by kernel_rfl) (fun _ _ _ h => h) (Or.inl ⟨by rfl, ?_⟩) ?_ ?_
  rotate_left
  · intro w'
    go_simp
    with_reducible rfl
  rotate_left
  · simp only [Act.put, List.setIfInBounds_toArray, List.set_cons_zero, List.set_cons_succ, i64_w, i32_w]
    rfl
  refine pure_ (i := 8) (N := some 23) (v := ?_) (a' := ?_) #[false, true, true, true, true, false, false, true, true, false, false, false, false, false, false, false, false, false] rfl rfl (by kernel_rfl) (fun _ _ _ h => h) (Or.inl ⟨by rfl, ?_⟩) ?_ ?_
  rotate_left
  · intro w'
    go_simp
    with_reducible rfl
  rotate_left
  · simp only [Act.put, List.setIfInBounds_toArray, List.set_cons_zero, List.set_cons_succ, i64_w, i32_w]
    rfl
  refine pure_ (i := 13) (N := some 28) (v := ?_) (a' := ?_) #[false, true, true, true, true, false, false, true, true, false, false, false, false, true, false, false, false, false] rfl rfl (by kernel_rfl) (fun _ _ _ h => h) (Or.inl ⟨by rfl, ?_⟩) ?_ ?_
  rotate_left
  · intro w'
    go_simp
    with_reducible rfl
  rotate_left
  · simp only [Act.put, List.setIfInBounds_toArray, List.set_cons_zero, List.set_cons_succ, i64_w, i32_w]
    rfl
  refine take_ (i := 0) (N := some 15) (v := ?_) (a' := ?_) #[true, true, true, true, true, false, false, true, true, false, false, false, false, true, false, false, false, false] rfl rfl (by kernel_rfl) (fun _ _ _ h => h) (Or.inl ⟨by rfl, ?_⟩) hHeld ?_ ?_
  rotate_left
  · rintro w' ⟨s0, s1, s2, s3⟩
    go_simp
    with_reducible rfl
  rotate_left
  · simp only [Act.put, List.setIfInBounds_toArray, List.set_cons_zero, List.set_cons_succ, i64_w, i32_w]
    rfl
  refine take_ (i := 5) (N := some 20) (v := ?_) (a' := ?_) #[true, true, true, true, true, true, false, true, true, false, false, false, false, true, false, false, false, false] rfl rfl (by kernel_rfl) (fun _ _ _ h => h) (Or.inl ⟨by rfl, ?_⟩) hHeld ?_ ?_
  rotate_left
  · rintro w' ⟨s0, s1, s2, s3⟩
    go_simp
    with_reducible rfl
  rotate_left
  · simp only [Act.put, List.setIfInBounds_toArray, List.set_cons_zero, List.set_cons_succ, i64_w, i32_w]
    rfl
  refine pure_ (i := 6) (N := some 21) (v := ?_) (a' := ?_) #[true, true, true, true, true, true, true, true, true, false, false, false, false, true, false, false, false, false] rfl rfl (by kernel_rfl) (fun _ _ _ h => h) (Or.inl ⟨by rfl, ?_⟩) ?_ ?_
  rotate_left
  · intro w'
    go_simp
    with_reducible rfl
  rotate_left
  · simp only [Act.put, List.setIfInBounds_toArray, List.set_cons_zero, List.set_cons_succ, i64_w, i32_w]
    rfl
  refine take_ (i := 9) (N := some 24) (v := ?_) (a' := ?_) #[true, true, true, true, true, true, true, true, true, true, false, false, false, true, false, false, false, false] rfl rfl (by kernel_rfl) (fun _ _ _ h => h) (Or.inl ⟨by rfl, ?_⟩) hHeld ?_ ?_
  rotate_left
  · rintro w' ⟨s0, s1, s2, s3⟩
    go_simp
    with_reducible rfl
  rotate_left
  · simp only [Act.put, List.setIfInBounds_toArray, List.set_cons_zero, List.set_cons_succ, i64_w, i32_w]
    rfl
  refine pure_ (i := 10) (N := some 25) (v := ?_) (a' := ?_) #[true, true, true, true, true, true, true, true, true, true, true, false, false, true, false, false, false, false] rfl rfl (by kernel_rfl) (fun _ _ _ h => h) (Or.inl ⟨by rfl, ?_⟩) ?_ ?_
  rotate_left
  · intro w'
    go_simp
    with_reducible rfl
  rotate_left
  · simp only [Act.put, List.setIfInBounds_toArray, List.set_cons_zero, List.set_cons_succ, i64_w, i32_w]
    rfl
  refine pure_ (i := 11) (N := some 26) (v := ?_) (a' := ?_) #[true, true, true, true, true, true, true, true, true, true, true, true, false, true, false, false, false, false] rfl rfl (by kernel_rfl) (fun _ _ _ h => h) (Or.inl ⟨by rfl, ?_⟩) ?_ ?_
  rotate_left
  · intro w'
    go_simp
    with_reducible rfl
  rotate_left
  · simp only [Act.put, List.setIfInBounds_toArray, List.set_cons_zero, List.set_cons_succ, i64_w, i32_w]
    rfl
  refine join_ (σ := Value × Value) 3 #[true, true, true, true, true, true, true, true, true, true, true, true, true, true, true, false, false, false] (fun s => [(27, s.1), (29, s.2)]) (fun s w' => (∃ A n c, s.1 = Value.slice A n c) ∧ (∃ A n c, s.2 = Value.slice A n c) ∧ w'.heap[g1]? = some (.cells #[.int .i64 a, .int .i64 b, .int .i64 c, .int .i64 d] 23 (0, 0)) ∧ Below w.heap.size w w') ?_ ?_
  rotate_left
  · intro hCont
    refine two_ (i := 12) (j := 14) (Ni := some 27) (Nj := some 29) #[true, true, true, true, true, true, true, true, true, true, true, true, true, true, false, false, false, false] #[true, true, true, true, true, true, true, true, true, true, true, true, false, true, true, false, false, false] rfl rfl rfl rfl (by kernel_rfl) (by decide) (by decide) (fun K hK => ?_) (fun K hK => ?_)
    · skip
      refine Kd.R_make_step (Kd.slice 5 (Kd.int .u8)) _ 45 (by rfl) (N := 27) rfl 34 _ _ rfl _ rfl rfl Try.underlying34 (.slice none 0 0) 24 info45 rfl (by decide) (by omega) ([] : List Int) (ok := fun _ => True) (okp := fun _ => True) ⟨_, rfl, Kd.R_nil _ _ _ _ _⟩ (fun _ hk => hk) trivial (by have := HM.out; rw [this.1]; omega) (by have := HM.out; rw [this.1]; omega) (Below.refl _ _) (Nat.le_refl _) ?_
      intro vm12 wm12_0 ho hb hg_ hnew_
      obtain ⟨A_, c_, e_⟩ := Kd.R_slice ho
      have hv12 : ∃ A n c, vm12 = .slice A n c := ⟨_, _, _, e_⟩
      clear ho hg_ hnew_
      have n_ := Aside0.mk (blk_below BKg1.out hb)
      have m_ := Aside0.mk (below_step HB.out hb)
      clear BKg1 HB hb
      have BKg1 := n_
      have HB := m_
      clear n_ m_
      refine hK.out _ _ ⟨(blk_cell BKg1.out 0).trans rfl, (blk_cell BKg1.out 1).trans rfl, (blk_cell BKg1.out 2).trans rfl, (blk_cell BKg1.out 3).trans rfl⟩ (fun hHeld => ?_)
      clear hK K
      refine norm_ (a' := ?_) ?_ ?_
      rotate_left
      · show Act.put _ (some 27) _ = _
        simp only [Act.put, List.setIfInBounds_toArray, List.set_cons_zero, List.set_cons_succ, i64_w, i32_w]
        rfl
      refine one_ (i := 14) (N := some 29) #[true, true, true, true, true, true, true, true, true, true, true, true, true, true, true, false, false, false] rfl rfl (by kernel_rfl) (by decide) (fun K hK => ?_)
      refine Kd.R_make_step Kd.bool _ 4 (by rfl) (N := 29) rfl 76 _ _ rfl _ rfl rfl Try.underlying76 (.bool false) 1 info4 rfl (by decide) (by omega) false (ok := fun _ => True) (okp := fun _ => True) rfl (fun _ hk => hk) trivial (by have := HM.out; omega) (by have := HM.out; omega) (Below.refl _ _) (Nat.le_refl _) ?_
      intro vm14 wm14_1 ho hb hg_ hnew_
      obtain ⟨A_, c_, e_⟩ := Kd.R_slice ho
      have hv14 : ∃ A n c, vm14 = .slice A n c := ⟨_, _, _, e_⟩
      clear ho hg_ hnew_
      have n_ := Aside0.mk (blk_below BKg1.out hb)
      have m_ := Aside0.mk (below_step HB.out hb)
      clear BKg1 HB hb
      have BKg1 := n_
      have HB := m_
      clear n_ m_
      refine hK.out _ _ ⟨(blk_cell BKg1.out 0).trans rfl, (blk_cell BKg1.out 1).trans rfl, (blk_cell BKg1.out 2).trans rfl, (blk_cell BKg1.out 3).trans rfl⟩ (fun hHeld => ?_)
      clear hK K
      refine norm_ (a' := ?_) ?_ ?_
      rotate_left
      · show Act.put _ (some 29) _ = _
        simp only [Act.put, List.setIfInBounds_toArray, List.set_cons_zero, List.set_cons_succ, i64_w, i32_w]
        rfl
      exact norm_ (by simp only [putAll, Act.put, List.setIfInBounds_toArray, List.set_cons_zero, List.set_cons_succ]) (hCont (vm12, vm14) _ ⟨hv12, hv14, BKg1.out, HB.out⟩)
    · skip
      refine Kd.R_make_step Kd.bool _ 4 (by rfl) (N := 29) rfl 76 _ _ rfl _ rfl rfl Try.underlying76 (.bool false) 1 info4 rfl (by decide) (by omega) false (ok := fun _ => True) (okp := fun _ => True) rfl (fun _ hk => hk) trivial (by have := HM.out; omega) (by have := HM.out; omega) (Below.refl _ _) (Nat.le_refl _) ?_
      intro vm14 wm14_0 ho hb hg_ hnew_
      obtain ⟨A_, c_, e_⟩ := Kd.R_slice ho
      have hv14 : ∃ A n c, vm14 = .slice A n c := ⟨_, _, _, e_⟩
      clear ho hg_ hnew_
      have n_ := Aside0.mk (blk_below BKg1.out hb)
      have m_ := Aside0.mk (below_step HB.out hb)
      clear BKg1 HB hb
      have BKg1 := n_
      have HB := m_
      clear n_ m_
      refine hK.out _ _ ⟨(blk_cell BKg1.out 0).trans rfl, (blk_cell BKg1.out 1).trans rfl, (blk_cell BKg1.out 2).trans rfl, (blk_cell BKg1.out 3).trans rfl⟩ (fun hHeld => ?_)
      clear hK K
      refine norm_ (a' := ?_) ?_ ?_
      rotate_left
      · show Act.put _ (some 29) _ = _
        simp only [Act.put, List.setIfInBounds_toArray, List.set_cons_zero, List.set_cons_succ, i64_w, i32_w]
        rfl
      refine one_ (i := 12) (N := some 27) #[true, true, true, true, true, true, true, true, true, true, true, true, true, true, true, false, false, false] rfl rfl (by kernel_rfl) (by decide) (fun K hK => ?_)
      refine Kd.R_make_step (Kd.slice 5 (Kd.int .u8)) _ 45 (by rfl) (N := 27) rfl 34 _ _ rfl _ rfl rfl Try.underlying34 (.slice none 0 0) 24 info45 rfl (by decide) (by omega) ([] : List Int) (ok := fun _ => True) (okp := fun _ => True) ⟨_, rfl, Kd.R_nil _ _ _ _ _⟩ (fun _ hk => hk) trivial (by have := HM.out; rw [this.1]; omega) (by have := HM.out; rw [this.1]; omega) (Below.refl _ _) (Nat.le_refl _) ?_
      intro vm12 wm12_1 ho hb hg_ hnew_
      obtain ⟨A_, c_, e_⟩ := Kd.R_slice ho
      have hv12 : ∃ A n c, vm12 = .slice A n c := ⟨_, _, _, e_⟩
      clear ho hg_ hnew_
      have n_ := Aside0.mk (blk_below BKg1.out hb)
      have m_ := Aside0.mk (below_step HB.out hb)
      clear BKg1 HB hb
      have BKg1 := n_
      have HB := m_
      clear n_ m_
      refine hK.out _ _ ⟨(blk_cell BKg1.out 0).trans rfl, (blk_cell BKg1.out 1).trans rfl, (blk_cell BKg1.out 2).trans rfl, (blk_cell BKg1.out 3).trans rfl⟩ (fun hHeld => ?_)
      clear hK K
      refine norm_ (a' := ?_) ?_ ?_
      rotate_left
      · show Act.put _ (some 27) _ = _
        simp only [Act.put, List.setIfInBounds_toArray, List.set_cons_zero, List.set_cons_succ, i64_w, i32_w]
        rfl
      exact norm_ (by simp only [putAll, Act.put, List.setIfInBounds_toArray, List.set_cons_zero, List.set_cons_succ]) (hCont (vm12, vm14) _ ⟨hv12, hv14, BKg1.out, HB.out⟩)
  rintro ⟨v27, v29⟩ wf ⟨⟨A7, n7, c7, e7⟩, ⟨A9, n9, c9, e9⟩, hbk, hbw⟩
  obtain rfl : v27 = .slice A7 n7 c7 := e7
  obtain rfl : v29 = .slice A9 n9 c9 := e9
  clear BKg1 HB
  have BKg1 := Aside0.mk hbk
  have HB := Aside0.mk hbw
  clear hbk hbw
  have hHeld : (fun w' => w'.cell? ⟨g1, 0, none⟩ = some (.int .i64 a) ∧ w'.cell? ⟨g1, 1, none⟩ = some (.int .i64 b) ∧ w'.cell? ⟨g1, 2, none⟩ = some (.int .i64 c) ∧ w'.cell? ⟨g1, 3, none⟩ = some (.int .i64 d)) wf := ⟨(blk_cell BKg1.out 0).trans rfl, (blk_cell BKg1.out 1).trans rfl, (blk_cell BKg1.out 2).trans rfl, (blk_cell BKg1.out 3).trans rfl⟩
  refine norm_ (a' := ?_) ?_ ?_
  rotate_left
  · simp only [putAll, Act.put, List.setIfInBounds_toArray, List.set_cons_zero, List.set_cons_succ]
    rfl
  refine pure_ (i := 15) (N := some 30) (v := ?_) (a' := ?_) #[true, true, true, true, true, true, true, true, true, true, true, true, true, true, true, true, false, false] rfl rfl (by kernel_rfl) (fun _ _ _ h => h) (Or.inl ⟨by rfl, ?_⟩) ?_ ?_
  rotate_left
  · intro w'
    go_simp
    with_reducible rfl
  rotate_left
  · simp only [Act.put, List.setIfInBounds_toArray, List.set_cons_zero, List.set_cons_succ, i64_w, i32_w]
    rfl
  refine one_ (i := 16) (N := some 31) #[true, true, true, true, true, true, true, true, true, true, true, true, true, true, true, true, true, false] rfl rfl (by kernel_rfl) (by decide) (fun K hK => ?_)
  refine box_step (by rfl) (N := 31) rfl (cs := #[.int .i64 a, .int .i64 b, .int .i64 c, .int .i64 d, .int .i64 (wrap64 (wrap64 (12 + wrap64 (4 * (a + b))) + c)), .slice A7 n7 c7, .slice A9 n9 c9]) (t := 78) ?hr ?_
  (case hr => first | (go_simp; done) | (go_simp; rfl))
  intro g6 hg w8 hbox hb
  have n_ := Aside0.mk (blk_below BKg1.out hb)
  have m_ := Aside0.mk (below_step HB.out hb)
  clear BKg1 HB
  have BKg1 := n_
  have HB := m_
  clear n_ m_ hb hg hbox
  refine hK.out _ _ ⟨(blk_cell BKg1.out 0).trans rfl, (blk_cell BKg1.out 1).trans rfl, (blk_cell BKg1.out 2).trans rfl, (blk_cell BKg1.out 3).trans rfl⟩ (fun hHeld => ?_)
  clear hK K
  refine norm_ (a' := ?_) ?_ ?_
  rotate_left
  · show Act.put _ (some 31) _ = _
    simp only [Act.put, List.setIfInBounds_toArray, List.set_cons_zero, List.set_cons_succ, i64_w, i32_w]
    rfl
  refine pure_ (i := 17) (N := some 6) (v := ?_) (a' := ?_) #[true, true, true, true, true, true, true, true, true, true, true, true, true, true, true, true, true, true] rfl rfl (by kernel_rfl) (fun _ _ _ h => h) (Or.inl ⟨by rfl, ?_⟩) ?_ ?_
  rotate_left
  · intro w'
    go_simp
    with_reducible rfl
  rotate_left
  · simp only [Act.put, List.setIfInBounds_toArray, List.set_cons_zero, List.set_cons_succ, i64_w, i32_w]
    rfl
  refine done_ (by kernel_rfl) ?_
  clear BKg1
  have HS8 := Aside0.mk (show w.heap.size ≤ w8.heap.size from HB.out.size)
  have tok3 : True := trivial
  go_wp2_with (first | (have _ := tok3; (with_reducible refine gate_dst (N := 34) rfl ?_); refine box_event ?hg (N := 34) ?hd (cs := #[.pointer (some ⟨g6, 0, none⟩), .bool false, .int .i64 (-1), .int .i64 0]) (t := 58) ?hr ?_; (case hd => rfl); (case hg => rfl); (case hr => first | (go_simp; done) | (go_simp; rfl)); intro g9 hg w4 hbox hb; have hs : Below w8.heap.size w8 w4 := below_step (by repeat (first | exact Below.refl _ _ | apply below_alloc | apply pw_below_drewN | apply below_drew1)) hb; have SZ4 := Aside0.mk (show w8.heap.size ≤ g9 ∧ g9 < w4.heap.size from ⟨by rw [hg]; exact (below_size (by repeat (first | exact Below.refl _ _ | apply below_alloc | apply pw_below_drewN | apply below_drew1))), blk_lt hbox⟩); have n_ := Aside0.mk (below_step HB.out hs); clear HB; have HB := n_; clear n_; have BKg9 := Aside0.mk hbox; clear hb hbox hg hs; have hcg9_0 : w4.cell? ⟨g9, 0, none⟩ = some (.pointer (some ⟨g6, 0, none⟩)) := (blk_cell BKg9.out 0).trans rfl; have hfg9_0 := blk_frozen BKg9.out 0; have hcg9_1 : w4.cell? ⟨g9, 1, none⟩ = some (.bool false) := (blk_cell BKg9.out 1).trans rfl; have hfg9_1 := blk_frozen BKg9.out 1; have hcg9_2 : w4.cell? ⟨g9, 2, none⟩ = some (.int .i64 (-1)) := (blk_cell BKg9.out 2).trans rfl; have hfg9_2 := blk_frozen BKg9.out 2; have hcg9_3 : w4.cell? ⟨g9, 3, none⟩ = some (.int .i64 0) := (blk_cell BKg9.out 3).trans rfl; have hfg9_3 := blk_frozen BKg9.out 3; clear tok3))
  go_ret2
  exact ⟨_, rfl, ⟨_, BKg9.out⟩, HB.out⟩
set_option maxHeartbeats 4000000 in
set_option maxRecDepth 100000 in
theorem made_yes (D dr : Nat) (x y z : Value) (w : World) (hD : w.heap[D]? = some (.cells #[.pointer (some ⟨dr, 0, none⟩), x, y, z] 58 (0, 0))) : Calls Try.prog 45 #[.pointer (some ⟨D, 0, none⟩)] w fun e w' => e = .returned (.bool true) ∧ Drawn0 w w' := by
  have hc0 : w.cell? ⟨D, 0, none⟩ = some (.pointer (some ⟨dr, 0, none⟩)) := (blk_cell hD 0).trans rfl
  have hf0 := blk_frozen hD 0
  clear hD
  go_enter Try.func45, Try.ntmps45
  go_wp2
  go_ret
  exact ⟨rfl, Drawn0.refl _⟩
set_option maxHeartbeats 4000000 in
set_option maxRecDepth 100000 in
theorem Writes_yes (D dr : Nat) (o : Bool) (y : Value) (n : Int) (w : World) (hD : w.heap[D]? = some (.cells #[.pointer (some ⟨dr, 0, none⟩), .bool o, y, .int .i64 n] 58 (0, 0))) : Calls Try.prog 20 #[.pointer (some ⟨D, 0, none⟩)] w fun e w' => e = .returned (.int .i64 n) ∧ Below w.heap.size w w' := by
  have HN := Aside0.mk hD
  have HB := Aside0.mk (Below.refl w.heap.size w)
  have hc : w.cell? ⟨D, 3, none⟩ = some (.int .i64 n) := (blk_cell hD 3).trans rfl
  have hf := blk_frozen hD 3
  clear hD
  go_enter Try.func20, Try.ntmps20
  go_wp2_with (go_at_call 45; (with_reducible refine (made_yes D dr _ _ _ _ (blk_below HN.out (by repeat (first | exact Below.refl _ _ | apply below_alloc | apply pw_below_drewN | apply below_drew1)))).mono ?_); rintro e w1 ⟨rfl, ⟨nd, rfl⟩⟩)
  go_ret
  exact ⟨rfl, (by repeat (first | exact HB.out | apply below_alloc | apply pw_below_drewN | apply below_drew1))⟩
set_option maxHeartbeats 4000000 in
set_option maxRecDepth 100000 in
theorem Off_yes (D dr : Nat) (o : Bool) (y : Value) (n : Int) (w : World) (hD : w.heap[D]? = some (.cells #[.pointer (some ⟨dr, 0, none⟩), .bool o, y, .int .i64 n] 58 (0, 0))) : Calls Try.prog 19 #[.pointer (some ⟨D, 0, none⟩)] w fun e w' => e = .returned (.bool o) ∧ Below w.heap.size w w' := by
  have HN := Aside0.mk hD
  have HB := Aside0.mk (Below.refl w.heap.size w)
  have hc : w.cell? ⟨D, 1, none⟩ = some (.bool o) := (blk_cell hD 1).trans rfl
  have hf := blk_frozen hD 1
  clear hD
  go_enter Try.func19, Try.ntmps19
  go_wp2_with (go_at_call 45; (with_reducible refine (made_yes D dr _ _ _ _ (blk_below HN.out (by repeat (first | exact Below.refl _ _ | apply below_alloc | apply pw_below_drewN | apply below_drew1)))).mono ?_); rintro e w1 ⟨rfl, ⟨nd, rfl⟩⟩)
  go_ret
  exact ⟨rfl, (by repeat (first | exact HB.out | apply below_alloc | apply pw_below_drewN | apply below_drew1))⟩
set_option maxHeartbeats 8000000 in
set_option maxRecDepth 100000 in
theorem awake_ev (w : World) : Calls Try.prog 8 #[] w fun e w' => e = .returned (.bool true) ∧ Below w.heap.size w w' := by
  have HB := Aside0.mk (Below.refl w.heap.size w)
  have HP := Aside0.mk (show okP 2 1 16 8 = true by decide)
  go_enter Try.func8, Try.ntmps8
  have tok1 : True := trivial
  go_wp2_with (first | (have _ := tok1; go_at_call 10; (with_reducible refine (New_some 2 1 16 8 _ HP.out).mono ?_); rintro e w1 ⟨D, dr, rfl, hD, hb⟩; have hs : Below w.heap.size w w1 := below_step (by repeat (first | exact Below.refl _ _ | apply below_alloc | apply pw_below_drewN | apply below_drew1)) hb; have hl : w.heap.size ≤ _ := below_size (w := w) (by repeat (first | exact Below.refl _ _ | apply below_alloc | apply pw_below_drewN | apply below_drew1)); have SZ1 := Aside0.mk (show w.heap.size ≤ w1.heap.size from hs.size); have n_ := Aside0.mk (below_step HB.out hs); clear HB; have HB := n_; clear n_; have BKD := Aside0.mk hD; clear hD; clear hb hs; (try clear hl); clear tok1; have tok2 : True := trivial) | (have _ := tok2; go_at_call 20; (with_reducible refine (Writes_yes D dr false _ 0 _ (by (with_reducible repeat (first | refine blk_drewN ?_ _ | refine blk_drew ?_ | refine blk_alloc ?_ _)); exact BKD.out)).mono ?_); rintro e w2 ⟨rfl, hb⟩; (try clear hcD_0 hfD_0); (try clear hcD_1 hfD_1); (try clear hcD_2 hfD_2); (try clear hcD_3 hfD_3); have hs : Below w1.heap.size w1 w2 := below_step (by repeat (first | exact Below.refl _ _ | apply below_alloc | apply pw_below_drewN | apply below_drew1)) hb; have hl : w1.heap.size ≤ _ := below_size (w := w1) (by repeat (first | exact Below.refl _ _ | apply below_alloc | apply pw_below_drewN | apply below_drew1)); have SZ2 := Aside0.mk (show w1.heap.size ≤ w2.heap.size from hs.size); have n_ := Aside0.mk (blk_below BKD.out hs); clear BKD; have BKD := n_; clear n_; have n_ := Aside0.mk (below_step HB.out hs); clear HB; have HB := n_; clear n_; clear hb hs; (try clear hl); have hcD_0 : w2.cell? ⟨D, 0, none⟩ = some (.pointer (some ⟨dr, 0, none⟩)) := (blk_cell BKD.out 0).trans rfl; have hfD_0 := blk_frozen BKD.out 0; have hcD_1 : w2.cell? ⟨D, 1, none⟩ = some (.bool false) := (blk_cell BKD.out 1).trans rfl; have hfD_1 := blk_frozen BKD.out 1; have hcD_2 : w2.cell? ⟨D, 2, none⟩ = some (.int .i64 (-1)) := (blk_cell BKD.out 2).trans rfl; have hfD_2 := blk_frozen BKD.out 2; have hcD_3 : w2.cell? ⟨D, 3, none⟩ = some (.int .i64 0) := (blk_cell BKD.out 3).trans rfl; have hfD_3 := blk_frozen BKD.out 3; clear tok2; have tok3 : True := trivial) | (have _ := tok3; go_at_call 19; (with_reducible refine (Off_yes D dr false _ 0 _ (by (with_reducible repeat (first | refine blk_drewN ?_ _ | refine blk_drew ?_ | refine blk_alloc ?_ _)); exact BKD.out)).mono ?_); rintro e w3 ⟨rfl, hb⟩; (try clear hcD_0 hfD_0); (try clear hcD_1 hfD_1); (try clear hcD_2 hfD_2); (try clear hcD_3 hfD_3); have hs : Below w2.heap.size w2 w3 := below_step (by repeat (first | exact Below.refl _ _ | apply below_alloc | apply pw_below_drewN | apply below_drew1)) hb; have hl : w2.heap.size ≤ _ := below_size (w := w2) (by repeat (first | exact Below.refl _ _ | apply below_alloc | apply pw_below_drewN | apply below_drew1)); have SZ3 := Aside0.mk (show w2.heap.size ≤ w3.heap.size from hs.size); have n_ := Aside0.mk (blk_below BKD.out hs); clear BKD; have BKD := n_; clear n_; have n_ := Aside0.mk (below_step HB.out hs); clear HB; have HB := n_; clear n_; clear hb hs; (try clear hl); have hcD_0 : w3.cell? ⟨D, 0, none⟩ = some (.pointer (some ⟨dr, 0, none⟩)) := (blk_cell BKD.out 0).trans rfl; have hfD_0 := blk_frozen BKD.out 0; have hcD_1 : w3.cell? ⟨D, 1, none⟩ = some (.bool false) := (blk_cell BKD.out 1).trans rfl; have hfD_1 := blk_frozen BKD.out 1; have hcD_2 : w3.cell? ⟨D, 2, none⟩ = some (.int .i64 (-1)) := (blk_cell BKD.out 2).trans rfl; have hfD_2 := blk_frozen BKD.out 2; have hcD_3 : w3.cell? ⟨D, 3, none⟩ = some (.int .i64 0) := (blk_cell BKD.out 3).trans rfl; have hfD_3 := blk_frozen BKD.out 3; clear tok3))
  go_ret
  exact ⟨rfl, HB.out⟩
end Go.Proofs.Ytemmhgfjfbdggaa.P

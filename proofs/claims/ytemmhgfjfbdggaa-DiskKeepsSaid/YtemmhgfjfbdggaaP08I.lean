import Derived.Test.YtemmhgfjfbdggaaP08R
import Derived.Test.YtemmhgfjfbdggaaPx4
namespace Go.Proofs.Ytemmhgfjfbdggaa.P
open Go.RowKit Go.Proofs.YtemmhgfjfbdggaaW.PrintWords Go.Proofs.YtemmhgfjfbdggaaW.PrintLast Go.Proofs.YtemmhgfjfbdggaaW.PrintMore
attribute [local go_sem] max2_int min2_int max_two min_two max_three min_three max_four min_four
set_option linter.unusedVariables false
set_option linter.unusedSimpArgs false
set_option maxHeartbeats 8000000 in
set_option maxRecDepth 100000 in
theorem image_yes (dr : Nat) (a b c d sz : Int) (As Ag : Option Addr) (cs ng cg : Nat) (slots : List (List Int)) (w : World) (hR : w.heap[dr]? = some (.cells #[.int .i64 a, .int .i64 b, .int .i64 c, .int .i64 d, .int .i64 sz, .slice As slots.length cs, .slice Ag ng cg] 78 (0, 0))) (hC : Kd.C (Kd.slice 5 (Kd.int .u8)) w As slots.length slots) (hl : slots.length ≤ 100000) (hel : ∀ x ∈ slots, x.length ≤ 1000000) : Calls Try.prog 49 #[.pointer (some ⟨dr, 0, none⟩)] w fun e w' => ∃ v : Value, e = .returned (.agg #[.int .i64 a, .int .i64 b, .int .i64 c, .int .i64 d, v]) ∧ Kd.R (Kd.slice 5 (Kd.int .u8)) 45 w' w.heap.size (fun _ => True) v slots ∧ Below w.heap.size w w' := by
  have hu36 := Try.underlying36
  have hu23 := Try.underlying23
  have hu78 := Try.underlying78
  have HB := Aside0.mk (Below.refl w.heap.size w)
  have BKdr := Aside0.mk hR
  have HC := Aside0.mk hC
  have HL := Aside0.mk hl
  have HE := Aside0.mk hel
  have HZ := Aside0.mk (show dr < w.heap.size from blk_lt hR)
  clear hR hC hl hel
  have hcdr_0 : w.cell? ⟨dr, 0, none⟩ = some (.int .i64 a) := (blk_cell BKdr.out 0).trans rfl
  have hfdr_0 := blk_frozen BKdr.out 0
  have hcdr_1 : w.cell? ⟨dr, 1, none⟩ = some (.int .i64 b) := (blk_cell BKdr.out 1).trans rfl
  have hfdr_1 := blk_frozen BKdr.out 1
  have hcdr_2 : w.cell? ⟨dr, 2, none⟩ = some (.int .i64 c) := (blk_cell BKdr.out 2).trans rfl
  have hfdr_2 := blk_frozen BKdr.out 2
  have hcdr_3 : w.cell? ⟨dr, 3, none⟩ = some (.int .i64 d) := (blk_cell BKdr.out 3).trans rfl
  have hfdr_3 := blk_frozen BKdr.out 3
  have hcdr_4 : w.cell? ⟨dr, 4, none⟩ = some (.int .i64 sz) := (blk_cell BKdr.out 4).trans rfl
  have hfdr_4 := blk_frozen BKdr.out 4
  have hcdr_5 : w.cell? ⟨dr, 5, none⟩ = some (.slice As slots.length cs) := (blk_cell BKdr.out 5).trans rfl
  have hfdr_5 := blk_frozen BKdr.out 5
  have hcdr_6 : w.cell? ⟨dr, 6, none⟩ = some (.slice Ag ng cg) := (blk_cell BKdr.out 6).trans rfl
  have hfdr_6 := blk_frozen BKdr.out 6
  go_enter Try.func49, Try.ntmps49
  have tok1 : True := trivial
  go_wp2_with (first | (have _ := tok1; (with_reducible refine gate_dst (N := 2) rfl ?_); refine box_event ?hg (N := 2) ?hd (cs := #[.int .i64 0, .int .i64 0, .int .i64 0, .int .i64 0, .slice none 0 0]) (t := 36) ?hr ?_; (case hd => rfl); (case hg => rfl); (case hr => first | (go_simp; done) | (go_simp; rfl)); intro g2 hg w1 hbox hb; have hs : Below w.heap.size w w1 := below_step (by repeat (first | exact Below.refl _ _ | apply below_alloc | apply pw_below_drewN | apply below_drew1)) hb; have SZ1 := Aside0.mk (show w.heap.size ≤ g2 ∧ g2 < w1.heap.size from ⟨by rw [hg]; exact (below_size (by repeat (first | exact Below.refl _ _ | apply below_alloc | apply pw_below_drewN | apply below_drew1))), blk_lt hbox⟩); (try clear hcdr_0 hfdr_0); (try clear hcdr_1 hfdr_1); (try clear hcdr_2 hfdr_2); (try clear hcdr_3 hfdr_3); (try clear hcdr_4 hfdr_4); (try clear hcdr_5 hfdr_5); (try clear hcdr_6 hfdr_6); replace BKdr := Aside0.mk (blk_below BKdr.out hs); replace HB := Aside0.mk (below_step HB.out hs); have hnedr_g2 : dr ≠ g2 := (by have := SZ1.out; have := HZ.out; omega); have hneg2_dr : g2 ≠ dr := hnedr_g2.symm; have BKg2 := Aside0.mk hbox; clear hb hbox hg hs; have hcdr_0 : w1.cell? ⟨dr, 0, none⟩ = some (.int .i64 a) := (blk_cell BKdr.out 0).trans rfl; have hfdr_0 := blk_frozen BKdr.out 0; have hcdr_1 : w1.cell? ⟨dr, 1, none⟩ = some (.int .i64 b) := (blk_cell BKdr.out 1).trans rfl; have hfdr_1 := blk_frozen BKdr.out 1; have hcdr_2 : w1.cell? ⟨dr, 2, none⟩ = some (.int .i64 c) := (blk_cell BKdr.out 2).trans rfl; have hfdr_2 := blk_frozen BKdr.out 2; have hcdr_3 : w1.cell? ⟨dr, 3, none⟩ = some (.int .i64 d) := (blk_cell BKdr.out 3).trans rfl; have hfdr_3 := blk_frozen BKdr.out 3; have hcdr_4 : w1.cell? ⟨dr, 4, none⟩ = some (.int .i64 sz) := (blk_cell BKdr.out 4).trans rfl; have hfdr_4 := blk_frozen BKdr.out 4; have hcdr_5 : w1.cell? ⟨dr, 5, none⟩ = some (.slice As slots.length cs) := (blk_cell BKdr.out 5).trans rfl; have hfdr_5 := blk_frozen BKdr.out 5; have hcdr_6 : w1.cell? ⟨dr, 6, none⟩ = some (.slice Ag ng cg) := (blk_cell BKdr.out 6).trans rfl; have hfdr_6 := blk_frozen BKdr.out 6; have hcg2_0 : w1.cell? ⟨g2, 0, none⟩ = some (.int .i64 0) := (blk_cell BKg2.out 0).trans rfl; have hfg2_0 := blk_frozen BKg2.out 0; have hcg2_1 : w1.cell? ⟨g2, 1, none⟩ = some (.int .i64 0) := (blk_cell BKg2.out 1).trans rfl; have hfg2_1 := blk_frozen BKg2.out 1; have hcg2_2 : w1.cell? ⟨g2, 2, none⟩ = some (.int .i64 0) := (blk_cell BKg2.out 2).trans rfl; have hfg2_2 := blk_frozen BKg2.out 2; have hcg2_3 : w1.cell? ⟨g2, 3, none⟩ = some (.int .i64 0) := (blk_cell BKg2.out 3).trans rfl; have hfg2_3 := blk_frozen BKg2.out 3; have hcg2_4 : w1.cell? ⟨g2, 4, none⟩ = some (.slice none 0 0) := (blk_cell BKg2.out 4).trans rfl; have hfg2_4 := blk_frozen BKg2.out 4; clear tok1))
  (try clear hcdr_0 hfdr_0)
  (try clear hcdr_1 hfdr_1)
  (try clear hcdr_2 hfdr_2)
  (try clear hcdr_3 hfdr_3)
  (try clear hcdr_4 hfdr_4)
  (try clear hcdr_5 hfdr_5)
  (try clear hcdr_6 hfdr_6)
  (try clear hcg2_0 hfg2_0)
  (try clear hcg2_1 hfg2_1)
  (try clear hcg2_2 hfg2_2)
  (try clear hcg2_3 hfg2_3)
  (try clear hcg2_4 hfg2_4)
  have hs : Below w1.heap.size w1 (World.drew w1) := below_drew1 (Below.refl _ _)
  replace BKdr := Aside0.mk (blk_below BKdr.out hs)
  replace BKg2 := Aside0.mk (blk_below BKg2.out hs)
  have n_ := Aside0.mk (below_step HB.out hs)
  clear HB
  have HB := n_
  clear n_ hs
  have HGE2 := Aside0.mk (show w.heap.size ≤ g2 by have := SZ1.out; omega)
  refine start_ (n := 13) (S := fun w' => w'.cell? ⟨dr, 0, none⟩ = some (.int .i64 a) ∧ w'.cell? ⟨dr, 1, none⟩ = some (.int .i64 b) ∧ w'.cell? ⟨dr, 2, none⟩ = some (.int .i64 c) ∧ w'.cell? ⟨dr, 3, none⟩ = some (.int .i64 d) ∧ w'.cell? ⟨dr, 4, none⟩ = some (.int .i64 sz) ∧ w'.cell? ⟨dr, 5, none⟩ = some (.slice As slots.length cs) ∧ w'.cell? ⟨dr, 6, none⟩ = some (.slice Ag ng cg)) (ds := [12]) #[false, false, false, false, false, false, false, false, false, false, false, false, false] (by kernel_rfl) rfl rfl ⟨(blk_cell BKdr.out 0).trans rfl, (blk_cell BKdr.out 1).trans rfl, (blk_cell BKdr.out 2).trans rfl, (blk_cell BKdr.out 3).trans rfl, (blk_cell BKdr.out 4).trans rfl, (blk_cell BKdr.out 5).trans rfl, (blk_cell BKdr.out 6).trans rfl⟩ (fun hHeld => ?_)
  generalize World.drew w1 = w2 at HB BKdr BKg2 hHeld ⊢
  refine pure_ (i := 0) (N := some 6) (v := ?_) (a' := ?_) #[true, false, false, false, false, false, false, false, false, false, false, false, false] rfl rfl (by kernel_rfl) (fun _ _ _ h => h) (Or.inl ⟨by rfl, ?_⟩) ?_ ?_
  rotate_left
  · intro w'
    go_simp
    with_reducible rfl
  rotate_left
  · simp only [Act.put, List.setIfInBounds_toArray, List.set_cons_zero, List.set_cons_succ, i64_w, i32_w]
    rfl
  refine pure_ (i := 1) (N := some 7) (v := ?_) (a' := ?_) #[true, true, false, false, false, false, false, false, false, false, false, false, false] rfl rfl (by kernel_rfl) (fun _ _ _ h => h) (Or.inl ⟨by rfl, ?_⟩) ?_ ?_
  rotate_left
  · intro w'
    go_simp
    with_reducible rfl
  rotate_left
  · simp only [Act.put, List.setIfInBounds_toArray, List.set_cons_zero, List.set_cons_succ, i64_w, i32_w]
    rfl
  refine pure_ (i := 2) (N := some 8) (v := ?_) (a' := ?_) #[true, true, true, false, false, false, false, false, false, false, false, false, false] rfl rfl (by kernel_rfl) (fun _ _ _ h => h) (Or.inl ⟨by rfl, ?_⟩) ?_ ?_
  rotate_left
  · intro w'
    go_simp
    with_reducible rfl
  rotate_left
  · simp only [Act.put, List.setIfInBounds_toArray, List.set_cons_zero, List.set_cons_succ, i64_w, i32_w]
    rfl
  refine pure_ (i := 4) (N := some 10) (v := ?_) (a' := ?_) #[true, true, true, false, true, false, false, false, false, false, false, false, false] rfl rfl (by kernel_rfl) (fun _ _ _ h => h) (Or.inl ⟨by rfl, ?_⟩) ?_ ?_
  rotate_left
  · intro w'
    go_simp
    with_reducible rfl
  rotate_left
  · simp only [Act.put, List.setIfInBounds_toArray, List.set_cons_zero, List.set_cons_succ, i64_w, i32_w]
    rfl
  refine pure_ (i := 5) (N := some 11) (v := ?_) (a' := ?_) #[true, true, true, false, true, true, false, false, false, false, false, false, false] rfl rfl (by kernel_rfl) (fun _ _ _ h => h) (Or.inl ⟨by rfl, ?_⟩) ?_ ?_
  rotate_left
  · intro w'
    go_simp
    with_reducible rfl
  rotate_left
  · simp only [Act.put, List.setIfInBounds_toArray, List.set_cons_zero, List.set_cons_succ, i64_w, i32_w]
    rfl
  refine pure_ (i := 6) (N := some 12) (v := ?_) (a' := ?_) #[true, true, true, false, true, true, true, false, false, false, false, false, false] rfl rfl (by kernel_rfl) (fun _ _ _ h => h) (Or.inl ⟨by rfl, ?_⟩) ?_ ?_
  rotate_left
  · intro w'
    go_simp
    with_reducible rfl
  rotate_left
  · simp only [Act.put, List.setIfInBounds_toArray, List.set_cons_zero, List.set_cons_succ, i64_w, i32_w]
    rfl
  refine take_ (i := 3) (N := some 9) (v := ?_) (a' := ?_) #[true, true, true, true, true, true, true, false, false, false, false, false, false] rfl rfl (by kernel_rfl) (fun _ _ _ h => h) (Or.inl ⟨by rfl, ?_⟩) hHeld ?_ ?_
  rotate_left
  · rintro w' ⟨s0, s1, s2, s3, s4, s5, s6⟩
    go_simp
    with_reducible rfl
  rotate_left
  · simp only [Act.put, List.setIfInBounds_toArray, List.set_cons_zero, List.set_cons_succ, i64_w, i32_w]
    rfl
  refine take_ (i := 7) (N := some 13) (v := ?_) (a' := ?_) #[true, true, true, true, true, true, true, true, false, false, false, false, false] rfl rfl (by kernel_rfl) (fun _ _ _ h => h) (Or.inl ⟨by rfl, ?_⟩) hHeld ?_ ?_
  rotate_left
  · rintro w' ⟨s0, s1, s2, s3, s4, s5, s6⟩
    go_simp
    with_reducible rfl
  rotate_left
  · simp only [Act.put, List.setIfInBounds_toArray, List.set_cons_zero, List.set_cons_succ, i64_w, i32_w]
    rfl
  refine pure_ (i := 8) (N := some 14) (v := ?_) (a' := ?_) #[true, true, true, true, true, true, true, true, true, false, false, false, false] rfl rfl (by kernel_rfl) (fun _ _ _ h => h) (Or.inl ⟨by rfl, ?_⟩) ?_ ?_
  rotate_left
  · intro w'
    go_simp
    with_reducible rfl
  rotate_left
  · simp only [Act.put, List.setIfInBounds_toArray, List.set_cons_zero, List.set_cons_succ, i64_w, i32_w]
    rfl
  refine join_ (σ := Option Addr × Nat × Nat) 1 #[true, true, true, true, true, true, true, true, true, true, true, true, false] (fun s => [(15, .slice s.1 slots.length s.2.1), (16, .agg #[.int .i64 a, .int .i64 b, .int .i64 c, .int .i64 d, .slice s.1 slots.length s.2.1]), (3, .pointer (some ⟨s.2.2, 0, none⟩))]) (fun s w' => Kd.R (Kd.slice 5 (Kd.int .u8)) 45 w' w.heap.size (fun _ => True) (.slice s.1 slots.length s.2.1) (List.replicate slots.length []) ∧ w'.heap[s.2.2]? = some (.cells #[.int .i64 0, .int .i64 0, .int .i64 0, .int .i64 0, .slice none 0 0] 36 (0, 0)) ∧ w.heap.size ≤ s.2.2 ∧ g2 ≠ s.2.2 ∧ w'.heap[g2]? = some (.cells #[.int .i64 0, .int .i64 0, .int .i64 0, .int .i64 0, .slice none 0 0] 36 (0, 0)) ∧ w'.heap[dr]? = some (.cells #[.int .i64 a, .int .i64 b, .int .i64 c, .int .i64 d, .int .i64 sz, .slice As slots.length cs, .slice Ag ng cg] 78 (0, 0)) ∧ Below w.heap.size w w') ?_ ?_
  rotate_left
  · intro hCont
    refine two_ (i := 9) (j := 11) (Ni := some 15) (Nj := some 3) #[true, true, true, true, true, true, true, true, true, true, false, false, false] #[true, true, true, true, true, true, true, true, true, false, false, true, false] rfl rfl rfl rfl (by kernel_rfl) (by decide) (by decide) (fun K hK => ?_) (fun K hK => ?_)
    · skip
      refine Kd.R_make_step (Kd.slice 5 (Kd.int .u8)) w.heap.size 45 (by rfl) (N := 15) rfl 34 _ _ rfl _ rfl rfl Try.underlying34 (.slice none 0 0) 24 info45 rfl (by decide) (by omega) ([] : List Int) (ok := fun _ => True) (okp := fun _ => True) ⟨_, rfl, Kd.R_nil _ _ _ _ _⟩ (fun _ hk => hk) trivial (by omega) (by have := HL.out; omega) HB.out HB.out.size ?_
      intro vm9 wm9_0 ho hb hg_ hnew_
      rw [Int.toNat_natCast] at ho
      obtain ⟨A_, c_, e_⟩ := Kd.R_slice ho
      rw [List.length_replicate] at e_
      subst e_
      have HO9 := Aside0.mk ho
      have n_ := Aside0.mk (blk_grown BKg2.out hg_ (by simp))
      have m_ := Aside0.mk (blk_grown BKdr.out hg_ (by simp))
      clear BKg2 BKdr HB
      have BKg2 := n_
      have BKdr := m_
      have HB := Aside0.mk hb
      clear n_ m_ hb hg_ hnew_ ho
      refine hK.out _ _ ⟨(blk_cell BKdr.out 0).trans rfl, (blk_cell BKdr.out 1).trans rfl, (blk_cell BKdr.out 2).trans rfl, (blk_cell BKdr.out 3).trans rfl, (blk_cell BKdr.out 4).trans rfl, (blk_cell BKdr.out 5).trans rfl, (blk_cell BKdr.out 6).trans rfl⟩ (fun hHeld => ?_)
      clear hK K
      refine norm_ (a' := ?_) ?_ ?_
      rotate_left
      · show Act.put _ (some 15) _ = _
        simp only [Act.put, List.setIfInBounds_toArray, List.set_cons_zero, List.set_cons_succ, i64_w, i32_w]
        rfl
      refine pure_ (i := 10) (N := some 16) (v := ?_) (a' := ?_) #[true, true, true, true, true, true, true, true, true, true, true, false, false] rfl rfl (by kernel_rfl) (fun _ _ _ h => h) (Or.inl ⟨by rfl, ?_⟩) ?_ ?_
      rotate_left
      · intro w'
        go_simp
        with_reducible rfl
      rotate_left
      · simp only [Act.put, List.setIfInBounds_toArray, List.set_cons_zero, List.set_cons_succ, i64_w, i32_w]
        rfl
      refine one_ (i := 11) (N := some 3) #[true, true, true, true, true, true, true, true, true, true, true, true, false] rfl rfl (by kernel_rfl) (by decide) (fun K hK => ?_)
      refine box_step (by rfl) (N := 3) rfl (cs := #[.int .i64 0, .int .i64 0, .int .i64 0, .int .i64 0, .slice none 0 0]) (t := 36) ?hr ?_
      (case hr => first | (go_simp; done) | (go_simp; rfl))
      intro g3 hg wm11_1 hbox hb
      have BKg3 := Aside0.mk hbox
      have HGE3 := Aside0.mk (show w.heap.size ≤ g3 by rw [hg]; exact HB.out.size)
      have HNE3 := Aside0.mk (show g2 ≠ g3 by have h2 := blk_lt BKg2.out; omega)
      replace HO9 := Aside0.mk (Kd.R_below HO9.out hb)
      have n_ := Aside0.mk (blk_below BKg2.out hb)
      have m_ := Aside0.mk (blk_below BKdr.out hb)
      have p_ := Aside0.mk (below_step HB.out hb)
      clear BKg2 BKdr HB
      have BKg2 := n_
      have BKdr := m_
      have HB := p_
      clear n_ m_ p_ hb hbox hg
      refine hK.out _ _ ⟨(blk_cell BKdr.out 0).trans rfl, (blk_cell BKdr.out 1).trans rfl, (blk_cell BKdr.out 2).trans rfl, (blk_cell BKdr.out 3).trans rfl, (blk_cell BKdr.out 4).trans rfl, (blk_cell BKdr.out 5).trans rfl, (blk_cell BKdr.out 6).trans rfl⟩ (fun hHeld => ?_)
      clear hK K
      refine norm_ (a' := ?_) ?_ ?_
      rotate_left
      · show Act.put _ (some 3) _ = _
        simp only [Act.put, List.setIfInBounds_toArray, List.set_cons_zero, List.set_cons_succ, i64_w, i32_w]
        rfl
      exact norm_ (by simp only [putAll, Act.put, List.setIfInBounds_toArray, List.set_cons_zero, List.set_cons_succ]) (hCont (A_, c_, g3) _ ⟨HO9.out, BKg3.out, HGE3.out, HNE3.out, BKg2.out, BKdr.out, HB.out⟩)
    · skip
      refine box_step (by rfl) (N := 3) rfl (cs := #[.int .i64 0, .int .i64 0, .int .i64 0, .int .i64 0, .slice none 0 0]) (t := 36) ?hr ?_
      (case hr => first | (go_simp; done) | (go_simp; rfl))
      intro g3 hg wm11_0 hbox hb
      have BKg3 := Aside0.mk hbox
      have HGE3 := Aside0.mk (show w.heap.size ≤ g3 by rw [hg]; exact HB.out.size)
      have HNE3 := Aside0.mk (show g2 ≠ g3 by have h2 := blk_lt BKg2.out; omega)
      have n_ := Aside0.mk (blk_below BKg2.out hb)
      have m_ := Aside0.mk (blk_below BKdr.out hb)
      have p_ := Aside0.mk (below_step HB.out hb)
      clear BKg2 BKdr HB
      have BKg2 := n_
      have BKdr := m_
      have HB := p_
      clear n_ m_ p_ hb hbox hg
      refine hK.out _ _ ⟨(blk_cell BKdr.out 0).trans rfl, (blk_cell BKdr.out 1).trans rfl, (blk_cell BKdr.out 2).trans rfl, (blk_cell BKdr.out 3).trans rfl, (blk_cell BKdr.out 4).trans rfl, (blk_cell BKdr.out 5).trans rfl, (blk_cell BKdr.out 6).trans rfl⟩ (fun hHeld => ?_)
      clear hK K
      refine norm_ (a' := ?_) ?_ ?_
      rotate_left
      · show Act.put _ (some 3) _ = _
        simp only [Act.put, List.setIfInBounds_toArray, List.set_cons_zero, List.set_cons_succ, i64_w, i32_w]
        rfl
      refine one_ (i := 9) (N := some 15) #[true, true, true, true, true, true, true, true, true, true, false, true, false] rfl rfl (by kernel_rfl) (by decide) (fun K hK => ?_)
      refine Kd.R_make_step (Kd.slice 5 (Kd.int .u8)) w.heap.size 45 (by rfl) (N := 15) rfl 34 _ _ rfl _ rfl rfl Try.underlying34 (.slice none 0 0) 24 info45 rfl (by decide) (by omega) ([] : List Int) (ok := fun _ => True) (okp := fun _ => True) ⟨_, rfl, Kd.R_nil _ _ _ _ _⟩ (fun _ hk => hk) trivial (by omega) (by have := HL.out; omega) HB.out HB.out.size ?_
      intro vm9 wm9_1 ho hb hg_ hnew_
      rw [Int.toNat_natCast] at ho
      obtain ⟨A_, c_, e_⟩ := Kd.R_slice ho
      rw [List.length_replicate] at e_
      subst e_
      have HO9 := Aside0.mk ho
      replace BKg3 := Aside0.mk (blk_grown BKg3.out hg_ (by simp))
      have n_ := Aside0.mk (blk_grown BKg2.out hg_ (by simp))
      have m_ := Aside0.mk (blk_grown BKdr.out hg_ (by simp))
      clear BKg2 BKdr HB
      have BKg2 := n_
      have BKdr := m_
      have HB := Aside0.mk hb
      clear n_ m_ hb hg_ hnew_ ho
      refine hK.out _ _ ⟨(blk_cell BKdr.out 0).trans rfl, (blk_cell BKdr.out 1).trans rfl, (blk_cell BKdr.out 2).trans rfl, (blk_cell BKdr.out 3).trans rfl, (blk_cell BKdr.out 4).trans rfl, (blk_cell BKdr.out 5).trans rfl, (blk_cell BKdr.out 6).trans rfl⟩ (fun hHeld => ?_)
      clear hK K
      refine norm_ (a' := ?_) ?_ ?_
      rotate_left
      · show Act.put _ (some 15) _ = _
        simp only [Act.put, List.setIfInBounds_toArray, List.set_cons_zero, List.set_cons_succ, i64_w, i32_w]
        rfl
      refine pure_ (i := 10) (N := some 16) (v := ?_) (a' := ?_) #[true, true, true, true, true, true, true, true, true, true, true, true, false] rfl rfl (by kernel_rfl) (fun _ _ _ h => h) (Or.inl ⟨by rfl, ?_⟩) ?_ ?_
      rotate_left
      · intro w'
        go_simp
        with_reducible rfl
      rotate_left
      · simp only [Act.put, List.setIfInBounds_toArray, List.set_cons_zero, List.set_cons_succ, i64_w, i32_w]
        rfl
      exact norm_ (by simp only [putAll, Act.put, List.setIfInBounds_toArray, List.set_cons_zero, List.set_cons_succ]) (hCont (A_, c_, g3) _ ⟨HO9.out, BKg3.out, HGE3.out, HNE3.out, BKg2.out, BKdr.out, HB.out⟩)
  rintro ⟨A7, c7, g3⟩ wf ⟨ho7, hb3, hge3, hne3, hb2, hbr, hbw⟩
  clear BKg2 BKdr HB
  have HO7 := Aside0.mk (show Kd.R (Kd.slice 5 (Kd.int .u8)) 45 wf w.heap.size (fun _ => True) (.slice A7 slots.length c7) (List.replicate slots.length []) from ho7)
  have BKg3 := Aside0.mk (show wf.heap[g3]? = some (.cells #[.int .i64 0, .int .i64 0, .int .i64 0, .int .i64 0, .slice none 0 0] 36 (0, 0)) from hb3)
  have HGE3 := Aside0.mk (show w.heap.size ≤ g3 from hge3)
  have hne23 : g2 ≠ g3 := hne3
  have hne32 : g3 ≠ g2 := Ne.symm hne3
  have BKg2 := Aside0.mk hb2
  have BKdr := Aside0.mk hbr
  have HB := Aside0.mk hbw
  have HDR := Aside0.mk (show dr ≠ g3 by have h1 := HZ.out; have h2 := HGE3.out; omega)
  clear ho7 hb3 hge3 hne3 hb2 hbr hbw
  have hcg3_0 : wf.cell? ⟨g3, 0, none⟩ = some (.int .i64 0) := (blk_cell BKg3.out 0).trans rfl
  have hcg3_1 : wf.cell? ⟨g3, 1, none⟩ = some (.int .i64 0) := (blk_cell BKg3.out 1).trans rfl
  have hcg3_2 : wf.cell? ⟨g3, 2, none⟩ = some (.int .i64 0) := (blk_cell BKg3.out 2).trans rfl
  have hcg3_3 : wf.cell? ⟨g3, 3, none⟩ = some (.int .i64 0) := (blk_cell BKg3.out 3).trans rfl
  have hcg3_4 : wf.cell? ⟨g3, 4, none⟩ = some (.slice none 0 0) := (blk_cell BKg3.out 4).trans rfl
  have hfg3_0 := blk_frozen BKg3.out 0
  have hfg3_1 := blk_frozen BKg3.out 1
  have hfg3_2 := blk_frozen BKg3.out 2
  have hfg3_3 := blk_frozen BKg3.out 3
  have hfg3_4 := blk_frozen BKg3.out 4
  have hHeld : (fun w' => w'.cell? ⟨dr, 0, none⟩ = some (.int .i64 a) ∧ w'.cell? ⟨dr, 1, none⟩ = some (.int .i64 b) ∧ w'.cell? ⟨dr, 2, none⟩ = some (.int .i64 c) ∧ w'.cell? ⟨dr, 3, none⟩ = some (.int .i64 d) ∧ w'.cell? ⟨dr, 4, none⟩ = some (.int .i64 sz) ∧ w'.cell? ⟨dr, 5, none⟩ = some (.slice As slots.length cs) ∧ w'.cell? ⟨dr, 6, none⟩ = some (.slice Ag ng cg)) wf := ⟨(blk_cell BKdr.out 0).trans rfl, (blk_cell BKdr.out 1).trans rfl, (blk_cell BKdr.out 2).trans rfl, (blk_cell BKdr.out 3).trans rfl, (blk_cell BKdr.out 4).trans rfl, (blk_cell BKdr.out 5).trans rfl, (blk_cell BKdr.out 6).trans rfl⟩
  refine norm_ (a' := ?_) ?_ ?_
  rotate_left
  · simp only [putAll, Act.put, List.setIfInBounds_toArray, List.set_cons_zero, List.set_cons_succ]
    rfl
  refine last_ (i := 12) (N := none) #[true, true, true, true, true, true, true, true, true, true, true, true, true] rfl rfl (by kernel_rfl) (by decide) (fun K hK => ?_)
  refine skip_ (w1 := ?_) (by rfl) rfl ?_ ?_
  rotate_left
  · go_simp
    rfl
  refine hK.out _ _ ?_
  clear hK K
  refine done_ (by kernel_rfl) ?_
  clear hHeld
  clear hcg3_0 hfg3_0
  clear hcg3_1 hfg3_1
  clear hcg3_2 hfg3_2
  clear hcg3_3 hfg3_3
  clear hcg3_4 hfg3_4
  replace HO7 := Aside0.mk (Kd.R_mono (Kd.R_far (Kd.R_types HO7.out BKg3.out (by decide)) (p := ⟨g3, 0, none⟩) (fun _ hk => hk.2) (.int .i64 a)) (fun _ hk => hk.1))
  replace BKg2 := Aside0.mk (blk_far BKg2.out (p := ⟨g3, 0, none⟩) (show g2 ≠ g3 from hne23) (.int .i64 a))
  replace BKdr := Aside0.mk (blk_far BKdr.out (p := ⟨g3, 0, none⟩) HDR.out (.int .i64 a))
  replace BKg3 := Aside0.mk (blk_put BKg3.out 0 (.int .i64 a) rfl)
  replace HB := Aside0.mk (below_set HB.out HGE3.out (j := 0) (v := .int .i64 a))
  replace HO7 := Aside0.mk (Kd.R_mono (Kd.R_far (Kd.R_types HO7.out BKg3.out (by decide)) (p := ⟨g3, 1, none⟩) (fun _ hk => hk.2) (.int .i64 b)) (fun _ hk => hk.1))
  replace BKg2 := Aside0.mk (blk_far BKg2.out (p := ⟨g3, 1, none⟩) (show g2 ≠ g3 from hne23) (.int .i64 b))
  replace BKdr := Aside0.mk (blk_far BKdr.out (p := ⟨g3, 1, none⟩) HDR.out (.int .i64 b))
  replace BKg3 := Aside0.mk (blk_put BKg3.out 1 (.int .i64 b) rfl)
  replace HB := Aside0.mk (below_set HB.out HGE3.out (j := 1) (v := .int .i64 b))
  replace HO7 := Aside0.mk (Kd.R_mono (Kd.R_far (Kd.R_types HO7.out BKg3.out (by decide)) (p := ⟨g3, 2, none⟩) (fun _ hk => hk.2) (.int .i64 c)) (fun _ hk => hk.1))
  replace BKg2 := Aside0.mk (blk_far BKg2.out (p := ⟨g3, 2, none⟩) (show g2 ≠ g3 from hne23) (.int .i64 c))
  replace BKdr := Aside0.mk (blk_far BKdr.out (p := ⟨g3, 2, none⟩) HDR.out (.int .i64 c))
  replace BKg3 := Aside0.mk (blk_put BKg3.out 2 (.int .i64 c) rfl)
  replace HB := Aside0.mk (below_set HB.out HGE3.out (j := 2) (v := .int .i64 c))
  replace HO7 := Aside0.mk (Kd.R_mono (Kd.R_far (Kd.R_types HO7.out BKg3.out (by decide)) (p := ⟨g3, 3, none⟩) (fun _ hk => hk.2) (.int .i64 d)) (fun _ hk => hk.1))
  replace BKg2 := Aside0.mk (blk_far BKg2.out (p := ⟨g3, 3, none⟩) (show g2 ≠ g3 from hne23) (.int .i64 d))
  replace BKdr := Aside0.mk (blk_far BKdr.out (p := ⟨g3, 3, none⟩) HDR.out (.int .i64 d))
  replace BKg3 := Aside0.mk (blk_put BKg3.out 3 (.int .i64 d) rfl)
  replace HB := Aside0.mk (below_set HB.out HGE3.out (j := 3) (v := .int .i64 d))
  replace HO7 := Aside0.mk (Kd.R_mono (Kd.R_far (Kd.R_types HO7.out BKg3.out (by decide)) (p := ⟨g3, 4, none⟩) (fun _ hk => hk.2) (.slice A7 slots.length c7)) (fun _ hk => hk.1))
  replace BKg2 := Aside0.mk (blk_far BKg2.out (p := ⟨g3, 4, none⟩) (show g2 ≠ g3 from hne23) (.slice A7 slots.length c7))
  replace BKdr := Aside0.mk (blk_far BKdr.out (p := ⟨g3, 4, none⟩) HDR.out (.slice A7 slots.length c7))
  replace BKg3 := Aside0.mk (blk_put BKg3.out 4 (.slice A7 slots.length c7) rfl)
  replace HB := Aside0.mk (below_set HB.out HGE3.out (j := 4) (v := .slice A7 slots.length c7))
  generalize (((((wf.setCell ⟨g3, 0, none⟩ (.int .i64 a)).setCell ⟨g3, 1, none⟩ (.int .i64 b)).setCell ⟨g3, 2, none⟩ (.int .i64 c)).setCell ⟨g3, 3, none⟩ (.int .i64 d)).setCell ⟨g3, 4, none⟩ (.slice A7 slots.length c7)) = w8 at HO7 BKg2 BKdr BKg3 HB ⊢
  have hcd2 : w8.cell? ⟨dr, 5, none⟩ = some (.slice As slots.length cs) := (blk_cell BKdr.out 5).trans rfl
  have hfd2 := blk_frozen BKdr.out 5
  go_wp2_with (fail)
  go_loopg [22] slots.length (fun kq v22 wr => ∃ k : Nat, v22 = .int .i64 (k : Int) ∧ Aside0 (k ≤ slots.length ∧ slots.length - k ≤ kq) ∧ Aside0 (wr.heap[g3]? = some (.cells #[.int .i64 a, .int .i64 b, .int .i64 c, .int .i64 d, .slice A7 slots.length c7] 36 (0, 0))) ∧ Aside0 (wr.heap[g2]? = some (.cells #[.int .i64 0, .int .i64 0, .int .i64 0, .int .i64 0, .slice none 0 0] 36 (0, 0))) ∧ Aside0 (Kd.R (Kd.slice 5 (Kd.int .u8)) 45 wr w.heap.size (fun _ => True) (.slice A7 slots.length c7) (slots.take k ++ List.replicate (slots.length - k) [])) ∧ Aside0 (Below w.heap.size w wr))
  case atStart => exact ⟨0, rfl, Aside0.mk ⟨by omega, by omega⟩, BKg3, BKg2, Aside0.mk (by have := HO7.out; simpa using this), HB⟩
  case round =>
    clear HO7 BKg2 BKdr BKg3 HB hcd2 hfd2
    obtain ⟨k, rfl, AX, BKg3, BKg2, HO, HB⟩ := hrel
    have hlen : (slots.take k ++ List.replicate (slots.length - k) ([] : List Int)).length = slots.length := by
      have := AX.out
      rw [List.length_append, List.length_take, List.length_replicate]
      omega
    by_cases hlt : k < slots.length
    · obtain ⟨ad, x, eA, hf, hx, B, cc, hcell, hle, hCx⟩ := bytes_elem HC.out k hlt
      subst eA
      obtain ⟨g7, cap7, e7, hb7, hl7, cells7, hh7⟩ := Kd.R_form HO.out (by omega)
      rw [hlen] at e7
      injection e7 with ea en ec
      subst ea
      subst ec
      have AF := Aside0.mk hf
      have hxl := HE.out x hx
      have AC := Aside0.mk (show slices_Clone_byte_byte.f x = some x by unfold slices_Clone_byte_byte.f; rw [if_pos (by omega)])
      have ACx := Aside0.mk hCx
      have ALe := Aside0.mk hle
      have HG7 := Aside0.mk (show w.heap.size ≤ g7 ∧ g7 < wr.heap.size from ⟨hb7, hl7⟩)
      have HN3 := Aside0.mk (show g3 ≠ g7 from fun e => Kd.R_ne HO.out BKg3.out (by decide) (by rw [e]; rfl))
      have HN2 := Aside0.mk (show g2 ≠ g7 from fun e => Kd.R_ne HO.out BKg2.out (by decide) (by rw [e]; rfl))
      have b1 : decide ((k : Int) < (slots.length : Int)) = true := decide_eq_true (by omega)
      have b2 : decide (k < slots.length) = true := decide_eq_true hlt
      have b3 : (k < slots.length) = True := eq_true hlt
      have hcl := pw_cell_below HB.out hcell
      have HK := Aside0.mk hlt
      have HLEN := Aside0.mk hlen
      clear hlt hf hx hxl hle hCx hcell hb7 hl7 hh7 hlen
      go_wp2_with (fail)
      clear hcl
      have n1_ := Aside0.mk (blk_drew BKg3.out)
      have n2_ := Aside0.mk (blk_drew BKg2.out)
      have n3_ := Aside0.mk (Kd.R_drew HO.out)
      have n4_ := Aside0.mk (below_drew1 HB.out)
      have n5_ := Aside0.mk (show w.heap.size ≤ g7 ∧ g7 < (World.drew wr).heap.size from HG7.out)
      clear BKg3 BKg2 HO HB HG7
      have BKg3 := n1_
      have BKg2 := n2_
      have HO := n3_
      have HB := n4_
      have HG7 := n5_
      clear n1_ n2_ n3_ n4_ n5_
      refine start_ (n := 7) (S := fun w' => w'.cell? ⟨g3, 4, none⟩ = some (.slice (some ⟨g7, 0, none⟩) slots.length c7)) (ds := [6]) #[false, false, false, false, false, false, false] (by kernel_rfl) rfl rfl ((blk_cell BKg3.out 4).trans rfl) (fun hHeld => ?_)
      generalize World.drew wr = wq at HB BKg3 BKg2 HO HG7 hHeld ⊢
      refine pure_ (i := 0) (N := some 27) (v := ?_) (a' := ?_) #[true, false, false, false, false, false, false] rfl rfl (by kernel_rfl) (fun _ _ _ h => h) (Or.inl ⟨by rfl, ?_⟩) ?_ ?_
      rotate_left
      · intro w'
        go_simp
        with_reducible rfl
      rotate_left
      · simp only [Act.put, List.setIfInBounds_toArray, List.set_cons_zero, List.set_cons_succ, i64_w, i32_w]
        rfl
      refine pure_ (i := 2) (N := some 29) (v := ?_) (a' := ?_) #[true, false, true, false, false, false, false] rfl rfl (by kernel_rfl) (fun _ _ _ h => h) (Or.inl ⟨by rfl, ?_⟩) ?_ ?_
      rotate_left
      · intro w'
        go_simp
        with_reducible rfl
      rotate_left
      · simp only [Act.put, List.setIfInBounds_toArray, List.set_cons_zero, List.set_cons_succ, i64_w, i32_w]
        rfl
      refine pure_ (i := 3) (N := some 30) (v := ?_) (a' := ?_) #[true, false, true, true, false, false, false] rfl rfl (by kernel_rfl) (fun _ _ _ h => h) (Or.inl ⟨by rfl, ?_⟩) ?_ ?_
      rotate_left
      · intro w'
        go_simp
        with_reducible rfl
      rotate_left
      · simp only [Act.put, List.setIfInBounds_toArray, List.set_cons_zero, List.set_cons_succ, i64_w, i32_w]
        rfl
      refine take_ (i := 1) (N := some 28) (v := ?_) (a' := ?_) #[true, true, true, true, false, false, false] rfl rfl (by kernel_rfl) (fun _ _ _ h => h) (Or.inl ⟨by rfl, ?_⟩) hHeld ?_ ?_
      rotate_left
      · intro w' s0
        go_simp
        with_reducible rfl
      rotate_left
      · simp only [Act.put, List.setIfInBounds_toArray, List.set_cons_zero, List.set_cons_succ, i64_w, i32_w]
        rfl
      refine one_ (i := 4) (N := some 31) #[true, true, true, true, true, false, false] rfl rfl (by kernel_rfl) (by decide) (fun K hK => ?_)
      refine goes_ Try.func48 (by kernel_rfl) rfl #[.slice B x.length cc] (by rfl) rfl rfl (by simp only [List.map_toArray, List.map_cons, List.map_nil]; rfl) ?_
      with_reducible refine (slices_Clone_byte_byte.calls B cc x x _ ?s1 ALe.out AC.out).mono ?_
      (case s1 => exact Kd.C_below ACx.out HB.out)
      rintro e w5 ⟨v5, rfl, ho, hb⟩
      refine ⟨_, rfl, ?_⟩
      obtain ⟨A5, c5, e5_⟩ := Kd.R_slice ho
      subst e5_
      have HN := Aside0.mk (show Kd.R (Kd.int .u8) 5 w5 w.heap.size (fun k => True ∧ k ≠ g7) (.slice A5 x.length c5) x from Kd.R_mono (Kd.R_lower (Kd.R_bound ho) HB.out.size) (fun k hk => ⟨trivial, by have h1 := hk.2.1; have h2 := HG7.out; omega⟩))
      have n1_ := Aside0.mk (blk_below BKg3.out hb)
      have n2_ := Aside0.mk (blk_below BKg2.out hb)
      have n3_ := Aside0.mk (Kd.R_below HO.out hb)
      have n4_ := Aside0.mk (below_step HB.out hb)
      clear BKg3 BKg2 HO HB ho hb
      have BKg3 := n1_
      have BKg2 := n2_
      have HO := n3_
      have HB := n4_
      clear n1_ n2_ n3_ n4_
      obtain ⟨u0, hcu, hfu⟩ := R_cell_row HO.out (i := k) (by rw [HLEN.out]; exact HK.out)
      refine hK.out _ _ ((blk_cell BKg3.out 4).trans rfl) (fun hHeld => ?_)
      clear hK K
      refine norm_ (a' := ?_) ?_ ?_
      rotate_left
      · show Act.put _ (some 31) _ = _
        simp only [Act.put, List.setIfInBounds_toArray, List.set_cons_zero, List.set_cons_succ, i64_w, i32_w]
        rfl
      refine pure_ (i := 5) (N := some 32) (v := ?_) (a' := ?_) #[true, true, true, true, true, true, false] rfl rfl (by kernel_rfl) (fun _ _ _ h => h) (Or.inl ⟨by rfl, ?_⟩) ?_ ?_
      rotate_left
      · intro w'
        go_simp
        with_reducible rfl
      rotate_left
      · simp only [Act.put, List.setIfInBounds_toArray, List.set_cons_zero, List.set_cons_succ, i64_w, i32_w]
        rfl
      refine last_ (i := 6) (N := none) #[true, true, true, true, true, true, true] rfl rfl (by kernel_rfl) (by decide) (fun K hK => ?_)
      refine skip_ (w1 := ?_) (by rfl) rfl ?_ ?_
      rotate_left
      · go_simp
        rfl
      refine hK.out _ _ ?_
      clear hK K
      refine done_ (by kernel_rfl) ?_
      clear hHeld hcu hfu
      go_wp2_with (fail)
      go_roundg (gk - 1)
      case measure =>
        have := AX.out
        have := HK.out
        omega
      case rel =>
        have h1 := AX.out
        have h2 := HK.out
        have h3 := HL.out
        have hp := R_put_row HO.out (i := k) (by rw [HLEN.out]; exact HK.out) HN.out
        rw [filled_step slots k x HK.out AF.out] at hp
        exact ⟨k + 1, by rw [show wrap64 ((k : Int) + 1) = ((k + 1 : Nat) : Int) by unfold wrap64; omega], Aside0.mk ⟨by omega, by omega⟩, Aside0.mk (blk_grown BKg3.out hp.2 (fun e => HN3.out (by injection e))), Aside0.mk (blk_grown BKg2.out hp.2 (fun e => HN2.out (by injection e))), Aside0.mk hp.1, Aside0.mk (below_set HB.out HG7.out.1)⟩
    · have b1 : decide ((k : Int) < (slots.length : Int)) = false := decide_eq_false (by omega)
      have b2 : decide (k < slots.length) = false := decide_eq_false hlt
      have e : slots.take k ++ List.replicate (slots.length - k) ([] : List Int) = slots := by
        rw [List.take_of_length_le (by omega), show slots.length - k = 0 by omega]
        simp
      have HO2 := HO.out
      rw [e] at HO2
      have HO3 := Aside0.mk HO2
      clear HO2 HO e hlt hlen
      have hcg3_0 : wr.cell? ⟨g3, 0, none⟩ = some (.int .i64 a) := (blk_cell BKg3.out 0).trans rfl
      have hfg3_0 := blk_frozen BKg3.out 0
      have hcg3_1 : wr.cell? ⟨g3, 1, none⟩ = some (.int .i64 b) := (blk_cell BKg3.out 1).trans rfl
      have hfg3_1 := blk_frozen BKg3.out 1
      have hcg3_2 : wr.cell? ⟨g3, 2, none⟩ = some (.int .i64 c) := (blk_cell BKg3.out 2).trans rfl
      have hfg3_2 := blk_frozen BKg3.out 2
      have hcg3_3 : wr.cell? ⟨g3, 3, none⟩ = some (.int .i64 d) := (blk_cell BKg3.out 3).trans rfl
      have hfg3_3 := blk_frozen BKg3.out 3
      have hcg3_4 : wr.cell? ⟨g3, 4, none⟩ = some (.slice A7 slots.length c7) := (blk_cell BKg3.out 4).trans rfl
      have hfg3_4 := blk_frozen BKg3.out 4
      have hcg2_0 : wr.cell? ⟨g2, 0, none⟩ = some (.int .i64 0) := (blk_cell BKg2.out 0).trans rfl
      have hfg2_0 := blk_frozen BKg2.out 0
      have hcg2_1 : wr.cell? ⟨g2, 1, none⟩ = some (.int .i64 0) := (blk_cell BKg2.out 1).trans rfl
      have hfg2_1 := blk_frozen BKg2.out 1
      have hcg2_2 : wr.cell? ⟨g2, 2, none⟩ = some (.int .i64 0) := (blk_cell BKg2.out 2).trans rfl
      have hfg2_2 := blk_frozen BKg2.out 2
      have hcg2_3 : wr.cell? ⟨g2, 3, none⟩ = some (.int .i64 0) := (blk_cell BKg2.out 3).trans rfl
      have hfg2_3 := blk_frozen BKg2.out 3
      have hcg2_4 : wr.cell? ⟨g2, 4, none⟩ = some (.slice none 0 0) := (blk_cell BKg2.out 4).trans rfl
      have hfg2_4 := blk_frozen BKg2.out 4
      go_wp2_with (fail)
      clear hcg3_0 hfg3_0 hcg2_0 hfg2_0
      clear hcg3_1 hfg3_1 hcg2_1 hfg2_1
      clear hcg3_2 hfg3_2 hcg2_2 hfg2_2
      clear hcg3_3 hfg3_3 hcg2_3 hfg2_3
      clear hcg3_4 hfg3_4 hcg2_4 hfg2_4
      replace HO3 := Aside0.mk (Kd.R_mono (Kd.R_far (Kd.R_types HO3.out BKg2.out (by decide)) (p := ⟨g2, 0, none⟩) (fun _ hk => hk.2) (.int .i64 a)) (fun _ hk => hk.1))
      replace BKg2 := Aside0.mk (blk_put BKg2.out 0 (.int .i64 a) rfl)
      replace HB := Aside0.mk (below_set HB.out HGE2.out (j := 0) (v := .int .i64 a))
      replace HO3 := Aside0.mk (Kd.R_mono (Kd.R_far (Kd.R_types HO3.out BKg2.out (by decide)) (p := ⟨g2, 1, none⟩) (fun _ hk => hk.2) (.int .i64 b)) (fun _ hk => hk.1))
      replace BKg2 := Aside0.mk (blk_put BKg2.out 1 (.int .i64 b) rfl)
      replace HB := Aside0.mk (below_set HB.out HGE2.out (j := 1) (v := .int .i64 b))
      replace HO3 := Aside0.mk (Kd.R_mono (Kd.R_far (Kd.R_types HO3.out BKg2.out (by decide)) (p := ⟨g2, 2, none⟩) (fun _ hk => hk.2) (.int .i64 c)) (fun _ hk => hk.1))
      replace BKg2 := Aside0.mk (blk_put BKg2.out 2 (.int .i64 c) rfl)
      replace HB := Aside0.mk (below_set HB.out HGE2.out (j := 2) (v := .int .i64 c))
      replace HO3 := Aside0.mk (Kd.R_mono (Kd.R_far (Kd.R_types HO3.out BKg2.out (by decide)) (p := ⟨g2, 3, none⟩) (fun _ hk => hk.2) (.int .i64 d)) (fun _ hk => hk.1))
      replace BKg2 := Aside0.mk (blk_put BKg2.out 3 (.int .i64 d) rfl)
      replace HB := Aside0.mk (below_set HB.out HGE2.out (j := 3) (v := .int .i64 d))
      replace HO3 := Aside0.mk (Kd.R_mono (Kd.R_far (Kd.R_types HO3.out BKg2.out (by decide)) (p := ⟨g2, 4, none⟩) (fun _ hk => hk.2) (.slice A7 slots.length c7)) (fun _ hk => hk.1))
      replace BKg2 := Aside0.mk (blk_put BKg2.out 4 (.slice A7 slots.length c7) rfl)
      replace HB := Aside0.mk (below_set HB.out HGE2.out (j := 4) (v := .slice A7 slots.length c7))
      generalize (((((wr.setCell ⟨g2, 0, none⟩ (.int .i64 a)).setCell ⟨g2, 1, none⟩ (.int .i64 b)).setCell ⟨g2, 2, none⟩ (.int .i64 c)).setCell ⟨g2, 3, none⟩ (.int .i64 d)).setCell ⟨g2, 4, none⟩ (.slice A7 slots.length c7)) = w9 at HO3 BKg2 HB ⊢
      refine bodyPost_ret (results_cell_row rfl _ _ g2 36 #[.int .i64 a, .int .i64 b, .int .i64 c, .int .i64 d, .slice A7 slots.length c7] (0, 0) _ rfl BKg2.out hu36 rfl (by kernel_rfl)) rfl ?_
      exact ⟨_, rfl, HO3.out, HB.out⟩
end Go.Proofs.Ytemmhgfjfbdggaa.P

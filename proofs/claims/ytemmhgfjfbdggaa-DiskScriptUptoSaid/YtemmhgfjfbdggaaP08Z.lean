import Derived.Test.YtemmhgfjfbdggaaM8b
import Derived.Test.YtemmhgfjfbdggaaP08Y
namespace Go.Proofs.Ytemmhgfjfbdggaa.P
open Go.RowKit Go.Proofs.YtemmhgfjfbdggaaW.PrintWords Go.Proofs.YtemmhgfjfbdggaaW.PrintLast Go.Proofs.YtemmhgfjfbdggaaW.PrintMore
attribute [local go_sem] max2_int min2_int max_two min_two max_three min_three max_four min_four
set_option linter.unusedVariables false
set_option linter.unusedSimpArgs false
set_option maxHeartbeats 8000000 in
set_option maxRecDepth 100000 in
theorem New_own (a b c d : Int) (w : World) (hp : okP a b c d = true) : Calls Try.prog 10 #[.agg #[.int .i64 a, .int .i64 b, .int .i64 c, .int .i64 d]] w fun e w' => ∃ (D dr : Nat) (As : Option Addr) (n cs : Nat) (Ag : Option Addr) (m cg : Nat), e = .returned (.tuple #[.pointer (some ⟨D, 0, none⟩), .int .i64 0]) ∧ DiskO w' w.heap.size (fun k => w.heap.size ≤ k ∧ k < w'.heap.size) D dr As n cs Ag m cg a b c d (sizeOf08 a b c) (List.replicate ((a + b) * d * 2).toNat []) (List.replicate (a + b).toNat false) false (-1) 0 ∧ Below w.heap.size w w' := by
 have hu23 := Try.underlying23
 have hu58 := Try.underlying58
 have hu78 := Try.underlying78
 have HB := Aside0.mk (Below.refl w.heap.size w)
 have HD := Aside0.mk (show layout_Drives.f a b c d = some (a + b, 0) by unfold layout_Drives.f; rw [if_pos hp])
 have HM := Aside0.mk (many a b c d hp)
 clear hp
 go_enter Try.func10, Try.ntmps10
 have tok1 : True := trivial
 go_wp2_with (first | (have _ := tok1; (with_reducible refine gate_dst (N := 1) rfl ?_); refine box_event ?hg (N := 1) ?hd (cs := #[.int .i64 a, .int .i64 b, .int .i64 c, .int .i64 d]) (t := 23) ?hr ?_; (case hd => rfl); (case hg => rfl); (case hr => first | (go_simp; done) | (go_simp; rfl)); intro g1 hg w1 hbox hb; have hs : Below w.heap.size w w1 := below_step (by repeat (first | exact Below.refl _ _ | apply below_alloc | apply pw_below_drewN | apply below_drew1)) hb; have SZ1 := Aside0.mk (show w.heap.size ≤ g1 ∧ g1 < w1.heap.size from ⟨by rw [hg]; exact (below_size (by repeat (first | exact Below.refl _ _ | apply below_alloc | apply pw_below_drewN | apply below_drew1))), blk_lt hbox⟩); replace HB := Aside0.mk (below_step HB.out hs); have BKg1 := Aside0.mk hbox; clear hb hbox hg hs; have hcg1_0 : w1.cell? ⟨g1, 0, none⟩ = some (.int .i64 a) := (blk_cell BKg1.out 0).trans rfl; have hfg1_0 := blk_frozen BKg1.out 0; have hcg1_1 : w1.cell? ⟨g1, 1, none⟩ = some (.int .i64 b) := (blk_cell BKg1.out 1).trans rfl; have hfg1_1 := blk_frozen BKg1.out 1; have hcg1_2 : w1.cell? ⟨g1, 2, none⟩ = some (.int .i64 c) := (blk_cell BKg1.out 2).trans rfl; have hfg1_2 := blk_frozen BKg1.out 2; have hcg1_3 : w1.cell? ⟨g1, 3, none⟩ = some (.int .i64 d) := (blk_cell BKg1.out 3).trans rfl; have hfg1_3 := blk_frozen BKg1.out 3; clear tok1; have tok2 : True := trivial) | (have _ := tok2; go_at_call 42; (with_reducible refine (layout_Drives.calls a b c d (a + b) 0 _ HD.out).mono ?_); rintro e w2 ⟨rfl, hb⟩; (try clear hcg1_0 hfg1_0); (try clear hcg1_1 hfg1_1); (try clear hcg1_2 hfg1_2); (try clear hcg1_3 hfg1_3); have hs : Below w1.heap.size w1 w2 := below_step (by repeat (first | exact Below.refl _ _ | apply below_alloc | apply pw_below_drewN | apply below_drew1)) hb; have hl : w1.heap.size ≤ _ := below_size (w := w1) (by repeat (first | exact Below.refl _ _ | apply below_alloc | apply pw_below_drewN | apply below_drew1)); have SZ2 := Aside0.mk (show w1.heap.size ≤ w2.heap.size from hs.size); replace BKg1 := Aside0.mk (blk_below BKg1.out hs); replace HB := Aside0.mk (below_step HB.out hs); clear hb hs; (try clear hl); have hcg1_0 : w2.cell? ⟨g1, 0, none⟩ = some (.int .i64 a) := (blk_cell BKg1.out 0).trans rfl; have hfg1_0 := blk_frozen BKg1.out 0; have hcg1_1 : w2.cell? ⟨g1, 1, none⟩ = some (.int .i64 b) := (blk_cell BKg1.out 1).trans rfl; have hfg1_1 := blk_frozen BKg1.out 1; have hcg1_2 : w2.cell? ⟨g1, 2, none⟩ = some (.int .i64 c) := (blk_cell BKg1.out 2).trans rfl; have hfg1_2 := blk_frozen BKg1.out 2; have hcg1_3 : w2.cell? ⟨g1, 3, none⟩ = some (.int .i64 d) := (blk_cell BKg1.out 3).trans rfl; have hfg1_3 := blk_frozen BKg1.out 3; clear tok2))
 (try clear hcg1_0 hfg1_0)
 (try clear hcg1_1 hfg1_1)
 (try clear hcg1_2 hfg1_2)
 (try clear hcg1_3 hfg1_3)
 have hs : Below w2.heap.size w2 (World.drew w2) := below_drew1 (Below.refl _ _)
 replace BKg1 := Aside0.mk (blk_below BKg1.out hs)
 have n_ := Aside0.mk (below_step HB.out hs)
 clear HB
 have HB := n_
 clear n_ hs
 refine start_ (n := 18) (S := fun w' => w'.cell? ⟨g1, 0, none⟩ = some (.int .i64 a) ∧ w'.cell? ⟨g1, 1, none⟩ = some (.int .i64 b) ∧ w'.cell? ⟨g1, 2, none⟩ = some (.int .i64 c) ∧ w'.cell? ⟨g1, 3, none⟩ = some (.int .i64 d)) (ds := []) #[false, false, false, false, false, false, false, false, false, false, false, false, false, false, false, false, false, false] (by kernel_rfl) rfl rfl ⟨(blk_cell BKg1.out 0).trans rfl, (blk_cell BKg1.out 1).trans rfl, (blk_cell BKg1.out 2).trans rfl, (blk_cell BKg1.out 3).trans rfl⟩ (fun hHeld => ?_)
 generalize World.drew w2 = w3 at HB BKg1 hHeld ⊢
 refine pure_ (i := 1) (N := some 16) (v := ?_) (a' := ?_) #[false, true, false, false, false, false, false, false, false, false, false, false, false, false, false, false, false, false] rfl rfl (by kernel_rfl) (fun _ _ _ h => h) (Or.inl ⟨by rfl, ?_⟩) ?_ ?_
 rotate_left
 ·
  intro w'
  go_simp
  with_reducible rfl
 rotate_left
 ·
  simp only [Act.put, List.setIfInBounds_toArray, List.set_cons_zero, List.set_cons_succ, i64_w, i32_w]
  rfl
 refine pure_ (i := 2) (N := some 17) (v := ?_) (a' := ?_) #[false, true, true, false, false, false, false, false, false, false, false, false, false, false, false, false, false, false] rfl rfl (by kernel_rfl) (fun _ _ _ h => h) (Or.inl ⟨by rfl, ?_⟩) ?_ ?_
 rotate_left
 ·
  intro w'
  go_simp
  with_reducible rfl
 rotate_left
 ·
  simp only [Act.put, List.setIfInBounds_toArray, List.set_cons_zero, List.set_cons_succ, i64_w, i32_w]
  rfl
 refine pure_ (i := 3) (N := some 18) (v := ?_) (a' := ?_) #[false, true, true, true, false, false, false, false, false, false, false, false, false, false, false, false, false, false] rfl rfl (by kernel_rfl) (fun _ _ _ h => h) (Or.inl ⟨by rfl, ?_⟩) ?_ ?_
 rotate_left
 ·
  intro w'
  go_simp
  with_reducible rfl
 rotate_left
 ·
  simp only [Act.put, List.setIfInBounds_toArray, List.set_cons_zero, List.set_cons_succ, i64_w, i32_w]
  rfl
 refine pure_ (i := 4) (N := some 19) (v := ?_) (a' := ?_) #[false, true, true, true, true, false, false, false, false, false, false, false, false, false, false, false, false, false] rfl rfl (by kernel_rfl) (fun _ _ _ h => h) (Or.inl ⟨by rfl, ?_⟩) ?_ ?_
 rotate_left
 ·
  intro w'
  go_simp
  with_reducible rfl
 rotate_left
 ·
  simp only [Act.put, List.setIfInBounds_toArray, List.set_cons_zero, List.set_cons_succ, i64_w, i32_w]
  rfl
 refine pure_ (i := 7) (N := some 22) (v := ?_) (a' := ?_) #[false, true, true, true, true, false, false, true, false, false, false, false, false, false, false, false, false, false] rfl rfl (by kernel_rfl) (fun _ _ _ h => h) (Or.inl ⟨by rfl, ?_⟩) ?_ ?_
 rotate_left
 ·
  intro w'
  go_simp
  with_reducible rfl
 rotate_left
 ·
  simp only [Act.put, List.setIfInBounds_toArray, List.set_cons_zero, List.set_cons_succ, i64_w, i32_w]
  rfl
 refine pure_ (i := 8) (N := some 23) (v := ?_) (a' := ?_) #[false, true, true, true, true, false, false, true, true, false, false, false, false, false, false, false, false, false] rfl rfl (by kernel_rfl) (fun _ _ _ h => h) (Or.inl ⟨by rfl, ?_⟩) ?_ ?_
 rotate_left
 ·
  intro w'
  go_simp
  with_reducible rfl
 rotate_left
 ·
  simp only [Act.put, List.setIfInBounds_toArray, List.set_cons_zero, List.set_cons_succ, i64_w, i32_w]
  rfl
 refine pure_ (i := 13) (N := some 28) (v := ?_) (a' := ?_) #[false, true, true, true, true, false, false, true, true, false, false, false, false, true, false, false, false, false] rfl rfl (by kernel_rfl) (fun _ _ _ h => h) (Or.inl ⟨by rfl, ?_⟩) ?_ ?_
 rotate_left
 ·
  intro w'
  go_simp
  with_reducible rfl
 rotate_left
 ·
  simp only [Act.put, List.setIfInBounds_toArray, List.set_cons_zero, List.set_cons_succ, i64_w, i32_w]
  rfl
 refine take_ (i := 0) (N := some 15) (v := ?_) (a' := ?_) #[true, true, true, true, true, false, false, true, true, false, false, false, false, true, false, false, false, false] rfl rfl (by kernel_rfl) (fun _ _ _ h => h) (Or.inl ⟨by rfl, ?_⟩) hHeld ?_ ?_
 rotate_left
 ·
  rintro w' ⟨s0, s1, s2, s3⟩
  go_simp
  with_reducible rfl
 rotate_left
 ·
  simp only [Act.put, List.setIfInBounds_toArray, List.set_cons_zero, List.set_cons_succ, i64_w, i32_w]
  rfl
 refine take_ (i := 5) (N := some 20) (v := ?_) (a' := ?_) #[true, true, true, true, true, true, false, true, true, false, false, false, false, true, false, false, false, false] rfl rfl (by kernel_rfl) (fun _ _ _ h => h) (Or.inl ⟨by rfl, ?_⟩) hHeld ?_ ?_
 rotate_left
 ·
  rintro w' ⟨s0, s1, s2, s3⟩
  go_simp
  with_reducible rfl
 rotate_left
 ·
  simp only [Act.put, List.setIfInBounds_toArray, List.set_cons_zero, List.set_cons_succ, i64_w, i32_w]
  rfl
 refine pure_ (i := 6) (N := some 21) (v := ?_) (a' := ?_) #[true, true, true, true, true, true, true, true, true, false, false, false, false, true, false, false, false, false] rfl rfl (by kernel_rfl) (fun _ _ _ h => h) (Or.inl ⟨by rfl, ?_⟩) ?_ ?_
 rotate_left
 ·
  intro w'
  go_simp
  with_reducible rfl
 rotate_left
 ·
  simp only [Act.put, List.setIfInBounds_toArray, List.set_cons_zero, List.set_cons_succ, i64_w, i32_w]
  rfl
 refine take_ (i := 9) (N := some 24) (v := ?_) (a' := ?_) #[true, true, true, true, true, true, true, true, true, true, false, false, false, true, false, false, false, false] rfl rfl (by kernel_rfl) (fun _ _ _ h => h) (Or.inl ⟨by rfl, ?_⟩) hHeld ?_ ?_
 rotate_left
 ·
  rintro w' ⟨s0, s1, s2, s3⟩
  go_simp
  with_reducible rfl
 rotate_left
 ·
  simp only [Act.put, List.setIfInBounds_toArray, List.set_cons_zero, List.set_cons_succ, i64_w, i32_w]
  rfl
 refine pure_ (i := 10) (N := some 25) (v := ?_) (a' := ?_) #[true, true, true, true, true, true, true, true, true, true, true, false, false, true, false, false, false, false] rfl rfl (by kernel_rfl) (fun _ _ _ h => h) (Or.inl ⟨by rfl, ?_⟩) ?_ ?_
 rotate_left
 ·
  intro w'
  go_simp
  with_reducible rfl
 rotate_left
 ·
  simp only [Act.put, List.setIfInBounds_toArray, List.set_cons_zero, List.set_cons_succ, i64_w, i32_w]
  rfl
 refine pure_ (i := 11) (N := some 26) (v := ?_) (a' := ?_) #[true, true, true, true, true, true, true, true, true, true, true, true, false, true, false, false, false, false] rfl rfl (by kernel_rfl) (fun _ _ _ h => h) (Or.inl ⟨by rfl, ?_⟩) ?_ ?_
 rotate_left
 ·
  intro w'
  go_simp
  with_reducible rfl
 rotate_left
 ·
  simp only [Act.put, List.setIfInBounds_toArray, List.set_cons_zero, List.set_cons_succ, i64_w, i32_w]
  rfl
 refine join_ (σ := Value × Value) 3 #[true, true, true, true, true, true, true, true, true, true, true, true, true, true, true, false, false, false] (fun s => [(27, s.1), (29, s.2)]) (fun s w' => (∃ A n c, s.1 = Value.slice A n c) ∧ (∃ A n c, s.2 = Value.slice A n c) ∧ Kd.R (Kd.slice 5 (Kd.int .u8)) 45 w' w.heap.size (fun _ => True) s.1 (List.replicate ((a + b) * d * 2).toNat []) ∧ Kd.R Kd.bool 4 w' w.heap.size (fun _ => True) s.2 (List.replicate (a + b).toNat false) ∧ w'.heap[g1]? = some (.cells #[.int .i64 a, .int .i64 b, .int .i64 c, .int .i64 d] 23 (0, 0)) ∧ Below w.heap.size w w') ?_ ?_
 rotate_left
 ·
  intro hCont
  refine two_ (i := 12) (j := 14) (Ni := some 27) (Nj := some 29) #[true, true, true, true, true, true, true, true, true, true, true, true, true, true, false, false, false, false] #[true, true, true, true, true, true, true, true, true, true, true, true, false, true, true, false, false, false] rfl rfl rfl rfl (by kernel_rfl) (by decide) (by decide) (fun K hK => ?_) (fun K hK => ?_)
  ·
   skip
   refine Kd.R_make_step (Kd.slice 5 (Kd.int .u8)) _ 45 (by rfl) (N := 27) rfl 34 _ _ rfl _ rfl rfl Try.underlying34 (.slice none 0 0) 24 info45 rfl (by decide) (by omega) ([] : List Int) (ok := fun _ => True) (okp := fun _ => True) ⟨_, rfl, Kd.R_nil _ _ _ _ _⟩ (fun _ hk => hk) trivial (by have := HM.out; rw [this.1]; omega) (by have := HM.out; rw [this.1]; omega) HB.out HB.out.size ?_
   intro vm12 wm12_0 ho hb hg_ hnew_
   rw [HM.out.1] at ho
   obtain ⟨A_, c_, e_⟩ := Kd.R_slice ho
   have hv12 : ∃ A n c, vm12 = .slice A n c := ⟨_, _, _, e_⟩
   have HO12 := Aside0.mk ho
   have n_ := Aside0.mk (blk_grown BKg1.out hg_ (by simp))
   clear BKg1 HB
   have BKg1 := n_
   have HB := Aside0.mk hb
   clear n_ hb hg_ hnew_ ho
   refine hK.out _ _ ⟨(blk_cell BKg1.out 0).trans rfl, (blk_cell BKg1.out 1).trans rfl, (blk_cell BKg1.out 2).trans rfl, (blk_cell BKg1.out 3).trans rfl⟩ (fun hHeld => ?_)
   clear hK K
   refine norm_ (a' := ?_) ?_ ?_
   rotate_left
   ·
    show Act.put _ (some 27) _ = _
    simp only [Act.put, List.setIfInBounds_toArray, List.set_cons_zero, List.set_cons_succ, i64_w, i32_w]
    rfl
   refine one_ (i := 14) (N := some 29) #[true, true, true, true, true, true, true, true, true, true, true, true, true, true, true, false, false, false] rfl rfl (by kernel_rfl) (by decide) (fun K hK => ?_)
   refine Kd.R_make_step Kd.bool _ 4 (by rfl) (N := 29) rfl 76 _ _ rfl _ rfl rfl Try.underlying76 (.bool false) 1 info4 rfl (by decide) (by omega) false (ok := fun _ => True) (okp := fun _ => True) rfl (fun _ hk => hk) trivial (by have := HM.out; omega) (by have := HM.out; omega) HB.out HB.out.size ?_
   intro vm14 wm14_1 ho hb hg_ hnew_
   obtain ⟨A_, c_, e_⟩ := Kd.R_slice ho
   have hv14 : ∃ A n c, vm14 = .slice A n c := ⟨_, _, _, e_⟩
   have HO14 := Aside0.mk ho
   replace HO12 := Aside0.mk (Kd.R_grown HO12.out hg_ (fun _ _ => by simp))
   have n_ := Aside0.mk (blk_grown BKg1.out hg_ (by simp))
   clear BKg1 HB
   have BKg1 := n_
   have HB := Aside0.mk hb
   clear n_ hb hg_ hnew_ ho
   refine hK.out _ _ ⟨(blk_cell BKg1.out 0).trans rfl, (blk_cell BKg1.out 1).trans rfl, (blk_cell BKg1.out 2).trans rfl, (blk_cell BKg1.out 3).trans rfl⟩ (fun hHeld => ?_)
   clear hK K
   refine norm_ (a' := ?_) ?_ ?_
   rotate_left
   ·
    show Act.put _ (some 29) _ = _
    simp only [Act.put, List.setIfInBounds_toArray, List.set_cons_zero, List.set_cons_succ, i64_w, i32_w]
    rfl
   exact norm_ (by simp only [putAll, Act.put, List.setIfInBounds_toArray, List.set_cons_zero, List.set_cons_succ]) (hCont (vm12, vm14) _ ⟨hv12, hv14, HO12.out, HO14.out, BKg1.out, HB.out⟩)
  ·
   skip
   refine Kd.R_make_step Kd.bool _ 4 (by rfl) (N := 29) rfl 76 _ _ rfl _ rfl rfl Try.underlying76 (.bool false) 1 info4 rfl (by decide) (by omega) false (ok := fun _ => True) (okp := fun _ => True) rfl (fun _ hk => hk) trivial (by have := HM.out; omega) (by have := HM.out; omega) HB.out HB.out.size ?_
   intro vm14 wm14_0 ho hb hg_ hnew_
   obtain ⟨A_, c_, e_⟩ := Kd.R_slice ho
   have hv14 : ∃ A n c, vm14 = .slice A n c := ⟨_, _, _, e_⟩
   have HO14 := Aside0.mk ho
   have n_ := Aside0.mk (blk_grown BKg1.out hg_ (by simp))
   clear BKg1 HB
   have BKg1 := n_
   have HB := Aside0.mk hb
   clear n_ hb hg_ hnew_ ho
   refine hK.out _ _ ⟨(blk_cell BKg1.out 0).trans rfl, (blk_cell BKg1.out 1).trans rfl, (blk_cell BKg1.out 2).trans rfl, (blk_cell BKg1.out 3).trans rfl⟩ (fun hHeld => ?_)
   clear hK K
   refine norm_ (a' := ?_) ?_ ?_
   rotate_left
   ·
    show Act.put _ (some 29) _ = _
    simp only [Act.put, List.setIfInBounds_toArray, List.set_cons_zero, List.set_cons_succ, i64_w, i32_w]
    rfl
   refine one_ (i := 12) (N := some 27) #[true, true, true, true, true, true, true, true, true, true, true, true, true, true, true, false, false, false] rfl rfl (by kernel_rfl) (by decide) (fun K hK => ?_)
   refine Kd.R_make_step (Kd.slice 5 (Kd.int .u8)) _ 45 (by rfl) (N := 27) rfl 34 _ _ rfl _ rfl rfl Try.underlying34 (.slice none 0 0) 24 info45 rfl (by decide) (by omega) ([] : List Int) (ok := fun _ => True) (okp := fun _ => True) ⟨_, rfl, Kd.R_nil _ _ _ _ _⟩ (fun _ hk => hk) trivial (by have := HM.out; rw [this.1]; omega) (by have := HM.out; rw [this.1]; omega) HB.out HB.out.size ?_
   intro vm12 wm12_1 ho hb hg_ hnew_
   rw [HM.out.1] at ho
   obtain ⟨A_, c_, e_⟩ := Kd.R_slice ho
   have hv12 : ∃ A n c, vm12 = .slice A n c := ⟨_, _, _, e_⟩
   have HO12 := Aside0.mk ho
   replace HO14 := Aside0.mk (Kd.R_grown HO14.out hg_ (fun _ _ => by simp))
   have n_ := Aside0.mk (blk_grown BKg1.out hg_ (by simp))
   clear BKg1 HB
   have BKg1 := n_
   have HB := Aside0.mk hb
   clear n_ hb hg_ hnew_ ho
   refine hK.out _ _ ⟨(blk_cell BKg1.out 0).trans rfl, (blk_cell BKg1.out 1).trans rfl, (blk_cell BKg1.out 2).trans rfl, (blk_cell BKg1.out 3).trans rfl⟩ (fun hHeld => ?_)
   clear hK K
   refine norm_ (a' := ?_) ?_ ?_
   rotate_left
   ·
    show Act.put _ (some 27) _ = _
    simp only [Act.put, List.setIfInBounds_toArray, List.set_cons_zero, List.set_cons_succ, i64_w, i32_w]
    rfl
   exact norm_ (by simp only [putAll, Act.put, List.setIfInBounds_toArray, List.set_cons_zero, List.set_cons_succ]) (hCont (vm12, vm14) _ ⟨hv12, hv14, HO12.out, HO14.out, BKg1.out, HB.out⟩)
 rintro ⟨v27, v29⟩ wf ⟨⟨A7, n7, c7, e7⟩, ⟨A9, n9, c9, e9⟩, ho7, ho9, hbk, hbw⟩
 obtain rfl : v27 = .slice A7 n7 c7 := e7
 obtain rfl : v29 = .slice A9 n9 c9 := e9
 clear BKg1 HB
 have BKg1 := Aside0.mk hbk
 have HB := Aside0.mk hbw
 have HO7 := Aside0.mk ho7
 have HO9 := Aside0.mk ho9
 clear hbk hbw ho7 ho9
 have hHeld : (fun w' => w'.cell? ⟨g1, 0, none⟩ = some (.int .i64 a) ∧ w'.cell? ⟨g1, 1, none⟩ = some (.int .i64 b) ∧ w'.cell? ⟨g1, 2, none⟩ = some (.int .i64 c) ∧ w'.cell? ⟨g1, 3, none⟩ = some (.int .i64 d)) wf := ⟨(blk_cell BKg1.out 0).trans rfl, (blk_cell BKg1.out 1).trans rfl, (blk_cell BKg1.out 2).trans rfl, (blk_cell BKg1.out 3).trans rfl⟩
 refine norm_ (a' := ?_) ?_ ?_
 rotate_left
 ·
  simp only [putAll, Act.put, List.setIfInBounds_toArray, List.set_cons_zero, List.set_cons_succ]
  rfl
 refine pure_ (i := 15) (N := some 30) (v := ?_) (a' := ?_) #[true, true, true, true, true, true, true, true, true, true, true, true, true, true, true, true, false, false] rfl rfl (by kernel_rfl) (fun _ _ _ h => h) (Or.inl ⟨by rfl, ?_⟩) ?_ ?_
 rotate_left
 ·
  intro w'
  go_simp
  with_reducible rfl
 rotate_left
 ·
  simp only [Act.put, List.setIfInBounds_toArray, List.set_cons_zero, List.set_cons_succ, i64_w, i32_w]
  rfl
 refine one_ (i := 16) (N := some 31) #[true, true, true, true, true, true, true, true, true, true, true, true, true, true, true, true, true, false] rfl rfl (by kernel_rfl) (by decide) (fun K hK => ?_)
 refine box_step (by rfl) (N := 31) rfl (cs := #[.int .i64 a, .int .i64 b, .int .i64 c, .int .i64 d, .int .i64 (wrap64 (wrap64 (12 + wrap64 (4 * (a + b))) + c)), .slice A7 n7 c7, .slice A9 n9 c9]) (t := 78) ?hr ?_
 (case hr => first | (go_simp; done) | (go_simp; rfl))
 intro g6 hg w8 hbox hb
 have GB := HB.out
 have n_ := Aside0.mk (blk_below BKg1.out hb)
 have m_ := Aside0.mk (below_step HB.out hb)
 clear BKg1 HB
 have BKg1 := n_
 have HB := m_
 have p_ := Aside0.mk (Kd.R_below HO7.out hb)
 have q_ := Aside0.mk (Kd.R_below HO9.out hb)
 have BKg6 := Aside0.mk hbox
 have HG6 := Aside0.mk (show w.heap.size ≤ g6 by rw [hg]; exact below_size GB)
 clear HO7 HO9
 have HO7 := p_
 have HO9 := q_
 clear n_ m_ p_ q_ hb hg hbox
 refine hK.out _ _ ⟨(blk_cell BKg1.out 0).trans rfl, (blk_cell BKg1.out 1).trans rfl, (blk_cell BKg1.out 2).trans rfl, (blk_cell BKg1.out 3).trans rfl⟩ (fun hHeld => ?_)
 clear hK K
 refine norm_ (a' := ?_) ?_ ?_
 rotate_left
 ·
  show Act.put _ (some 31) _ = _
  simp only [Act.put, List.setIfInBounds_toArray, List.set_cons_zero, List.set_cons_succ, i64_w, i32_w]
  rfl
 refine pure_ (i := 17) (N := some 6) (v := ?_) (a' := ?_) #[true, true, true, true, true, true, true, true, true, true, true, true, true, true, true, true, true, true] rfl rfl (by kernel_rfl) (fun _ _ _ h => h) (Or.inl ⟨by rfl, ?_⟩) ?_ ?_
 rotate_left
 ·
  intro w'
  go_simp
  with_reducible rfl
 rotate_left
 ·
  simp only [Act.put, List.setIfInBounds_toArray, List.set_cons_zero, List.set_cons_succ, i64_w, i32_w]
  rfl
 refine done_ (by kernel_rfl) ?_
 clear BKg1
 have HS8 := Aside0.mk (show w.heap.size ≤ w8.heap.size from HB.out.size)
 have HL6 := Aside0.mk (show g6 < w8.heap.size from blk_lt BKg6.out)
 have tok3 : True := trivial
 go_wp2_with (first | (have _ := tok3; (with_reducible refine gate_dst (N := 34) rfl ?_); refine box_event ?hg (N := 34) ?hd (cs := #[.pointer (some ⟨g6, 0, none⟩), .bool false, .int .i64 (-1), .int .i64 0]) (t := 58) ?hr ?_; (case hd => rfl); (case hg => rfl); (case hr => first | (go_simp; done) | (go_simp; rfl)); intro g9 hg w4 hbox hb; have hs : Below w8.heap.size w8 w4 := below_step (by repeat (first | exact Below.refl _ _ | apply below_alloc | apply pw_below_drewN | apply below_drew1)) hb; have SZ4 := Aside0.mk (show w8.heap.size ≤ g9 ∧ g9 < w4.heap.size from ⟨by rw [hg]; exact (below_size (by repeat (first | exact Below.refl _ _ | apply below_alloc | apply pw_below_drewN | apply below_drew1))), blk_lt hbox⟩); (try clear hcg6_0 hfg6_0); (try clear hcg6_1 hfg6_1); (try clear hcg6_2 hfg6_2); (try clear hcg6_3 hfg6_3); (try clear hcg6_4 hfg6_4); (try clear hcg6_5 hfg6_5); (try clear hcg6_6 hfg6_6); replace BKg6 := Aside0.mk (blk_below BKg6.out hs); replace HO7 := Aside0.mk (Kd.R_below HO7.out hs); replace HO9 := Aside0.mk (Kd.R_below HO9.out hs); replace HB := Aside0.mk (below_step HB.out hs); have hneg6_g9 : g6 ≠ g9 := (by have := SZ4.out; have := HS8.out; have := HL6.out; omega); have hneg9_g6 : g9 ≠ g6 := hneg6_g9.symm; have BKg9 := Aside0.mk hbox; clear hb hbox hg hs; have hcg6_0 : w4.cell? ⟨g6, 0, none⟩ = some (.int .i64 a) := (blk_cell BKg6.out 0).trans rfl; have hfg6_0 := blk_frozen BKg6.out 0; have hcg6_1 : w4.cell? ⟨g6, 1, none⟩ = some (.int .i64 b) := (blk_cell BKg6.out 1).trans rfl; have hfg6_1 := blk_frozen BKg6.out 1; have hcg6_2 : w4.cell? ⟨g6, 2, none⟩ = some (.int .i64 c) := (blk_cell BKg6.out 2).trans rfl; have hfg6_2 := blk_frozen BKg6.out 2; have hcg6_3 : w4.cell? ⟨g6, 3, none⟩ = some (.int .i64 d) := (blk_cell BKg6.out 3).trans rfl; have hfg6_3 := blk_frozen BKg6.out 3; have hcg6_4 : w4.cell? ⟨g6, 4, none⟩ = some (.int .i64 (wrap64 (wrap64 (12 + wrap64 (4 * (a + b))) + c))) := (blk_cell BKg6.out 4).trans rfl; have hfg6_4 := blk_frozen BKg6.out 4; have hcg6_5 : w4.cell? ⟨g6, 5, none⟩ = some (.slice A7 n7 c7) := (blk_cell BKg6.out 5).trans rfl; have hfg6_5 := blk_frozen BKg6.out 5; have hcg6_6 : w4.cell? ⟨g6, 6, none⟩ = some (.slice A9 n9 c9) := (blk_cell BKg6.out 6).trans rfl; have hfg6_6 := blk_frozen BKg6.out 6; have hcg9_0 : w4.cell? ⟨g9, 0, none⟩ = some (.pointer (some ⟨g6, 0, none⟩)) := (blk_cell BKg9.out 0).trans rfl; have hfg9_0 := blk_frozen BKg9.out 0; have hcg9_1 : w4.cell? ⟨g9, 1, none⟩ = some (.bool false) := (blk_cell BKg9.out 1).trans rfl; have hfg9_1 := blk_frozen BKg9.out 1; have hcg9_2 : w4.cell? ⟨g9, 2, none⟩ = some (.int .i64 (-1)) := (blk_cell BKg9.out 2).trans rfl; have hfg9_2 := blk_frozen BKg9.out 2; have hcg9_3 : w4.cell? ⟨g9, 3, none⟩ = some (.int .i64 0) := (blk_cell BKg9.out 3).trans rfl; have hfg9_3 := blk_frozen BKg9.out 3; clear tok3))
 go_ret2
 have hs9 := SZ4.out
 have hlt6 := HL6.out
 have hg6 := HG6.out
 have hs8 := HS8.out
 have hh6 := blk_lt BKg6.out
 refine ⟨_, rfl, ⟨g6, A7, n7, c7, A9, n9, c9, ⟨BKg9.out, BKg6.out, Kd.R_mono (Kd.R_bound HO7.out) (fun k hk => ⟨hk.2.1, hk.2.2.1⟩), Kd.R_mono (Kd.R_bound HO9.out) (fun k hk => ⟨hk.2.1, hk.2.2.1⟩), ⟨by omega, hs9.2⟩, ⟨hg6, hh6⟩, fun k hk => hk⟩⟩, HB.out⟩
def OfOK (a b c d : Int) (sl : List (List Int)) : Prop := okP a b c d = true ∧ (sl.length : Int) = (a + b) * d * 2 ∧ ∀ x ∈ sl, x.length = 0 ∨ (x.length : Int) = sizeOf08 a b c
set_option maxHeartbeats 8000000 in
set_option maxRecDepth 100000 in
theorem Of_badP (a b c d : Int) (Am : Option Addr) (cm : Nat) (sl : List (List Int)) (w : World) (hp : ¬ okP a b c d = true) (hC : Kd.C (Kd.slice 5 (Kd.int .u8)) w Am sl.length sl) : Calls Try.prog 30 #[.agg #[.int .i64 a, .int .i64 b, .int .i64 c, .int .i64 d, .slice Am sl.length cm]] w fun e w' => ((∃ (D dr : Nat) (As : Option Addr) (n cs : Nat) (Ag : Option Addr) (m cg : Nat), e = .returned (.tuple #[.pointer (some ⟨D, 0, none⟩), .int .i64 0]) ∧ DiskO w' w.heap.size (fun k => w.heap.size ≤ k ∧ k < w'.heap.size) D dr As n cs Ag m cg a b c d (sizeOf08 a b c) sl (List.replicate (a + b).toNat false) false (-1) 0 ∧ okP a b c d = true ∧ (sl.length : Int) = (a + b) * d * 2 ∧ ∀ x ∈ sl, x.length = 0 ∨ (x.length : Int) = sizeOf08 a b c) ∨ (∃ q : Int, e = .returned (.tuple #[.pointer none, .int .i64 q]) ∧ (q = 2 ∧ ¬ okP a b c d = true ∨ q = 90 ∧ okP a b c d = true) ∧ ¬ OfOK a b c d sl)) ∧ Below w.heap.size w w' := by
 have hu36 := Try.underlying36
 have hu23 := Try.underlying23
 have HP := Aside0.mk hp
 have HB := Aside0.mk (Below.refl w.heap.size w)
 clear hp hC
 go_enter Try.func30, Try.ntmps30
 have tok1 : True := trivial
 go_wp2_with (first | (have _ := tok1; (with_reducible refine gate_dst (N := 1) rfl ?_); refine box_event ?hg (N := 1) ?hd (cs := #[.int .i64 a, .int .i64 b, .int .i64 c, .int .i64 d, .slice Am sl.length cm]) (t := 36) ?hr ?_; (case hd => rfl); (case hg => rfl); (case hr => first | (go_simp; done) | (go_simp; rfl)); intro g1 hg w1 hbox hb; have hs : Below w.heap.size w w1 := below_step (by repeat (first | exact Below.refl _ _ | apply below_alloc | apply pw_below_drewN | apply below_drew1)) hb; have SZ1 := Aside0.mk (show w.heap.size ≤ g1 ∧ g1 < w1.heap.size from ⟨by rw [hg]; exact (below_size (by repeat (first | exact Below.refl _ _ | apply below_alloc | apply pw_below_drewN | apply below_drew1))), blk_lt hbox⟩); replace HB := Aside0.mk (below_step HB.out hs); have BKg1 := Aside0.mk hbox; clear hb hbox hg hs; have hcg1_0 : w1.cell? ⟨g1, 0, none⟩ = some (.int .i64 a) := (blk_cell BKg1.out 0).trans rfl; have hfg1_0 := blk_frozen BKg1.out 0; have hcg1_1 : w1.cell? ⟨g1, 1, none⟩ = some (.int .i64 b) := (blk_cell BKg1.out 1).trans rfl; have hfg1_1 := blk_frozen BKg1.out 1; have hcg1_2 : w1.cell? ⟨g1, 2, none⟩ = some (.int .i64 c) := (blk_cell BKg1.out 2).trans rfl; have hfg1_2 := blk_frozen BKg1.out 2; have hcg1_3 : w1.cell? ⟨g1, 3, none⟩ = some (.int .i64 d) := (blk_cell BKg1.out 3).trans rfl; have hfg1_3 := blk_frozen BKg1.out 3; have hcg1_4 : w1.cell? ⟨g1, 4, none⟩ = some (.slice Am sl.length cm) := (blk_cell BKg1.out 4).trans rfl; have hfg1_4 := blk_frozen BKg1.out 4; clear tok1; have tok2 : True := trivial) | (have _ := tok2; go_at_call 10; (with_reducible refine (New_bad a b c d _ HP.out).mono ?_); rintro e w2 ⟨rfl, hb⟩; (try clear hcg1_0 hfg1_0); (try clear hcg1_1 hfg1_1); (try clear hcg1_2 hfg1_2); (try clear hcg1_3 hfg1_3); (try clear hcg1_4 hfg1_4); have hs : Below w1.heap.size w1 w2 := below_step (by repeat (first | exact Below.refl _ _ | apply below_alloc | apply pw_below_drewN | apply below_drew1)) hb; have hl : w1.heap.size ≤ _ := below_size (w := w1) (by repeat (first | exact Below.refl _ _ | apply below_alloc | apply pw_below_drewN | apply below_drew1)); have SZ2 := Aside0.mk (show w1.heap.size ≤ w2.heap.size from hs.size); replace BKg1 := Aside0.mk (blk_below BKg1.out hs); replace HB := Aside0.mk (below_step HB.out hs); clear hb hs; (try clear hl); have hcg1_0 : w2.cell? ⟨g1, 0, none⟩ = some (.int .i64 a) := (blk_cell BKg1.out 0).trans rfl; have hfg1_0 := blk_frozen BKg1.out 0; have hcg1_1 : w2.cell? ⟨g1, 1, none⟩ = some (.int .i64 b) := (blk_cell BKg1.out 1).trans rfl; have hfg1_1 := blk_frozen BKg1.out 1; have hcg1_2 : w2.cell? ⟨g1, 2, none⟩ = some (.int .i64 c) := (blk_cell BKg1.out 2).trans rfl; have hfg1_2 := blk_frozen BKg1.out 2; have hcg1_3 : w2.cell? ⟨g1, 3, none⟩ = some (.int .i64 d) := (blk_cell BKg1.out 3).trans rfl; have hfg1_3 := blk_frozen BKg1.out 3; have hcg1_4 : w2.cell? ⟨g1, 4, none⟩ = some (.slice Am sl.length cm) := (blk_cell BKg1.out 4).trans rfl; have hfg1_4 := blk_frozen BKg1.out 4; clear tok2))
 go_ret2
 exact ⟨.inr ⟨2, rfl, .inl ⟨rfl, HP.out⟩, fun h => HP.out h.1⟩, HB.out⟩
theorem DiskO_up {W W2 : World} {base : Nat} {D dr n cs m cg : Nat} {As Ag : Option Addr} {a b c d sz : Int} {slots : List (List Int)} {gone : List Bool} {off : Bool} {cut wr : Int} (h : DiskO W base (fun k => base ≤ k ∧ k < W.heap.size) D dr As n cs Ag m cg a b c d sz slots gone off cut wr) (hs : Below W.heap.size W W2) : DiskO W2 base (fun k => base ≤ k ∧ k < W2.heap.size) D dr As n cs Ag m cg a b c d sz slots gone off cut wr :=
 (h.below hs).grow (fun k hk => ⟨hk.1, Nat.lt_of_lt_of_le hk.2 hs.size⟩) (fun k hk => hk)
theorem many_len {a b d : Int} {n : Nat} (h : (n : Int) = (a + b) * d * 2) (hm : wrap64 (wrap64 ((a + b) * d) * 2) = (a + b) * d * 2 ∧ 0 ≤ (a + b) * d ∧ (a + b) * d ≤ 4096 ∧ 1 ≤ a + b ∧ a + b ≤ 16) : n ≤ 8192 := by
 have := hm.2.2.1
 omega
set_option maxHeartbeats 8000000 in
set_option maxRecDepth 100000 in
theorem Of_okP (a b c d : Int) (Am : Option Addr) (cm : Nat) (sl : List (List Int)) (w : World) (hp : okP a b c d = true) (hC : Kd.C (Kd.slice 5 (Kd.int .u8)) w Am sl.length sl) : Calls Try.prog 30 #[.agg #[.int .i64 a, .int .i64 b, .int .i64 c, .int .i64 d, .slice Am sl.length cm]] w fun e w' => ((∃ (D dr : Nat) (As : Option Addr) (n cs : Nat) (Ag : Option Addr) (m cg : Nat), e = .returned (.tuple #[.pointer (some ⟨D, 0, none⟩), .int .i64 0]) ∧ DiskO w' w.heap.size (fun k => w.heap.size ≤ k ∧ k < w'.heap.size) D dr As n cs Ag m cg a b c d (sizeOf08 a b c) sl (List.replicate (a + b).toNat false) false (-1) 0 ∧ okP a b c d = true ∧ (sl.length : Int) = (a + b) * d * 2 ∧ ∀ x ∈ sl, x.length = 0 ∨ (x.length : Int) = sizeOf08 a b c) ∨ (∃ q : Int, e = .returned (.tuple #[.pointer none, .int .i64 q]) ∧ (q = 2 ∧ ¬ okP a b c d = true ∨ q = 90 ∧ okP a b c d = true) ∧ ¬ OfOK a b c d sl)) ∧ Below w.heap.size w w' := by
 have hu36 := Try.underlying36
 have hu23 := Try.underlying23
 have HP := Aside0.mk hp
 have HM := Aside0.mk (many a b c d hp)
 have HC := Aside0.mk hC
 have HB := Aside0.mk (Below.refl w.heap.size w)
 clear hp hC
 go_enter Try.func30, Try.ntmps30
 have tok1 : True := trivial
 go_wp2_with (first | (have _ := tok1; (with_reducible refine gate_dst (N := 1) rfl ?_); refine box_event ?hg (N := 1) ?hd (cs := #[.int .i64 a, .int .i64 b, .int .i64 c, .int .i64 d, .slice Am sl.length cm]) (t := 36) ?hr ?_; (case hd => rfl); (case hg => rfl); (case hr => first | (go_simp; done) | (go_simp; rfl)); intro g1 hg w1 hbox hb; have hs : Below w.heap.size w w1 := below_step (by repeat (first | exact Below.refl _ _ | apply below_alloc | apply pw_below_drewN | apply below_drew1)) hb; have SZ1 := Aside0.mk (show w.heap.size ≤ g1 ∧ g1 < w1.heap.size from ⟨by rw [hg]; exact (below_size (by repeat (first | exact Below.refl _ _ | apply below_alloc | apply pw_below_drewN | apply below_drew1))), blk_lt hbox⟩); replace HB := Aside0.mk (below_step HB.out hs); have BKg1 := Aside0.mk hbox; clear hb hbox hg hs; have hcg1_0 : w1.cell? ⟨g1, 0, none⟩ = some (.int .i64 a) := (blk_cell BKg1.out 0).trans rfl; have hfg1_0 := blk_frozen BKg1.out 0; have hcg1_1 : w1.cell? ⟨g1, 1, none⟩ = some (.int .i64 b) := (blk_cell BKg1.out 1).trans rfl; have hfg1_1 := blk_frozen BKg1.out 1; have hcg1_2 : w1.cell? ⟨g1, 2, none⟩ = some (.int .i64 c) := (blk_cell BKg1.out 2).trans rfl; have hfg1_2 := blk_frozen BKg1.out 2; have hcg1_3 : w1.cell? ⟨g1, 3, none⟩ = some (.int .i64 d) := (blk_cell BKg1.out 3).trans rfl; have hfg1_3 := blk_frozen BKg1.out 3; have hcg1_4 : w1.cell? ⟨g1, 4, none⟩ = some (.slice Am sl.length cm) := (blk_cell BKg1.out 4).trans rfl; have hfg1_4 := blk_frozen BKg1.out 4; clear tok1; have tok2 : True := trivial) | (have _ := tok2; go_at_call 10; (with_reducible refine (New_own a b c d _ HP.out).mono ?_); rintro e w2 ⟨D, dr, As, n, cs, Ag, m, cg, rfl, ho, hb⟩; (try clear hcg1_0 hfg1_0); (try clear hcg1_1 hfg1_1); (try clear hcg1_2 hfg1_2); (try clear hcg1_3 hfg1_3); (try clear hcg1_4 hfg1_4); have hs : Below w1.heap.size w1 w2 := below_step (by repeat (first | exact Below.refl _ _ | apply below_alloc | apply pw_below_drewN | apply below_drew1)) hb; have hl : w1.heap.size ≤ _ := below_size (w := w1) (by repeat (first | exact Below.refl _ _ | apply below_alloc | apply pw_below_drewN | apply below_drew1)); have SZ2 := Aside0.mk (show w1.heap.size ≤ w2.heap.size from hs.size); replace BKg1 := Aside0.mk (blk_below BKg1.out hs); replace HB := Aside0.mk (below_step HB.out hs); have HO := Aside0.mk ho; have HG := Aside0.mk (show w.heap.size ≤ w1.heap.size ∧ w1.heap.size ≤ _ from ⟨by have := SZ1.out; omega, hl⟩); clear ho; clear hb hs; (try clear hl); have hcg1_0 : w2.cell? ⟨g1, 0, none⟩ = some (.int .i64 a) := (blk_cell BKg1.out 0).trans rfl; have hfg1_0 := blk_frozen BKg1.out 0; have hcg1_1 : w2.cell? ⟨g1, 1, none⟩ = some (.int .i64 b) := (blk_cell BKg1.out 1).trans rfl; have hfg1_1 := blk_frozen BKg1.out 1; have hcg1_2 : w2.cell? ⟨g1, 2, none⟩ = some (.int .i64 c) := (blk_cell BKg1.out 2).trans rfl; have hfg1_2 := blk_frozen BKg1.out 2; have hcg1_3 : w2.cell? ⟨g1, 3, none⟩ = some (.int .i64 d) := (blk_cell BKg1.out 3).trans rfl; have hfg1_3 := blk_frozen BKg1.out 3; have hcg1_4 : w2.cell? ⟨g1, 4, none⟩ = some (.slice Am sl.length cm) := (blk_cell BKg1.out 4).trans rfl; have hfg1_4 := blk_frozen BKg1.out 4; clear tok2))
 have HH := Aside0.mk (show DiskO w2 w.heap.size (fun k => w.heap.size ≤ k ∧ k < w2.heap.size) D dr As n cs Ag m cg a b c d (sizeOf08 a b c) (List.replicate ((a + b) * d * 2).toNat []) (List.replicate (a + b).toNat false) false (-1) 0 from by
  have h := HO.out
  have hg := HG.out
  obtain ⟨h1, h2, h3, h4, h5, h6, h7⟩ := h
  exact ⟨h1, h2, Kd.R_mono (Kd.R_lower h3 (by omega)) (fun k hk => ⟨by have := hk.1; omega, hk.2⟩), Kd.R_mono (Kd.R_lower h4 (by omega)) (fun k hk => ⟨by have := hk.1; omega, hk.2⟩), ⟨by have := h5.1; omega, h5.2⟩, ⟨by have := h6.1; omega, h6.2⟩, fun k hk => hk⟩)
 have HLN := Aside0.mk HH.out.lens
 have BKD := Aside0.mk HH.out.1
 have BKdr := Aside0.mk HH.out.2.1
 have hneDd : D ≠ dr := HH.out.ne
 have hnedD : dr ≠ D := hneDd.symm
 have hne1D : g1 ≠ D := by
  have h1 := HO.out.2.2.2.2.1.1
  have h2 := blk_lt BKg1.out
  have h3 := SZ1.out
  have h4 := HG.out
  omega
 have hneD1 : D ≠ g1 := hne1D.symm
 have hne1d : g1 ≠ dr := by
  have h1 := HO.out.2.2.2.2.2.1.1
  have h3 := SZ1.out
  have h4 := HG.out
  omega
 have hned1 : dr ≠ g1 := hne1d.symm
 clear HO
 have hcD_0 : w2.cell? ⟨D, 0, none⟩ = some (.pointer (some ⟨dr, 0, none⟩)) := (blk_cell BKD.out 0).trans rfl
 have hfD_0 := blk_frozen BKD.out 0
 have hcD_1 : w2.cell? ⟨D, 1, none⟩ = some (.bool false) := (blk_cell BKD.out 1).trans rfl
 have hfD_1 := blk_frozen BKD.out 1
 have hcD_2 : w2.cell? ⟨D, 2, none⟩ = some (.int .i64 (-1)) := (blk_cell BKD.out 2).trans rfl
 have hfD_2 := blk_frozen BKD.out 2
 have hcD_3 : w2.cell? ⟨D, 3, none⟩ = some (.int .i64 0) := (blk_cell BKD.out 3).trans rfl
 have hfD_3 := blk_frozen BKD.out 3
 have hcdr_0 : w2.cell? ⟨dr, 0, none⟩ = some (.int .i64 a) := (blk_cell BKdr.out 0).trans rfl
 have hfdr_0 := blk_frozen BKdr.out 0
 have hcdr_1 : w2.cell? ⟨dr, 1, none⟩ = some (.int .i64 b) := (blk_cell BKdr.out 1).trans rfl
 have hfdr_1 := blk_frozen BKdr.out 1
 have hcdr_2 : w2.cell? ⟨dr, 2, none⟩ = some (.int .i64 c) := (blk_cell BKdr.out 2).trans rfl
 have hfdr_2 := blk_frozen BKdr.out 2
 have hcdr_3 : w2.cell? ⟨dr, 3, none⟩ = some (.int .i64 d) := (blk_cell BKdr.out 3).trans rfl
 have hfdr_3 := blk_frozen BKdr.out 3
 have hcdr_4 : w2.cell? ⟨dr, 4, none⟩ = some (.int .i64 (sizeOf08 a b c)) := (blk_cell BKdr.out 4).trans rfl
 have hfdr_4 := blk_frozen BKdr.out 4
 have hcdr_5 : w2.cell? ⟨dr, 5, none⟩ = some (.slice As n cs) := (blk_cell BKdr.out 5).trans rfl
 have hfdr_5 := blk_frozen BKdr.out 5
 have hcdr_6 : w2.cell? ⟨dr, 6, none⟩ = some (.slice Ag m cg) := (blk_cell BKdr.out 6).trans rfl
 have hfdr_6 := blk_frozen BKdr.out 6
 (try clear hcg1_0 hfg1_0)
 (try clear hcg1_1 hfg1_1)
 (try clear hcg1_2 hfg1_2)
 (try clear hcg1_3 hfg1_3)
 (try clear hcg1_4 hfg1_4)
 (try clear hcD_0 hfD_0)
 (try clear hcD_1 hfD_1)
 (try clear hcD_2 hfD_2)
 (try clear hcD_3 hfD_3)
 (try clear hcdr_0 hfdr_0)
 (try clear hcdr_1 hfdr_1)
 (try clear hcdr_2 hfdr_2)
 (try clear hcdr_3 hfdr_3)
 (try clear hcdr_4 hfdr_4)
 (try clear hcdr_5 hfdr_5)
 (try clear hcdr_6 hfdr_6)
 have hs : Below w2.heap.size w2 (World.drew w2) := below_drew1 (Below.refl _ _)
 have SZ3 := Aside0.mk (show w2.heap.size ≤ (World.drew w2).heap.size from hs.size)
 replace BKg1 := Aside0.mk (blk_below BKg1.out hs)
 replace BKD := Aside0.mk (blk_below BKD.out hs)
 replace BKdr := Aside0.mk (blk_below BKdr.out hs)
 replace HH := Aside0.mk (DiskO_up HH.out hs)
 have n_ := Aside0.mk (below_step HB.out hs)
 clear HB
 have HB := n_
 clear n_ hs
 refine start_ (n := 12) (S := fun w' => w'.cell? ⟨g1, 0, none⟩ = some (.int .i64 a) ∧ w'.cell? ⟨g1, 1, none⟩ = some (.int .i64 b) ∧ w'.cell? ⟨g1, 2, none⟩ = some (.int .i64 c) ∧ w'.cell? ⟨g1, 3, none⟩ = some (.int .i64 d) ∧ w'.cell? ⟨g1, 4, none⟩ = some (.slice Am sl.length cm) ∧ w'.cell? ⟨D, 0, none⟩ = some (.pointer (some ⟨dr, 0, none⟩)) ∧ w'.cell? ⟨D, 1, none⟩ = some (.bool false) ∧ w'.cell? ⟨D, 2, none⟩ = some (.int .i64 (-1)) ∧ w'.cell? ⟨D, 3, none⟩ = some (.int .i64 0) ∧ w'.cell? ⟨dr, 0, none⟩ = some (.int .i64 a) ∧ w'.cell? ⟨dr, 1, none⟩ = some (.int .i64 b) ∧ w'.cell? ⟨dr, 2, none⟩ = some (.int .i64 c) ∧ w'.cell? ⟨dr, 3, none⟩ = some (.int .i64 d) ∧ w'.cell? ⟨dr, 4, none⟩ = some (.int .i64 (sizeOf08 a b c)) ∧ w'.cell? ⟨dr, 5, none⟩ = some (.slice As n cs) ∧ w'.cell? ⟨dr, 6, none⟩ = some (.slice Ag m cg)) (ds := []) #[false, false, false, false, false, false, false, false, false, false, false, false] (by kernel_rfl) rfl rfl ⟨(blk_cell BKg1.out 0).trans rfl, (blk_cell BKg1.out 1).trans rfl, (blk_cell BKg1.out 2).trans rfl, (blk_cell BKg1.out 3).trans rfl, (blk_cell BKg1.out 4).trans rfl, (blk_cell BKD.out 0).trans rfl, (blk_cell BKD.out 1).trans rfl, (blk_cell BKD.out 2).trans rfl, (blk_cell BKD.out 3).trans rfl, (blk_cell BKdr.out 0).trans rfl, (blk_cell BKdr.out 1).trans rfl, (blk_cell BKdr.out 2).trans rfl, (blk_cell BKdr.out 3).trans rfl, (blk_cell BKdr.out 4).trans rfl, (blk_cell BKdr.out 5).trans rfl, (blk_cell BKdr.out 6).trans rfl⟩ (fun hHeld => ?_)
 generalize World.drew w2 = w3 at HB BKg1 BKD BKdr HH SZ3 hHeld ⊢
 refine pure_ (i := 0) (N := some 17) (v := ?_) (a' := ?_) #[true, false, false, false, false, false, false, false, false, false, false, false] rfl rfl (by kernel_rfl) (fun _ _ _ h => h) (Or.inl ⟨by rfl, ?_⟩) ?_ ?_
 rotate_left
 ·
  intro w'
  go_simp
  with_reducible rfl
 rotate_left
 ·
  simp only [Act.put, List.setIfInBounds_toArray, List.set_cons_zero, List.set_cons_succ, i64_w, i32_w]
  rfl
 refine pure_ (i := 3) (N := some 20) (v := ?_) (a' := ?_) #[true, false, false, true, false, false, false, false, false, false, false, false] rfl rfl (by kernel_rfl) (fun _ _ _ h => h) (Or.inl ⟨by rfl, ?_⟩) ?_ ?_
 rotate_left
 ·
  intro w'
  go_simp
  with_reducible rfl
 rotate_left
 ·
  simp only [Act.put, List.setIfInBounds_toArray, List.set_cons_zero, List.set_cons_succ, i64_w, i32_w]
  rfl
 refine pure_ (i := 4) (N := some 21) (v := ?_) (a' := ?_) #[true, false, false, true, true, false, false, false, false, false, false, false] rfl rfl (by kernel_rfl) (fun _ _ _ h => h) (Or.inl ⟨by rfl, ?_⟩) ?_ ?_
 rotate_left
 ·
  intro w'
  go_simp
  with_reducible rfl
 rotate_left
 ·
  simp only [Act.put, List.setIfInBounds_toArray, List.set_cons_zero, List.set_cons_succ, i64_w, i32_w]
  rfl
 refine pure_ (i := 5) (N := some 22) (v := ?_) (a' := ?_) #[true, false, false, true, true, true, false, false, false, false, false, false] rfl rfl (by kernel_rfl) (fun _ _ _ h => h) (Or.inl ⟨by rfl, ?_⟩) ?_ ?_
 rotate_left
 ·
  intro w'
  go_simp
  with_reducible rfl
 rotate_left
 ·
  simp only [Act.put, List.setIfInBounds_toArray, List.set_cons_zero, List.set_cons_succ, i64_w, i32_w]
  rfl
 refine take_ (i := 1) (N := some 18) (v := ?_) (a' := ?_) #[true, true, false, true, true, true, false, false, false, false, false, false] rfl rfl (by kernel_rfl) (fun _ _ _ h => h) (Or.inl ⟨by rfl, ?_⟩) hHeld ?_ ?_
 rotate_left
 ·
  rintro w' ⟨s0, s1, s2, s3, s4, s5, s6, s7, s8, s9, s10, s11, s12, s13, s14, s15⟩
  go_simp
  with_reducible rfl
 rotate_left
 ·
  simp only [Act.put, List.setIfInBounds_toArray, List.set_cons_zero, List.set_cons_succ, i64_w, i32_w]
  rfl
 refine pure_ (i := 2) (N := some 19) (v := ?_) (a' := ?_) #[true, true, true, true, true, true, false, false, false, false, false, false] rfl rfl (by kernel_rfl) (fun _ _ _ h => h) (Or.inl ⟨by rfl, ?_⟩) ?_ ?_
 rotate_left
 ·
  intro w'
  go_simp
  with_reducible rfl
 rotate_left
 ·
  simp only [Act.put, List.setIfInBounds_toArray, List.set_cons_zero, List.set_cons_succ, i64_w, i32_w]
  rfl
 refine take_ (i := 6) (N := some 23) (v := ?_) (a' := ?_) #[true, true, true, true, true, true, true, false, false, false, false, false] rfl rfl (by kernel_rfl) (fun _ _ _ h => h) (Or.inl ⟨by rfl, ?_⟩) hHeld ?_ ?_
 rotate_left
 ·
  rintro w' ⟨s0, s1, s2, s3, s4, s5, s6, s7, s8, s9, s10, s11, s12, s13, s14, s15⟩
  go_simp
  with_reducible rfl
 rotate_left
 ·
  simp only [Act.put, List.setIfInBounds_toArray, List.set_cons_zero, List.set_cons_succ, i64_w, i32_w]
  rfl
 refine pure_ (i := 7) (N := some 24) (v := ?_) (a' := ?_) #[true, true, true, true, true, true, true, true, false, false, false, false] rfl rfl (by kernel_rfl) (fun _ _ _ h => h) (Or.inl ⟨by rfl, ?_⟩) ?_ ?_
 rotate_left
 ·
  intro w'
  go_simp
  with_reducible rfl
 rotate_left
 ·
  simp only [Act.put, List.setIfInBounds_toArray, List.set_cons_zero, List.set_cons_succ, i64_w, i32_w]
  rfl
 refine pure_ (i := 8) (N := some 25) (v := ?_) (a' := ?_) #[true, true, true, true, true, true, true, true, true, false, false, false] rfl rfl (by kernel_rfl) (fun _ _ _ h => h) (Or.inl ⟨by rfl, ?_⟩) ?_ ?_
 rotate_left
 ·
  intro w'
  go_simp
  with_reducible rfl
 rotate_left
 ·
  simp only [Act.put, List.setIfInBounds_toArray, List.set_cons_zero, List.set_cons_succ, i64_w, i32_w]
  rfl
 refine take_ (i := 9) (N := some 26) (v := ?_) (a' := ?_) #[true, true, true, true, true, true, true, true, true, true, false, false] rfl rfl (by kernel_rfl) (fun _ _ _ h => h) (Or.inl ⟨by rfl, ?_⟩) hHeld ?_ ?_
 rotate_left
 ·
  rintro w' ⟨s0, s1, s2, s3, s4, s5, s6, s7, s8, s9, s10, s11, s12, s13, s14, s15⟩
  go_simp
  with_reducible rfl
 rotate_left
 ·
  simp only [Act.put, List.setIfInBounds_toArray, List.set_cons_zero, List.set_cons_succ, i64_w, i32_w]
  rfl
 refine pure_ (i := 10) (N := some 27) (v := ?_) (a' := ?_) #[true, true, true, true, true, true, true, true, true, true, true, false] rfl rfl (by kernel_rfl) (fun _ _ _ h => h) (Or.inl ⟨by rfl, ?_⟩) ?_ ?_
 rotate_left
 ·
  intro w'
  go_simp
  with_reducible rfl
 rotate_left
 ·
  simp only [Act.put, List.setIfInBounds_toArray, List.set_cons_zero, List.set_cons_succ, i64_w, i32_w]
  rfl
 refine pure_ (i := 11) (N := some 28) (v := ?_) (a' := ?_) #[true, true, true, true, true, true, true, true, true, true, true, true] rfl rfl (by kernel_rfl) (fun _ _ _ h => h) (Or.inl ⟨by rfl, ?_⟩) ?_ ?_
 rotate_left
 ·
  intro w'
  go_simp
  with_reducible rfl
 rotate_left
 ·
  simp only [Act.put, List.setIfInBounds_toArray, List.set_cons_zero, List.set_cons_succ, i64_w, i32_w]
  rfl
 refine done_ (by kernel_rfl) ?_
 have hcg1_0 : w3.cell? ⟨g1, 0, none⟩ = some (.int .i64 a) := (blk_cell BKg1.out 0).trans rfl
 have hfg1_0 := blk_frozen BKg1.out 0
 have hcg1_1 : w3.cell? ⟨g1, 1, none⟩ = some (.int .i64 b) := (blk_cell BKg1.out 1).trans rfl
 have hfg1_1 := blk_frozen BKg1.out 1
 have hcg1_2 : w3.cell? ⟨g1, 2, none⟩ = some (.int .i64 c) := (blk_cell BKg1.out 2).trans rfl
 have hfg1_2 := blk_frozen BKg1.out 2
 have hcg1_3 : w3.cell? ⟨g1, 3, none⟩ = some (.int .i64 d) := (blk_cell BKg1.out 3).trans rfl
 have hfg1_3 := blk_frozen BKg1.out 3
 have hcg1_4 : w3.cell? ⟨g1, 4, none⟩ = some (.slice Am sl.length cm) := (blk_cell BKg1.out 4).trans rfl
 have hfg1_4 := blk_frozen BKg1.out 4
 have hcD_0 : w3.cell? ⟨D, 0, none⟩ = some (.pointer (some ⟨dr, 0, none⟩)) := (blk_cell BKD.out 0).trans rfl
 have hfD_0 := blk_frozen BKD.out 0
 have hcD_1 : w3.cell? ⟨D, 1, none⟩ = some (.bool false) := (blk_cell BKD.out 1).trans rfl
 have hfD_1 := blk_frozen BKD.out 1
 have hcD_2 : w3.cell? ⟨D, 2, none⟩ = some (.int .i64 (-1)) := (blk_cell BKD.out 2).trans rfl
 have hfD_2 := blk_frozen BKD.out 2
 have hcD_3 : w3.cell? ⟨D, 3, none⟩ = some (.int .i64 0) := (blk_cell BKD.out 3).trans rfl
 have hfD_3 := blk_frozen BKD.out 3
 have hcdr_0 : w3.cell? ⟨dr, 0, none⟩ = some (.int .i64 a) := (blk_cell BKdr.out 0).trans rfl
 have hfdr_0 := blk_frozen BKdr.out 0
 have hcdr_1 : w3.cell? ⟨dr, 1, none⟩ = some (.int .i64 b) := (blk_cell BKdr.out 1).trans rfl
 have hfdr_1 := blk_frozen BKdr.out 1
 have hcdr_2 : w3.cell? ⟨dr, 2, none⟩ = some (.int .i64 c) := (blk_cell BKdr.out 2).trans rfl
 have hfdr_2 := blk_frozen BKdr.out 2
 have hcdr_3 : w3.cell? ⟨dr, 3, none⟩ = some (.int .i64 d) := (blk_cell BKdr.out 3).trans rfl
 have hfdr_3 := blk_frozen BKdr.out 3
 have hcdr_4 : w3.cell? ⟨dr, 4, none⟩ = some (.int .i64 (sizeOf08 a b c)) := (blk_cell BKdr.out 4).trans rfl
 have hfdr_4 := blk_frozen BKdr.out 4
 have hcdr_5 : w3.cell? ⟨dr, 5, none⟩ = some (.slice As n cs) := (blk_cell BKdr.out 5).trans rfl
 have hfdr_5 := blk_frozen BKdr.out 5
 have hcdr_6 : w3.cell? ⟨dr, 6, none⟩ = some (.slice Ag m cg) := (blk_cell BKdr.out 6).trans rfl
 have hfdr_6 := blk_frozen BKdr.out 6
 by_cases hl : (sl.length : Int) = (a + b) * d * 2
 rotate_left
 ·
  have d1 : ((sl.length : Int) == (n : Int)) = false := by
   have h1 := HLN.out.1
   rw [List.length_replicate] at h1
   have h2 := HM.out.2.1
   rw [h1]
   exact beq_false_of_ne (by omega)
  have d2 : (sl.length = n) = False := eq_false (by
   have h1 := HLN.out.1
   rw [List.length_replicate] at h1
   have h2 := HM.out.2.1
   omega)
  have HNL := Aside0.mk hl
  clear hl
  go_wp2_with (fail)
  go_ret2
  exact ⟨.inr ⟨90, rfl, .inr ⟨rfl, HP.out⟩, fun h => HNL.out h.2.1⟩, HB.out⟩
 have HSL := Aside0.mk hl
 have hn : n = sl.length := by
  have h1 := HLN.out.1
  rw [List.length_replicate] at h1
  have h2 := HM.out.2.1
  omega
 subst hn
 clear hl
 go_wp2_with (fail)
 (try clear hcg1_0 hfg1_0)
 (try clear hcg1_1 hfg1_1)
 (try clear hcg1_2 hfg1_2)
 (try clear hcg1_3 hfg1_3)
 (try clear hcg1_4 hfg1_4)
 (try clear hcD_0 hfD_0)
 (try clear hcD_1 hfD_1)
 (try clear hcD_2 hfD_2)
 (try clear hcD_3 hfD_3)
 (try clear hcdr_0 hfdr_0)
 (try clear hcdr_1 hfdr_1)
 (try clear hcdr_2 hfdr_2)
 (try clear hcdr_3 hfdr_3)
 (try clear hcdr_4 hfdr_4)
 (try clear hcdr_5 hfdr_5)
 (try clear hcdr_6 hfdr_6)
 go_loopg [32] sl.length (fun kq v32 wr => ∃ k : Nat, v32 = .int .i64 (k : Int) ∧ Aside0 (k ≤ sl.length ∧ sl.length - k ≤ kq) ∧ Aside0 (DiskO wr w.heap.size (fun q => w.heap.size ≤ q ∧ q < wr.heap.size) D dr As sl.length cs Ag m cg a b c d (sizeOf08 a b c) (sl.take k ++ List.replicate (sl.length - k) ([] : List Int)) (List.replicate (a + b).toNat false) false (-1) 0) ∧ Aside0 (∀ x ∈ sl.take k, x.length = 0 ∨ (x.length : Int) = sizeOf08 a b c) ∧ Aside0 (Below w.heap.size w wr))
 case atStart =>
  refine ⟨0, rfl, Aside0.mk ⟨by omega, by omega⟩, Aside0.mk ?_, Aside0.mk (fun x hx => by simp at hx), HB⟩
  have h := HH.out
  have e : ((a + b) * d * 2).toNat = sl.length := by
   have h1 := HSL.out
   have h2 := HM.out.2.1
   omega
  rw [e] at h
  simpa using h
 case round =>
  clear HH BKD BKdr BKg1 HB
  obtain ⟨k, rfl, AX, HH, HGD, HB⟩ := hrel
  have hlen : (sl.take k ++ List.replicate (sl.length - k) ([] : List Int)).length = sl.length := by
   have := AX.out
   rw [List.length_append, List.length_take, List.length_replicate]
   omega
  have HLEN := Aside0.mk hlen
  clear hlen
  by_cases hlt : k < sl.length
  ·
   obtain ⟨ad, x, eA, hf, hx, B, cc, hcell, hle, hCx⟩ := bytes_elem HC.out k hlt
   subst eA
   obtain ⟨g7, cap7, e7, hb7, hl7, cells7, hh7⟩ := Kd.R_form HH.out.2.2.1 (by rw [HLEN.out]; omega)
   injection e7 with ea en ec
   subst ea
   have AF := Aside0.mk hf
   have HXM := Aside0.mk hx
   have ALe := Aside0.mk hle
   have ACx := Aside0.mk hCx
   have HG7 := Aside0.mk (show w.heap.size ≤ g7 ∧ g7 < wr.heap.size from ⟨hb7, hl7⟩)
   have b1 : decide ((k : Int) < (sl.length : Int)) = true := decide_eq_true (by omega)
   have b2 : decide (k < sl.length) = true := decide_eq_true hlt
   have b3 : (k < sl.length) = True := eq_true hlt
   have HCe := Aside0.mk (pw_cell_below HB.out hcell)
   have HK := Aside0.mk hlt
   have BKD := Aside0.mk HH.out.1
   have BKdr := Aside0.mk HH.out.2.1
   have HSZ := Aside0.mk (show w.heap.size ≤ wr.heap.size from HB.out.size)
   clear hlt hf hx hle hCx hcell hb7 hl7 hh7 en ec cells7
   by_cases c1 : (x.length : Int) = 0 ∨ (x.length : Int) = sizeOf08 a b c
   rotate_left
   ·
    have d1 : ((x.length : Int) == 0) = false := beq_false_of_ne (fun h => c1 (.inl h))
    have d1' : (x.length = 0) = False := eq_false (fun h => c1 (.inl (by omega)))
    have d2 : ((x.length : Int) == sizeOf08 a b c) = false := beq_false_of_ne (fun h => c1 (.inr h))
    have e1 : ((x.length : Int) != 0) = true := by rw [bne, d1]; rfl
    have e2 : ((x.length : Int) != sizeOf08 a b c) = true := by rw [bne, d2]; rfl
    have HNX := Aside0.mk (show ¬ OfOK a b c d sl from fun h => c1 (by rcases h.2.2 x HXM.out with h | h; exact .inl (by omega); exact .inr h))
    clear c1
    have hcD_0 : wr.cell? ⟨D, 0, none⟩ = some (.pointer (some ⟨dr, 0, none⟩)) := (blk_cell BKD.out 0).trans rfl
    have hfD_0 := blk_frozen BKD.out 0
    have hcD_1 : wr.cell? ⟨D, 1, none⟩ = some (.bool false) := (blk_cell BKD.out 1).trans rfl
    have hfD_1 := blk_frozen BKD.out 1
    have hcD_2 : wr.cell? ⟨D, 2, none⟩ = some (.int .i64 (-1)) := (blk_cell BKD.out 2).trans rfl
    have hfD_2 := blk_frozen BKD.out 2
    have hcD_3 : wr.cell? ⟨D, 3, none⟩ = some (.int .i64 0) := (blk_cell BKD.out 3).trans rfl
    have hfD_3 := blk_frozen BKD.out 3
    have hcdr_0 : wr.cell? ⟨dr, 0, none⟩ = some (.int .i64 a) := (blk_cell BKdr.out 0).trans rfl
    have hfdr_0 := blk_frozen BKdr.out 0
    have hcdr_1 : wr.cell? ⟨dr, 1, none⟩ = some (.int .i64 b) := (blk_cell BKdr.out 1).trans rfl
    have hfdr_1 := blk_frozen BKdr.out 1
    have hcdr_2 : wr.cell? ⟨dr, 2, none⟩ = some (.int .i64 c) := (blk_cell BKdr.out 2).trans rfl
    have hfdr_2 := blk_frozen BKdr.out 2
    have hcdr_3 : wr.cell? ⟨dr, 3, none⟩ = some (.int .i64 d) := (blk_cell BKdr.out 3).trans rfl
    have hfdr_3 := blk_frozen BKdr.out 3
    have hcdr_4 : wr.cell? ⟨dr, 4, none⟩ = some (.int .i64 (sizeOf08 a b c)) := (blk_cell BKdr.out 4).trans rfl
    have hfdr_4 := blk_frozen BKdr.out 4
    have hcdr_5 : wr.cell? ⟨dr, 5, none⟩ = some (.slice (some ⟨g7, 0, none⟩) sl.length cs) := (blk_cell BKdr.out 5).trans rfl
    have hfdr_5 := blk_frozen BKdr.out 5
    have hcdr_6 : wr.cell? ⟨dr, 6, none⟩ = some (.slice Ag m cg) := (blk_cell BKdr.out 6).trans rfl
    have hfdr_6 := blk_frozen BKdr.out 6
    have xHCe := HCe.out
    go_wp2_with (fail)
    go_ret2
    exact ⟨.inr ⟨90, rfl, .inr ⟨rfl, HP.out⟩, HNX.out⟩, HB.out⟩
   have HC1 := Aside0.mk c1
   have AC := Aside0.mk (show slices_Clone_byte_byte.f x = some x by
    unfold slices_Clone_byte_byte.f
    have h1 := okP_iff.mp HP.out
    have h2 : sizeOf08 a b c ≤ 1000000 := by
     unfold sizeOf08 wrap64
     omega
    rw [if_pos (by omega)])
   by_cases c2 : (x.length : Int) = 0
   ·
    have d1 : ((x.length : Int) == 0) = true := beq_iff_eq.mpr c2
    have d1' : (x.length = 0) = True := eq_true (by omega)
    have e1 : ((x.length : Int) != 0) = false := by rw [bne, d1]; rfl
    clear c1 c2
    have hcD_0 : wr.cell? ⟨D, 0, none⟩ = some (.pointer (some ⟨dr, 0, none⟩)) := (blk_cell BKD.out 0).trans rfl
    have hfD_0 := blk_frozen BKD.out 0
    have hcD_1 : wr.cell? ⟨D, 1, none⟩ = some (.bool false) := (blk_cell BKD.out 1).trans rfl
    have hfD_1 := blk_frozen BKD.out 1
    have hcD_2 : wr.cell? ⟨D, 2, none⟩ = some (.int .i64 (-1)) := (blk_cell BKD.out 2).trans rfl
    have hfD_2 := blk_frozen BKD.out 2
    have hcD_3 : wr.cell? ⟨D, 3, none⟩ = some (.int .i64 0) := (blk_cell BKD.out 3).trans rfl
    have hfD_3 := blk_frozen BKD.out 3
    have hcdr_0 : wr.cell? ⟨dr, 0, none⟩ = some (.int .i64 a) := (blk_cell BKdr.out 0).trans rfl
    have hfdr_0 := blk_frozen BKdr.out 0
    have hcdr_1 : wr.cell? ⟨dr, 1, none⟩ = some (.int .i64 b) := (blk_cell BKdr.out 1).trans rfl
    have hfdr_1 := blk_frozen BKdr.out 1
    have hcdr_2 : wr.cell? ⟨dr, 2, none⟩ = some (.int .i64 c) := (blk_cell BKdr.out 2).trans rfl
    have hfdr_2 := blk_frozen BKdr.out 2
    have hcdr_3 : wr.cell? ⟨dr, 3, none⟩ = some (.int .i64 d) := (blk_cell BKdr.out 3).trans rfl
    have hfdr_3 := blk_frozen BKdr.out 3
    have hcdr_4 : wr.cell? ⟨dr, 4, none⟩ = some (.int .i64 (sizeOf08 a b c)) := (blk_cell BKdr.out 4).trans rfl
    have hfdr_4 := blk_frozen BKdr.out 4
    have hcdr_5 : wr.cell? ⟨dr, 5, none⟩ = some (.slice (some ⟨g7, 0, none⟩) sl.length cs) := (blk_cell BKdr.out 5).trans rfl
    have hfdr_5 := blk_frozen BKdr.out 5
    have hcdr_6 : wr.cell? ⟨dr, 6, none⟩ = some (.slice Ag m cg) := (blk_cell BKdr.out 6).trans rfl
    have hfdr_6 := blk_frozen BKdr.out 6
    have xHCe := HCe.out
    go_wp2_with (fail)
    (try clear hcD_0 hfD_0)
    (try clear hcD_1 hfD_1)
    (try clear hcD_2 hfD_2)
    (try clear hcD_3 hfD_3)
    (try clear hcdr_0 hfdr_0)
    (try clear hcdr_1 hfdr_1)
    (try clear hcdr_2 hfdr_2)
    (try clear hcdr_3 hfdr_3)
    (try clear hcdr_4 hfdr_4)
    (try clear hcdr_5 hfdr_5)
    (try clear hcdr_6 hfdr_6)
    (try clear xHCe)
    have hs : Below wr.heap.size wr (World.drew wr) := below_drew1 (Below.refl _ _)
    have SZ4 := Aside0.mk (show wr.heap.size ≤ (World.drew wr).heap.size from hs.size)
    replace BKD := Aside0.mk (blk_below BKD.out hs)
    replace BKdr := Aside0.mk (blk_below BKdr.out hs)
    replace HCe := Aside0.mk (pw_cell_below hs HCe.out)
    replace HH := Aside0.mk (DiskO_up HH.out hs)
    have n_ := Aside0.mk (below_step HB.out hs)
    clear HB
    have HB := n_
    clear n_ hs
    refine start_ (n := 12) (S := fun w' => w'.cell? ⟨D, 0, none⟩ = some (.pointer (some ⟨dr, 0, none⟩)) ∧ w'.cell? ⟨D, 1, none⟩ = some (.bool false) ∧ w'.cell? ⟨D, 2, none⟩ = some (.int .i64 (-1)) ∧ w'.cell? ⟨D, 3, none⟩ = some (.int .i64 0) ∧ w'.cell? ⟨dr, 0, none⟩ = some (.int .i64 a) ∧ w'.cell? ⟨dr, 1, none⟩ = some (.int .i64 b) ∧ w'.cell? ⟨dr, 2, none⟩ = some (.int .i64 c) ∧ w'.cell? ⟨dr, 3, none⟩ = some (.int .i64 d) ∧ w'.cell? ⟨dr, 4, none⟩ = some (.int .i64 (sizeOf08 a b c)) ∧ w'.cell? ⟨dr, 5, none⟩ = some (.slice (some ⟨g7, 0, none⟩) sl.length cs) ∧ w'.cell? ⟨dr, 6, none⟩ = some (.slice Ag m cg) ∧ w'.cell? (ad.add k) = some (.slice B x.length cc)) (ds := [11]) #[false, false, false, false, false, false, false, false, false, false, false, false] (by kernel_rfl) rfl rfl ⟨(blk_cell BKD.out 0).trans rfl, (blk_cell BKD.out 1).trans rfl, (blk_cell BKD.out 2).trans rfl, (blk_cell BKD.out 3).trans rfl, (blk_cell BKdr.out 0).trans rfl, (blk_cell BKdr.out 1).trans rfl, (blk_cell BKdr.out 2).trans rfl, (blk_cell BKdr.out 3).trans rfl, (blk_cell BKdr.out 4).trans rfl, (blk_cell BKdr.out 5).trans rfl, (blk_cell BKdr.out 6).trans rfl, HCe.out⟩ (fun hHeld => ?_)
    generalize World.drew wr = w4 at HB BKD BKdr HCe HH SZ4 hHeld ⊢
    refine pure_ (i := 0) (N := some 52) (v := ?_) (a' := ?_) #[true, false, false, false, false, false, false, false, false, false, false, false] rfl rfl (by kernel_rfl) (fun _ _ _ h => h) (Or.inl ⟨by rfl, ?_⟩) ?_ ?_
    rotate_left
    ·
     intro w'
     go_simp
     with_reducible rfl
    rotate_left
    ·
     simp only [Act.put, List.setIfInBounds_toArray, List.set_cons_zero, List.set_cons_succ, i64_w, i32_w]
     rfl
    refine pure_ (i := 1) (N := some 53) (v := ?_) (a' := ?_) #[true, true, false, false, false, false, false, false, false, false, false, false] rfl rfl (by kernel_rfl) (fun _ _ _ h => h) (Or.inl ⟨by rfl, ?_⟩) ?_ ?_
    rotate_left
    ·
     intro w'
     go_simp
     with_reducible rfl
    rotate_left
    ·
     simp only [Act.put, List.setIfInBounds_toArray, List.set_cons_zero, List.set_cons_succ, i64_w, i32_w]
     rfl
    refine pure_ (i := 2) (N := some 54) (v := ?_) (a' := ?_) #[true, true, true, false, false, false, false, false, false, false, false, false] rfl rfl (by kernel_rfl) (fun _ _ _ h => h) (Or.inl ⟨by rfl, ?_⟩) ?_ ?_
    rotate_left
    ·
     intro w'
     go_simp
     with_reducible rfl
    rotate_left
    ·
     simp only [Act.put, List.setIfInBounds_toArray, List.set_cons_zero, List.set_cons_succ, i64_w, i32_w]
     rfl
    refine pure_ (i := 7) (N := some 59) (v := ?_) (a' := ?_) #[true, true, true, false, false, false, false, true, false, false, false, false] rfl rfl (by kernel_rfl) (fun _ _ _ h => h) (Or.inl ⟨by rfl, ?_⟩) ?_ ?_
    rotate_left
    ·
     intro w'
     go_simp
     with_reducible rfl
    rotate_left
    ·
     simp only [Act.put, List.setIfInBounds_toArray, List.set_cons_zero, List.set_cons_succ, i64_w, i32_w]
     rfl
    refine pure_ (i := 8) (N := some 60) (v := ?_) (a' := ?_) #[true, true, true, false, false, false, false, true, true, false, false, false] rfl rfl (by kernel_rfl) (fun _ _ _ h => h) (Or.inl ⟨by rfl, ?_⟩) ?_ ?_
    rotate_left
    ·
     intro w'
     go_simp
     with_reducible rfl
    rotate_left
    ·
     simp only [Act.put, List.setIfInBounds_toArray, List.set_cons_zero, List.set_cons_succ, i64_w, i32_w]
     rfl
    refine take_ (i := 3) (N := some 55) (v := ?_) (a' := ?_) #[true, true, true, true, false, false, false, true, true, false, false, false] rfl rfl (by kernel_rfl) (fun _ _ _ h => h) (Or.inl ⟨by rfl, ?_⟩) hHeld ?_ ?_
    rotate_left
    ·
     rintro w' ⟨s0, s1, s2, s3, s4, s5, s6, s7, s8, s9, s10, s11⟩
     go_simp
     with_reducible rfl
    rotate_left
    ·
     simp only [Act.put, List.setIfInBounds_toArray, List.set_cons_zero, List.set_cons_succ, i64_w, i32_w]
     rfl
    refine pure_ (i := 4) (N := some 56) (v := ?_) (a' := ?_) #[true, true, true, true, true, false, false, true, true, false, false, false] rfl rfl (by kernel_rfl) (fun _ _ _ h => h) (Or.inl ⟨by rfl, ?_⟩) ?_ ?_
    rotate_left
    ·
     intro w'
     go_simp
     with_reducible rfl
    rotate_left
    ·
     simp only [Act.put, List.setIfInBounds_toArray, List.set_cons_zero, List.set_cons_succ, i64_w, i32_w]
     rfl
    refine pure_ (i := 5) (N := some 57) (v := ?_) (a' := ?_) #[true, true, true, true, true, true, false, true, true, false, false, false] rfl rfl (by kernel_rfl) (fun _ _ _ h => h) (Or.inl ⟨by rfl, ?_⟩) ?_ ?_
    rotate_left
    ·
     intro w'
     go_simp
     with_reducible rfl
    rotate_left
    ·
     simp only [Act.put, List.setIfInBounds_toArray, List.set_cons_zero, List.set_cons_succ, i64_w, i32_w]
     rfl
    refine take_ (i := 6) (N := some 58) (v := ?_) (a' := ?_) #[true, true, true, true, true, true, true, true, true, false, false, false] rfl rfl (by kernel_rfl) (fun _ _ _ h => h) (Or.inl ⟨by rfl, ?_⟩) hHeld ?_ ?_
    rotate_left
    ·
     rintro w' ⟨s0, s1, s2, s3, s4, s5, s6, s7, s8, s9, s10, s11⟩
     go_simp
     with_reducible rfl
    rotate_left
    ·
     simp only [Act.put, List.setIfInBounds_toArray, List.set_cons_zero, List.set_cons_succ, i64_w, i32_w]
     rfl
    refine one_ (i := 9) (N := some 61) #[true, true, true, true, true, true, true, true, true, true, false, false] rfl rfl (by kernel_rfl) (by decide) (fun K hK => ?_)
    refine goes_ Try.func48 (by kernel_rfl) rfl #[.slice B x.length cc] (by rfl) rfl rfl (by simp only [List.map_toArray, List.map_cons, List.map_nil]; rfl) ?_
    with_reducible refine (slices_Clone_byte_byte.calls B cc x x _ ?s1 ALe.out AC.out).mono ?_
    (case s1 => exact Kd.C_below ACx.out (by repeat (first | exact HB.out | apply below_alloc | apply pw_below_drewN | apply below_drew1)))
    rintro e w5 ⟨v5, rfl, hv, hb⟩
    refine ⟨_, rfl, ?_⟩
    have hs : Below w4.heap.size w4 w5 := below_step (by repeat (first | exact Below.refl _ _ | apply below_alloc | apply pw_below_drewN | apply below_drew1)) hb
    have hl : w4.heap.size ≤ _ := below_size (w := w4) (by repeat (first | exact Below.refl _ _ | apply below_alloc | apply pw_below_drewN | apply below_drew1))
    have SZ5 := Aside0.mk (show w4.heap.size ≤ w5.heap.size from hs.size)
    replace BKD := Aside0.mk (blk_below BKD.out hs)
    replace BKdr := Aside0.mk (blk_below BKdr.out hs)
    replace HCe := Aside0.mk (pw_cell_below hs HCe.out)
    replace HH := Aside0.mk (DiskO_up HH.out hs)
    have HV := Aside0.mk (show Kd.R (Kd.int .u8) 5 w5 w.heap.size (fun q => (w.heap.size ≤ q ∧ q < w5.heap.size) ∧ q ≠ g7) v5 x from Kd.R_mono (Kd.R_lower (Kd.R_bound hv) (by have h1 := hl; have h3 := HG7.out; have h4 := HSZ.out; have h5 := SZ4.out; omega)) (fun q hk => ⟨⟨by have h2 := hk.2.1; have h1 := hl; have h3 := HG7.out; have h4 := HSZ.out; have h5 := SZ4.out; omega, hk.2.2.1⟩, by have h2 := hk.2.1; have h1 := hl; have h3 := HG7.out; have h4 := HSZ.out; have h5 := SZ4.out; omega⟩))
    clear hv
    obtain ⟨A5, c5, e5_⟩ := Kd.R_slice HV.out
    subst e5_
    have hqs := HK.out
    have hqn := HLEN.out
    obtain ⟨u0, hcu, hfu⟩ := R_cell_row HH.out.2.2.1 (i := k) (by rw [hqn]; exact hqs)
    clear hqs hqn
    have n_ := Aside0.mk (below_step HB.out hs)
    clear HB
    have HB := n_
    clear n_ hs hb
    (try clear hl)
    refine hK.out _ _ ⟨(blk_cell BKD.out 0).trans rfl, (blk_cell BKD.out 1).trans rfl, (blk_cell BKD.out 2).trans rfl, (blk_cell BKD.out 3).trans rfl, (blk_cell BKdr.out 0).trans rfl, (blk_cell BKdr.out 1).trans rfl, (blk_cell BKdr.out 2).trans rfl, (blk_cell BKdr.out 3).trans rfl, (blk_cell BKdr.out 4).trans rfl, (blk_cell BKdr.out 5).trans rfl, (blk_cell BKdr.out 6).trans rfl, HCe.out⟩ (fun hHeld => ?_)
    clear hK K
    refine norm_ (a' := ?_) ?_ ?_
    rotate_left
    ·
     show Act.put _ (some 61) _ = _
     simp only [Act.put, List.setIfInBounds_toArray, List.set_cons_zero, List.set_cons_succ, i64_w, i32_w]
     rfl
    refine pure_ (i := 10) (N := some 62) (v := ?_) (a' := ?_) #[true, true, true, true, true, true, true, true, true, true, true, false] rfl rfl (by kernel_rfl) (fun _ _ _ h => h) (Or.inl ⟨by rfl, ?_⟩) ?_ ?_
    rotate_left
    ·
     intro w'
     go_simp
     with_reducible rfl
    rotate_left
    ·
     simp only [Act.put, List.setIfInBounds_toArray, List.set_cons_zero, List.set_cons_succ, i64_w, i32_w]
     rfl
    refine last_ (i := 11) (N := none) #[true, true, true, true, true, true, true, true, true, true, true, true] rfl rfl (by kernel_rfl) (by decide) (fun K hK => ?_)
    refine skip_ (w1 := ?_) (by rfl) rfl ?_ ?_
    rotate_left
    ·
     go_simp
     rfl
    refine hK.out _ _ ?_
    clear hK K
    refine done_ (by kernel_rfl) ?_
    have hcD_0 : w5.cell? ⟨D, 0, none⟩ = some (.pointer (some ⟨dr, 0, none⟩)) := (blk_cell BKD.out 0).trans rfl
    have hfD_0 := blk_frozen BKD.out 0
    have hcD_1 : w5.cell? ⟨D, 1, none⟩ = some (.bool false) := (blk_cell BKD.out 1).trans rfl
    have hfD_1 := blk_frozen BKD.out 1
    have hcD_2 : w5.cell? ⟨D, 2, none⟩ = some (.int .i64 (-1)) := (blk_cell BKD.out 2).trans rfl
    have hfD_2 := blk_frozen BKD.out 2
    have hcD_3 : w5.cell? ⟨D, 3, none⟩ = some (.int .i64 0) := (blk_cell BKD.out 3).trans rfl
    have hfD_3 := blk_frozen BKD.out 3
    have hcdr_0 : w5.cell? ⟨dr, 0, none⟩ = some (.int .i64 a) := (blk_cell BKdr.out 0).trans rfl
    have hfdr_0 := blk_frozen BKdr.out 0
    have hcdr_1 : w5.cell? ⟨dr, 1, none⟩ = some (.int .i64 b) := (blk_cell BKdr.out 1).trans rfl
    have hfdr_1 := blk_frozen BKdr.out 1
    have hcdr_2 : w5.cell? ⟨dr, 2, none⟩ = some (.int .i64 c) := (blk_cell BKdr.out 2).trans rfl
    have hfdr_2 := blk_frozen BKdr.out 2
    have hcdr_3 : w5.cell? ⟨dr, 3, none⟩ = some (.int .i64 d) := (blk_cell BKdr.out 3).trans rfl
    have hfdr_3 := blk_frozen BKdr.out 3
    have hcdr_4 : w5.cell? ⟨dr, 4, none⟩ = some (.int .i64 (sizeOf08 a b c)) := (blk_cell BKdr.out 4).trans rfl
    have hfdr_4 := blk_frozen BKdr.out 4
    have hcdr_5 : w5.cell? ⟨dr, 5, none⟩ = some (.slice (some ⟨g7, 0, none⟩) sl.length cs) := (blk_cell BKdr.out 5).trans rfl
    have hfdr_5 := blk_frozen BKdr.out 5
    have hcdr_6 : w5.cell? ⟨dr, 6, none⟩ = some (.slice Ag m cg) := (blk_cell BKdr.out 6).trans rfl
    have hfdr_6 := blk_frozen BKdr.out 6
    have xHCe := HCe.out
    clear hcu hfu
    go_wp2_with (fail)
    have hkk := HK.out
    have hax := AX.out
    have K1 := (HH.out.setSlot (i := k) (by rw [HLEN.out]; exact hkk) HV.out).1
    rw [filled_step sl k x hkk AF.out] at K1
    have hsc : (w5.setCell ⟨g7, k, none⟩ (.slice A5 x.length c5)).heap.size = w5.heap.size := by simp [World.setCell]
    go_roundg (gk - 1)
    case measure => omega
    case rel =>
     refine ⟨k + 1, ?_, Aside0.mk ⟨by omega, by omega⟩, Aside0.mk (K1.grow (fun q hq => ⟨hq.1, by rw [hsc]; exact hq.2⟩) (fun q hq => hq)), Aside0.mk (fun y hy => ?_), Aside0.mk (below_set HB.out HG7.out.1)⟩
     ·
      have hb := many_len HSL.out HM.out
      rw [show wrap64 ((k : Int) + 1) = ((k + 1 : Nat) : Int) by unfold wrap64; omega]
     ·
      rw [AF.out] at hy
      rcases List.mem_append.mp hy with hy | hy
      ·
       exact HGD.out y hy
      ·
       obtain rfl : y = x := by simpa using hy
       have := HC1.out
       omega
   ·
    have d1 : ((x.length : Int) == 0) = false := beq_false_of_ne c2
    have d1' : (x.length = 0) = False := eq_false (by omega)
    have d2 : ((x.length : Int) == sizeOf08 a b c) = true := beq_iff_eq.mpr (c1.resolve_left c2)
    have e1 : ((x.length : Int) != 0) = true := by rw [bne, d1]; rfl
    have e2 : ((x.length : Int) != sizeOf08 a b c) = false := by rw [bne, d2]; rfl
    clear c1 c2
    have hcD_0 : wr.cell? ⟨D, 0, none⟩ = some (.pointer (some ⟨dr, 0, none⟩)) := (blk_cell BKD.out 0).trans rfl
    have hfD_0 := blk_frozen BKD.out 0
    have hcD_1 : wr.cell? ⟨D, 1, none⟩ = some (.bool false) := (blk_cell BKD.out 1).trans rfl
    have hfD_1 := blk_frozen BKD.out 1
    have hcD_2 : wr.cell? ⟨D, 2, none⟩ = some (.int .i64 (-1)) := (blk_cell BKD.out 2).trans rfl
    have hfD_2 := blk_frozen BKD.out 2
    have hcD_3 : wr.cell? ⟨D, 3, none⟩ = some (.int .i64 0) := (blk_cell BKD.out 3).trans rfl
    have hfD_3 := blk_frozen BKD.out 3
    have hcdr_0 : wr.cell? ⟨dr, 0, none⟩ = some (.int .i64 a) := (blk_cell BKdr.out 0).trans rfl
    have hfdr_0 := blk_frozen BKdr.out 0
    have hcdr_1 : wr.cell? ⟨dr, 1, none⟩ = some (.int .i64 b) := (blk_cell BKdr.out 1).trans rfl
    have hfdr_1 := blk_frozen BKdr.out 1
    have hcdr_2 : wr.cell? ⟨dr, 2, none⟩ = some (.int .i64 c) := (blk_cell BKdr.out 2).trans rfl
    have hfdr_2 := blk_frozen BKdr.out 2
    have hcdr_3 : wr.cell? ⟨dr, 3, none⟩ = some (.int .i64 d) := (blk_cell BKdr.out 3).trans rfl
    have hfdr_3 := blk_frozen BKdr.out 3
    have hcdr_4 : wr.cell? ⟨dr, 4, none⟩ = some (.int .i64 (sizeOf08 a b c)) := (blk_cell BKdr.out 4).trans rfl
    have hfdr_4 := blk_frozen BKdr.out 4
    have hcdr_5 : wr.cell? ⟨dr, 5, none⟩ = some (.slice (some ⟨g7, 0, none⟩) sl.length cs) := (blk_cell BKdr.out 5).trans rfl
    have hfdr_5 := blk_frozen BKdr.out 5
    have hcdr_6 : wr.cell? ⟨dr, 6, none⟩ = some (.slice Ag m cg) := (blk_cell BKdr.out 6).trans rfl
    have hfdr_6 := blk_frozen BKdr.out 6
    have xHCe := HCe.out
    go_wp2_with (fail)
    (try clear hcD_0 hfD_0)
    (try clear hcD_1 hfD_1)
    (try clear hcD_2 hfD_2)
    (try clear hcD_3 hfD_3)
    (try clear hcdr_0 hfdr_0)
    (try clear hcdr_1 hfdr_1)
    (try clear hcdr_2 hfdr_2)
    (try clear hcdr_3 hfdr_3)
    (try clear hcdr_4 hfdr_4)
    (try clear hcdr_5 hfdr_5)
    (try clear hcdr_6 hfdr_6)
    (try clear xHCe)
    have hs : Below wr.heap.size wr (World.drew wr) := below_drew1 (Below.refl _ _)
    have SZ6 := Aside0.mk (show wr.heap.size ≤ (World.drew wr).heap.size from hs.size)
    replace BKD := Aside0.mk (blk_below BKD.out hs)
    replace BKdr := Aside0.mk (blk_below BKdr.out hs)
    replace HCe := Aside0.mk (pw_cell_below hs HCe.out)
    replace HH := Aside0.mk (DiskO_up HH.out hs)
    have n_ := Aside0.mk (below_step HB.out hs)
    clear HB
    have HB := n_
    clear n_ hs
    refine start_ (n := 12) (S := fun w' => w'.cell? ⟨D, 0, none⟩ = some (.pointer (some ⟨dr, 0, none⟩)) ∧ w'.cell? ⟨D, 1, none⟩ = some (.bool false) ∧ w'.cell? ⟨D, 2, none⟩ = some (.int .i64 (-1)) ∧ w'.cell? ⟨D, 3, none⟩ = some (.int .i64 0) ∧ w'.cell? ⟨dr, 0, none⟩ = some (.int .i64 a) ∧ w'.cell? ⟨dr, 1, none⟩ = some (.int .i64 b) ∧ w'.cell? ⟨dr, 2, none⟩ = some (.int .i64 c) ∧ w'.cell? ⟨dr, 3, none⟩ = some (.int .i64 d) ∧ w'.cell? ⟨dr, 4, none⟩ = some (.int .i64 (sizeOf08 a b c)) ∧ w'.cell? ⟨dr, 5, none⟩ = some (.slice (some ⟨g7, 0, none⟩) sl.length cs) ∧ w'.cell? ⟨dr, 6, none⟩ = some (.slice Ag m cg) ∧ w'.cell? (ad.add k) = some (.slice B x.length cc)) (ds := [11]) #[false, false, false, false, false, false, false, false, false, false, false, false] (by kernel_rfl) rfl rfl ⟨(blk_cell BKD.out 0).trans rfl, (blk_cell BKD.out 1).trans rfl, (blk_cell BKD.out 2).trans rfl, (blk_cell BKD.out 3).trans rfl, (blk_cell BKdr.out 0).trans rfl, (blk_cell BKdr.out 1).trans rfl, (blk_cell BKdr.out 2).trans rfl, (blk_cell BKdr.out 3).trans rfl, (blk_cell BKdr.out 4).trans rfl, (blk_cell BKdr.out 5).trans rfl, (blk_cell BKdr.out 6).trans rfl, HCe.out⟩ (fun hHeld => ?_)
    generalize World.drew wr = w6 at HB BKD BKdr HCe HH SZ6 hHeld ⊢
    refine pure_ (i := 0) (N := some 52) (v := ?_) (a' := ?_) #[true, false, false, false, false, false, false, false, false, false, false, false] rfl rfl (by kernel_rfl) (fun _ _ _ h => h) (Or.inl ⟨by rfl, ?_⟩) ?_ ?_
    rotate_left
    ·
     intro w'
     go_simp
     with_reducible rfl
    rotate_left
    ·
     simp only [Act.put, List.setIfInBounds_toArray, List.set_cons_zero, List.set_cons_succ, i64_w, i32_w]
     rfl
    refine pure_ (i := 1) (N := some 53) (v := ?_) (a' := ?_) #[true, true, false, false, false, false, false, false, false, false, false, false] rfl rfl (by kernel_rfl) (fun _ _ _ h => h) (Or.inl ⟨by rfl, ?_⟩) ?_ ?_
    rotate_left
    ·
     intro w'
     go_simp
     with_reducible rfl
    rotate_left
    ·
     simp only [Act.put, List.setIfInBounds_toArray, List.set_cons_zero, List.set_cons_succ, i64_w, i32_w]
     rfl
    refine pure_ (i := 2) (N := some 54) (v := ?_) (a' := ?_) #[true, true, true, false, false, false, false, false, false, false, false, false] rfl rfl (by kernel_rfl) (fun _ _ _ h => h) (Or.inl ⟨by rfl, ?_⟩) ?_ ?_
    rotate_left
    ·
     intro w'
     go_simp
     with_reducible rfl
    rotate_left
    ·
     simp only [Act.put, List.setIfInBounds_toArray, List.set_cons_zero, List.set_cons_succ, i64_w, i32_w]
     rfl
    refine pure_ (i := 7) (N := some 59) (v := ?_) (a' := ?_) #[true, true, true, false, false, false, false, true, false, false, false, false] rfl rfl (by kernel_rfl) (fun _ _ _ h => h) (Or.inl ⟨by rfl, ?_⟩) ?_ ?_
    rotate_left
    ·
     intro w'
     go_simp
     with_reducible rfl
    rotate_left
    ·
     simp only [Act.put, List.setIfInBounds_toArray, List.set_cons_zero, List.set_cons_succ, i64_w, i32_w]
     rfl
    refine pure_ (i := 8) (N := some 60) (v := ?_) (a' := ?_) #[true, true, true, false, false, false, false, true, true, false, false, false] rfl rfl (by kernel_rfl) (fun _ _ _ h => h) (Or.inl ⟨by rfl, ?_⟩) ?_ ?_
    rotate_left
    ·
     intro w'
     go_simp
     with_reducible rfl
    rotate_left
    ·
     simp only [Act.put, List.setIfInBounds_toArray, List.set_cons_zero, List.set_cons_succ, i64_w, i32_w]
     rfl
    refine take_ (i := 3) (N := some 55) (v := ?_) (a' := ?_) #[true, true, true, true, false, false, false, true, true, false, false, false] rfl rfl (by kernel_rfl) (fun _ _ _ h => h) (Or.inl ⟨by rfl, ?_⟩) hHeld ?_ ?_
    rotate_left
    ·
     rintro w' ⟨s0, s1, s2, s3, s4, s5, s6, s7, s8, s9, s10, s11⟩
     go_simp
     with_reducible rfl
    rotate_left
    ·
     simp only [Act.put, List.setIfInBounds_toArray, List.set_cons_zero, List.set_cons_succ, i64_w, i32_w]
     rfl
    refine pure_ (i := 4) (N := some 56) (v := ?_) (a' := ?_) #[true, true, true, true, true, false, false, true, true, false, false, false] rfl rfl (by kernel_rfl) (fun _ _ _ h => h) (Or.inl ⟨by rfl, ?_⟩) ?_ ?_
    rotate_left
    ·
     intro w'
     go_simp
     with_reducible rfl
    rotate_left
    ·
     simp only [Act.put, List.setIfInBounds_toArray, List.set_cons_zero, List.set_cons_succ, i64_w, i32_w]
     rfl
    refine pure_ (i := 5) (N := some 57) (v := ?_) (a' := ?_) #[true, true, true, true, true, true, false, true, true, false, false, false] rfl rfl (by kernel_rfl) (fun _ _ _ h => h) (Or.inl ⟨by rfl, ?_⟩) ?_ ?_
    rotate_left
    ·
     intro w'
     go_simp
     with_reducible rfl
    rotate_left
    ·
     simp only [Act.put, List.setIfInBounds_toArray, List.set_cons_zero, List.set_cons_succ, i64_w, i32_w]
     rfl
    refine take_ (i := 6) (N := some 58) (v := ?_) (a' := ?_) #[true, true, true, true, true, true, true, true, true, false, false, false] rfl rfl (by kernel_rfl) (fun _ _ _ h => h) (Or.inl ⟨by rfl, ?_⟩) hHeld ?_ ?_
    rotate_left
    ·
     rintro w' ⟨s0, s1, s2, s3, s4, s5, s6, s7, s8, s9, s10, s11⟩
     go_simp
     with_reducible rfl
    rotate_left
    ·
     simp only [Act.put, List.setIfInBounds_toArray, List.set_cons_zero, List.set_cons_succ, i64_w, i32_w]
     rfl
    refine one_ (i := 9) (N := some 61) #[true, true, true, true, true, true, true, true, true, true, false, false] rfl rfl (by kernel_rfl) (by decide) (fun K hK => ?_)
    refine goes_ Try.func48 (by kernel_rfl) rfl #[.slice B x.length cc] (by rfl) rfl rfl (by simp only [List.map_toArray, List.map_cons, List.map_nil]; rfl) ?_
    with_reducible refine (slices_Clone_byte_byte.calls B cc x x _ ?s1 ALe.out AC.out).mono ?_
    (case s1 => exact Kd.C_below ACx.out (by repeat (first | exact HB.out | apply below_alloc | apply pw_below_drewN | apply below_drew1)))
    rintro e w7 ⟨v5, rfl, hv, hb⟩
    refine ⟨_, rfl, ?_⟩
    have hs : Below w6.heap.size w6 w7 := below_step (by repeat (first | exact Below.refl _ _ | apply below_alloc | apply pw_below_drewN | apply below_drew1)) hb
    have hl : w6.heap.size ≤ _ := below_size (w := w6) (by repeat (first | exact Below.refl _ _ | apply below_alloc | apply pw_below_drewN | apply below_drew1))
    have SZ7 := Aside0.mk (show w6.heap.size ≤ w7.heap.size from hs.size)
    replace BKD := Aside0.mk (blk_below BKD.out hs)
    replace BKdr := Aside0.mk (blk_below BKdr.out hs)
    replace HCe := Aside0.mk (pw_cell_below hs HCe.out)
    replace HH := Aside0.mk (DiskO_up HH.out hs)
    have HV := Aside0.mk (show Kd.R (Kd.int .u8) 5 w7 w.heap.size (fun q => (w.heap.size ≤ q ∧ q < w7.heap.size) ∧ q ≠ g7) v5 x from Kd.R_mono (Kd.R_lower (Kd.R_bound hv) (by have h1 := hl; have h3 := HG7.out; have h4 := HSZ.out; have h5 := SZ6.out; omega)) (fun q hk => ⟨⟨by have h2 := hk.2.1; have h1 := hl; have h3 := HG7.out; have h4 := HSZ.out; have h5 := SZ6.out; omega, hk.2.2.1⟩, by have h2 := hk.2.1; have h1 := hl; have h3 := HG7.out; have h4 := HSZ.out; have h5 := SZ6.out; omega⟩))
    clear hv
    obtain ⟨A5, c5, e5_⟩ := Kd.R_slice HV.out
    subst e5_
    have hqs := HK.out
    have hqn := HLEN.out
    obtain ⟨u0, hcu, hfu⟩ := R_cell_row HH.out.2.2.1 (i := k) (by rw [hqn]; exact hqs)
    clear hqs hqn
    have n_ := Aside0.mk (below_step HB.out hs)
    clear HB
    have HB := n_
    clear n_ hs hb
    (try clear hl)
    refine hK.out _ _ ⟨(blk_cell BKD.out 0).trans rfl, (blk_cell BKD.out 1).trans rfl, (blk_cell BKD.out 2).trans rfl, (blk_cell BKD.out 3).trans rfl, (blk_cell BKdr.out 0).trans rfl, (blk_cell BKdr.out 1).trans rfl, (blk_cell BKdr.out 2).trans rfl, (blk_cell BKdr.out 3).trans rfl, (blk_cell BKdr.out 4).trans rfl, (blk_cell BKdr.out 5).trans rfl, (blk_cell BKdr.out 6).trans rfl, HCe.out⟩ (fun hHeld => ?_)
    clear hK K
    refine norm_ (a' := ?_) ?_ ?_
    rotate_left
    ·
     show Act.put _ (some 61) _ = _
     simp only [Act.put, List.setIfInBounds_toArray, List.set_cons_zero, List.set_cons_succ, i64_w, i32_w]
     rfl
    refine pure_ (i := 10) (N := some 62) (v := ?_) (a' := ?_) #[true, true, true, true, true, true, true, true, true, true, true, false] rfl rfl (by kernel_rfl) (fun _ _ _ h => h) (Or.inl ⟨by rfl, ?_⟩) ?_ ?_
    rotate_left
    ·
     intro w'
     go_simp
     with_reducible rfl
    rotate_left
    ·
     simp only [Act.put, List.setIfInBounds_toArray, List.set_cons_zero, List.set_cons_succ, i64_w, i32_w]
     rfl
    refine last_ (i := 11) (N := none) #[true, true, true, true, true, true, true, true, true, true, true, true] rfl rfl (by kernel_rfl) (by decide) (fun K hK => ?_)
    refine skip_ (w1 := ?_) (by rfl) rfl ?_ ?_
    rotate_left
    ·
     go_simp
     rfl
    refine hK.out _ _ ?_
    clear hK K
    refine done_ (by kernel_rfl) ?_
    have hcD_0 : w7.cell? ⟨D, 0, none⟩ = some (.pointer (some ⟨dr, 0, none⟩)) := (blk_cell BKD.out 0).trans rfl
    have hfD_0 := blk_frozen BKD.out 0
    have hcD_1 : w7.cell? ⟨D, 1, none⟩ = some (.bool false) := (blk_cell BKD.out 1).trans rfl
    have hfD_1 := blk_frozen BKD.out 1
    have hcD_2 : w7.cell? ⟨D, 2, none⟩ = some (.int .i64 (-1)) := (blk_cell BKD.out 2).trans rfl
    have hfD_2 := blk_frozen BKD.out 2
    have hcD_3 : w7.cell? ⟨D, 3, none⟩ = some (.int .i64 0) := (blk_cell BKD.out 3).trans rfl
    have hfD_3 := blk_frozen BKD.out 3
    have hcdr_0 : w7.cell? ⟨dr, 0, none⟩ = some (.int .i64 a) := (blk_cell BKdr.out 0).trans rfl
    have hfdr_0 := blk_frozen BKdr.out 0
    have hcdr_1 : w7.cell? ⟨dr, 1, none⟩ = some (.int .i64 b) := (blk_cell BKdr.out 1).trans rfl
    have hfdr_1 := blk_frozen BKdr.out 1
    have hcdr_2 : w7.cell? ⟨dr, 2, none⟩ = some (.int .i64 c) := (blk_cell BKdr.out 2).trans rfl
    have hfdr_2 := blk_frozen BKdr.out 2
    have hcdr_3 : w7.cell? ⟨dr, 3, none⟩ = some (.int .i64 d) := (blk_cell BKdr.out 3).trans rfl
    have hfdr_3 := blk_frozen BKdr.out 3
    have hcdr_4 : w7.cell? ⟨dr, 4, none⟩ = some (.int .i64 (sizeOf08 a b c)) := (blk_cell BKdr.out 4).trans rfl
    have hfdr_4 := blk_frozen BKdr.out 4
    have hcdr_5 : w7.cell? ⟨dr, 5, none⟩ = some (.slice (some ⟨g7, 0, none⟩) sl.length cs) := (blk_cell BKdr.out 5).trans rfl
    have hfdr_5 := blk_frozen BKdr.out 5
    have hcdr_6 : w7.cell? ⟨dr, 6, none⟩ = some (.slice Ag m cg) := (blk_cell BKdr.out 6).trans rfl
    have hfdr_6 := blk_frozen BKdr.out 6
    have xHCe := HCe.out
    clear hcu hfu
    go_wp2_with (fail)
    have hkk := HK.out
    have hax := AX.out
    have K1 := (HH.out.setSlot (i := k) (by rw [HLEN.out]; exact hkk) HV.out).1
    rw [filled_step sl k x hkk AF.out] at K1
    have hsc : (w7.setCell ⟨g7, k, none⟩ (.slice A5 x.length c5)).heap.size = w7.heap.size := by simp [World.setCell]
    go_roundg (gk - 1)
    case measure => omega
    case rel =>
     refine ⟨k + 1, ?_, Aside0.mk ⟨by omega, by omega⟩, Aside0.mk (K1.grow (fun q hq => ⟨hq.1, by rw [hsc]; exact hq.2⟩) (fun q hq => hq)), Aside0.mk (fun y hy => ?_), Aside0.mk (below_set HB.out HG7.out.1)⟩
     ·
      have hb := many_len HSL.out HM.out
      rw [show wrap64 ((k : Int) + 1) = ((k + 1 : Nat) : Int) by unfold wrap64; omega]
     ·
      rw [AF.out] at hy
      rcases List.mem_append.mp hy with hy | hy
      ·
       exact HGD.out y hy
      ·
       obtain rfl : y = x := by simpa using hy
       have := HC1.out
       omega
  ·
   have b1 : decide ((k : Int) < (sl.length : Int)) = false := decide_eq_false (by omega)
   have b2 : decide (k < sl.length) = false := decide_eq_false hlt
   have e : sl.take k = sl := List.take_of_length_le (by omega)
   have e2 : sl.length - k = 0 := by omega
   clear hlt
   have h := HH.out
   have hg := HGD.out
   rw [e, e2] at h
   rw [e] at hg
   have HF := Aside0.mk h
   have HGF := Aside0.mk hg
   clear h hg e e2
   go_wp2
   go_ret2
   refine ⟨.inl ⟨_, dr, As, _, cs, Ag, m, cg, rfl, by simpa using HF.out, HP.out, HSL.out, HGF.out⟩, HB.out⟩
theorem Of_any (a b c d : Int) (Am : Option Addr) (cm : Nat) (sl : List (List Int)) (w : World)  (hC : Kd.C (Kd.slice 5 (Kd.int .u8)) w Am sl.length sl) : Calls Try.prog 30 #[.agg #[.int .i64 a, .int .i64 b, .int .i64 c, .int .i64 d, .slice Am sl.length cm]] w fun e w' => ((∃ (D dr : Nat) (As : Option Addr) (n cs : Nat) (Ag : Option Addr) (m cg : Nat), e = .returned (.tuple #[.pointer (some ⟨D, 0, none⟩), .int .i64 0]) ∧ DiskO w' w.heap.size (fun k => w.heap.size ≤ k ∧ k < w'.heap.size) D dr As n cs Ag m cg a b c d (sizeOf08 a b c) sl (List.replicate (a + b).toNat false) false (-1) 0 ∧ okP a b c d = true ∧ (sl.length : Int) = (a + b) * d * 2 ∧ ∀ x ∈ sl, x.length = 0 ∨ (x.length : Int) = sizeOf08 a b c) ∨ (∃ q : Int, e = .returned (.tuple #[.pointer none, .int .i64 q]) ∧ (q = 2 ∧ ¬ okP a b c d = true ∨ q = 90 ∧ okP a b c d = true) ∧ ¬ OfOK a b c d sl)) ∧ Below w.heap.size w w' := by
 by_cases hp : okP a b c d = true
 ·
  exact Of_okP a b c d Am cm sl w hp hC
 ·
  exact Of_badP a b c d Am cm sl w hp hC
theorem Of_good (a b c d : Int) (Am : Option Addr) (cm : Nat) (sl : List (List Int)) (w : World) (hC : Kd.C (Kd.slice 5 (Kd.int .u8)) w Am sl.length sl) (ho : OfOK a b c d sl) : Calls Try.prog 30 #[.agg #[.int .i64 a, .int .i64 b, .int .i64 c, .int .i64 d, .slice Am sl.length cm]] w fun e w' => ∃ (D dr : Nat) (As : Option Addr) (n cs : Nat) (Ag : Option Addr) (m cg : Nat), e = .returned (.tuple #[.pointer (some ⟨D, 0, none⟩), .int .i64 0]) ∧ DiskO w' w.heap.size (fun k => w.heap.size ≤ k ∧ k < w'.heap.size) D dr As n cs Ag m cg a b c d (sizeOf08 a b c) sl (List.replicate (a + b).toNat false) false (-1) 0 ∧ Below w.heap.size w w' := by
 refine (Of_any a b c d Am cm sl w hC).mono ?_
 rintro e w' ⟨⟨D, dr, As, n, cs, Ag, m, cg, rfl, h, _⟩ | ⟨q, rfl, _, hb⟩, hb2⟩
 ·
  exact ⟨D, dr, As, n, cs, Ag, m, cg, rfl, h, hb2⟩
 ·
  exact absurd ho hb
theorem Of_bad2 (a b c d : Int) (Am : Option Addr) (cm : Nat) (sl : List (List Int)) (w : World) (hC : Kd.C (Kd.slice 5 (Kd.int .u8)) w Am sl.length sl) (ho : ¬ OfOK a b c d sl) : Calls Try.prog 30 #[.agg #[.int .i64 a, .int .i64 b, .int .i64 c, .int .i64 d, .slice Am sl.length cm]] w fun e w' => e = .returned (.tuple #[.pointer none, .int .i64 (if okP a b c d = true then 90 else 2)]) ∧ Below w.heap.size w w' := by
 refine (Of_any a b c d Am cm sl w hC).mono ?_
 rintro e w' ⟨⟨D, dr, As, n, cs, Ag, m, cg, rfl, h, h1, h2, h3⟩ | ⟨q, rfl, h1, hb⟩, hb2⟩
 ·
  exact absurd ⟨h1, h2, h3⟩ ho
 ·
  refine ⟨?_, hb2⟩
  rcases h1 with ⟨rfl, h⟩ | ⟨rfl, h⟩
  ·
   rw [if_neg h]
  ·
   rw [if_pos h]
end Go.Proofs.Ytemmhgfjfbdggaa.P

import Derived.Test.YtemmhgfjfbdggaaP08K
import Derived.Test.YtemmhgfjfbdggaaPx4
namespace Go.Proofs.Ytemmhgfjfbdggaa.P
open Go.RowKit Go.Proofs.YtemmhgfjfbdggaaW.PrintWords Go.Proofs.YtemmhgfjfbdggaaW.PrintLast Go.Proofs.YtemmhgfjfbdggaaW.PrintMore
attribute [local go_sem] max2_int min2_int max_two min_two max_three min_three max_four min_four
set_option linter.unusedVariables false
set_option linter.unusedSimpArgs false
/-- What the document's disk holds: read at a world. -/
def RefC (W : World) (g : Nat) (a b c d : Int) (l : List (List Int)) (off : Bool) (cut : Int) (wiped : List Bool) (wr : Int) : Prop :=
  ∃ (A4 : Option Addr) (c4 : Nat) (A7 : Option Addr) (c7 : Nat), W.heap[g]? = some (.cells #[.int .i64 a, .int .i64 b, .int .i64 c, .int .i64 d, .slice A4 l.length c4, .bool off, .int .i64 cut, .slice A7 wiped.length c7, .int .i64 wr] 80 (0, 0)) ∧
    l.length ≤ c4 ∧ wiped.length ≤ c7 ∧ Kd.C (Kd.slice 5 (Kd.int .u8)) W A4 l.length l ∧ Kd.C Kd.bool W A7 wiped.length wiped
set_option maxHeartbeats 8000000 in
set_option maxRecDepth 100000 in
theorem Of_walk (k : Nat) (a b c d : Int) (A : Option Addr) (cc : Nat) (l r5 : List (List Int)) (w : World) (hC : Kd.C (Kd.slice 5 (Kd.int .u8)) w A l.length l) (hcc : l.length ≤ cc) (hT : twoslotref08_Twin.f k a b c d l = some (a, b, c, d, r5)) (h0 : 0 ≤ a + b) (h1 : a + b ≤ 100) : Calls Try.prog 13 #[.agg #[.int .i64 a, .int .i64 b, .int .i64 c, .int .i64 d, .slice A l.length cc]] w fun e w' => ∃ g : Nat, e = .returned (.pointer (some ⟨g, 0, none⟩)) ∧ Foot (fun W => RefC W g a b c d r5 false (-1) (List.replicate (a + b).toNat false) 0) w' (fun k_ => w.heap.size ≤ k_) ∧ Below w.heap.size w w' := by
  have hu36 := Try.underlying36
  have hu23 := Try.underlying23
  have hu80 := Try.underlying80
  have HB := Aside0.mk (Below.refl w.heap.size w)
  have HC := Aside0.mk hC
  have HCC := Aside0.mk hcc
  have HT := Aside0.mk hT
  have HN := Aside0.mk (show twoslotref06_N.f a b c d = some (a + b) by unfold twoslotref06_N.f; congr 1; unfold wrap64; omega)
  have H0 := Aside0.mk h0
  have H1 := Aside0.mk h1
  clear hC hcc hT h0 h1
  go_enter Try.func13, Try.ntmps13
  have tok1 : True := trivial
  go_wp2_with (first | (have _ := tok1; (with_reducible refine gate_dst (N := 1) rfl ?_); refine box_event ?hg (N := 1) ?hd (cs := #[.int .i64 a, .int .i64 b, .int .i64 c, .int .i64 d, .slice A l.length cc]) (t := 36) ?hr ?_; (case hd => rfl); (case hg => rfl); (case hr => first | (go_simp; done) | (go_simp; rfl)); intro g1 hg w1 hbox hb; have hs : Below w.heap.size w w1 := below_step (by repeat (first | exact Below.refl _ _ | apply below_alloc | apply pw_below_drewN | apply below_drew1)) hb; have SZ1 := Aside0.mk (show w.heap.size ≤ g1 ∧ g1 < w1.heap.size from ⟨by rw [hg]; exact (below_size (by repeat (first | exact Below.refl _ _ | apply below_alloc | apply pw_below_drewN | apply below_drew1))), blk_lt hbox⟩); have n_ := Aside0.mk (below_step HB.out hs); clear HB; have HB := n_; clear n_; have BKg1 := Aside0.mk hbox; clear hb hbox hg hs; have hcg1_0 : w1.cell? ⟨g1, 0, none⟩ = some (.int .i64 a) := (blk_cell BKg1.out 0).trans rfl; have hfg1_0 := blk_frozen BKg1.out 0; have hcg1_1 : w1.cell? ⟨g1, 1, none⟩ = some (.int .i64 b) := (blk_cell BKg1.out 1).trans rfl; have hfg1_1 := blk_frozen BKg1.out 1; have hcg1_2 : w1.cell? ⟨g1, 2, none⟩ = some (.int .i64 c) := (blk_cell BKg1.out 2).trans rfl; have hfg1_2 := blk_frozen BKg1.out 2; have hcg1_3 : w1.cell? ⟨g1, 3, none⟩ = some (.int .i64 d) := (blk_cell BKg1.out 3).trans rfl; have hfg1_3 := blk_frozen BKg1.out 3; have hcg1_4 : w1.cell? ⟨g1, 4, none⟩ = some (.slice A l.length cc) := (blk_cell BKg1.out 4).trans rfl; have hfg1_4 := blk_frozen BKg1.out 4; clear tok1))
  (try clear hcg1_0 hfg1_0)
  (try clear hcg1_1 hfg1_1)
  (try clear hcg1_2 hfg1_2)
  (try clear hcg1_3 hfg1_3)
  (try clear hcg1_4 hfg1_4)
  have hs : Below w1.heap.size w1 (World.drew w1) := below_drew1 (Below.refl _ _)
  have n_ := Aside0.mk (blk_below BKg1.out hs)
  clear BKg1
  have BKg1 := n_
  clear n_
  have n_ := Aside0.mk (below_step HB.out hs)
  clear HB
  have HB := n_
  clear n_ hs
  refine start_ (n := 9) (S := fun w' => w'.cell? ⟨g1, 0, none⟩ = some (.int .i64 a) ∧ w'.cell? ⟨g1, 1, none⟩ = some (.int .i64 b) ∧ w'.cell? ⟨g1, 2, none⟩ = some (.int .i64 c) ∧ w'.cell? ⟨g1, 3, none⟩ = some (.int .i64 d) ∧ w'.cell? ⟨g1, 4, none⟩ = some (.slice A l.length cc)) (ds := []) #[false, false, false, false, false, false, false, false, false] (by kernel_rfl) rfl rfl ⟨(blk_cell BKg1.out 0).trans rfl, (blk_cell BKg1.out 1).trans rfl, (blk_cell BKg1.out 2).trans rfl, (blk_cell BKg1.out 3).trans rfl, (blk_cell BKg1.out 4).trans rfl⟩ (fun hHeld => ?_)
  generalize World.drew w1 = w2 at HB BKg1 hHeld ⊢
  refine pure_ (i := 2) (N := some 5) (v := ?_) (a' := ?_) #[false, false, true, false, false, false, false, false, false] rfl rfl (by kernel_rfl) (fun _ _ _ h => h) (Or.inl ⟨by rfl, ?_⟩) ?_ ?_
  rotate_left
  · intro w'
    go_simp
    with_reducible rfl
  rotate_left
  · simp only [Act.put, List.setIfInBounds_toArray, List.set_cons_zero, List.set_cons_succ, i64_w, i32_w]
    rfl
  refine take_ (i := 0) (N := some 3) (v := ?_) (a' := ?_) #[true, false, true, false, false, false, false, false, false] rfl rfl (by kernel_rfl) (fun _ _ _ h => h) (Or.inl ⟨by rfl, ?_⟩) hHeld ?_ ?_
  rotate_left
  · rintro w' ⟨s0, s1, s2, s3, s4⟩
    go_simp
    with_reducible rfl
  rotate_left
  · simp only [Act.put, List.setIfInBounds_toArray, List.set_cons_zero, List.set_cons_succ, i64_w, i32_w]
    rfl
  refine take_ (i := 3) (N := some 6) (v := ?_) (a' := ?_) #[true, false, true, true, false, false, false, false, false] rfl rfl (by kernel_rfl) (fun _ _ _ h => h) (Or.inl ⟨by rfl, ?_⟩) hHeld ?_ ?_
  rotate_left
  · rintro w' ⟨s0, s1, s2, s3, s4⟩
    go_simp
    with_reducible rfl
  rotate_left
  · simp only [Act.put, List.setIfInBounds_toArray, List.set_cons_zero, List.set_cons_succ, i64_w, i32_w]
    rfl
  refine one_ (i := 1) (N := some 4) #[true, true, true, true, false, false, false, false, false] rfl rfl (by kernel_rfl) (by decide) (fun K hK => ?_)
  refine goes_ Try.func29 (by kernel_rfl) rfl #[.agg #[.int .i64 a, .int .i64 b, .int .i64 c, .int .i64 d, .slice A l.length cc]] (by rfl) rfl rfl (by simp only [List.map_toArray, List.map_cons, List.map_nil]; rfl) ?_
  with_reducible refine (twoslotref08_Twin.calls k a b c d A cc l a b c d r5 _ ?s1 HCC.out HT.out).mono ?_
  (case s1 => exact Kd.C_below HC.out HB.out)
  rintro e wa ⟨v4, rfl, ho, hb⟩
  refine ⟨_, rfl, ?_⟩
  obtain ⟨A4, c4, e4_⟩ := Kd.N_slice ho
  subst e4_
  have HN4 := Aside0.mk (Kd.N_F (Kd.N_bound ho))
  have HL4 := Aside0.mk (Kd.N_reads' ho).2.1
  have HS4 := Aside0.mk HB.out.size
  have n_ := Aside0.mk (blk_below BKg1.out hb)
  have m_ := Aside0.mk (below_step HB.out hb)
  clear BKg1 HB
  have BKg1 := n_
  have HB := m_
  clear n_ m_
  clear ho hb
  refine hK.out _ _ ⟨(blk_cell BKg1.out 0).trans rfl, (blk_cell BKg1.out 1).trans rfl, (blk_cell BKg1.out 2).trans rfl, (blk_cell BKg1.out 3).trans rfl, (blk_cell BKg1.out 4).trans rfl⟩ (fun hHeld => ?_)
  clear hK K
  refine norm_ (a' := ?_) ?_ ?_
  rotate_left
  · show Act.put _ (some 4) _ = _
    simp only [Act.put, List.setIfInBounds_toArray, List.set_cons_zero, List.set_cons_succ, i64_w, i32_w]
    rfl
  refine one_ (i := 4) (N := some 7) #[true, true, true, true, true, false, false, false, false] rfl rfl (by kernel_rfl) (by decide) (fun K hK => ?_)
  refine goes_ Try.func41 (by kernel_rfl) rfl #[.agg #[.int .i64 a, .int .i64 b, .int .i64 c, .int .i64 d]] (by rfl) rfl rfl (by simp only [List.map_toArray, List.map_cons, List.map_nil]; rfl) ?_
  with_reducible refine (twoslotref06_N.calls a b c d (a + b) _ HN.out).mono ?_
  rintro e wb ⟨rfl, hb⟩
  refine ⟨_, rfl, ?_⟩
  have q_ := Aside0.mk (foot_below HN4.out hb)
  clear HN4
  have HN4 := q_
  clear q_
  have n_ := Aside0.mk (blk_below BKg1.out hb)
  have m_ := Aside0.mk (below_step HB.out hb)
  clear BKg1 HB
  have BKg1 := n_
  have HB := m_
  clear n_ m_
  clear hb
  refine hK.out _ _ ⟨(blk_cell BKg1.out 0).trans rfl, (blk_cell BKg1.out 1).trans rfl, (blk_cell BKg1.out 2).trans rfl, (blk_cell BKg1.out 3).trans rfl, (blk_cell BKg1.out 4).trans rfl⟩ (fun hHeld => ?_)
  clear hK K
  refine norm_ (a' := ?_) ?_ ?_
  rotate_left
  · show Act.put _ (some 7) _ = _
    simp only [Act.put, List.setIfInBounds_toArray, List.set_cons_zero, List.set_cons_succ, i64_w, i32_w]
    rfl
  refine one_ (i := 5) (N := some 8) #[true, true, true, true, true, true, false, false, false] rfl rfl (by kernel_rfl) (by decide) (fun K hK => ?_)
  refine Kd.R_make_step Kd.bool w.heap.size 4 (by rfl) (N := 8) rfl 76 _ _ rfl _ rfl rfl Try.underlying76 (.bool false) 1 info4 rfl (by decide) (by omega) false (ok := fun _ => True) (okp := fun _ => True) rfl (fun _ hk => hk) trivial H0.out (by have := H1.out; omega) HB.out HB.out.size ?_
  intro vm8 wc ho hb hg_ hnew_
  obtain ⟨A7, c7, e7_⟩ := Kd.R_slice ho
  subst e7_
  have HO7 := Aside0.mk ho
  have q_ := Aside0.mk (Foot.step HN4.out (fun k_ _ hlt => hg_.block k_ hlt (by simp)))
  clear HN4
  have HN4 := q_
  have n_ := Aside0.mk (blk_grown BKg1.out hg_ (by simp))
  clear BKg1 HB q_
  have BKg1 := n_
  have HB := Aside0.mk hb
  clear n_ hb hg_ hnew_ ho
  refine hK.out _ _ ⟨(blk_cell BKg1.out 0).trans rfl, (blk_cell BKg1.out 1).trans rfl, (blk_cell BKg1.out 2).trans rfl, (blk_cell BKg1.out 3).trans rfl, (blk_cell BKg1.out 4).trans rfl⟩ (fun hHeld => ?_)
  clear hK K
  refine norm_ (a' := ?_) ?_ ?_
  rotate_left
  · show Act.put _ (some 8) _ = _
    simp only [Act.put, List.setIfInBounds_toArray, List.set_cons_zero, List.set_cons_succ, i64_w, i32_w]
    rfl
  refine pure_ (i := 6) (N := some 9) (v := ?_) (a' := ?_) #[true, true, true, true, true, true, true, false, false] rfl rfl (by kernel_rfl) (fun _ _ _ h => h) (Or.inl ⟨by rfl, ?_⟩) ?_ ?_
  rotate_left
  · intro w'
    go_simp
    with_reducible rfl
  rotate_left
  · simp only [Act.put, List.setIfInBounds_toArray, List.set_cons_zero, List.set_cons_succ, i64_w, i32_w]
    rfl
  refine one_ (i := 7) (N := some 10) #[true, true, true, true, true, true, true, true, false] rfl rfl (by kernel_rfl) (by decide) (fun K hK => ?_)
  refine box_step (by rfl) (N := 10) rfl (cs := #[.int .i64 a, .int .i64 b, .int .i64 c, .int .i64 d, .slice A4 r5.length c4, .bool false, .int .i64 (-1), .slice A7 (List.replicate (a + b).toNat false).length c7, .int .i64 0]) (t := 80) ?hr ?_
  (case hr => first | (go_simp; done) | (go_simp; rfl))
  intro g hg wd hbox hb
  have BKg := Aside0.mk hbox
  have HGE := Aside0.mk (show w.heap.size ≤ g by rw [hg]; exact HB.out.size)
  have q_ := Aside0.mk (foot_below HN4.out hb)
  have p_ := Aside0.mk (Kd.R_below HO7.out hb)
  clear HN4 HO7
  have HN4 := q_
  have HO7 := p_
  have n_ := Aside0.mk (blk_below BKg1.out hb)
  have m_ := Aside0.mk (below_step HB.out hb)
  clear BKg1 HB
  have BKg1 := n_
  have HB := m_
  clear n_ m_
  clear q_ p_ hbox hb hg
  refine hK.out _ _ ⟨(blk_cell BKg1.out 0).trans rfl, (blk_cell BKg1.out 1).trans rfl, (blk_cell BKg1.out 2).trans rfl, (blk_cell BKg1.out 3).trans rfl, (blk_cell BKg1.out 4).trans rfl⟩ (fun hHeld => ?_)
  clear hK K
  refine norm_ (a' := ?_) ?_ ?_
  rotate_left
  · show Act.put _ (some 10) _ = _
    simp only [Act.put, List.setIfInBounds_toArray, List.set_cons_zero, List.set_cons_succ, i64_w, i32_w]
    rfl
  refine pure_ (i := 8) (N := some 2) (v := ?_) (a' := ?_) #[true, true, true, true, true, true, true, true, true] rfl rfl (by kernel_rfl) (fun _ _ _ h => h) (Or.inl ⟨by rfl, ?_⟩) ?_ ?_
  rotate_left
  · intro w'
    go_simp
    with_reducible rfl
  rotate_left
  · simp only [Act.put, List.setIfInBounds_toArray, List.set_cons_zero, List.set_cons_succ, i64_w, i32_w]
    rfl
  refine done_ (by kernel_rfl) ?_
  go_wp2_with (fail)
  go_ret
  refine ⟨_, rfl, ?_, HB.out⟩
  intro W hW
  have hlt := blk_lt BKg.out
  refine ⟨A4, c4, A7, c7, (hW _ HGE.out hlt).trans BKg.out, HL4.out, (Kd.R_reads' HO7.out).2.1, ?_, ?_⟩
  · exact HN4.out W (fun k_ hk hlt => hW k_ (by have h1 := HS4.out; have h2 := hk.1; omega) hlt)
  · exact Kd.R_F (Kd.R_mono (Kd.R_bound HO7.out) (fun k_ hk => hk.2.1)) W (fun k_ hk hlt => hW k_ hk hlt)
end Go.Proofs.Ytemmhgfjfbdggaa.P

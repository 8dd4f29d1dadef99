import Derived.Test.YtemmhgfjfbdggaaM8a
import Derived.Test.YtemmhgfjfbdggaaM8h
import Derived.Test.YtemmhgfjfbdggaaPx4
import Derived.Lib.SliceRun
import Derived.BigFrame
namespace Go.Proofs.Ytemmhgfjfbdggaa.P
open Go.RowKit Go.Proofs.YtemmhgfjfbdggaaW.PrintWords Go.Proofs.YtemmhgfjfbdggaaW.PrintLast Go.Proofs.YtemmhgfjfbdggaaW.PrintMore
attribute [local go_sem] max2_int min2_int max_two min_two max_three min_three max_four min_four
set_option linter.unusedVariables false
set_option linter.unusedSimpArgs false
set_option maxHeartbeats 8000000 in
set_option maxRecDepth 100000 in
theorem image_yes (dr : Nat) (a b c d sz : Int) (As Ag : Option Addr) (cs ng cg : Nat) (slots : List (List Int)) (w : World) (hR : w.heap[dr]? = some (.cells #[.int .i64 a, .int .i64 b, .int .i64 c, .int .i64 d, .int .i64 sz, .slice As slots.length cs, .slice Ag ng cg] 78 (0, 0))) (hC : Kd.C (Kd.slice 5 (Kd.int .u8)) w As slots.length slots) (hl : slots.length ≤ 100000) (hel : ∀ x ∈ slots, x.length ≤ 1000000) : Calls Try.prog 49 #[.pointer (some ⟨dr, 0, none⟩)] w fun e w' => ∃ v : Value, e = .returned (.agg #[.int .i64 a, .int .i64 b, .int .i64 c, .int .i64 d, v]) ∧ Kd.R (Kd.slice 5 (Kd.int .u8)) 45 w' w.heap.size (fun _ => True) v slots ∧ Below w.heap.size w w' := by
 have hu36 := Try.underlying36
 have hu23 := Try.underlying23
 have hu78 := Try.underlying78
 have HB := Aside0.mk (Below.refl w.heap.size w)
 have BKdr := Aside0.mk hR
 have HC := Aside0.mk hC
 have HL := Aside0.mk hl
 have HE := Aside0.mk hel
 have HZ := Aside0.mk (show dr < w.heap.size from blk_lt hR)
 clear hR hC hl hel
 obtain ⟨hcdr_0, hcdr_1, hcdr_2, hcdr_3, hcdr_4, hcdr_5, hcdr_6, hfdr_0, hfdr_1, hfdr_2, hfdr_3, hfdr_4, hfdr_5, hfdr_6⟩ := cs7 BKdr.out
 go_enter Try.func49, Try.ntmps49
 have tok1 : True := trivial
 go_wp2_with (first | (have _ := tok1; (with_reducible refine gate_dst (N := 2) rfl ?_); refine box_event rfl (N := 2) rfl (cs := #[.int .i64 0, .int .i64 0, .int .i64 0, .int .i64 0, .slice none 0 0]) (t := 36) (by go_simp; try rfl) ?_; intro g2 hg w1 hbox hb; have hs : Below w.heap.size w w1 := below_step Lt8.b hb; have SZ1 := Aside0.mk (show w.heap.size ≤ g2 ∧ g2 < w1.heap.size from ⟨by rw [hg]; exact (below_size Lt8.b), blk_lt hbox⟩); (try clear hcdr_0 hfdr_0); (try clear hcdr_1 hfdr_1); (try clear hcdr_2 hfdr_2); (try clear hcdr_3 hfdr_3); (try clear hcdr_4 hfdr_4); (try clear hcdr_5 hfdr_5); (try clear hcdr_6 hfdr_6); replace BKdr := Aside0.mk (blk_below BKdr.out hs); replace HB := Aside0.mk (below_step HB.out hs); have hnedr_g2 : dr ≠ g2 := (by have := SZ1.out; have := HZ.out; omega); have hneg2_dr : g2 ≠ dr := hnedr_g2.symm; have BKg2 := Aside0.mk hbox; clear hb hbox hg hs; obtain ⟨hcdr_0, hcdr_1, hcdr_2, hcdr_3, hcdr_4, hcdr_5, hcdr_6, hfdr_0, hfdr_1, hfdr_2, hfdr_3, hfdr_4, hfdr_5, hfdr_6⟩ := cs7 BKdr.out; obtain ⟨hcg2_0, hcg2_1, hcg2_2, hcg2_3, hcg2_4, hfg2_0, hfg2_1, hfg2_2, hfg2_3, hfg2_4⟩ := cs5 BKg2.out; clear tok1))
 (try clear hcdr_0 hfdr_0)
 (try clear hcdr_1 hfdr_1)
 (try clear hcdr_2 hfdr_2)
 (try clear hcdr_3 hfdr_3)
 (try clear hcdr_4 hfdr_4)
 (try clear hcdr_5 hfdr_5)
 (try clear hcdr_6 hfdr_6)
 (try clear hcg2_0 hfg2_0)
 (try clear hcg2_1 hfg2_1)
 (try clear hcg2_2 hfg2_2)
 (try clear hcg2_3 hfg2_3)
 (try clear hcg2_4 hfg2_4)
 have hs : Below w1.heap.size w1 (World.drew w1) := below_drew1 (Below.refl _ _)
 replace BKdr := Aside0.mk (blk_below BKdr.out hs)
 replace BKg2 := Aside0.mk (blk_below BKg2.out hs)
 replace HB := Aside0.mk (below_step HB.out hs)
 clear hs
 have HGE2 := Aside0.mk (show w.heap.size ≤ g2 by have := SZ1.out; omega)
 refine start_ (n := 13) (S := fun w' => w'.cell? ⟨dr, 0, none⟩ = some (.int .i64 a) ∧ w'.cell? ⟨dr, 1, none⟩ = some (.int .i64 b) ∧ w'.cell? ⟨dr, 2, none⟩ = some (.int .i64 c) ∧ w'.cell? ⟨dr, 3, none⟩ = some (.int .i64 d) ∧ w'.cell? ⟨dr, 4, none⟩ = some (.int .i64 sz) ∧ w'.cell? ⟨dr, 5, none⟩ = some (.slice As slots.length cs) ∧ w'.cell? ⟨dr, 6, none⟩ = some (.slice Ag ng cg)) (ds := [12]) #[O,O,O,O,O,O,O,O,O,O,O,O,O] (by kernel_rfl) rfl rfl ⟨(blk_cell BKdr.out 0).trans rfl, (blk_cell BKdr.out 1).trans rfl, (blk_cell BKdr.out 2).trans rfl, (blk_cell BKdr.out 3).trans rfl, (blk_cell BKdr.out 4).trans rfl, (blk_cell BKdr.out 5).trans rfl, (blk_cell BKdr.out 6).trans rfl⟩ (fun hHeld => ?_)
 generalize World.drew w1 = w2 at HB BKdr BKg2 hHeld ⊢
 refine pv 0 6 ?_ #[X,O,O,O,O,O,O,O,O,O,O,O,O] rfl rfl (by kernel_rfl) (fun _ _ _ h => h) ⟨by rfl, ?_⟩ ?_ ?_ ?_; rotate_left; (intro w'; go_simp; with_reducible rfl); rotate_left; (simp only [sP]; rfl)
 refine pv 1 7 ?_ #[X,X,O,O,O,O,O,O,O,O,O,O,O] rfl rfl (by kernel_rfl) (fun _ _ _ h => h) ⟨by rfl, ?_⟩ ?_ ?_ ?_; rotate_left; (intro w'; go_simp; with_reducible rfl); rotate_left; (simp only [sP]; rfl)
 refine pv 2 8 ?_ #[X,X,X,O,O,O,O,O,O,O,O,O,O] rfl rfl (by kernel_rfl) (fun _ _ _ h => h) ⟨by rfl, ?_⟩ ?_ ?_ ?_; rotate_left; (intro w'; go_simp; with_reducible rfl); rotate_left; (simp only [sP]; rfl)
 refine pv 4 10 ?_ #[X,X,X,O,X,O,O,O,O,O,O,O,O] rfl rfl (by kernel_rfl) (fun _ _ _ h => h) ⟨by rfl, ?_⟩ ?_ ?_ ?_; rotate_left; (intro w'; go_simp; with_reducible rfl); rotate_left; (simp only [sP]; rfl)
 refine pv 5 11 ?_ #[X,X,X,O,X,X,O,O,O,O,O,O,O] rfl rfl (by kernel_rfl) (fun _ _ _ h => h) ⟨by rfl, ?_⟩ ?_ ?_ ?_; rotate_left; (intro w'; go_simp; with_reducible rfl); rotate_left; (simp only [sP]; rfl)
 refine pv 6 12 ?_ #[X,X,X,O,X,X,X,O,O,O,O,O,O] rfl rfl (by kernel_rfl) (fun _ _ _ h => h) ⟨by rfl, ?_⟩ ?_ ?_ ?_; rotate_left; (intro w'; go_simp; with_reducible rfl); rotate_left; (simp only [sP]; rfl)
 refine tv 3 9 ?_ #[X,X,X,X,X,X,X,O,O,O,O,O,O] rfl rfl (by kernel_rfl) (fun _ _ _ h => h) ⟨by rfl, ?_⟩ hHeld ?_ ?_ ?_; rotate_left; (rintro w' ⟨s0, s1, s2, s3, s4, s5, s6⟩; go_simp; with_reducible rfl); rotate_left; (simp only [sP]; rfl)
 refine tv 7 13 ?_ #[X,X,X,X,X,X,X,X,O,O,O,O,O] rfl rfl (by kernel_rfl) (fun _ _ _ h => h) ⟨by rfl, ?_⟩ hHeld ?_ ?_ ?_; rotate_left; (rintro w' ⟨s0, s1, s2, s3, s4, s5, s6⟩; go_simp; with_reducible rfl); rotate_left; (simp only [sP]; rfl)
 refine pv 8 14 ?_ #[X,X,X,X,X,X,X,X,X,O,O,O,O] rfl rfl (by kernel_rfl) (fun _ _ _ h => h) ⟨by rfl, ?_⟩ ?_ ?_ ?_; rotate_left; (intro w'; go_simp; with_reducible rfl); rotate_left; (simp only [sP]; rfl)
 refine join_ (σ := Option Addr × Nat × Nat) 1 #[X,X,X,X,X,X,X,X,X,X,X,X,O] (fun s => [(15, .slice s.1 slots.length s.2.1), (16, .agg #[.int .i64 a, .int .i64 b, .int .i64 c, .int .i64 d, .slice s.1 slots.length s.2.1]), (3, .pointer (some ⟨s.2.2, 0, none⟩))]) (fun s w' => Kd.R (Kd.slice 5 (Kd.int .u8)) 45 w' w.heap.size (fun _ => True) (.slice s.1 slots.length s.2.1) (List.replicate slots.length []) ∧ w'.heap[s.2.2]? = some (.cells #[.int .i64 0, .int .i64 0, .int .i64 0, .int .i64 0, .slice none 0 0] 36 (0, 0)) ∧ w.heap.size ≤ s.2.2 ∧ g2 ≠ s.2.2 ∧ w'.heap[g2]? = some (.cells #[.int .i64 0, .int .i64 0, .int .i64 0, .int .i64 0, .slice none 0 0] 36 (0, 0)) ∧ w'.heap[dr]? = some (.cells #[.int .i64 a, .int .i64 b, .int .i64 c, .int .i64 d, .int .i64 sz, .slice As slots.length cs, .slice Ag ng cg] 78 (0, 0)) ∧ Below w.heap.size w w') ?_ ?_
 rotate_left
 ·
  intro hCont
  refine two_ (i := 9) (j := 11) (Ni := some 15) (Nj := some 3) #[X,X,X,X,X,X,X,X,X,X,O,O,O] #[X,X,X,X,X,X,X,X,X,O,O,X,O] rfl rfl rfl rfl (by kernel_rfl) (by decide) (by decide) (fun K hK => ?_) (fun K hK => ?_)
  ·
   skip
   refine Kd.R_make_step (Kd.slice 5 (Kd.int .u8)) w.heap.size 45 (by rfl) (N := 15) rfl 34 _ _ rfl _ rfl rfl Try.underlying34 (.slice none 0 0) 24 info45 rfl (by decide) (by omega) ([] : List Int) (ok := fun _ => True) (okp := fun _ => True) ⟨_, rfl, Kd.R_nil _ _ _ _ _⟩ (fun _ hk => hk) trivial (by omega) (by have := HL.out; omega) HB.out HB.out.size ?_
   intro vm9 wm9_0 ho hb hg_ hnew_
   rw [Int.toNat_natCast] at ho
   obtain ⟨A_, c_, e_⟩ := Kd.R_slice ho
   rw [List.length_replicate] at e_
   subst e_
   have HO9 := Aside0.mk ho
   have n_ := Aside0.mk (blk_grown BKg2.out hg_ (by simp))
   have m_ := Aside0.mk (blk_grown BKdr.out hg_ (by simp))
   clear BKg2 BKdr HB
   have BKg2 := n_
   have BKdr := m_
   have HB := Aside0.mk hb
   clear n_ m_ hb hg_ hnew_ ho
   refine hK.out _ _ ⟨(blk_cell BKdr.out 0).trans rfl, (blk_cell BKdr.out 1).trans rfl, (blk_cell BKdr.out 2).trans rfl, (blk_cell BKdr.out 3).trans rfl, (blk_cell BKdr.out 4).trans rfl, (blk_cell BKdr.out 5).trans rfl, (blk_cell BKdr.out 6).trans rfl⟩ (fun hHeld => ?_)
   clear hK K
   refine norm_ (a' := ?_) ?_ ?_
   rotate_left
   ·
    show Act.put _ (some 15) _ = _
    simp only [sP]
    rfl
   refine pv 10 16 ?_ #[X,X,X,X,X,X,X,X,X,X,X,O,O] rfl rfl (by kernel_rfl) (fun _ _ _ h => h) ⟨by rfl, ?_⟩ ?_ ?_ ?_; rotate_left; (intro w'; go_simp; with_reducible rfl); rotate_left; (simp only [sP]; rfl)
   refine one_ (i := 11) (N := some 3) #[X,X,X,X,X,X,X,X,X,X,X,X,O] rfl rfl (by kernel_rfl) (by decide) (fun K hK => ?_)
   refine box_step (by rfl) (N := 3) rfl (cs := #[.int .i64 0, .int .i64 0, .int .i64 0, .int .i64 0, .slice none 0 0]) (t := 36) ?hr ?_
   (case hr => first | (go_simp; done) | (go_simp; rfl))
   intro g3 hg wm11_1 hbox hb
   have BKg3 := Aside0.mk hbox
   have HGE3 := Aside0.mk (show w.heap.size ≤ g3 by rw [hg]; exact HB.out.size)
   have HNE3 := Aside0.mk (show g2 ≠ g3 by have h2 := blk_lt BKg2.out; omega)
   replace HO9 := Aside0.mk (Kd.R_below HO9.out hb)
   have n_ := Aside0.mk (blk_below BKg2.out hb)
   have m_ := Aside0.mk (blk_below BKdr.out hb)
   have p_ := Aside0.mk (below_step HB.out hb)
   clear BKg2 BKdr HB
   have BKg2 := n_
   have BKdr := m_
   have HB := p_
   clear n_ m_ p_ hb hbox hg
   refine hK.out _ _ ⟨(blk_cell BKdr.out 0).trans rfl, (blk_cell BKdr.out 1).trans rfl, (blk_cell BKdr.out 2).trans rfl, (blk_cell BKdr.out 3).trans rfl, (blk_cell BKdr.out 4).trans rfl, (blk_cell BKdr.out 5).trans rfl, (blk_cell BKdr.out 6).trans rfl⟩ (fun hHeld => ?_)
   clear hK K
   refine norm_ (a' := ?_) ?_ ?_
   rotate_left
   ·
    show Act.put _ (some 3) _ = _
    simp only [sP]
    rfl
   exact norm_ (by simp only [putAll, Act.put, List.setIfInBounds_toArray, List.set_cons_zero, List.set_cons_succ]) (hCont (A_, c_, g3) _ ⟨HO9.out, BKg3.out, HGE3.out, HNE3.out, BKg2.out, BKdr.out, HB.out⟩)
  ·
   skip
   refine box_step (by rfl) (N := 3) rfl (cs := #[.int .i64 0, .int .i64 0, .int .i64 0, .int .i64 0, .slice none 0 0]) (t := 36) ?hr ?_
   (case hr => first | (go_simp; done) | (go_simp; rfl))
   intro g3 hg wm11_0 hbox hb
   have BKg3 := Aside0.mk hbox
   have HGE3 := Aside0.mk (show w.heap.size ≤ g3 by rw [hg]; exact HB.out.size)
   have HNE3 := Aside0.mk (show g2 ≠ g3 by have h2 := blk_lt BKg2.out; omega)
   have n_ := Aside0.mk (blk_below BKg2.out hb)
   have m_ := Aside0.mk (blk_below BKdr.out hb)
   have p_ := Aside0.mk (below_step HB.out hb)
   clear BKg2 BKdr HB
   have BKg2 := n_
   have BKdr := m_
   have HB := p_
   clear n_ m_ p_ hb hbox hg
   refine hK.out _ _ ⟨(blk_cell BKdr.out 0).trans rfl, (blk_cell BKdr.out 1).trans rfl, (blk_cell BKdr.out 2).trans rfl, (blk_cell BKdr.out 3).trans rfl, (blk_cell BKdr.out 4).trans rfl, (blk_cell BKdr.out 5).trans rfl, (blk_cell BKdr.out 6).trans rfl⟩ (fun hHeld => ?_)
   clear hK K
   refine norm_ (a' := ?_) ?_ ?_
   rotate_left
   ·
    show Act.put _ (some 3) _ = _
    simp only [sP]
    rfl
   refine one_ (i := 9) (N := some 15) #[X,X,X,X,X,X,X,X,X,X,O,X,O] rfl rfl (by kernel_rfl) (by decide) (fun K hK => ?_)
   refine Kd.R_make_step (Kd.slice 5 (Kd.int .u8)) w.heap.size 45 (by rfl) (N := 15) rfl 34 _ _ rfl _ rfl rfl Try.underlying34 (.slice none 0 0) 24 info45 rfl (by decide) (by omega) ([] : List Int) (ok := fun _ => True) (okp := fun _ => True) ⟨_, rfl, Kd.R_nil _ _ _ _ _⟩ (fun _ hk => hk) trivial (by omega) (by have := HL.out; omega) HB.out HB.out.size ?_
   intro vm9 wm9_1 ho hb hg_ hnew_
   rw [Int.toNat_natCast] at ho
   obtain ⟨A_, c_, e_⟩ := Kd.R_slice ho
   rw [List.length_replicate] at e_
   subst e_
   have HO9 := Aside0.mk ho
   replace BKg3 := Aside0.mk (blk_grown BKg3.out hg_ (by simp))
   have n_ := Aside0.mk (blk_grown BKg2.out hg_ (by simp))
   have m_ := Aside0.mk (blk_grown BKdr.out hg_ (by simp))
   clear BKg2 BKdr HB
   have BKg2 := n_
   have BKdr := m_
   have HB := Aside0.mk hb
   clear n_ m_ hb hg_ hnew_ ho
   refine hK.out _ _ ⟨(blk_cell BKdr.out 0).trans rfl, (blk_cell BKdr.out 1).trans rfl, (blk_cell BKdr.out 2).trans rfl, (blk_cell BKdr.out 3).trans rfl, (blk_cell BKdr.out 4).trans rfl, (blk_cell BKdr.out 5).trans rfl, (blk_cell BKdr.out 6).trans rfl⟩ (fun hHeld => ?_)
   clear hK K
   refine norm_ (a' := ?_) ?_ ?_
   rotate_left
   ·
    show Act.put _ (some 15) _ = _
    simp only [sP]
    rfl
   refine pv 10 16 ?_ #[X,X,X,X,X,X,X,X,X,X,X,X,O] rfl rfl (by kernel_rfl) (fun _ _ _ h => h) ⟨by rfl, ?_⟩ ?_ ?_ ?_; rotate_left; (intro w'; go_simp; with_reducible rfl); rotate_left; (simp only [sP]; rfl)
   exact norm_ (by simp only [putAll, Act.put, List.setIfInBounds_toArray, List.set_cons_zero, List.set_cons_succ]) (hCont (A_, c_, g3) _ ⟨HO9.out, BKg3.out, HGE3.out, HNE3.out, BKg2.out, BKdr.out, HB.out⟩)
 rintro ⟨A7, c7, g3⟩ wf ⟨ho7, hb3, hge3, hne3, hb2, hbr, hbw⟩
 clear BKg2 BKdr HB
 have HO7 := Aside0.mk (show Kd.R (Kd.slice 5 (Kd.int .u8)) 45 wf w.heap.size (fun _ => True) (.slice A7 slots.length c7) (List.replicate slots.length []) from ho7)
 have BKg3 := Aside0.mk (show wf.heap[g3]? = some (.cells #[.int .i64 0, .int .i64 0, .int .i64 0, .int .i64 0, .slice none 0 0] 36 (0, 0)) from hb3)
 have HGE3 := Aside0.mk (show w.heap.size ≤ g3 from hge3)
 have hne23 : g2 ≠ g3 := hne3
 have hne32 : g3 ≠ g2 := Ne.symm hne3
 have BKg2 := Aside0.mk hb2
 have BKdr := Aside0.mk hbr
 have HB := Aside0.mk hbw
 have HDR := Aside0.mk (show dr ≠ g3 by have h1 := HZ.out; have h2 := HGE3.out; omega)
 clear ho7 hb3 hge3 hne3 hb2 hbr hbw
 obtain ⟨hcg3_0, hcg3_1, hcg3_2, hcg3_3, hcg3_4, hfg3_0, hfg3_1, hfg3_2, hfg3_3, hfg3_4⟩ := cs5 BKg3.out
 have hHeld : (fun w' => w'.cell? ⟨dr, 0, none⟩ = some (.int .i64 a) ∧ w'.cell? ⟨dr, 1, none⟩ = some (.int .i64 b) ∧ w'.cell? ⟨dr, 2, none⟩ = some (.int .i64 c) ∧ w'.cell? ⟨dr, 3, none⟩ = some (.int .i64 d) ∧ w'.cell? ⟨dr, 4, none⟩ = some (.int .i64 sz) ∧ w'.cell? ⟨dr, 5, none⟩ = some (.slice As slots.length cs) ∧ w'.cell? ⟨dr, 6, none⟩ = some (.slice Ag ng cg)) wf := ⟨(blk_cell BKdr.out 0).trans rfl, (blk_cell BKdr.out 1).trans rfl, (blk_cell BKdr.out 2).trans rfl, (blk_cell BKdr.out 3).trans rfl, (blk_cell BKdr.out 4).trans rfl, (blk_cell BKdr.out 5).trans rfl, (blk_cell BKdr.out 6).trans rfl⟩
 refine norm_ (a' := ?_) ?_ ?_
 rotate_left
 ·
  simp only [putAll, Act.put, List.setIfInBounds_toArray, List.set_cons_zero, List.set_cons_succ]
  rfl
 refine last_ (i := 12) (N := none) #[X,X,X,X,X,X,X,X,X,X,X,X,X] rfl rfl (by kernel_rfl) (by decide) (fun K hK => ?_)
 refine skip_ (w1 := ?_) (by rfl) rfl ?_ ?_
 rotate_left
 ·
  go_simp
  rfl
 refine hK.out _ _ ?_
 clear hK K
 refine done_ (by kernel_rfl) ?_
 clear hHeld
 clear hcg3_0 hfg3_0
 clear hcg3_1 hfg3_1
 clear hcg3_2 hfg3_2
 clear hcg3_3 hfg3_3
 clear hcg3_4 hfg3_4
 replace HO7 := Aside0.mk (Kd.R_mono (Kd.R_far (Kd.R_types HO7.out BKg3.out (by decide)) (p := ⟨g3, 0, none⟩) (fun _ hk => hk.2) (.int .i64 a)) (fun _ hk => hk.1))
 replace BKg2 := Aside0.mk (blk_far BKg2.out (p := ⟨g3, 0, none⟩) (show g2 ≠ g3 from hne23) (.int .i64 a))
 replace BKdr := Aside0.mk (blk_far BKdr.out (p := ⟨g3, 0, none⟩) HDR.out (.int .i64 a))
 replace BKg3 := Aside0.mk (blk_put BKg3.out 0 (.int .i64 a) rfl)
 replace HB := Aside0.mk (below_set HB.out HGE3.out (j := 0) (v := .int .i64 a))
 replace HO7 := Aside0.mk (Kd.R_mono (Kd.R_far (Kd.R_types HO7.out BKg3.out (by decide)) (p := ⟨g3, 1, none⟩) (fun _ hk => hk.2) (.int .i64 b)) (fun _ hk => hk.1))
 replace BKg2 := Aside0.mk (blk_far BKg2.out (p := ⟨g3, 1, none⟩) (show g2 ≠ g3 from hne23) (.int .i64 b))
 replace BKdr := Aside0.mk (blk_far BKdr.out (p := ⟨g3, 1, none⟩) HDR.out (.int .i64 b))
 replace BKg3 := Aside0.mk (blk_put BKg3.out 1 (.int .i64 b) rfl)
 replace HB := Aside0.mk (below_set HB.out HGE3.out (j := 1) (v := .int .i64 b))
 replace HO7 := Aside0.mk (Kd.R_mono (Kd.R_far (Kd.R_types HO7.out BKg3.out (by decide)) (p := ⟨g3, 2, none⟩) (fun _ hk => hk.2) (.int .i64 c)) (fun _ hk => hk.1))
 replace BKg2 := Aside0.mk (blk_far BKg2.out (p := ⟨g3, 2, none⟩) (show g2 ≠ g3 from hne23) (.int .i64 c))
 replace BKdr := Aside0.mk (blk_far BKdr.out (p := ⟨g3, 2, none⟩) HDR.out (.int .i64 c))
 replace BKg3 := Aside0.mk (blk_put BKg3.out 2 (.int .i64 c) rfl)
 replace HB := Aside0.mk (below_set HB.out HGE3.out (j := 2) (v := .int .i64 c))
 replace HO7 := Aside0.mk (Kd.R_mono (Kd.R_far (Kd.R_types HO7.out BKg3.out (by decide)) (p := ⟨g3, 3, none⟩) (fun _ hk => hk.2) (.int .i64 d)) (fun _ hk => hk.1))
 replace BKg2 := Aside0.mk (blk_far BKg2.out (p := ⟨g3, 3, none⟩) (show g2 ≠ g3 from hne23) (.int .i64 d))
 replace BKdr := Aside0.mk (blk_far BKdr.out (p := ⟨g3, 3, none⟩) HDR.out (.int .i64 d))
 replace BKg3 := Aside0.mk (blk_put BKg3.out 3 (.int .i64 d) rfl)
 replace HB := Aside0.mk (below_set HB.out HGE3.out (j := 3) (v := .int .i64 d))
 replace HO7 := Aside0.mk (Kd.R_mono (Kd.R_far (Kd.R_types HO7.out BKg3.out (by decide)) (p := ⟨g3, 4, none⟩) (fun _ hk => hk.2) (.slice A7 slots.length c7)) (fun _ hk => hk.1))
 replace BKg2 := Aside0.mk (blk_far BKg2.out (p := ⟨g3, 4, none⟩) (show g2 ≠ g3 from hne23) (.slice A7 slots.length c7))
 replace BKdr := Aside0.mk (blk_far BKdr.out (p := ⟨g3, 4, none⟩) HDR.out (.slice A7 slots.length c7))
 replace BKg3 := Aside0.mk (blk_put BKg3.out 4 (.slice A7 slots.length c7) rfl)
 replace HB := Aside0.mk (below_set HB.out HGE3.out (j := 4) (v := .slice A7 slots.length c7))
 generalize (((((wf.setCell ⟨g3, 0, none⟩ (.int .i64 a)).setCell ⟨g3, 1, none⟩ (.int .i64 b)).setCell ⟨g3, 2, none⟩ (.int .i64 c)).setCell ⟨g3, 3, none⟩ (.int .i64 d)).setCell ⟨g3, 4, none⟩ (.slice A7 slots.length c7)) = w8 at HO7 BKg2 BKdr BKg3 HB ⊢
 obtain ⟨-, -, -, -, -, hcd2, -, -, -, -, -, -, hfd2, -⟩ := cs7 BKdr.out
 go_wp2_with (fail)
 go_loopg [22] slots.length (fun kq v22 wr => ∃ k : Nat, v22 = .int .i64 (k : Int) ∧ Aside0 (k ≤ slots.length ∧ slots.length - k ≤ kq) ∧ Aside0 (wr.heap[g3]? = some (.cells #[.int .i64 a, .int .i64 b, .int .i64 c, .int .i64 d, .slice A7 slots.length c7] 36 (0, 0))) ∧ Aside0 (wr.heap[g2]? = some (.cells #[.int .i64 0, .int .i64 0, .int .i64 0, .int .i64 0, .slice none 0 0] 36 (0, 0))) ∧ Aside0 (Kd.R (Kd.slice 5 (Kd.int .u8)) 45 wr w.heap.size (fun _ => True) (.slice A7 slots.length c7) (slots.take k ++ List.replicate (slots.length - k) [])) ∧ Aside0 (Below w.heap.size w wr))
 case atStart => exact ⟨0, rfl, Aside0.mk ⟨by omega, by omega⟩, BKg3, BKg2, Aside0.mk (by have := HO7.out; simpa using this), HB⟩
 case round =>
  clear HO7 BKg2 BKdr BKg3 HB hcd2 hfd2
  obtain ⟨k, rfl, AX, BKg3, BKg2, HO, HB⟩ := hrel
  have hlen : (slots.take k ++ List.replicate (slots.length - k) ([] : List Int)).length = slots.length := by
   have := AX.out
   rw [List.length_append, List.length_take, List.length_replicate]
   omega
  by_cases hlt : k < slots.length
  ·
   obtain ⟨ad, x, eA, hf, hx, B, cc, hcell, hle, hCx⟩ := bytes_elem HC.out k hlt
   subst eA
   obtain ⟨g7, cap7, e7, hb7, hl7, cells7, hh7⟩ := Kd.R_form HO.out (by omega)
   rw [hlen] at e7
   injection e7 with ea en ec
   subst ea
   subst ec
   have AF := Aside0.mk hf
   have hxl := HE.out x hx
   have AC := Aside0.mk (show slices_Clone_byte_byte.f x = some x by unfold slices_Clone_byte_byte.f; rw [if_pos (by omega)])
   have ACx := Aside0.mk hCx
   have ALe := Aside0.mk hle
   have HG7 := Aside0.mk (show w.heap.size ≤ g7 ∧ g7 < wr.heap.size from ⟨hb7, hl7⟩)
   have HN3 := Aside0.mk (show g3 ≠ g7 from fun e => Kd.R_ne HO.out BKg3.out (by decide) (by rw [e]; rfl))
   have HN2 := Aside0.mk (show g2 ≠ g7 from fun e => Kd.R_ne HO.out BKg2.out (by decide) (by rw [e]; rfl))
   have b1 : decide ((k : Int) < (slots.length : Int)) = true := decide_eq_true (by omega)
   have b2 : decide (k < slots.length) = true := decide_eq_true hlt
   have b3 : (k < slots.length) = True := eq_true hlt
   have hcl := pw_cell_below HB.out hcell
   have HK := Aside0.mk hlt
   have HLEN := Aside0.mk hlen
   clear hlt hf hx hxl hle hCx hcell hb7 hl7 hh7 hlen
   go_wp2_with (fail)
   clear hcl
   have n1_ := Aside0.mk (blk_drew BKg3.out)
   have n2_ := Aside0.mk (blk_drew BKg2.out)
   have n3_ := Aside0.mk (Kd.R_drew HO.out)
   have n4_ := Aside0.mk (below_drew1 HB.out)
   have n5_ := Aside0.mk (show w.heap.size ≤ g7 ∧ g7 < (World.drew wr).heap.size from HG7.out)
   clear BKg3 BKg2 HO HB HG7
   have BKg3 := n1_
   have BKg2 := n2_
   have HO := n3_
   have HB := n4_
   have HG7 := n5_
   clear n1_ n2_ n3_ n4_ n5_
   refine start_ (n := 7) (S := fun w' => w'.cell? ⟨g3, 4, none⟩ = some (.slice (some ⟨g7, 0, none⟩) slots.length c7)) (ds := [6]) #[O,O,O,O,O,O,O] (by kernel_rfl) rfl rfl ((blk_cell BKg3.out 4).trans rfl) (fun hHeld => ?_)
   generalize World.drew wr = wq at HB BKg3 BKg2 HO HG7 hHeld ⊢
   refine pv 0 27 ?_ #[X,O,O,O,O,O,O] rfl rfl (by kernel_rfl) (fun _ _ _ h => h) ⟨by rfl, ?_⟩ ?_ ?_ ?_; rotate_left; (intro w'; go_simp; with_reducible rfl); rotate_left; (simp only [sP]; rfl)
   refine pv 2 29 ?_ #[X,O,X,O,O,O,O] rfl rfl (by kernel_rfl) (fun _ _ _ h => h) ⟨by rfl, ?_⟩ ?_ ?_ ?_; rotate_left; (intro w'; go_simp; with_reducible rfl); rotate_left; (simp only [sP]; rfl)
   refine pv 3 30 ?_ #[X,O,X,X,O,O,O] rfl rfl (by kernel_rfl) (fun _ _ _ h => h) ⟨by rfl, ?_⟩ ?_ ?_ ?_; rotate_left; (intro w'; go_simp; with_reducible rfl); rotate_left; (simp only [sP]; rfl)
   refine tv 1 28 ?_ #[X,X,X,X,O,O,O] rfl rfl (by kernel_rfl) (fun _ _ _ h => h) ⟨by rfl, ?_⟩ hHeld ?_ ?_ ?_; rotate_left; (intro w' s0; go_simp; with_reducible rfl); rotate_left; (simp only [sP]; rfl)
   refine one_ (i := 4) (N := some 31) #[X,X,X,X,X,O,O] rfl rfl (by kernel_rfl) (by decide) (fun K hK => ?_)
   refine goes_ Try.func48 (by kernel_rfl) rfl #[.slice B x.length cc] (by rfl) rfl rfl (by simp only [List.map_toArray, List.map_cons, List.map_nil]; rfl) ?_
   with_reducible refine (slices_Clone_byte_byte.calls B cc x x _ ?s1 ALe.out AC.out).mono ?_
   (case s1 => exact Kd.C_below ACx.out HB.out)
   rintro e w5 ⟨v5, rfl, ho, hb⟩
   refine ⟨_, rfl, ?_⟩
   obtain ⟨A5, c5, e5_⟩ := Kd.R_slice ho
   subst e5_
   have HN := Aside0.mk (show Kd.R (Kd.int .u8) 5 w5 w.heap.size (fun k => True ∧ k ≠ g7) (.slice A5 x.length c5) x from Kd.R_mono (Kd.R_lower (Kd.R_bound ho) HB.out.size) (fun k hk => ⟨trivial, by have h1 := hk.2.1; have h2 := HG7.out; omega⟩))
   have n1_ := Aside0.mk (blk_below BKg3.out hb)
   have n2_ := Aside0.mk (blk_below BKg2.out hb)
   have n3_ := Aside0.mk (Kd.R_below HO.out hb)
   have n4_ := Aside0.mk (below_step HB.out hb)
   clear BKg3 BKg2 HO HB ho hb
   have BKg3 := n1_
   have BKg2 := n2_
   have HO := n3_
   have HB := n4_
   clear n1_ n2_ n3_ n4_
   obtain ⟨u0, hcu, hfu⟩ := R_cell_row HO.out (i := k) (by rw [HLEN.out]; exact HK.out)
   refine hK.out _ _ ((blk_cell BKg3.out 4).trans rfl) (fun hHeld => ?_)
   clear hK K
   refine norm_ (a' := ?_) ?_ ?_
   rotate_left
   ·
    show Act.put _ (some 31) _ = _
    simp only [sP]
    rfl
   refine pv 5 32 ?_ #[X,X,X,X,X,X,O] rfl rfl (by kernel_rfl) (fun _ _ _ h => h) ⟨by rfl, ?_⟩ ?_ ?_ ?_; rotate_left; (intro w'; go_simp; with_reducible rfl); rotate_left; (simp only [sP]; rfl)
   refine last_ (i := 6) (N := none) #[X,X,X,X,X,X,X] rfl rfl (by kernel_rfl) (by decide) (fun K hK => ?_)
   refine skip_ (w1 := ?_) (by rfl) rfl ?_ ?_
   rotate_left
   ·
    go_simp
    rfl
   refine hK.out _ _ ?_
   clear hK K
   refine done_ (by kernel_rfl) ?_
   clear hHeld hcu hfu
   go_wp2_with (fail)
   go_roundg (gk - 1)
   case measure =>
    have := AX.out
    have := HK.out
    omega
   case rel =>
    have h1 := AX.out
    have h2 := HK.out
    have h3 := HL.out
    have hp := R_put_row HO.out (i := k) (by rw [HLEN.out]; exact HK.out) HN.out
    rw [filled_step slots k x HK.out AF.out] at hp
    exact ⟨k + 1, by rw [show wrap64 ((k : Int) + 1) = ((k + 1 : Nat) : Int) by unfold wrap64; omega], Aside0.mk ⟨by omega, by omega⟩, Aside0.mk (blk_grown BKg3.out hp.2 (fun e => HN3.out (by injection e))), Aside0.mk (blk_grown BKg2.out hp.2 (fun e => HN2.out (by injection e))), Aside0.mk hp.1, Aside0.mk (below_set HB.out HG7.out.1)⟩
  ·
   have b1 : decide ((k : Int) < (slots.length : Int)) = false := decide_eq_false (by omega)
   have b2 : decide (k < slots.length) = false := decide_eq_false hlt
   have e : slots.take k ++ List.replicate (slots.length - k) ([] : List Int) = slots := by
    rw [List.take_of_length_le (by omega), show slots.length - k = 0 by omega]
    simp
   have HO2 := HO.out
   rw [e] at HO2
   have HO3 := Aside0.mk HO2
   clear HO2 HO e hlt hlen
   obtain ⟨hcg3_0, hcg3_1, hcg3_2, hcg3_3, hcg3_4, hfg3_0, hfg3_1, hfg3_2, hfg3_3, hfg3_4⟩ := cs5 BKg3.out
   obtain ⟨hcg2_0, hcg2_1, hcg2_2, hcg2_3, hcg2_4, hfg2_0, hfg2_1, hfg2_2, hfg2_3, hfg2_4⟩ := cs5 BKg2.out
   go_wp2_with (fail)
   clear hcg3_0 hfg3_0 hcg2_0 hfg2_0
   clear hcg3_1 hfg3_1 hcg2_1 hfg2_1
   clear hcg3_2 hfg3_2 hcg2_2 hfg2_2
   clear hcg3_3 hfg3_3 hcg2_3 hfg2_3
   clear hcg3_4 hfg3_4 hcg2_4 hfg2_4
   replace HO3 := Aside0.mk (Kd.R_mono (Kd.R_far (Kd.R_types HO3.out BKg2.out (by decide)) (p := ⟨g2, 0, none⟩) (fun _ hk => hk.2) (.int .i64 a)) (fun _ hk => hk.1))
   replace BKg2 := Aside0.mk (blk_put BKg2.out 0 (.int .i64 a) rfl)
   replace HB := Aside0.mk (below_set HB.out HGE2.out (j := 0) (v := .int .i64 a))
   replace HO3 := Aside0.mk (Kd.R_mono (Kd.R_far (Kd.R_types HO3.out BKg2.out (by decide)) (p := ⟨g2, 1, none⟩) (fun _ hk => hk.2) (.int .i64 b)) (fun _ hk => hk.1))
   replace BKg2 := Aside0.mk (blk_put BKg2.out 1 (.int .i64 b) rfl)
   replace HB := Aside0.mk (below_set HB.out HGE2.out (j := 1) (v := .int .i64 b))
   replace HO3 := Aside0.mk (Kd.R_mono (Kd.R_far (Kd.R_types HO3.out BKg2.out (by decide)) (p := ⟨g2, 2, none⟩) (fun _ hk => hk.2) (.int .i64 c)) (fun _ hk => hk.1))
   replace BKg2 := Aside0.mk (blk_put BKg2.out 2 (.int .i64 c) rfl)
   replace HB := Aside0.mk (below_set HB.out HGE2.out (j := 2) (v := .int .i64 c))
   replace HO3 := Aside0.mk (Kd.R_mono (Kd.R_far (Kd.R_types HO3.out BKg2.out (by decide)) (p := ⟨g2, 3, none⟩) (fun _ hk => hk.2) (.int .i64 d)) (fun _ hk => hk.1))
   replace BKg2 := Aside0.mk (blk_put BKg2.out 3 (.int .i64 d) rfl)
   replace HB := Aside0.mk (below_set HB.out HGE2.out (j := 3) (v := .int .i64 d))
   replace HO3 := Aside0.mk (Kd.R_mono (Kd.R_far (Kd.R_types HO3.out BKg2.out (by decide)) (p := ⟨g2, 4, none⟩) (fun _ hk => hk.2) (.slice A7 slots.length c7)) (fun _ hk => hk.1))
   replace BKg2 := Aside0.mk (blk_put BKg2.out 4 (.slice A7 slots.length c7) rfl)
   replace HB := Aside0.mk (below_set HB.out HGE2.out (j := 4) (v := .slice A7 slots.length c7))
   generalize (((((wr.setCell ⟨g2, 0, none⟩ (.int .i64 a)).setCell ⟨g2, 1, none⟩ (.int .i64 b)).setCell ⟨g2, 2, none⟩ (.int .i64 c)).setCell ⟨g2, 3, none⟩ (.int .i64 d)).setCell ⟨g2, 4, none⟩ (.slice A7 slots.length c7)) = w9 at HO3 BKg2 HB ⊢
   refine bodyPost_ret (results_cell_row rfl _ _ g2 36 #[.int .i64 a, .int .i64 b, .int .i64 c, .int .i64 d, .slice A7 slots.length c7] (0, 0) _ rfl BKg2.out hu36 rfl (by kernel_rfl)) rfl ?_
   exact ⟨_, rfl, HO3.out, HB.out⟩
end Go.Proofs.Ytemmhgfjfbdggaa.P
namespace Go.Proofs.Ytemmhgfjfbdggaa.P
open Go.RowKit Go.Proofs.YtemmhgfjfbdggaaW.PrintWords Go.Proofs.YtemmhgfjfbdggaaW.PrintLast Go.Proofs.YtemmhgfjfbdggaaW.PrintMore
attribute [local go_sem] max2_int min2_int max_two min_two max_three min_three max_four min_four
set_option linter.unusedVariables false
set_option linter.unusedSimpArgs false
set_option maxHeartbeats 8000000 in
set_option maxRecDepth 100000 in
theorem Image_yes (D dr : Nat) (a b c d sz : Int) (off : Bool) (cut wr : Int) (As Ag : Option Addr) (cs ng cg : Nat) (slots : List (List Int)) (w : World) (hD : w.heap[D]? = some (.cells #[.pointer (some ⟨dr, 0, none⟩), .bool off, .int .i64 cut, .int .i64 wr] 58 (0, 0))) (hR : w.heap[dr]? = some (.cells #[.int .i64 a, .int .i64 b, .int .i64 c, .int .i64 d, .int .i64 sz, .slice As slots.length cs, .slice Ag ng cg] 78 (0, 0))) (hC : Kd.C (Kd.slice 5 (Kd.int .u8)) w As slots.length slots) (hl : slots.length ≤ 100000) (hel : ∀ x ∈ slots, x.length ≤ 1000000) : Calls Try.prog 23 #[.pointer (some ⟨D, 0, none⟩)] w fun e w' => ∃ v : Value, e = .returned (.tuple #[.agg #[.int .i64 a, .int .i64 b, .int .i64 c, .int .i64 d, v], .int .i64 0]) ∧ Kd.R (Kd.slice 5 (Kd.int .u8)) 45 w' w.heap.size (fun _ => True) v slots ∧ Below w.heap.size w w' := by
 have hu36 := Try.underlying36
 have HB := Aside0.mk (Below.refl w.heap.size w)
 have BKD := Aside0.mk hD
 have BKdr := Aside0.mk hR
 have HC := Aside0.mk hC
 have HL := Aside0.mk hl
 have HE := Aside0.mk hel
 have HZ1 := Aside0.mk (show D < w.heap.size from blk_lt hD)
 have HZ2 := Aside0.mk (show dr < w.heap.size from blk_lt hR)
 clear hD hR hC hl hel
 have hcD_0 : w.cell? ⟨D, 0, none⟩ = some (.pointer (some ⟨dr, 0, none⟩)) := (blk_cell BKD.out 0).trans rfl
 have hfD_0 := blk_frozen BKD.out 0
 have hcD_1 : w.cell? ⟨D, 1, none⟩ = some (.bool off) := (blk_cell BKD.out 1).trans rfl
 have hfD_1 := blk_frozen BKD.out 1
 have hcD_2 : w.cell? ⟨D, 2, none⟩ = some (.int .i64 cut) := (blk_cell BKD.out 2).trans rfl
 have hfD_2 := blk_frozen BKD.out 2
 have hcD_3 : w.cell? ⟨D, 3, none⟩ = some (.int .i64 wr) := (blk_cell BKD.out 3).trans rfl
 have hfD_3 := blk_frozen BKD.out 3
 have hcdr_0 : w.cell? ⟨dr, 0, none⟩ = some (.int .i64 a) := (blk_cell BKdr.out 0).trans rfl
 have hfdr_0 := blk_frozen BKdr.out 0
 have hcdr_1 : w.cell? ⟨dr, 1, none⟩ = some (.int .i64 b) := (blk_cell BKdr.out 1).trans rfl
 have hfdr_1 := blk_frozen BKdr.out 1
 have hcdr_2 : w.cell? ⟨dr, 2, none⟩ = some (.int .i64 c) := (blk_cell BKdr.out 2).trans rfl
 have hfdr_2 := blk_frozen BKdr.out 2
 have hcdr_3 : w.cell? ⟨dr, 3, none⟩ = some (.int .i64 d) := (blk_cell BKdr.out 3).trans rfl
 have hfdr_3 := blk_frozen BKdr.out 3
 have hcdr_4 : w.cell? ⟨dr, 4, none⟩ = some (.int .i64 sz) := (blk_cell BKdr.out 4).trans rfl
 have hfdr_4 := blk_frozen BKdr.out 4
 have hcdr_5 : w.cell? ⟨dr, 5, none⟩ = some (.slice As slots.length cs) := (blk_cell BKdr.out 5).trans rfl
 have hfdr_5 := blk_frozen BKdr.out 5
 have hcdr_6 : w.cell? ⟨dr, 6, none⟩ = some (.slice Ag ng cg) := (blk_cell BKdr.out 6).trans rfl
 have hfdr_6 := blk_frozen BKdr.out 6
 go_enter Try.func23, Try.ntmps23
 have tok1 : True := trivial
 go_wp2_with (first | (have _ := tok1; (with_reducible refine gate_dst (N := 2) rfl ?_); refine box_event ?hg (N := 2) ?hd (cs := #[.int .i64 0, .int .i64 0, .int .i64 0, .int .i64 0, .slice none 0 0]) (t := 36) ?hr ?_; (case hd => rfl); (case hg => rfl); (case hr => first | (go_simp; done) | (go_simp; rfl)); intro g2 hg w1 hbox hb; have hs : Below w.heap.size w w1 := below_step (by repeat (first | exact Below.refl _ _ | apply below_alloc | apply pw_below_drewN | apply below_drew1)) hb; have SZ1 := Aside0.mk (show w.heap.size ≤ g2 ∧ g2 < w1.heap.size from ⟨by rw [hg]; exact (below_size (by repeat (first | exact Below.refl _ _ | apply below_alloc | apply pw_below_drewN | apply below_drew1))), blk_lt hbox⟩); (try clear hcD_0 hfD_0); (try clear hcD_1 hfD_1); (try clear hcD_2 hfD_2); (try clear hcD_3 hfD_3); (try clear hcdr_0 hfdr_0); (try clear hcdr_1 hfdr_1); (try clear hcdr_2 hfdr_2); (try clear hcdr_3 hfdr_3); (try clear hcdr_4 hfdr_4); (try clear hcdr_5 hfdr_5); (try clear hcdr_6 hfdr_6); replace BKD := Aside0.mk (blk_below BKD.out hs); replace BKdr := Aside0.mk (blk_below BKdr.out hs); replace HB := Aside0.mk (below_step HB.out hs); have hneD_g2 : D ≠ g2 := (by have := SZ1.out; have := HZ1.out; have := HZ2.out; omega); have hneg2_D : g2 ≠ D := hneD_g2.symm; have hnedr_g2 : dr ≠ g2 := (by have := SZ1.out; have := HZ1.out; have := HZ2.out; omega); have hneg2_dr : g2 ≠ dr := hnedr_g2.symm; have BKg2 := Aside0.mk hbox; clear hb hbox hg hs; have hcD_0 : w1.cell? ⟨D, 0, none⟩ = some (.pointer (some ⟨dr, 0, none⟩)) := (blk_cell BKD.out 0).trans rfl; have hfD_0 := blk_frozen BKD.out 0; have hcD_1 : w1.cell? ⟨D, 1, none⟩ = some (.bool off) := (blk_cell BKD.out 1).trans rfl; have hfD_1 := blk_frozen BKD.out 1; have hcD_2 : w1.cell? ⟨D, 2, none⟩ = some (.int .i64 cut) := (blk_cell BKD.out 2).trans rfl; have hfD_2 := blk_frozen BKD.out 2; have hcD_3 : w1.cell? ⟨D, 3, none⟩ = some (.int .i64 wr) := (blk_cell BKD.out 3).trans rfl; have hfD_3 := blk_frozen BKD.out 3; have hcdr_0 : w1.cell? ⟨dr, 0, none⟩ = some (.int .i64 a) := (blk_cell BKdr.out 0).trans rfl; have hfdr_0 := blk_frozen BKdr.out 0; have hcdr_1 : w1.cell? ⟨dr, 1, none⟩ = some (.int .i64 b) := (blk_cell BKdr.out 1).trans rfl; have hfdr_1 := blk_frozen BKdr.out 1; have hcdr_2 : w1.cell? ⟨dr, 2, none⟩ = some (.int .i64 c) := (blk_cell BKdr.out 2).trans rfl; have hfdr_2 := blk_frozen BKdr.out 2; have hcdr_3 : w1.cell? ⟨dr, 3, none⟩ = some (.int .i64 d) := (blk_cell BKdr.out 3).trans rfl; have hfdr_3 := blk_frozen BKdr.out 3; have hcdr_4 : w1.cell? ⟨dr, 4, none⟩ = some (.int .i64 sz) := (blk_cell BKdr.out 4).trans rfl; have hfdr_4 := blk_frozen BKdr.out 4; have hcdr_5 : w1.cell? ⟨dr, 5, none⟩ = some (.slice As slots.length cs) := (blk_cell BKdr.out 5).trans rfl; have hfdr_5 := blk_frozen BKdr.out 5; have hcdr_6 : w1.cell? ⟨dr, 6, none⟩ = some (.slice Ag ng cg) := (blk_cell BKdr.out 6).trans rfl; have hfdr_6 := blk_frozen BKdr.out 6; have hcg2_0 : w1.cell? ⟨g2, 0, none⟩ = some (.int .i64 0) := (blk_cell BKg2.out 0).trans rfl; have hfg2_0 := blk_frozen BKg2.out 0; have hcg2_1 : w1.cell? ⟨g2, 1, none⟩ = some (.int .i64 0) := (blk_cell BKg2.out 1).trans rfl; have hfg2_1 := blk_frozen BKg2.out 1; have hcg2_2 : w1.cell? ⟨g2, 2, none⟩ = some (.int .i64 0) := (blk_cell BKg2.out 2).trans rfl; have hfg2_2 := blk_frozen BKg2.out 2; have hcg2_3 : w1.cell? ⟨g2, 3, none⟩ = some (.int .i64 0) := (blk_cell BKg2.out 3).trans rfl; have hfg2_3 := blk_frozen BKg2.out 3; have hcg2_4 : w1.cell? ⟨g2, 4, none⟩ = some (.slice none 0 0) := (blk_cell BKg2.out 4).trans rfl; have hfg2_4 := blk_frozen BKg2.out 4; clear tok1; have tok2 : True := trivial) | (have _ := tok2; go_at_call 45; (with_reducible refine (made_yes D dr _ _ _ _ (by (with_reducible repeat (first | refine blk_drewN ?_ _ | refine blk_drew ?_ | refine blk_alloc ?_ _)); exact BKD.out)).mono ?_); rintro e w2 ⟨rfl, hd⟩; have hb := hd.below; (try clear hcD_0 hfD_0); (try clear hcD_1 hfD_1); (try clear hcD_2 hfD_2); (try clear hcD_3 hfD_3); (try clear hcdr_0 hfdr_0); (try clear hcdr_1 hfdr_1); (try clear hcdr_2 hfdr_2); (try clear hcdr_3 hfdr_3); (try clear hcdr_4 hfdr_4); (try clear hcdr_5 hfdr_5); (try clear hcdr_6 hfdr_6); (try clear hcg2_0 hfg2_0); (try clear hcg2_1 hfg2_1); (try clear hcg2_2 hfg2_2); (try clear hcg2_3 hfg2_3); (try clear hcg2_4 hfg2_4); have hs : Below w1.heap.size w1 w2 := below_step (by repeat (first | exact Below.refl _ _ | apply below_alloc | apply pw_below_drewN | apply below_drew1)) hb; have SZ2 := Aside0.mk (show w1.heap.size ≤ w2.heap.size from hs.size); replace BKD := Aside0.mk (blk_below BKD.out hs); replace BKdr := Aside0.mk (blk_below BKdr.out hs); replace BKg2 := Aside0.mk (blk_below BKg2.out hs); replace HB := Aside0.mk (below_step HB.out hs); clear hb hd hs; have hcD_0 : w2.cell? ⟨D, 0, none⟩ = some (.pointer (some ⟨dr, 0, none⟩)) := (blk_cell BKD.out 0).trans rfl; have hfD_0 := blk_frozen BKD.out 0; have hcD_1 : w2.cell? ⟨D, 1, none⟩ = some (.bool off) := (blk_cell BKD.out 1).trans rfl; have hfD_1 := blk_frozen BKD.out 1; have hcD_2 : w2.cell? ⟨D, 2, none⟩ = some (.int .i64 cut) := (blk_cell BKD.out 2).trans rfl; have hfD_2 := blk_frozen BKD.out 2; have hcD_3 : w2.cell? ⟨D, 3, none⟩ = some (.int .i64 wr) := (blk_cell BKD.out 3).trans rfl; have hfD_3 := blk_frozen BKD.out 3; have hcdr_0 : w2.cell? ⟨dr, 0, none⟩ = some (.int .i64 a) := (blk_cell BKdr.out 0).trans rfl; have hfdr_0 := blk_frozen BKdr.out 0; have hcdr_1 : w2.cell? ⟨dr, 1, none⟩ = some (.int .i64 b) := (blk_cell BKdr.out 1).trans rfl; have hfdr_1 := blk_frozen BKdr.out 1; have hcdr_2 : w2.cell? ⟨dr, 2, none⟩ = some (.int .i64 c) := (blk_cell BKdr.out 2).trans rfl; have hfdr_2 := blk_frozen BKdr.out 2; have hcdr_3 : w2.cell? ⟨dr, 3, none⟩ = some (.int .i64 d) := (blk_cell BKdr.out 3).trans rfl; have hfdr_3 := blk_frozen BKdr.out 3; have hcdr_4 : w2.cell? ⟨dr, 4, none⟩ = some (.int .i64 sz) := (blk_cell BKdr.out 4).trans rfl; have hfdr_4 := blk_frozen BKdr.out 4; have hcdr_5 : w2.cell? ⟨dr, 5, none⟩ = some (.slice As slots.length cs) := (blk_cell BKdr.out 5).trans rfl; have hfdr_5 := blk_frozen BKdr.out 5; have hcdr_6 : w2.cell? ⟨dr, 6, none⟩ = some (.slice Ag ng cg) := (blk_cell BKdr.out 6).trans rfl; have hfdr_6 := blk_frozen BKdr.out 6; have hcg2_0 : w2.cell? ⟨g2, 0, none⟩ = some (.int .i64 0) := (blk_cell BKg2.out 0).trans rfl; have hfg2_0 := blk_frozen BKg2.out 0; have hcg2_1 : w2.cell? ⟨g2, 1, none⟩ = some (.int .i64 0) := (blk_cell BKg2.out 1).trans rfl; have hfg2_1 := blk_frozen BKg2.out 1; have hcg2_2 : w2.cell? ⟨g2, 2, none⟩ = some (.int .i64 0) := (blk_cell BKg2.out 2).trans rfl; have hfg2_2 := blk_frozen BKg2.out 2; have hcg2_3 : w2.cell? ⟨g2, 3, none⟩ = some (.int .i64 0) := (blk_cell BKg2.out 3).trans rfl; have hfg2_3 := blk_frozen BKg2.out 3; have hcg2_4 : w2.cell? ⟨g2, 4, none⟩ = some (.slice none 0 0) := (blk_cell BKg2.out 4).trans rfl; have hfg2_4 := blk_frozen BKg2.out 4; clear tok2; have tok3 : True := trivial) | (have _ := tok3; go_at_call 49; (with_reducible refine (image_yes dr a b c d sz As Ag cs ng cg slots _ (by (with_reducible repeat (first | refine blk_drewN ?_ _ | refine blk_drew ?_ | refine blk_alloc ?_ _)); exact BKdr.out) ?s1 HL.out HE.out).mono ?_); (case s1 => exact Kd.C_below HC.out (by repeat (first | exact HB.out | apply below_alloc | apply pw_below_drewN | apply below_drew1))); rintro e w3 ⟨v, rfl, ho, hb⟩; (try clear hcD_0 hfD_0); (try clear hcD_1 hfD_1); (try clear hcD_2 hfD_2); (try clear hcD_3 hfD_3); (try clear hcdr_0 hfdr_0); (try clear hcdr_1 hfdr_1); (try clear hcdr_2 hfdr_2); (try clear hcdr_3 hfdr_3); (try clear hcdr_4 hfdr_4); (try clear hcdr_5 hfdr_5); (try clear hcdr_6 hfdr_6); (try clear hcg2_0 hfg2_0); (try clear hcg2_1 hfg2_1); (try clear hcg2_2 hfg2_2); (try clear hcg2_3 hfg2_3); (try clear hcg2_4 hfg2_4); have hs : Below w2.heap.size w2 w3 := below_step (by repeat (first | exact Below.refl _ _ | apply below_alloc | apply pw_below_drewN | apply below_drew1)) hb; have hl : w2.heap.size ≤ _ := below_size (w := w2) (by repeat (first | exact Below.refl _ _ | apply below_alloc | apply pw_below_drewN | apply below_drew1)); have SZ3 := Aside0.mk (show w2.heap.size ≤ w3.heap.size from hs.size); replace BKD := Aside0.mk (blk_below BKD.out hs); replace BKdr := Aside0.mk (blk_below BKdr.out hs); replace BKg2 := Aside0.mk (blk_below BKg2.out hs); have HOv := Aside0.mk (R_iv ho (below_size (by repeat (first | exact HB.out | apply below_alloc | apply pw_below_drewN | apply below_drew1))) hl); replace HB := Aside0.mk (below_step HB.out hs); clear ho; obtain ⟨A7, c7, e_⟩ := Kd.R_slice HOv.out; subst e_; clear hb hs; (try clear hl); have hcD_0 : w3.cell? ⟨D, 0, none⟩ = some (.pointer (some ⟨dr, 0, none⟩)) := (blk_cell BKD.out 0).trans rfl; have hfD_0 := blk_frozen BKD.out 0; have hcD_1 : w3.cell? ⟨D, 1, none⟩ = some (.bool off) := (blk_cell BKD.out 1).trans rfl; have hfD_1 := blk_frozen BKD.out 1; have hcD_2 : w3.cell? ⟨D, 2, none⟩ = some (.int .i64 cut) := (blk_cell BKD.out 2).trans rfl; have hfD_2 := blk_frozen BKD.out 2; have hcD_3 : w3.cell? ⟨D, 3, none⟩ = some (.int .i64 wr) := (blk_cell BKD.out 3).trans rfl; have hfD_3 := blk_frozen BKD.out 3; have hcdr_0 : w3.cell? ⟨dr, 0, none⟩ = some (.int .i64 a) := (blk_cell BKdr.out 0).trans rfl; have hfdr_0 := blk_frozen BKdr.out 0; have hcdr_1 : w3.cell? ⟨dr, 1, none⟩ = some (.int .i64 b) := (blk_cell BKdr.out 1).trans rfl; have hfdr_1 := blk_frozen BKdr.out 1; have hcdr_2 : w3.cell? ⟨dr, 2, none⟩ = some (.int .i64 c) := (blk_cell BKdr.out 2).trans rfl; have hfdr_2 := blk_frozen BKdr.out 2; have hcdr_3 : w3.cell? ⟨dr, 3, none⟩ = some (.int .i64 d) := (blk_cell BKdr.out 3).trans rfl; have hfdr_3 := blk_frozen BKdr.out 3; have hcdr_4 : w3.cell? ⟨dr, 4, none⟩ = some (.int .i64 sz) := (blk_cell BKdr.out 4).trans rfl; have hfdr_4 := blk_frozen BKdr.out 4; have hcdr_5 : w3.cell? ⟨dr, 5, none⟩ = some (.slice As slots.length cs) := (blk_cell BKdr.out 5).trans rfl; have hfdr_5 := blk_frozen BKdr.out 5; have hcdr_6 : w3.cell? ⟨dr, 6, none⟩ = some (.slice Ag ng cg) := (blk_cell BKdr.out 6).trans rfl; have hfdr_6 := blk_frozen BKdr.out 6; have hcg2_0 : w3.cell? ⟨g2, 0, none⟩ = some (.int .i64 0) := (blk_cell BKg2.out 0).trans rfl; have hfg2_0 := blk_frozen BKg2.out 0; have hcg2_1 : w3.cell? ⟨g2, 1, none⟩ = some (.int .i64 0) := (blk_cell BKg2.out 1).trans rfl; have hfg2_1 := blk_frozen BKg2.out 1; have hcg2_2 : w3.cell? ⟨g2, 2, none⟩ = some (.int .i64 0) := (blk_cell BKg2.out 2).trans rfl; have hfg2_2 := blk_frozen BKg2.out 2; have hcg2_3 : w3.cell? ⟨g2, 3, none⟩ = some (.int .i64 0) := (blk_cell BKg2.out 3).trans rfl; have hfg2_3 := blk_frozen BKg2.out 3; have hcg2_4 : w3.cell? ⟨g2, 4, none⟩ = some (.slice none 0 0) := (blk_cell BKg2.out 4).trans rfl; have hfg2_4 := blk_frozen BKg2.out 4; clear tok3))
 (try clear hcD_0 hfD_0)
 (try clear hcD_1 hfD_1)
 (try clear hcD_2 hfD_2)
 (try clear hcD_3 hfD_3)
 (try clear hcdr_0 hfdr_0)
 (try clear hcdr_1 hfdr_1)
 (try clear hcdr_2 hfdr_2)
 (try clear hcdr_3 hfdr_3)
 (try clear hcdr_4 hfdr_4)
 (try clear hcdr_5 hfdr_5)
 (try clear hcdr_6 hfdr_6)
 (try clear hcg2_0 hfg2_0)
 (try clear hcg2_1 hfg2_1)
 (try clear hcg2_2 hfg2_2)
 (try clear hcg2_3 hfg2_3)
 (try clear hcg2_4 hfg2_4)
 replace BKD := Aside0.mk (blk_far BKD.out (p := ⟨g2, 0, none⟩) (by show _ ≠ _; have := HZ1.out; have := HZ2.out; have := SZ1.out; have := SZ2.out; have := SZ3.out; omega) (.int .i64 a))
 replace BKdr := Aside0.mk (blk_far BKdr.out (p := ⟨g2, 0, none⟩) (by show _ ≠ _; have := HZ1.out; have := HZ2.out; have := SZ1.out; have := SZ2.out; have := SZ3.out; omega) (.int .i64 a))
 replace BKg2 := Aside0.mk (blk_put BKg2.out 0 (.int .i64 a) rfl)
 replace HOv := Aside0.mk (Kd.R_far HOv.out (p := ⟨g2, 0, none⟩) (Iv_ne (g := g2) (by have := HZ1.out; have := HZ2.out; have := SZ1.out; have := SZ2.out; have := SZ3.out; omega)) (.int .i64 a))
 replace HB := Aside0.mk (below_set HB.out (by have := HZ1.out; have := HZ2.out; have := SZ1.out; have := SZ2.out; have := SZ3.out; omega : w.heap.size ≤ g2) (j := 0) (v := .int .i64 a))
 replace BKD := Aside0.mk (blk_far BKD.out (p := ⟨g2, 1, none⟩) (by show _ ≠ _; have := HZ1.out; have := HZ2.out; have := SZ1.out; have := SZ2.out; have := SZ3.out; omega) (.int .i64 b))
 replace BKdr := Aside0.mk (blk_far BKdr.out (p := ⟨g2, 1, none⟩) (by show _ ≠ _; have := HZ1.out; have := HZ2.out; have := SZ1.out; have := SZ2.out; have := SZ3.out; omega) (.int .i64 b))
 replace BKg2 := Aside0.mk (blk_put BKg2.out 1 (.int .i64 b) rfl)
 replace HOv := Aside0.mk (Kd.R_far HOv.out (p := ⟨g2, 1, none⟩) (Iv_ne (g := g2) (by have := HZ1.out; have := HZ2.out; have := SZ1.out; have := SZ2.out; have := SZ3.out; omega)) (.int .i64 b))
 replace HB := Aside0.mk (below_set HB.out (by have := HZ1.out; have := HZ2.out; have := SZ1.out; have := SZ2.out; have := SZ3.out; omega : w.heap.size ≤ g2) (j := 1) (v := .int .i64 b))
 replace BKD := Aside0.mk (blk_far BKD.out (p := ⟨g2, 2, none⟩) (by show _ ≠ _; have := HZ1.out; have := HZ2.out; have := SZ1.out; have := SZ2.out; have := SZ3.out; omega) (.int .i64 c))
 replace BKdr := Aside0.mk (blk_far BKdr.out (p := ⟨g2, 2, none⟩) (by show _ ≠ _; have := HZ1.out; have := HZ2.out; have := SZ1.out; have := SZ2.out; have := SZ3.out; omega) (.int .i64 c))
 replace BKg2 := Aside0.mk (blk_put BKg2.out 2 (.int .i64 c) rfl)
 replace HOv := Aside0.mk (Kd.R_far HOv.out (p := ⟨g2, 2, none⟩) (Iv_ne (g := g2) (by have := HZ1.out; have := HZ2.out; have := SZ1.out; have := SZ2.out; have := SZ3.out; omega)) (.int .i64 c))
 replace HB := Aside0.mk (below_set HB.out (by have := HZ1.out; have := HZ2.out; have := SZ1.out; have := SZ2.out; have := SZ3.out; omega : w.heap.size ≤ g2) (j := 2) (v := .int .i64 c))
 replace BKD := Aside0.mk (blk_far BKD.out (p := ⟨g2, 3, none⟩) (by show _ ≠ _; have := HZ1.out; have := HZ2.out; have := SZ1.out; have := SZ2.out; have := SZ3.out; omega) (.int .i64 d))
 replace BKdr := Aside0.mk (blk_far BKdr.out (p := ⟨g2, 3, none⟩) (by show _ ≠ _; have := HZ1.out; have := HZ2.out; have := SZ1.out; have := SZ2.out; have := SZ3.out; omega) (.int .i64 d))
 replace BKg2 := Aside0.mk (blk_put BKg2.out 3 (.int .i64 d) rfl)
 replace HOv := Aside0.mk (Kd.R_far HOv.out (p := ⟨g2, 3, none⟩) (Iv_ne (g := g2) (by have := HZ1.out; have := HZ2.out; have := SZ1.out; have := SZ2.out; have := SZ3.out; omega)) (.int .i64 d))
 replace HB := Aside0.mk (below_set HB.out (by have := HZ1.out; have := HZ2.out; have := SZ1.out; have := SZ2.out; have := SZ3.out; omega : w.heap.size ≤ g2) (j := 3) (v := .int .i64 d))
 replace BKD := Aside0.mk (blk_far BKD.out (p := ⟨g2, 4, none⟩) (by show _ ≠ _; have := HZ1.out; have := HZ2.out; have := SZ1.out; have := SZ2.out; have := SZ3.out; omega) (.slice A7 slots.length c7))
 replace BKdr := Aside0.mk (blk_far BKdr.out (p := ⟨g2, 4, none⟩) (by show _ ≠ _; have := HZ1.out; have := HZ2.out; have := SZ1.out; have := SZ2.out; have := SZ3.out; omega) (.slice A7 slots.length c7))
 replace BKg2 := Aside0.mk (blk_put BKg2.out 4 (.slice A7 slots.length c7) rfl)
 replace HOv := Aside0.mk (Kd.R_far HOv.out (p := ⟨g2, 4, none⟩) (Iv_ne (g := g2) (by have := HZ1.out; have := HZ2.out; have := SZ1.out; have := SZ2.out; have := SZ3.out; omega)) (.slice A7 slots.length c7))
 replace HB := Aside0.mk (below_set HB.out (by have := HZ1.out; have := HZ2.out; have := SZ1.out; have := SZ2.out; have := SZ3.out; omega : w.heap.size ≤ g2) (j := 4) (v := .slice A7 slots.length c7))
 have SZ4 := Aside0.mk (show w3.heap.size ≤ (((((w3.setCell ⟨g2, 0, none⟩ (.int .i64 a)).setCell ⟨g2, 1, none⟩ (.int .i64 b)).setCell ⟨g2, 2, none⟩ (.int .i64 c)).setCell ⟨g2, 3, none⟩ (.int .i64 d)).setCell ⟨g2, 4, none⟩ (.slice A7 slots.length c7)).heap.size from by simp [World.setCell])
 generalize (((((w3.setCell ⟨g2, 0, none⟩ (.int .i64 a)).setCell ⟨g2, 1, none⟩ (.int .i64 b)).setCell ⟨g2, 2, none⟩ (.int .i64 c)).setCell ⟨g2, 3, none⟩ (.int .i64 d)).setCell ⟨g2, 4, none⟩ (.slice A7 slots.length c7)) = w4 at HB BKD BKdr BKg2 HOv SZ4 ⊢
 have hcD_0 : w4.cell? ⟨D, 0, none⟩ = some (.pointer (some ⟨dr, 0, none⟩)) := (blk_cell BKD.out 0).trans rfl
 have hfD_0 := blk_frozen BKD.out 0
 have hcD_1 : w4.cell? ⟨D, 1, none⟩ = some (.bool off) := (blk_cell BKD.out 1).trans rfl
 have hfD_1 := blk_frozen BKD.out 1
 have hcD_2 : w4.cell? ⟨D, 2, none⟩ = some (.int .i64 cut) := (blk_cell BKD.out 2).trans rfl
 have hfD_2 := blk_frozen BKD.out 2
 have hcD_3 : w4.cell? ⟨D, 3, none⟩ = some (.int .i64 wr) := (blk_cell BKD.out 3).trans rfl
 have hfD_3 := blk_frozen BKD.out 3
 have hcdr_0 : w4.cell? ⟨dr, 0, none⟩ = some (.int .i64 a) := (blk_cell BKdr.out 0).trans rfl
 have hfdr_0 := blk_frozen BKdr.out 0
 have hcdr_1 : w4.cell? ⟨dr, 1, none⟩ = some (.int .i64 b) := (blk_cell BKdr.out 1).trans rfl
 have hfdr_1 := blk_frozen BKdr.out 1
 have hcdr_2 : w4.cell? ⟨dr, 2, none⟩ = some (.int .i64 c) := (blk_cell BKdr.out 2).trans rfl
 have hfdr_2 := blk_frozen BKdr.out 2
 have hcdr_3 : w4.cell? ⟨dr, 3, none⟩ = some (.int .i64 d) := (blk_cell BKdr.out 3).trans rfl
 have hfdr_3 := blk_frozen BKdr.out 3
 have hcdr_4 : w4.cell? ⟨dr, 4, none⟩ = some (.int .i64 sz) := (blk_cell BKdr.out 4).trans rfl
 have hfdr_4 := blk_frozen BKdr.out 4
 have hcdr_5 : w4.cell? ⟨dr, 5, none⟩ = some (.slice As slots.length cs) := (blk_cell BKdr.out 5).trans rfl
 have hfdr_5 := blk_frozen BKdr.out 5
 have hcdr_6 : w4.cell? ⟨dr, 6, none⟩ = some (.slice Ag ng cg) := (blk_cell BKdr.out 6).trans rfl
 have hfdr_6 := blk_frozen BKdr.out 6
 have hcg2_0 : w4.cell? ⟨g2, 0, none⟩ = some (.int .i64 a) := (blk_cell BKg2.out 0).trans rfl
 have hfg2_0 := blk_frozen BKg2.out 0
 have hcg2_1 : w4.cell? ⟨g2, 1, none⟩ = some (.int .i64 b) := (blk_cell BKg2.out 1).trans rfl
 have hfg2_1 := blk_frozen BKg2.out 1
 have hcg2_2 : w4.cell? ⟨g2, 2, none⟩ = some (.int .i64 c) := (blk_cell BKg2.out 2).trans rfl
 have hfg2_2 := blk_frozen BKg2.out 2
 have hcg2_3 : w4.cell? ⟨g2, 3, none⟩ = some (.int .i64 d) := (blk_cell BKg2.out 3).trans rfl
 have hfg2_3 := blk_frozen BKg2.out 3
 have hcg2_4 : w4.cell? ⟨g2, 4, none⟩ = some (.slice A7 slots.length c7) := (blk_cell BKg2.out 4).trans rfl
 have hfg2_4 := blk_frozen BKg2.out 4
 refine bodyPost_ret (results_ct rfl _ _ g2 36 #[.int .i64 a, .int .i64 b, .int .i64 c, .int .i64 d, .slice A7 slots.length c7] (0, 0) _ rfl (by (with_reducible repeat (first | refine blk_drewN ?_ _ | refine blk_drew ?_ | refine blk_alloc ?_ _)); exact BKg2.out) hu36 rfl (by kernel_rfl)) rfl ?_
 exact ⟨_, rfl, Kd.R_mono HOv.out (fun _ _ => trivial), HB.out⟩
end Go.Proofs.Ytemmhgfjfbdggaa.P
namespace Go.Proofs.Ytemmhgfjfbdggaa.P
open Go.RowKit Go.Proofs.YtemmhgfjfbdggaaW.PrintWords Go.Proofs.YtemmhgfjfbdggaaW.PrintLast Go.Proofs.YtemmhgfjfbdggaaW.PrintMore
attribute [local go_sem] max2_int min2_int max_two min_two max_three min_three max_four min_four
set_option linter.unusedVariables false
set_option linter.unusedSimpArgs false
set_option maxHeartbeats 8000000 in
set_option maxRecDepth 100000 in
theorem New_bad (a b c d : Int) (w : World) (hp : ¬ okP a b c d = true) : Calls Try.prog 10 #[.agg #[.int .i64 a, .int .i64 b, .int .i64 c, .int .i64 d]] w fun e w' => e = .returned (.tuple #[.pointer none, .int .i64 2]) ∧ Below w.heap.size w w' := by
 have hu23 := Try.underlying23
 have HB := Aside0.mk (Below.refl w.heap.size w)
 have HD := Aside0.mk (show layout_Drives.f a b c d = some (0, 2) by unfold layout_Drives.f; rw [if_neg hp])
 clear hp
 go_enter Try.func10, Try.ntmps10
 have tok1 : True := trivial
 go_wp2_with (first | (have _ := tok1; (with_reducible refine gate_dst (N := 1) rfl ?_); refine box_event ?hg (N := 1) ?hd (cs := #[.int .i64 a, .int .i64 b, .int .i64 c, .int .i64 d]) (t := 23) ?hr ?_; (case hd => rfl); (case hg => rfl); (case hr => first | (go_simp; done) | (go_simp; rfl)); intro g1 hg w1 hbox hb; have hs : Below w.heap.size w w1 := below_step (by repeat (first | exact Below.refl _ _ | apply below_alloc | apply pw_below_drewN | apply below_drew1)) hb; have SZ1 := Aside0.mk (show w.heap.size ≤ g1 ∧ g1 < w1.heap.size from ⟨by rw [hg]; exact (below_size (by repeat (first | exact Below.refl _ _ | apply below_alloc | apply pw_below_drewN | apply below_drew1))), blk_lt hbox⟩); replace HB := Aside0.mk (below_step HB.out hs); have BKg1 := Aside0.mk hbox; clear hb hbox hg hs; have hcg1_0 : w1.cell? ⟨g1, 0, none⟩ = some (.int .i64 a) := (blk_cell BKg1.out 0).trans rfl; have hfg1_0 := blk_frozen BKg1.out 0; have hcg1_1 : w1.cell? ⟨g1, 1, none⟩ = some (.int .i64 b) := (blk_cell BKg1.out 1).trans rfl; have hfg1_1 := blk_frozen BKg1.out 1; have hcg1_2 : w1.cell? ⟨g1, 2, none⟩ = some (.int .i64 c) := (blk_cell BKg1.out 2).trans rfl; have hfg1_2 := blk_frozen BKg1.out 2; have hcg1_3 : w1.cell? ⟨g1, 3, none⟩ = some (.int .i64 d) := (blk_cell BKg1.out 3).trans rfl; have hfg1_3 := blk_frozen BKg1.out 3; clear tok1; have tok2 : True := trivial) | (have _ := tok2; go_at_call 42; (with_reducible refine (layout_Drives.calls a b c d 0 2 _ HD.out).mono ?_); rintro e w2 ⟨rfl, hb⟩; (try clear hcg1_0 hfg1_0); (try clear hcg1_1 hfg1_1); (try clear hcg1_2 hfg1_2); (try clear hcg1_3 hfg1_3); have hs : Below w1.heap.size w1 w2 := below_step (by repeat (first | exact Below.refl _ _ | apply below_alloc | apply pw_below_drewN | apply below_drew1)) hb; have hl : w1.heap.size ≤ _ := below_size (w := w1) (by repeat (first | exact Below.refl _ _ | apply below_alloc | apply pw_below_drewN | apply below_drew1)); have SZ2 := Aside0.mk (show w1.heap.size ≤ w2.heap.size from hs.size); replace BKg1 := Aside0.mk (blk_below BKg1.out hs); replace HB := Aside0.mk (below_step HB.out hs); clear hb hs; (try clear hl); have hcg1_0 : w2.cell? ⟨g1, 0, none⟩ = some (.int .i64 a) := (blk_cell BKg1.out 0).trans rfl; have hfg1_0 := blk_frozen BKg1.out 0; have hcg1_1 : w2.cell? ⟨g1, 1, none⟩ = some (.int .i64 b) := (blk_cell BKg1.out 1).trans rfl; have hfg1_1 := blk_frozen BKg1.out 1; have hcg1_2 : w2.cell? ⟨g1, 2, none⟩ = some (.int .i64 c) := (blk_cell BKg1.out 2).trans rfl; have hfg1_2 := blk_frozen BKg1.out 2; have hcg1_3 : w2.cell? ⟨g1, 3, none⟩ = some (.int .i64 d) := (blk_cell BKg1.out 3).trans rfl; have hfg1_3 := blk_frozen BKg1.out 3; clear tok2))
 go_ret2
 exact ⟨rfl, HB.out⟩
theorem May_ev (a b c d : Int) : twoslotref06_May.f a b c d = some (okP a b c d) := by
 unfold twoslotref06_May.f
 by_cases h1 : a ≥ 1
 ·
  rw [if_pos h1]
  by_cases h2 : a ≤ 12
  ·
   rw [if_pos h2]
   by_cases h3 : b ≥ 0
   ·
    rw [if_pos h3]
    by_cases h4 : b ≤ 4
    ·
     rw [if_pos h4]
     by_cases h5 : c ≥ 8
     ·
      rw [if_pos h5]
      by_cases h6 : c ≤ 64
      ·
       rw [if_pos h6]
       obtain ⟨ml, mr⟩ := mul_small h1 h2 h5 h6
       rw [show wrap64 (a * c) = a * c from by unfold wrap64; omega]
       by_cases h7 : a * c ≥ 32
       ·
        rw [if_pos h7]
        by_cases h8 : d ≥ 8
        ·
         rw [if_pos h8]
         congr 1
         rw [Bool.eq_iff_iff, okP_iff, decide_eq_true_iff]
         omega
        ·
         rw [if_neg h8]; congr 1; symm; rw [Bool.eq_false_iff, Ne, okP_iff]; omega
       ·
        rw [if_neg h7]; congr 1; symm; rw [Bool.eq_false_iff, Ne, okP_iff]; omega
      ·
       rw [if_neg h6]; congr 1; symm; rw [Bool.eq_false_iff, Ne, okP_iff]; omega
     ·
      rw [if_neg h5]; congr 1; symm; rw [Bool.eq_false_iff, Ne, okP_iff]; omega
    ·
     rw [if_neg h4]; congr 1; symm; rw [Bool.eq_false_iff, Ne, okP_iff]; omega
   ·
    rw [if_neg h3]; congr 1; symm; rw [Bool.eq_false_iff, Ne, okP_iff]; omega
  ·
   rw [if_neg h2]; congr 1; symm; rw [Bool.eq_false_iff, Ne, okP_iff]; omega
 ·
  rw [if_neg h1]; congr 1; symm; rw [Bool.eq_false_iff, Ne, okP_iff]; omega
theorem big_ev (a b c d : Int) : twoslotlaw08_big.f a b c d = some (okP a b c d && decide ((a + b) * d > 400)) := by
 unfold twoslotlaw08_big.f twoslotref06_N.f
 rw [May_ev, Option.bind_some]
 by_cases hp : okP a b c d = true
 ·
  have hm := many a b c d hp
  have e1 : wrap64 (a + b) = a + b := by unfold wrap64; omega
  have e2 : wrap64 ((a + b) * d) = (a + b) * d := by unfold wrap64; omega
  rw [if_pos hp, Option.bind_some, e1, e2, hp]
  rfl
 ·
  have hf : okP a b c d = false := by simpa using hp
  rw [if_neg hp, hf]
  rfl
end Go.Proofs.Ytemmhgfjfbdggaa.P
namespace Go.Proofs.Ytemmhgfjfbdggaa.P
open Go.RowKit Go.Proofs.YtemmhgfjfbdggaaW.PrintWords Go.Proofs.YtemmhgfjfbdggaaW.PrintLast Go.Proofs.YtemmhgfjfbdggaaW.PrintMore
attribute [local go_sem] max2_int min2_int max_two min_two max_three min_three max_four min_four
set_option linter.unusedVariables false
set_option linter.unusedSimpArgs false
def DiskO (W : World) (base : Nat) (ok : Nat → Prop) (D dr : Nat) (As : Option Addr) (n cs : Nat) (Ag : Option Addr) (m cg : Nat) (a b c d sz : Int) (slots : List (List Int)) (gone : List Bool) (off : Bool) (cut wr : Int) : Prop :=
 W.heap[D]? = some (.cells #[.pointer (some ⟨dr, 0, none⟩), .bool off, .int .i64 cut, .int .i64 wr] 58 (0, 0)) ∧
 W.heap[dr]? = some (.cells #[.int .i64 a, .int .i64 b, .int .i64 c, .int .i64 d, .int .i64 sz, .slice As n cs, .slice Ag m cg] 78 (0, 0)) ∧
 Kd.R (Kd.slice 5 (Kd.int .u8)) 45 W base ok (.slice As n cs) slots ∧ Kd.R Kd.bool 4 W base ok (.slice Ag m cg) gone ∧
 ok D ∧ ok dr ∧ ∀ k, ok k → base ≤ k ∧ k < W.heap.size
def Gr (ok : Nat → Prop) (w w' : World) (k : Nat) : Prop := k < w'.heap.size ∧ (ok k ∨ w.heap.size ≤ k)
theorem Gr.apart {ok ok' : Nat → Prop} {w w' : World} (h : ∀ k, ok k → ¬ ok' k) (hb : ∀ k, ok' k → k < w.heap.size) : ∀ k, Gr ok w w' k → ¬ ok' k := by
 rintro k ⟨_, h1 | h1⟩ h2
 ·
  exact h k h1 h2
 ·
  have := hb k h2
  omega
theorem Gr.apart' {ok ok' : Nat → Prop} {w w' : World} (h : ∀ k, ok k → ¬ ok' k) (hb : ∀ k, ok k → k < w.heap.size) : ∀ k, ok k → ¬ Gr ok' w w' k := by
 rintro k h1 ⟨_, h2 | h2⟩
 ·
  exact h k h1 h2
 ·
  have := hb k h1
  omega
theorem apart_symm {ok ok' : Nat → Prop} (h : ∀ k, ok k → ¬ ok' k) : ∀ k, ok' k → ¬ ok k := fun k h1 h2 => h k h2 h1
section
variable {W W2 w : World} {base : Nat} {ok ok' S : Nat → Prop} {D dr n cs m cg : Nat} {As Ag : Option Addr} {a b c d sz : Int} {slots : List (List Int)} {gone : List Bool} {off : Bool} {cut wr : Int}
theorem DiskO.grow (h : DiskO W base ok D dr As n cs Ag m cg a b c d sz slots gone off cut wr) (hok : ∀ k, ok k → ok' k) (hb : ∀ k, ok' k → base ≤ k ∧ k < W.heap.size) : DiskO W base ok' D dr As n cs Ag m cg a b c d sz slots gone off cut wr :=
 ⟨h.1, h.2.1, Kd.R_mono h.2.2.1 hok, Kd.R_mono h.2.2.2.1 hok, hok _ h.2.2.2.2.1, hok _ h.2.2.2.2.2.1, hb⟩
theorem DiskO.kept (h : DiskO W base ok D dr As n cs Ag m cg a b c d sz slots gone off cut wr) (hk : Kept W W2 S) (hne : ∀ k, ok k → ¬ S k) : DiskO W2 base ok D dr As n cs Ag m cg a b c d sz slots gone off cut wr :=
 ⟨blk_kept h.1 hk (hne _ h.2.2.2.2.1), blk_kept h.2.1 hk (hne _ h.2.2.2.2.2.1), Kd.R_kept h.2.2.1 hk hne, Kd.R_kept h.2.2.2.1 hk hne, h.2.2.2.2.1, h.2.2.2.2.2.1, fun k hk' => ⟨(h.2.2.2.2.2.2 k hk').1, Nat.lt_of_lt_of_le (h.2.2.2.2.2.2 k hk').2 hk.1⟩⟩
theorem DiskO.below (h : DiskO W base ok D dr As n cs Ag m cg a b c d sz slots gone off cut wr) (hb : Below W.heap.size W W2) : DiskO W2 base ok D dr As n cs Ag m cg a b c d sz slots gone off cut wr :=
 h.kept (Kept.of_below hb (fun _ => False)) (fun _ _ hf => hf)
theorem DiskO.ne (h : DiskO W base ok D dr As n cs Ag m cg a b c d sz slots gone off cut wr) : D ≠ dr := blk_ne h.1 h.2.1 (by decide)
theorem DiskO.lens (h : DiskO W base ok D dr As n cs Ag m cg a b c d sz slots gone off cut wr) : n = slots.length ∧ n ≤ cs ∧ m = gone.length ∧ m ≤ cg :=
 ⟨(Kd.R_reads' h.2.2.1).1, (Kd.R_reads' h.2.2.1).2.1, (Kd.R_reads' h.2.2.2.1).1, (Kd.R_reads' h.2.2.2.1).2.1⟩
theorem DiskO.setD (h : DiskO W base ok D dr As n cs Ag m cg a b c d sz slots gone off cut wr) {off' : Bool} {cut' wr' : Int} (j : Nat) (u : Value)
  (e : (#[.pointer (some ⟨dr, 0, none⟩), .bool off, .int .i64 cut, .int .i64 wr] : Array Value).setIfInBounds j u = #[.pointer (some ⟨dr, 0, none⟩), .bool off', .int .i64 cut', .int .i64 wr']) :
  DiskO (W.setCell ⟨D, j, none⟩ u) base ok D dr As n cs Ag m cg a b c d sz slots gone off' cut' wr' :=
 ⟨blk_put h.1 j u e, blk_far h.2.1 (p := ⟨D, j, none⟩) h.ne.symm u, Kd.R_set h.2.2.1 h.1 (by decide) j u, Kd.R_set h.2.2.2.1 h.1 (by decide) j u, h.2.2.2.2.1, h.2.2.2.2.2.1, fun k hk => ⟨(h.2.2.2.2.2.2 k hk).1, by have := (h.2.2.2.2.2.2 k hk).2; simpa [World.setCell] using this⟩⟩
theorem DiskO.setSlot {g i : Nat} {v : Value} {x : List Int} (h : DiskO W base ok D dr (some ⟨g, 0, none⟩) n cs Ag m cg a b c d sz slots gone off cut wr) (hi : i < slots.length) (hv : Kd.R (Kd.int .u8) 5 W base (fun k => ok k ∧ k ≠ g) v x) :
  DiskO (W.setCell ⟨g, i, none⟩ v) base ok D dr (some ⟨g, 0, none⟩) n cs Ag m cg a b c d sz (slots.set i x) gone off cut wr ∧ ok g := by
 have hg : ok g := h.2.2.1.1 g rfl
 have hp := R_put_row h.2.2.1 hi hv
 have hDg : D ≠ g := fun e => Kd.R_ne h.2.2.1 h.1 (by decide) (by rw [e]; rfl)
 have hdg : dr ≠ g := fun e => Kd.R_ne h.2.2.1 h.2.1 (by decide) (by rw [e]; rfl)
 obtain ⟨cells, hcells⟩ := Kd.R_typed h.2.2.1 g rfl
 refine ⟨⟨blk_far h.1 (p := ⟨g, i, none⟩) hDg v, blk_far h.2.1 (p := ⟨g, i, none⟩) hdg v, hp.1, Kd.R_set h.2.2.2.1 hcells (by decide) i v, h.2.2.2.2.1, h.2.2.2.2.2.1, fun k hk => ⟨(h.2.2.2.2.2.2 k hk).1, by have := (h.2.2.2.2.2.2 k hk).2; simpa [World.setCell] using this⟩⟩, hg⟩
theorem DiskO.setGone {g i : Nat} {x : Bool} (h : DiskO W base ok D dr As n cs (some ⟨g, 0, none⟩) m cg a b c d sz slots gone off cut wr) :
  DiskO (W.setCell ⟨g, i, none⟩ (.bool x)) base ok D dr As n cs (some ⟨g, 0, none⟩) m cg a b c d sz slots (gone.set i x) off cut wr ∧ ok g := by
 have hg : ok g := h.2.2.2.1.1 g rfl
 have e := h.lens.2.2.1
 have hr := h.2.2.2.1
 rw [e] at hr
 have hp := Kd.R_put hr (i : Int) x
 rw [Int.toNat_natCast] at hp
 have hDg : D ≠ g := fun e => Kd.R_ne h.2.2.2.1 h.1 (by decide) (by rw [e]; rfl)
 have hdg : dr ≠ g := fun e => Kd.R_ne h.2.2.2.1 h.2.1 (by decide) (by rw [e]; rfl)
 obtain ⟨cells, hcells⟩ := Kd.R_typed h.2.2.2.1 g rfl
 refine ⟨⟨blk_far h.1 (p := ⟨g, i, none⟩) hDg _, blk_far h.2.1 (p := ⟨g, i, none⟩) hdg _, Kd.R_set h.2.2.1 hcells (by decide) i _, ?_, h.2.2.2.2.1, h.2.2.2.2.2.1, fun k hk => ⟨(h.2.2.2.2.2.2 k hk).1, by have := (h.2.2.2.2.2.2 k hk).2; simpa [World.setCell] using this⟩⟩, hg⟩
 rw [e]
 exact hp.1
theorem DiskO.gr (h : DiskO W base ok' D dr As n cs Ag m cg a b c d sz slots gone off cut wr) (hb : base ≤ w.heap.size) (hs : ∀ k, ok' k → ok k ∨ w.heap.size ≤ k) (hok : ∀ k, ok k → base ≤ k) : DiskO W base (Gr ok w W) D dr As n cs Ag m cg a b c d sz slots gone off cut wr :=
 h.grow (fun k hk => ⟨(h.2.2.2.2.2.2 k hk).2, hs k hk⟩) (fun k hk => ⟨hk.2.elim (hok k) (Nat.le_trans hb), hk.1⟩)
theorem DiskO.low (h : DiskO W base ok D dr As n cs Ag m cg a b c d sz slots gone off cut wr) : base ≤ W.heap.size := Nat.le_of_lt (Nat.lt_of_le_of_lt (h.2.2.2.2.2.2 D h.2.2.2.2.1).1 (h.2.2.2.2.2.2 D h.2.2.2.2.1).2)
theorem DiskO.base_ (h : DiskO W base ok D dr As n cs Ag m cg a b c d sz slots gone off cut wr) : ∀ k, ok k → base ≤ k := fun k hk => (h.2.2.2.2.2.2 k hk).1
theorem DiskO.bound (h : DiskO W base ok D dr As n cs Ag m cg a b c d sz slots gone off cut wr) : ∀ k, ok k → k < W.heap.size := fun k hk => (h.2.2.2.2.2.2 k hk).2
theorem DiskO.slotsC (h : DiskO W base ok D dr As n cs Ag m cg a b c d sz slots gone off cut wr) : Kd.C (Kd.slice 5 (Kd.int .u8)) W As slots.length slots := (Kd.R_reads' h.2.2.1).2.2
theorem DiskO.goneC (h : DiskO W base ok D dr As n cs Ag m cg a b c d sz slots gone off cut wr) : Kd.C Kd.bool W Ag gone.length gone := (Kd.R_reads' h.2.2.2.1).2.2
end
def Wrote (base : Nat) (ok : Nat → Prop) (w W : World) : Prop := base ≤ w.heap.size ∧ Below base w W ∧ Kept w W ok
section
variable {base : Nat} {ok S : Nat → Prop} {w0 w W W2 : World}
theorem Wrote.start (hb : base ≤ w.heap.size) : Wrote base ok w w := ⟨hb, Below.refl _ _, Kept.refl _ _⟩
theorem Wrote.below (h : Wrote base ok w W) (hb : Below W.heap.size W W2) : Wrote base ok w W2 := ⟨h.1, h.2.1.trans (hb.mono (Nat.le_trans h.1 h.2.1.size)), h.2.2.below hb⟩
theorem Wrote.cell (h : Wrote base ok w W) {g j : Nat} (hg : ok g) (hb : base ≤ g) (u : Value) : Wrote base ok w (W.setCell ⟨g, j, none⟩ u) := ⟨h.1, h.2.1.setCell hb u, h.2.2.setCell (p := ⟨g, j, none⟩) (.inl hg) u⟩
theorem Wrote.new (h : Wrote base ok w W) {g j : Nat} (hg : w.heap.size ≤ g) (u : Value) : Wrote base ok w (W.setCell ⟨g, j, none⟩ u) := ⟨h.1, h.2.1.setCell (Nat.le_trans h.1 hg) u, h.2.2.setCell (p := ⟨g, j, none⟩) (.inr hg) u⟩
theorem Wrote.then_ (h : Wrote base ok w W) (k : Wrote base S W W2) (hs : ∀ k, S k → ok k ∨ w.heap.size ≤ k) : Wrote base ok w W2 := ⟨h.1, h.2.1.trans k.2.1, h.2.2.then_ k.2.2 hs⟩
theorem Wrote.size (h : Wrote base ok w W) : w.heap.size ≤ W.heap.size := h.2.1.size
theorem Wrote.outer (hb : Below w0.heap.size w0 w) (h : Wrote base ok w W) (h0 : w0.heap.size ≤ base) : Below w0.heap.size w0 W := below_weaken hb h0 h.2.1
end
abbrev PutT := S51
def atOf (nd : Nat) (d x y z : Int) : Int := if x < 0 ∨ (nd : Int) ≤ x ∨ y < 0 ∨ d ≤ y ∨ z < 0 ∨ 1 < z then -1 else (x * d + y) * 2 + z
structure DS where
 slots : List (List Int)
 off : Bool
 cut : Int
 wr : Int
def put1 (nd : Nat) (d sz : Int) (p : PutT) (s : DS) : DS × Int :=
 if s.off = true then (s, 9)
 else if atOf nd d p.f0 p.f1 p.f2 < 0 ∨ (p.f3.length : Int) ≠ sz then (s, 80)
 else if s.cut = 0 then (⟨s.slots, true, -1, s.wr⟩, 9)
 else (⟨s.slots.set (atOf nd d p.f0 p.f1 p.f2).toNat p.f3, s.off, if 0 < s.cut then s.cut - 1 else s.cut, s.wr + 1⟩, 0)
def putsL (nd : Nat) (d sz : Int) : List PutT → DS → DS × Int
 | [], s => (s, 0)
 | p :: l, s => if (put1 nd d sz p s).2 = 0 then putsL nd d sz l (put1 nd d sz p s).1 else put1 nd d sz p s
theorem put1_ok {nd : Nat} {d sz : Int} {p : PutT} {s : DS} (h : (put1 nd d sz p s).2 = 0) : s.off = false ∧ 0 ≤ atOf nd d p.f0 p.f1 p.f2 ∧ (p.f3.length : Int) = sz ∧ s.cut ≠ 0 ∧
  put1 nd d sz p s = (⟨s.slots.set (atOf nd d p.f0 p.f1 p.f2).toNat p.f3, s.off, if 0 < s.cut then s.cut - 1 else s.cut, s.wr + 1⟩, 0) := by
 unfold put1 at h ⊢
 by_cases h1 : s.off = true
 ·
  rw [if_pos h1] at h; simp at h
 ·
  rw [if_neg h1] at h ⊢
  by_cases h2 : atOf nd d p.f0 p.f1 p.f2 < 0 ∨ (p.f3.length : Int) ≠ sz
  ·
   rw [if_pos h2] at h; simp at h
  ·
   rw [if_neg h2] at h ⊢
   by_cases h3 : s.cut = 0
   ·
    rw [if_pos h3] at h; simp at h
   ·
    rw [if_neg h3]
    exact ⟨by simpa using h1, by omega, by omega, h3, rfl⟩
theorem putsL_inv {nd : Nat} {d sz : Int} {M : Nat} (hM : sz ≤ M) : ∀ (l : List PutT) (s : DS), (∀ x ∈ s.slots, x.length ≤ M) →
  (putsL nd d sz l s).1.slots.length = s.slots.length ∧ (∀ x ∈ (putsL nd d sz l s).1.slots, x.length ≤ M) ∧ s.wr ≤ (putsL nd d sz l s).1.wr ∧ (putsL nd d sz l s).1.wr ≤ s.wr + l.length
 | [], s, h => ⟨rfl, h, Int.le_refl _, by simp [putsL]⟩
 | p :: l, s, h => by
  unfold putsL
  by_cases h0 : (put1 nd d sz p s).2 = 0
  ·
   rw [if_pos h0]
   obtain ⟨_, _, h3, _, h5⟩ := put1_ok h0
   have hs : ∀ x ∈ (put1 nd d sz p s).1.slots, x.length ≤ M := by
    rw [h5]
    intro x hx
    rcases List.mem_or_eq_of_mem_set hx with hx | rfl
    ·
     exact h x hx
    ·
     omega
   obtain ⟨i1, i2, i3, i4⟩ := putsL_inv hM l (put1 nd d sz p s).1 hs
   have e1 : (put1 nd d sz p s).1.slots.length = s.slots.length := by rw [h5]; simp
   have e2 : (put1 nd d sz p s).1.wr = s.wr + 1 := by rw [h5]
   rw [e2] at i3 i4
   exact ⟨i1.trans e1, i2, by omega, by rw [List.length_cons]; omega⟩
  ·
   rw [if_neg h0]
   have e : (put1 nd d sz p s).1.slots = s.slots ∧ (put1 nd d sz p s).1.wr = s.wr := by
    unfold put1 at h0 ⊢
    by_cases h1 : s.off = true
    ·
     rw [if_pos h1]; exact ⟨rfl, rfl⟩
    ·
     rw [if_neg h1] at h0 ⊢
     by_cases h2 : atOf nd d p.f0 p.f1 p.f2 < 0 ∨ (p.f3.length : Int) ≠ sz
     ·
      rw [if_pos h2]; exact ⟨rfl, rfl⟩
     ·
      rw [if_neg h2] at h0 ⊢
      by_cases h3 : s.cut = 0
      ·
       rw [if_pos h3]; exact ⟨rfl, rfl⟩
      ·
       rw [if_neg h3] at h0; simp at h0
   rw [e.1, e.2]
   exact ⟨rfl, h, Int.le_refl _, by rw [List.length_cons]; omega⟩
theorem atOf_lt {nd : Nat} {d x y z : Int} (hd : 0 ≤ d) (h : 0 ≤ atOf nd d x y z) : 0 ≤ x ∧ x < nd ∧ 0 ≤ y ∧ y < d ∧ 0 ≤ z ∧ z ≤ 1 ∧ atOf nd d x y z = (x * d + y) * 2 + z ∧ atOf nd d x y z < nd * d * 2 := by
 unfold atOf at h ⊢
 by_cases hc : x < 0 ∨ (nd : Int) ≤ x ∨ y < 0 ∨ d ≤ y ∨ z < 0 ∨ 1 < z
 ·
  rw [if_pos hc] at h; omega
 ·
  rw [if_neg hc] at h ⊢
  have h1 : x * d ≤ ((nd : Int) - 1) * d := Int.mul_le_mul_of_nonneg_right (by omega) hd
  rw [Int.sub_mul, Int.one_mul] at h1
  refine ⟨by omega, by omega, by omega, by omega, by omega, by omega, rfl, by omega⟩
theorem puts_elem {w : World} {okl : Nat → Prop} {A : Option Addr} {l : List S51} (h : Kd.F k51 w okl A l.length l) (k : Nat) (hk : k < l.length) :
  ∃ (ad : Addr) (A3 : Option Addr) (c3 : Nat) (x : S51), A = some ad ∧ l.drop k = x :: l.drop (k + 1) ∧ x = l[k] ∧ x.f3.length ≤ c3 ∧
   w.cell? (ad.add (k * 4)) = some (.int .i64 x.f0) ∧ w.cell? ⟨(ad.add (k * 4)).block, (ad.add (k * 4)).off + 1, none⟩ = some (.int .i64 x.f1) ∧ w.cell? ⟨(ad.add (k * 4)).block, (ad.add (k * 4)).off + 2, none⟩ = some (.int .i64 x.f2) ∧ w.cell? ⟨(ad.add (k * 4)).block, (ad.add (k * 4)).off + 3, none⟩ = some (.slice A3 x.f3.length c3) ∧
   Kd.F (Kd.int .u8) w okl A3 x.f3.length x.f3 := by
 obtain ⟨ad, c, e, _, hK, hc0, _⟩ := Kd.F_get h z51 (k : Int) (by omega) (by omega)
 have hc : ∀ j u, c[j]? = some u → w.cell? (ad.add (k * 4 + j)) = some u := by
  intro j u hj
  have := hc0 j u hj
  rwa [Int.toNat_natCast] at this
 have e1 : l.getD (k : Int).toNat z51 = l[k] := by simp [hk]
 rw [e1] at hK
 obtain ⟨A3, c3, rfl, l3, g3⟩ := k51_openF hK
 exact ⟨ad, A3, c3, l[k], e, List.drop_eq_getElem_cons hk, rfl, l3, hc 0 _ rfl, by rw [← add_field _ _ 1 (by omega)]; exact hc 1 _ rfl, by rw [← add_field _ _ 2 (by omega)]; exact hc 2 _ rfl, by rw [← add_field _ _ 3 (by omega)]; exact hc 3 _ rfl, g3⟩
theorem putsL_stop {nd : Nat} {d sz : Int} {p : PutT} {l : List PutT} {s : DS} (h : (put1 nd d sz p s).2 ≠ 0) : putsL nd d sz (p :: l) s = put1 nd d sz p s := by rw [putsL, if_neg h]
theorem putsL_go {nd : Nat} {d sz : Int} {p : PutT} {l : List PutT} {s : DS} (h : (put1 nd d sz p s).2 = 0) : putsL nd d sz (p :: l) s = putsL nd d sz l (put1 nd d sz p s).1 := by rw [putsL, if_pos h]
set_option maxHeartbeats 8000000 in
set_option maxRecDepth 100000 in
theorem at_yes (dr : Nat) (a b c d sz : Int) (As Ag : Option Addr) (n cs m cg : Nat) (x y z : Int) (w : World) (hR : w.heap[dr]? = some (.cells #[.int .i64 a, .int .i64 b, .int .i64 c, .int .i64 d, .int .i64 sz, .slice As n cs, .slice Ag m cg] 78 (0, 0))) (hm : m ≤ 16) (hd : 0 ≤ d ∧ d ≤ 4096) : Calls Try.prog 46 #[.pointer (some ⟨dr, 0, none⟩), .int .i64 x, .int .i64 y, .int .i64 z] w fun e w' => e = .returned (.int .i64 (atOf m d x y z)) ∧ Drawn0 w w' := by
 have HM := Aside0.mk hm
 have HD := Aside0.mk hd
 have BKdr := Aside0.mk hR
 clear hR hm hd
 obtain ⟨hcdr_0, hcdr_1, hcdr_2, hcdr_3, hcdr_4, hcdr_5, hcdr_6, hfdr_0, hfdr_1, hfdr_2, hfdr_3, hfdr_4, hfdr_5, hfdr_6⟩ := cs7 BKdr.out
 by_cases h0 : x < 0
 ·
  have HA := Aside0.mk (show atOf m d x y z = -1 by unfold atOf; rw [if_pos (by omega)])
  have f0 : decide (x < 0) = true := decide_eq_true h0
  clear h0
  go_enter Try.func46, Try.ntmps46
  go_wp2
  go_ret
  exact ⟨by rw [HA.out]; rfl, Drawn0.refl _⟩
 by_cases h1 : (m : Int) ≤ x
 ·
  have HA := Aside0.mk (show atOf m d x y z = -1 by unfold atOf; rw [if_pos (by omega)])
  have f0 : decide (x < 0) = false := decide_eq_false h0
  have f1 : decide ((m : Int) ≤ x) = true := decide_eq_true h1
  clear h0 h1
  go_enter Try.func46, Try.ntmps46
  go_wp2
  go_ret
  exact ⟨by rw [HA.out]; rfl, Drawn0.refl _⟩
 by_cases h2 : y < 0
 ·
  have HA := Aside0.mk (show atOf m d x y z = -1 by unfold atOf; rw [if_pos (by omega)])
  have f0 : decide (x < 0) = false := decide_eq_false h0
  have f1 : decide ((m : Int) ≤ x) = false := decide_eq_false h1
  have f2 : decide (y < 0) = true := decide_eq_true h2
  clear h0 h1 h2
  go_enter Try.func46, Try.ntmps46
  go_wp2
  go_ret
  exact ⟨by rw [HA.out]; rfl, Drawn0.refl _⟩
 by_cases h3 : d ≤ y
 ·
  have HA := Aside0.mk (show atOf m d x y z = -1 by unfold atOf; rw [if_pos (by omega)])
  have f0 : decide (x < 0) = false := decide_eq_false h0
  have f1 : decide ((m : Int) ≤ x) = false := decide_eq_false h1
  have f2 : decide (y < 0) = false := decide_eq_false h2
  have f3 : decide (d ≤ y) = true := decide_eq_true h3
  clear h0 h1 h2 h3
  go_enter Try.func46, Try.ntmps46
  go_wp2
  go_ret
  exact ⟨by rw [HA.out]; rfl, Drawn0.refl _⟩
 by_cases h4 : z < 0
 ·
  have HA := Aside0.mk (show atOf m d x y z = -1 by unfold atOf; rw [if_pos (by omega)])
  have f0 : decide (x < 0) = false := decide_eq_false h0
  have f1 : decide ((m : Int) ≤ x) = false := decide_eq_false h1
  have f2 : decide (y < 0) = false := decide_eq_false h2
  have f3 : decide (d ≤ y) = false := decide_eq_false h3
  have f4 : decide (z < 0) = true := decide_eq_true h4
  clear h0 h1 h2 h3 h4
  go_enter Try.func46, Try.ntmps46
  go_wp2
  go_ret
  exact ⟨by rw [HA.out]; rfl, Drawn0.refl _⟩
 by_cases h5 : 1 < z
 ·
  have HA := Aside0.mk (show atOf m d x y z = -1 by unfold atOf; rw [if_pos (by omega)])
  have f0 : decide (x < 0) = false := decide_eq_false h0
  have f1 : decide ((m : Int) ≤ x) = false := decide_eq_false h1
  have f2 : decide (y < 0) = false := decide_eq_false h2
  have f3 : decide (d ≤ y) = false := decide_eq_false h3
  have f4 : decide (z < 0) = false := decide_eq_false h4
  have f5 : decide (1 < z) = true := decide_eq_true h5
  clear h0 h1 h2 h3 h4 h5
  go_enter Try.func46, Try.ntmps46
  go_wp2
  go_ret
  exact ⟨by rw [HA.out]; rfl, Drawn0.refl _⟩
 have HA := Aside0.mk (show atOf m d x y z = (x * d + y) * 2 + z by unfold atOf; rw [if_neg (by omega)])
 have hb : 0 ≤ x * d ∧ x * d ≤ 65536 := by
  have h1 := HM.out
  have h2 := HD.out
  refine ⟨Int.mul_nonneg (by omega) (by omega), ?_⟩
  have : x * d ≤ 16 * d := Int.mul_le_mul_of_nonneg_right (by omega) (by omega)
  omega
 have e1 : wrap64 (x * d) = x * d := by unfold wrap64; omega
 have hyd := HD.out
 have e2 : wrap64 (x * d + y) = x * d + y := by unfold wrap64; omega
 have e3 : wrap64 ((x * d + y) * 2) = (x * d + y) * 2 := by unfold wrap64; omega
 have e4 : wrap64 ((x * d + y) * 2 + z) = (x * d + y) * 2 + z := by unfold wrap64; omega
 have HE := Aside0.mk (show wrap64 (wrap64 (wrap64 (wrap64 (x * d) + y) * 2) + z) = atOf m d x y z by rw [e1, e2, e3, e4, HA.out])
 clear e1 e2 e3 e4 hb hyd
 have f0 : decide (x < 0) = false := decide_eq_false h0
 have f1 : decide ((m : Int) ≤ x) = false := decide_eq_false h1
 have f2 : decide (y < 0) = false := decide_eq_false h2
 have f3 : decide (d ≤ y) = false := decide_eq_false h3
 have f4 : decide (z < 0) = false := decide_eq_false h4
 have f5 : decide (1 < z) = false := decide_eq_false h5
 clear h0 h1 h2 h3 h4 h5
 go_enter Try.func46, Try.ntmps46
 go_wp2
 go_ret
 exact ⟨by rw [← HE.out]; rfl, Drawn0.refl _⟩
set_option maxHeartbeats 8000000 in
set_option maxRecDepth 100000 in
theorem Cut_yes (D dr : Nat) (As Ag : Option Addr) (n cs m cg : Nat) (a b c d sz : Int) (slots : List (List Int)) (gone : List Bool) (off : Bool) (cut wr : Int) (base : Nat) (ok : Nat → Prop) (x : Int) (w : World) (H : DiskO w base ok D dr As n cs Ag m cg a b c d sz slots gone off cut wr) (hx : 0 ≤ x) : Calls Try.prog 16 #[.pointer (some ⟨D, 0, none⟩), .int .i64 x] w fun e w' => e = .returned (.int .i64 0) ∧ DiskO w' base (Gr ok w w') D dr As n cs Ag m cg a b c d sz slots gone off x wr ∧ Wrote base ok w w' := by
 have H := Aside0.mk H
 have BKD := Aside0.mk H.out.1
 have f0 : decide (x < 0) = false := decide_eq_false (by omega)
 clear hx
 have hcD_0 : w.cell? ⟨D, 0, none⟩ = some (.pointer (some ⟨dr, 0, none⟩)) := (blk_cell H.out.1 0).trans rfl
 have hfD_0 := blk_frozen H.out.1 0
 have hcD_1 : w.cell? ⟨D, 1, none⟩ = some (.bool off) := (blk_cell H.out.1 1).trans rfl
 have hfD_1 := blk_frozen H.out.1 1
 have hcD_2 : w.cell? ⟨D, 2, none⟩ = some (.int .i64 cut) := (blk_cell H.out.1 2).trans rfl
 have hfD_2 := blk_frozen H.out.1 2
 have hcD_3 : w.cell? ⟨D, 3, none⟩ = some (.int .i64 wr) := (blk_cell H.out.1 3).trans rfl
 have hfD_3 := blk_frozen H.out.1 3
 go_enter Try.func16, Try.ntmps16
 go_wp2_with (go_at_call 45; (with_reducible refine (made_yes D dr _ _ _ _ (sB BKD.out)).mono ?_); rintro e w1 ⟨rfl, ⟨nd, rfl⟩⟩)
 go_ret
 have K0 := H.out.below (W2 := w.drewN nd) (pw_below_drewN (Below.refl _ _) nd)
 have Q0 : Wrote base ok w (w.drewN nd) := (Wrote.start (Nat.le_of_lt (Nat.lt_of_le_of_lt (H.out.2.2.2.2.2.2 D H.out.2.2.2.2.1).1 (H.out.2.2.2.2.2.2 D H.out.2.2.2.2.1).2))).below (pw_below_drewN (Below.refl _ _) nd)
 have K1 := K0.setD (off' := off) (cut' := x) (wr' := wr) 2 (.int .i64 x) rfl
 have Q1 := Q0.cell (j := 2) H.out.2.2.2.2.1 (H.out.2.2.2.2.2.2 D H.out.2.2.2.2.1).1 (.int .i64 x)
 refine ⟨rfl, K1.grow (fun k hk => ⟨(K1.2.2.2.2.2.2 k hk).2, .inl hk⟩) (fun k hk => ⟨?_, hk.1⟩), Q1⟩
 rcases hk.2 with h | h
 ·
  exact (H.out.2.2.2.2.2.2 k h).1
 ·
  exact Nat.le_trans Q0.1 h
set_option maxHeartbeats 8000000 in
set_option maxRecDepth 100000 in
theorem On_yes (D dr : Nat) (As Ag : Option Addr) (n cs m cg : Nat) (a b c d sz : Int) (slots : List (List Int)) (gone : List Bool) (off : Bool) (cut wr : Int) (base : Nat) (ok : Nat → Prop)  (w : World) (H : DiskO w base ok D dr As n cs Ag m cg a b c d sz slots gone off cut wr)  : Calls Try.prog 22 #[.pointer (some ⟨D, 0, none⟩)] w fun e w' => e = .returned (.int .i64 0) ∧ DiskO w' base (Gr ok w w') D dr As n cs Ag m cg a b c d sz slots gone false (-1) wr ∧ Wrote base ok w w' := by
 have H := Aside0.mk H
 have BKD := Aside0.mk H.out.1
 
 have hcD_0 : w.cell? ⟨D, 0, none⟩ = some (.pointer (some ⟨dr, 0, none⟩)) := (blk_cell H.out.1 0).trans rfl
 have hfD_0 := blk_frozen H.out.1 0
 have hcD_1 : w.cell? ⟨D, 1, none⟩ = some (.bool off) := (blk_cell H.out.1 1).trans rfl
 have hfD_1 := blk_frozen H.out.1 1
 have hcD_2 : w.cell? ⟨D, 2, none⟩ = some (.int .i64 cut) := (blk_cell H.out.1 2).trans rfl
 have hfD_2 := blk_frozen H.out.1 2
 have hcD_3 : w.cell? ⟨D, 3, none⟩ = some (.int .i64 wr) := (blk_cell H.out.1 3).trans rfl
 have hfD_3 := blk_frozen H.out.1 3
 go_enter Try.func22, Try.ntmps22
 go_wp2_with (go_at_call 45; (with_reducible refine (made_yes D dr _ _ _ _ (sB BKD.out)).mono ?_); rintro e w1 ⟨rfl, ⟨nd, rfl⟩⟩)
 go_ret
 have K0 := H.out.below (W2 := w.drewN nd) (pw_below_drewN (Below.refl _ _) nd)
 have Q0 : Wrote base ok w (w.drewN nd) := (Wrote.start (Nat.le_of_lt (Nat.lt_of_le_of_lt (H.out.2.2.2.2.2.2 D H.out.2.2.2.2.1).1 (H.out.2.2.2.2.2.2 D H.out.2.2.2.2.1).2))).below (pw_below_drewN (Below.refl _ _) nd)
 have K1 := K0.setD (off' := false) (cut' := cut) (wr' := wr) 1 (.bool false) rfl
 have Q1 := Q0.cell (j := 1) H.out.2.2.2.2.1 (H.out.2.2.2.2.2.2 D H.out.2.2.2.2.1).1 (.bool false)
 have K2 := K1.setD (off' := false) (cut' := (-1)) (wr' := wr) 2 (.int .i64 (-1)) rfl
 have Q2 := Q1.cell (j := 2) H.out.2.2.2.2.1 (H.out.2.2.2.2.2.2 D H.out.2.2.2.2.1).1 (.int .i64 (-1))
 refine ⟨rfl, K2.grow (fun k hk => ⟨(K2.2.2.2.2.2.2 k hk).2, .inl hk⟩) (fun k hk => ⟨?_, hk.1⟩), Q2⟩
 rcases hk.2 with h | h
 ·
  exact (H.out.2.2.2.2.2.2 k h).1
 ·
  exact Nat.le_trans Q0.1 h
set_option maxHeartbeats 8000000 in
set_option maxRecDepth 100000 in
theorem Cut_less (D dr : Nat) (x0 x1 x2 : Value) (x : Int) (hx : x < 0) (w : World) (hD : w.heap[D]? = some (.cells #[.pointer (some ⟨dr, 0, none⟩), x0, x1, x2] 58 (0, 0))) : Calls Try.prog 16 #[.pointer (some ⟨D, 0, none⟩), .int .i64 x] w fun e w' => e = .returned (.int .i64 2) ∧ Drawn0 w w' := by
 have H := Aside0.mk hD
 have f0 : decide (x < 0) = true := decide_eq_true hx
 clear hx hD
 go_enter Try.func16, Try.ntmps16
 go_wp2_with (go_at_call 45; (with_reducible refine (made_yes D dr _ _ _ _ (sB H.out)).mono ?_); rintro e w1 ⟨rfl, ⟨nd, rfl⟩⟩)
 go_ret
 exact ⟨rfl, ⟨nd, rfl⟩⟩
end Go.Proofs.Ytemmhgfjfbdggaa.P
namespace Go.Proofs.Ytemmhgfjfbdggaa.P
open Go.RowKit Go.Proofs.YtemmhgfjfbdggaaW.PrintWords Go.Proofs.YtemmhgfjfbdggaaW.PrintLast Go.Proofs.YtemmhgfjfbdggaaW.PrintMore
attribute [local go_sem] max2_int min2_int max_two min_two max_three min_three max_four min_four
set_option linter.unusedVariables false
set_option linter.unusedSimpArgs false
set_option maxHeartbeats 8000000 in
set_option maxRecDepth 100000 in
theorem Read_off (D dr : Nat) (As Ag : Option Addr) (n cs m cg : Nat) (a b c d sz : Int) (slots : List (List Int)) (gone : List Bool) (off : Bool) (cut wr : Int) (base : Nat) (ok : Nat → Prop) (x y z : Int) (w : World) (H : DiskO w base ok D dr As n cs Ag m cg a b c d sz slots gone off cut wr) (ho : off = true) : Calls Try.prog 21 #[.pointer (some ⟨D, 0, none⟩), .int .i64 x, .int .i64 y, .int .i64 z] w fun e w' => e = .returned (.tuple #[.slice none 0 0, .int .i64 9]) ∧ Below w.heap.size w w' := by
 have BKD := Aside0.mk H.1
 have BKdr := Aside0.mk H.2.1
 have HB := Aside0.mk (Below.refl w.heap.size w)
 have HZ1 := Aside0.mk (show D < w.heap.size from blk_lt H.1)
 have HZ2 := Aside0.mk (show dr < w.heap.size from blk_lt H.2.1)
 have hneDd : D ≠ dr := H.ne
 have hnedD : dr ≠ D := hneDd.symm
 obtain rfl : off = true := ho
 clear H
 have hcD_0 : w.cell? ⟨D, 0, none⟩ = some (.pointer (some ⟨dr, 0, none⟩)) := (blk_cell BKD.out 0).trans rfl
 have hfD_0 := blk_frozen BKD.out 0
 have hcD_1 : w.cell? ⟨D, 1, none⟩ = some (.bool true) := (blk_cell BKD.out 1).trans rfl
 have hfD_1 := blk_frozen BKD.out 1
 have hcD_2 : w.cell? ⟨D, 2, none⟩ = some (.int .i64 cut) := (blk_cell BKD.out 2).trans rfl
 have hfD_2 := blk_frozen BKD.out 2
 have hcD_3 : w.cell? ⟨D, 3, none⟩ = some (.int .i64 wr) := (blk_cell BKD.out 3).trans rfl
 have hfD_3 := blk_frozen BKD.out 3
 have hcdr_0 : w.cell? ⟨dr, 0, none⟩ = some (.int .i64 a) := (blk_cell BKdr.out 0).trans rfl
 have hfdr_0 := blk_frozen BKdr.out 0
 have hcdr_1 : w.cell? ⟨dr, 1, none⟩ = some (.int .i64 b) := (blk_cell BKdr.out 1).trans rfl
 have hfdr_1 := blk_frozen BKdr.out 1
 have hcdr_2 : w.cell? ⟨dr, 2, none⟩ = some (.int .i64 c) := (blk_cell BKdr.out 2).trans rfl
 have hfdr_2 := blk_frozen BKdr.out 2
 have hcdr_3 : w.cell? ⟨dr, 3, none⟩ = some (.int .i64 d) := (blk_cell BKdr.out 3).trans rfl
 have hfdr_3 := blk_frozen BKdr.out 3
 have hcdr_4 : w.cell? ⟨dr, 4, none⟩ = some (.int .i64 sz) := (blk_cell BKdr.out 4).trans rfl
 have hfdr_4 := blk_frozen BKdr.out 4
 have hcdr_5 : w.cell? ⟨dr, 5, none⟩ = some (.slice As n cs) := (blk_cell BKdr.out 5).trans rfl
 have hfdr_5 := blk_frozen BKdr.out 5
 have hcdr_6 : w.cell? ⟨dr, 6, none⟩ = some (.slice Ag m cg) := (blk_cell BKdr.out 6).trans rfl
 have hfdr_6 := blk_frozen BKdr.out 6
 go_enter Try.func21, Try.ntmps21
 have tok1 : True := trivial
 go_wp2_with (first | (have _ := tok1; go_at_call 45; (with_reducible refine (made_yes D dr _ _ _ _ (by (with_reducible repeat (first | refine blk_drewN ?_ _ | refine blk_drew ?_ | refine blk_alloc ?_ _)); exact BKD.out)).mono ?_); rintro e w1 ⟨rfl, hd⟩; have hb := hd.below; (try clear hcD_0 hfD_0); (try clear hcD_1 hfD_1); (try clear hcD_2 hfD_2); (try clear hcD_3 hfD_3); (try clear hcdr_0 hfdr_0); (try clear hcdr_1 hfdr_1); (try clear hcdr_2 hfdr_2); (try clear hcdr_3 hfdr_3); (try clear hcdr_4 hfdr_4); (try clear hcdr_5 hfdr_5); (try clear hcdr_6 hfdr_6); have hs : Below w.heap.size w w1 := below_step (by repeat (first | exact Below.refl _ _ | apply below_alloc | apply pw_below_drewN | apply below_drew1)) hb; have SZ1 := Aside0.mk (show w.heap.size ≤ w1.heap.size from hs.size); replace BKD := Aside0.mk (blk_below BKD.out hs); replace BKdr := Aside0.mk (blk_below BKdr.out hs); replace HB := Aside0.mk (below_step HB.out hs); clear hb hd hs; have hcD_0 : w1.cell? ⟨D, 0, none⟩ = some (.pointer (some ⟨dr, 0, none⟩)) := (blk_cell BKD.out 0).trans rfl; have hfD_0 := blk_frozen BKD.out 0; have hcD_1 : w1.cell? ⟨D, 1, none⟩ = some (.bool true) := (blk_cell BKD.out 1).trans rfl; have hfD_1 := blk_frozen BKD.out 1; have hcD_2 : w1.cell? ⟨D, 2, none⟩ = some (.int .i64 cut) := (blk_cell BKD.out 2).trans rfl; have hfD_2 := blk_frozen BKD.out 2; have hcD_3 : w1.cell? ⟨D, 3, none⟩ = some (.int .i64 wr) := (blk_cell BKD.out 3).trans rfl; have hfD_3 := blk_frozen BKD.out 3; have hcdr_0 : w1.cell? ⟨dr, 0, none⟩ = some (.int .i64 a) := (blk_cell BKdr.out 0).trans rfl; have hfdr_0 := blk_frozen BKdr.out 0; have hcdr_1 : w1.cell? ⟨dr, 1, none⟩ = some (.int .i64 b) := (blk_cell BKdr.out 1).trans rfl; have hfdr_1 := blk_frozen BKdr.out 1; have hcdr_2 : w1.cell? ⟨dr, 2, none⟩ = some (.int .i64 c) := (blk_cell BKdr.out 2).trans rfl; have hfdr_2 := blk_frozen BKdr.out 2; have hcdr_3 : w1.cell? ⟨dr, 3, none⟩ = some (.int .i64 d) := (blk_cell BKdr.out 3).trans rfl; have hfdr_3 := blk_frozen BKdr.out 3; have hcdr_4 : w1.cell? ⟨dr, 4, none⟩ = some (.int .i64 sz) := (blk_cell BKdr.out 4).trans rfl; have hfdr_4 := blk_frozen BKdr.out 4; have hcdr_5 : w1.cell? ⟨dr, 5, none⟩ = some (.slice As n cs) := (blk_cell BKdr.out 5).trans rfl; have hfdr_5 := blk_frozen BKdr.out 5; have hcdr_6 : w1.cell? ⟨dr, 6, none⟩ = some (.slice Ag m cg) := (blk_cell BKdr.out 6).trans rfl; have hfdr_6 := blk_frozen BKdr.out 6; clear tok1))
 go_ret2
 exact ⟨rfl, HB.out⟩
set_option maxHeartbeats 8000000 in
set_option maxRecDepth 100000 in
theorem Read_good (D dr : Nat) (As Ag : Option Addr) (n cs m cg : Nat) (a b c d sz : Int) (slots : List (List Int)) (gone : List Bool) (off : Bool) (cut wr : Int) (base : Nat) (ok : Nat → Prop) (x y z : Int) (w : World) (H : DiskO w base ok D dr As n cs Ag m cg a b c d sz slots gone off cut wr) (ho : off = false) (hm : m ≤ 16) (hd : 0 ≤ d ∧ d ≤ 4096) (i : Nat) (hat : atOf m d x y z = (i : Int)) (hi : i < slots.length) (hel : ∀ x ∈ slots, x.length ≤ 1000000) : Calls Try.prog 21 #[.pointer (some ⟨D, 0, none⟩), .int .i64 x, .int .i64 y, .int .i64 z] w fun e w' => ∃ v : Value, e = .returned (.tuple #[v, .int .i64 0]) ∧ Kd.R (Kd.int .u8) 5 w' w.heap.size (fun _ => True) v (slots.getD i []) ∧ Below w.heap.size w w' := by
 have BKD := Aside0.mk H.1
 have BKdr := Aside0.mk H.2.1
 have HB := Aside0.mk (Below.refl w.heap.size w)
 have HZ1 := Aside0.mk (show D < w.heap.size from blk_lt H.1)
 have HZ2 := Aside0.mk (show dr < w.heap.size from blk_lt H.2.1)
 have hneDd : D ≠ dr := H.ne
 have hnedD : dr ≠ D := hneDd.symm
 obtain rfl : off = false := ho
 have HM := Aside0.mk hm
 have HDD := Aside0.mk hd
 have HAT := Aside0.mk hat
 have HI := Aside0.mk hi
 obtain ⟨ad, x0, eA, hf, hx, B, cc, hcell, hle, hCx⟩ := bytes_elem H.slotsC i hi
 have eX : slots.getD i [] = x0 := by
  have h1 := congrArg (fun l => l.getD i []) hf
  have hl : (slots.take i).length = i := by rw [List.length_take]; omega
  simp only [List.getD_eq_getElem?_getD] at h1 ⊢
  rw [List.getElem?_take_of_lt (by omega), List.getElem?_append_right (by omega), hl] at h1
  simpa using h1
 obtain ⟨eN, hncs, eM, hmcg⟩ := H.lens
 subst eA
 have AC := Aside0.mk (show slices_Clone_byte_byte.f x0 = some x0 by unfold slices_Clone_byte_byte.f; rw [if_pos (by have := hel x0 hx; omega)])
 have ACx := Aside0.mk hCx
 have ALe := Aside0.mk hle
 have EX := Aside0.mk eX
 have HCe := Aside0.mk hcell
 have b1 : decide ((i : Int) < 0) = false := decide_eq_false (by omega)
 have b2 : decide (i < n) = true := decide_eq_true (by omega)
 have b3 : (i < n) = True := eq_true (by omega)
 have b4 : decide ((i : Int) < (n : Int)) = true := decide_eq_true (by omega)
 clear H hm hd hat hi hf hx hcell hle hCx hel eX eN eM hncs hmcg
 have hcD_0 : w.cell? ⟨D, 0, none⟩ = some (.pointer (some ⟨dr, 0, none⟩)) := (blk_cell BKD.out 0).trans rfl
 have hfD_0 := blk_frozen BKD.out 0
 have hcD_1 : w.cell? ⟨D, 1, none⟩ = some (.bool false) := (blk_cell BKD.out 1).trans rfl
 have hfD_1 := blk_frozen BKD.out 1
 have hcD_2 : w.cell? ⟨D, 2, none⟩ = some (.int .i64 cut) := (blk_cell BKD.out 2).trans rfl
 have hfD_2 := blk_frozen BKD.out 2
 have hcD_3 : w.cell? ⟨D, 3, none⟩ = some (.int .i64 wr) := (blk_cell BKD.out 3).trans rfl
 have hfD_3 := blk_frozen BKD.out 3
 have hcdr_0 : w.cell? ⟨dr, 0, none⟩ = some (.int .i64 a) := (blk_cell BKdr.out 0).trans rfl
 have hfdr_0 := blk_frozen BKdr.out 0
 have hcdr_1 : w.cell? ⟨dr, 1, none⟩ = some (.int .i64 b) := (blk_cell BKdr.out 1).trans rfl
 have hfdr_1 := blk_frozen BKdr.out 1
 have hcdr_2 : w.cell? ⟨dr, 2, none⟩ = some (.int .i64 c) := (blk_cell BKdr.out 2).trans rfl
 have hfdr_2 := blk_frozen BKdr.out 2
 have hcdr_3 : w.cell? ⟨dr, 3, none⟩ = some (.int .i64 d) := (blk_cell BKdr.out 3).trans rfl
 have hfdr_3 := blk_frozen BKdr.out 3
 have hcdr_4 : w.cell? ⟨dr, 4, none⟩ = some (.int .i64 sz) := (blk_cell BKdr.out 4).trans rfl
 have hfdr_4 := blk_frozen BKdr.out 4
 have hcdr_5 : w.cell? ⟨dr, 5, none⟩ = some (.slice (some ad) n cs) := (blk_cell BKdr.out 5).trans rfl
 have hfdr_5 := blk_frozen BKdr.out 5
 have hcdr_6 : w.cell? ⟨dr, 6, none⟩ = some (.slice Ag m cg) := (blk_cell BKdr.out 6).trans rfl
 have hfdr_6 := blk_frozen BKdr.out 6
 have xHCe := HCe.out
 go_enter Try.func21, Try.ntmps21
 have tok1 : True := trivial
 go_wp2_with (first | (have _ := tok1; go_at_call 45; (with_reducible refine (made_yes D dr _ _ _ _ (by (with_reducible repeat (first | refine blk_drewN ?_ _ | refine blk_drew ?_ | refine blk_alloc ?_ _)); exact BKD.out)).mono ?_); rintro e w1 ⟨rfl, hd⟩; have hb := hd.below; (try clear hcD_0 hfD_0); (try clear hcD_1 hfD_1); (try clear hcD_2 hfD_2); (try clear hcD_3 hfD_3); (try clear hcdr_0 hfdr_0); (try clear hcdr_1 hfdr_1); (try clear hcdr_2 hfdr_2); (try clear hcdr_3 hfdr_3); (try clear hcdr_4 hfdr_4); (try clear hcdr_5 hfdr_5); (try clear hcdr_6 hfdr_6); (try clear xHCe); have hs : Below w.heap.size w w1 := below_step (by repeat (first | exact Below.refl _ _ | apply below_alloc | apply pw_below_drewN | apply below_drew1)) hb; have SZ1 := Aside0.mk (show w.heap.size ≤ w1.heap.size from hs.size); replace BKD := Aside0.mk (blk_below BKD.out hs); replace BKdr := Aside0.mk (blk_below BKdr.out hs); replace HCe := Aside0.mk (pw_cell_below hs HCe.out); replace HB := Aside0.mk (below_step HB.out hs); clear hb hd hs; have hcD_0 : w1.cell? ⟨D, 0, none⟩ = some (.pointer (some ⟨dr, 0, none⟩)) := (blk_cell BKD.out 0).trans rfl; have hfD_0 := blk_frozen BKD.out 0; have hcD_1 : w1.cell? ⟨D, 1, none⟩ = some (.bool false) := (blk_cell BKD.out 1).trans rfl; have hfD_1 := blk_frozen BKD.out 1; have hcD_2 : w1.cell? ⟨D, 2, none⟩ = some (.int .i64 cut) := (blk_cell BKD.out 2).trans rfl; have hfD_2 := blk_frozen BKD.out 2; have hcD_3 : w1.cell? ⟨D, 3, none⟩ = some (.int .i64 wr) := (blk_cell BKD.out 3).trans rfl; have hfD_3 := blk_frozen BKD.out 3; have hcdr_0 : w1.cell? ⟨dr, 0, none⟩ = some (.int .i64 a) := (blk_cell BKdr.out 0).trans rfl; have hfdr_0 := blk_frozen BKdr.out 0; have hcdr_1 : w1.cell? ⟨dr, 1, none⟩ = some (.int .i64 b) := (blk_cell BKdr.out 1).trans rfl; have hfdr_1 := blk_frozen BKdr.out 1; have hcdr_2 : w1.cell? ⟨dr, 2, none⟩ = some (.int .i64 c) := (blk_cell BKdr.out 2).trans rfl; have hfdr_2 := blk_frozen BKdr.out 2; have hcdr_3 : w1.cell? ⟨dr, 3, none⟩ = some (.int .i64 d) := (blk_cell BKdr.out 3).trans rfl; have hfdr_3 := blk_frozen BKdr.out 3; have hcdr_4 : w1.cell? ⟨dr, 4, none⟩ = some (.int .i64 sz) := (blk_cell BKdr.out 4).trans rfl; have hfdr_4 := blk_frozen BKdr.out 4; have hcdr_5 : w1.cell? ⟨dr, 5, none⟩ = some (.slice (some ad) n cs) := (blk_cell BKdr.out 5).trans rfl; have hfdr_5 := blk_frozen BKdr.out 5; have hcdr_6 : w1.cell? ⟨dr, 6, none⟩ = some (.slice Ag m cg) := (blk_cell BKdr.out 6).trans rfl; have hfdr_6 := blk_frozen BKdr.out 6; have xHCe := HCe.out; clear tok1; have tok2 : True := trivial) | (have _ := tok2; go_at_call 46; (with_reducible refine (at_yes dr a b c d sz (some ad) Ag n cs m cg x y z _ (by (with_reducible repeat (first | refine blk_drewN ?_ _ | refine blk_drew ?_ | refine blk_alloc ?_ _)); exact BKdr.out) HM.out HDD.out).mono ?_); rintro e w2 ⟨rfl, hd⟩; rw [HAT.out]; have hb := hd.below; (try clear hcD_0 hfD_0); (try clear hcD_1 hfD_1); (try clear hcD_2 hfD_2); (try clear hcD_3 hfD_3); (try clear hcdr_0 hfdr_0); (try clear hcdr_1 hfdr_1); (try clear hcdr_2 hfdr_2); (try clear hcdr_3 hfdr_3); (try clear hcdr_4 hfdr_4); (try clear hcdr_5 hfdr_5); (try clear hcdr_6 hfdr_6); (try clear xHCe); have hs : Below w1.heap.size w1 w2 := below_step (by repeat (first | exact Below.refl _ _ | apply below_alloc | apply pw_below_drewN | apply below_drew1)) hb; have SZ2 := Aside0.mk (show w1.heap.size ≤ w2.heap.size from hs.size); replace BKD := Aside0.mk (blk_below BKD.out hs); replace BKdr := Aside0.mk (blk_below BKdr.out hs); replace HCe := Aside0.mk (pw_cell_below hs HCe.out); replace HB := Aside0.mk (below_step HB.out hs); clear hb hd hs; have hcD_0 : w2.cell? ⟨D, 0, none⟩ = some (.pointer (some ⟨dr, 0, none⟩)) := (blk_cell BKD.out 0).trans rfl; have hfD_0 := blk_frozen BKD.out 0; have hcD_1 : w2.cell? ⟨D, 1, none⟩ = some (.bool false) := (blk_cell BKD.out 1).trans rfl; have hfD_1 := blk_frozen BKD.out 1; have hcD_2 : w2.cell? ⟨D, 2, none⟩ = some (.int .i64 cut) := (blk_cell BKD.out 2).trans rfl; have hfD_2 := blk_frozen BKD.out 2; have hcD_3 : w2.cell? ⟨D, 3, none⟩ = some (.int .i64 wr) := (blk_cell BKD.out 3).trans rfl; have hfD_3 := blk_frozen BKD.out 3; have hcdr_0 : w2.cell? ⟨dr, 0, none⟩ = some (.int .i64 a) := (blk_cell BKdr.out 0).trans rfl; have hfdr_0 := blk_frozen BKdr.out 0; have hcdr_1 : w2.cell? ⟨dr, 1, none⟩ = some (.int .i64 b) := (blk_cell BKdr.out 1).trans rfl; have hfdr_1 := blk_frozen BKdr.out 1; have hcdr_2 : w2.cell? ⟨dr, 2, none⟩ = some (.int .i64 c) := (blk_cell BKdr.out 2).trans rfl; have hfdr_2 := blk_frozen BKdr.out 2; have hcdr_3 : w2.cell? ⟨dr, 3, none⟩ = some (.int .i64 d) := (blk_cell BKdr.out 3).trans rfl; have hfdr_3 := blk_frozen BKdr.out 3; have hcdr_4 : w2.cell? ⟨dr, 4, none⟩ = some (.int .i64 sz) := (blk_cell BKdr.out 4).trans rfl; have hfdr_4 := blk_frozen BKdr.out 4; have hcdr_5 : w2.cell? ⟨dr, 5, none⟩ = some (.slice (some ad) n cs) := (blk_cell BKdr.out 5).trans rfl; have hfdr_5 := blk_frozen BKdr.out 5; have hcdr_6 : w2.cell? ⟨dr, 6, none⟩ = some (.slice Ag m cg) := (blk_cell BKdr.out 6).trans rfl; have hfdr_6 := blk_frozen BKdr.out 6; have xHCe := HCe.out; clear tok2; have tok3 : True := trivial) | (have _ := tok3; go_at_call 48; (with_reducible refine (slices_Clone_byte_byte.calls B cc x0 x0 _ ?s1 ALe.out AC.out).mono ?_); (case s1 => exact Kd.C_below ACx.out (by repeat (first | exact HB.out | apply below_alloc | apply pw_below_drewN | apply below_drew1))); rintro e w3 ⟨v5, rfl, hv, hb⟩; (try clear hcD_0 hfD_0); (try clear hcD_1 hfD_1); (try clear hcD_2 hfD_2); (try clear hcD_3 hfD_3); (try clear hcdr_0 hfdr_0); (try clear hcdr_1 hfdr_1); (try clear hcdr_2 hfdr_2); (try clear hcdr_3 hfdr_3); (try clear hcdr_4 hfdr_4); (try clear hcdr_5 hfdr_5); (try clear hcdr_6 hfdr_6); (try clear xHCe); have hs : Below w2.heap.size w2 w3 := below_step (by repeat (first | exact Below.refl _ _ | apply below_alloc | apply pw_below_drewN | apply below_drew1)) hb; have hl : w2.heap.size ≤ _ := below_size (w := w2) (by repeat (first | exact Below.refl _ _ | apply below_alloc | apply pw_below_drewN | apply below_drew1)); have SZ3 := Aside0.mk (show w2.heap.size ≤ w3.heap.size from hs.size); replace BKD := Aside0.mk (blk_below BKD.out hs); replace BKdr := Aside0.mk (blk_below BKdr.out hs); replace HCe := Aside0.mk (pw_cell_below hs HCe.out); replace HB := Aside0.mk (below_step HB.out hs); have HV := Aside0.mk (Kd.R_lower hv (by have h1 := hl; have h2 := SZ1.out; have h3 := SZ2.out; omega : w.heap.size ≤ _)); clear hv; clear hb hs; (try clear hl); have hcD_0 : w3.cell? ⟨D, 0, none⟩ = some (.pointer (some ⟨dr, 0, none⟩)) := (blk_cell BKD.out 0).trans rfl; have hfD_0 := blk_frozen BKD.out 0; have hcD_1 : w3.cell? ⟨D, 1, none⟩ = some (.bool false) := (blk_cell BKD.out 1).trans rfl; have hfD_1 := blk_frozen BKD.out 1; have hcD_2 : w3.cell? ⟨D, 2, none⟩ = some (.int .i64 cut) := (blk_cell BKD.out 2).trans rfl; have hfD_2 := blk_frozen BKD.out 2; have hcD_3 : w3.cell? ⟨D, 3, none⟩ = some (.int .i64 wr) := (blk_cell BKD.out 3).trans rfl; have hfD_3 := blk_frozen BKD.out 3; have hcdr_0 : w3.cell? ⟨dr, 0, none⟩ = some (.int .i64 a) := (blk_cell BKdr.out 0).trans rfl; have hfdr_0 := blk_frozen BKdr.out 0; have hcdr_1 : w3.cell? ⟨dr, 1, none⟩ = some (.int .i64 b) := (blk_cell BKdr.out 1).trans rfl; have hfdr_1 := blk_frozen BKdr.out 1; have hcdr_2 : w3.cell? ⟨dr, 2, none⟩ = some (.int .i64 c) := (blk_cell BKdr.out 2).trans rfl; have hfdr_2 := blk_frozen BKdr.out 2; have hcdr_3 : w3.cell? ⟨dr, 3, none⟩ = some (.int .i64 d) := (blk_cell BKdr.out 3).trans rfl; have hfdr_3 := blk_frozen BKdr.out 3; have hcdr_4 : w3.cell? ⟨dr, 4, none⟩ = some (.int .i64 sz) := (blk_cell BKdr.out 4).trans rfl; have hfdr_4 := blk_frozen BKdr.out 4; have hcdr_5 : w3.cell? ⟨dr, 5, none⟩ = some (.slice (some ad) n cs) := (blk_cell BKdr.out 5).trans rfl; have hfdr_5 := blk_frozen BKdr.out 5; have hcdr_6 : w3.cell? ⟨dr, 6, none⟩ = some (.slice Ag m cg) := (blk_cell BKdr.out 6).trans rfl; have hfdr_6 := blk_frozen BKdr.out 6; have xHCe := HCe.out; clear tok3))
 go_ret2
 exact ⟨_, rfl, by rw [EX.out]; exact HV.out, HB.out⟩
set_option maxHeartbeats 8000000 in
set_option maxRecDepth 100000 in
theorem hold_yes (D dr : Nat) (g : Nat) (Ag : Option Addr) (n cs m cg : Nat) (a b c d sz : Int) (slots : List (List Int)) (gone : List Bool) (off : Bool) (cut wr : Int) (base : Nat) (ok : Nat → Prop) (x y z : Int) (B : Option Addr) (p : List Int) (cc i : Nat) (w : World) (H : DiskO w base ok D dr (some ⟨g, 0, none⟩) n cs Ag m cg a b c d sz slots gone off cut wr) (hm : m ≤ 16) (hd : 0 ≤ d ∧ d ≤ 4096) (hat : atOf m d x y z = (i : Int)) (hi : i < slots.length) (hp : (p.length : Int) = sz) (hple : p.length ≤ cc) (hC : Kd.C (Kd.int .u8) w B p.length p) (hpl : p.length ≤ 1000000) : Calls Try.prog 47 #[.pointer (some ⟨dr, 0, none⟩), .agg #[.int .i64 x, .int .i64 y, .int .i64 z, .slice B p.length cc]] w fun e w' => e = .returned (.int .i64 0) ∧ DiskO w' base (Gr ok w w') D dr (some ⟨g, 0, none⟩) n cs Ag m cg a b c d sz (slots.set i p) gone off cut wr ∧ Wrote base ok w w' := by
 subst hp
 have hu51 := Try.underlying51
 have HM := Aside0.mk hm
 have HDD := Aside0.mk hd
 have HAT := Aside0.mk hat
 have HI := Aside0.mk hi
 have AC := Aside0.mk (show slices_Clone_byte_byte.f p = some p by unfold slices_Clone_byte_byte.f; rw [if_pos (by omega)])
 have ACx := Aside0.mk hC
 have ALe := Aside0.mk hple
 have HG := Aside0.mk (show g < w.heap.size ∧ base ≤ w.heap.size from ⟨H.bound g (H.2.2.1.1 g rfl), H.low⟩)
 have HH0 := Aside0.mk H
 have HH := Aside0.mk H
 have BKdr := Aside0.mk H.2.1
 have HB := Aside0.mk (Below.refl w.heap.size w)
 have HZ2 := Aside0.mk (show dr < w.heap.size from blk_lt H.2.1)
 have b1 : decide ((i : Int) < 0) = false := decide_eq_false (by omega)
 have hnl := H.lens.1
 have b2 : decide (i < n) = true := decide_eq_true (by omega)
 have b3 : (i < n) = True := eq_true (by omega)
 have b4 : decide ((i : Int) < (n : Int)) = true := decide_eq_true (by omega)
 clear H hm hd hat hi hple hC hpl hnl
 have hcdr_0 : w.cell? ⟨dr, 0, none⟩ = some (.int .i64 a) := (blk_cell BKdr.out 0).trans rfl
 have hfdr_0 := blk_frozen BKdr.out 0
 have hcdr_1 : w.cell? ⟨dr, 1, none⟩ = some (.int .i64 b) := (blk_cell BKdr.out 1).trans rfl
 have hfdr_1 := blk_frozen BKdr.out 1
 have hcdr_2 : w.cell? ⟨dr, 2, none⟩ = some (.int .i64 c) := (blk_cell BKdr.out 2).trans rfl
 have hfdr_2 := blk_frozen BKdr.out 2
 have hcdr_3 : w.cell? ⟨dr, 3, none⟩ = some (.int .i64 d) := (blk_cell BKdr.out 3).trans rfl
 have hfdr_3 := blk_frozen BKdr.out 3
 have hcdr_4 : w.cell? ⟨dr, 4, none⟩ = some (.int .i64 (p.length : Int)) := (blk_cell BKdr.out 4).trans rfl
 have hfdr_4 := blk_frozen BKdr.out 4
 have hcdr_5 : w.cell? ⟨dr, 5, none⟩ = some (.slice (some ⟨g, 0, none⟩) n cs) := (blk_cell BKdr.out 5).trans rfl
 have hfdr_5 := blk_frozen BKdr.out 5
 have hcdr_6 : w.cell? ⟨dr, 6, none⟩ = some (.slice Ag m cg) := (blk_cell BKdr.out 6).trans rfl
 have hfdr_6 := blk_frozen BKdr.out 6
 go_enter Try.func47, Try.ntmps47
 have tok1 : True := trivial
 go_wp2_with (first | (have _ := tok1; (with_reducible refine gate_dst (N := 3) rfl ?_); refine box_event ?hg (N := 3) ?hd (cs := #[.int .i64 x, .int .i64 y, .int .i64 z, .slice B p.length cc]) (t := 51) ?hr ?_; (case hd => rfl); (case hg => rfl); (case hr => first | (go_simp; done) | (go_simp; rfl)); intro g3 hg w1 hbox hb; have hs : Below w.heap.size w w1 := below_step (by repeat (first | exact Below.refl _ _ | apply below_alloc | apply pw_below_drewN | apply below_drew1)) hb; have SZ1 := Aside0.mk (show w.heap.size ≤ g3 ∧ g3 < w1.heap.size from ⟨by rw [hg]; exact (below_size (by repeat (first | exact Below.refl _ _ | apply below_alloc | apply pw_below_drewN | apply below_drew1))), blk_lt hbox⟩); (try clear hcdr_0 hfdr_0); (try clear hcdr_1 hfdr_1); (try clear hcdr_2 hfdr_2); (try clear hcdr_3 hfdr_3); (try clear hcdr_4 hfdr_4); (try clear hcdr_5 hfdr_5); (try clear hcdr_6 hfdr_6); replace BKdr := Aside0.mk (blk_below BKdr.out hs); replace HH := Aside0.mk (DiskO.below HH.out hs); replace HB := Aside0.mk (below_step HB.out hs); have hnedr_g3 : dr ≠ g3 := (by have := SZ1.out; have := HZ2.out; omega); have hneg3_dr : g3 ≠ dr := hnedr_g3.symm; have BKg3 := Aside0.mk hbox; clear hb hbox hg hs; have hcdr_0 : w1.cell? ⟨dr, 0, none⟩ = some (.int .i64 a) := (blk_cell BKdr.out 0).trans rfl; have hfdr_0 := blk_frozen BKdr.out 0; have hcdr_1 : w1.cell? ⟨dr, 1, none⟩ = some (.int .i64 b) := (blk_cell BKdr.out 1).trans rfl; have hfdr_1 := blk_frozen BKdr.out 1; have hcdr_2 : w1.cell? ⟨dr, 2, none⟩ = some (.int .i64 c) := (blk_cell BKdr.out 2).trans rfl; have hfdr_2 := blk_frozen BKdr.out 2; have hcdr_3 : w1.cell? ⟨dr, 3, none⟩ = some (.int .i64 d) := (blk_cell BKdr.out 3).trans rfl; have hfdr_3 := blk_frozen BKdr.out 3; have hcdr_4 : w1.cell? ⟨dr, 4, none⟩ = some (.int .i64 (p.length : Int)) := (blk_cell BKdr.out 4).trans rfl; have hfdr_4 := blk_frozen BKdr.out 4; have hcdr_5 : w1.cell? ⟨dr, 5, none⟩ = some (.slice (some ⟨g, 0, none⟩) n cs) := (blk_cell BKdr.out 5).trans rfl; have hfdr_5 := blk_frozen BKdr.out 5; have hcdr_6 : w1.cell? ⟨dr, 6, none⟩ = some (.slice Ag m cg) := (blk_cell BKdr.out 6).trans rfl; have hfdr_6 := blk_frozen BKdr.out 6; have hcg3_0 : w1.cell? ⟨g3, 0, none⟩ = some (.int .i64 x) := (blk_cell BKg3.out 0).trans rfl; have hfg3_0 := blk_frozen BKg3.out 0; have hcg3_1 : w1.cell? ⟨g3, 1, none⟩ = some (.int .i64 y) := (blk_cell BKg3.out 1).trans rfl; have hfg3_1 := blk_frozen BKg3.out 1; have hcg3_2 : w1.cell? ⟨g3, 2, none⟩ = some (.int .i64 z) := (blk_cell BKg3.out 2).trans rfl; have hfg3_2 := blk_frozen BKg3.out 2; have hcg3_3 : w1.cell? ⟨g3, 3, none⟩ = some (.slice B p.length cc) := (blk_cell BKg3.out 3).trans rfl; have hfg3_3 := blk_frozen BKg3.out 3; clear tok1; have tok2 : True := trivial) | (have _ := tok2; go_at_call 46; (with_reducible refine (at_yes dr a b c d (p.length : Int) (some ⟨g, 0, none⟩) Ag n cs m cg x y z _ (by (with_reducible repeat (first | refine blk_drewN ?_ _ | refine blk_drew ?_ | refine blk_alloc ?_ _)); exact BKdr.out) HM.out HDD.out).mono ?_); rintro e w2 ⟨rfl, hd⟩; rw [HAT.out]; have hb := hd.below; (try clear hcdr_0 hfdr_0); (try clear hcdr_1 hfdr_1); (try clear hcdr_2 hfdr_2); (try clear hcdr_3 hfdr_3); (try clear hcdr_4 hfdr_4); (try clear hcdr_5 hfdr_5); (try clear hcdr_6 hfdr_6); (try clear hcg3_0 hfg3_0); (try clear hcg3_1 hfg3_1); (try clear hcg3_2 hfg3_2); (try clear hcg3_3 hfg3_3); have hs : Below w1.heap.size w1 w2 := below_step (by repeat (first | exact Below.refl _ _ | apply below_alloc | apply pw_below_drewN | apply below_drew1)) hb; have SZ2 := Aside0.mk (show w1.heap.size ≤ w2.heap.size from hs.size); replace BKdr := Aside0.mk (blk_below BKdr.out hs); replace HH := Aside0.mk (DiskO.below HH.out hs); replace BKg3 := Aside0.mk (blk_below BKg3.out hs); replace HB := Aside0.mk (below_step HB.out hs); clear hb hd hs; have hcdr_0 : w2.cell? ⟨dr, 0, none⟩ = some (.int .i64 a) := (blk_cell BKdr.out 0).trans rfl; have hfdr_0 := blk_frozen BKdr.out 0; have hcdr_1 : w2.cell? ⟨dr, 1, none⟩ = some (.int .i64 b) := (blk_cell BKdr.out 1).trans rfl; have hfdr_1 := blk_frozen BKdr.out 1; have hcdr_2 : w2.cell? ⟨dr, 2, none⟩ = some (.int .i64 c) := (blk_cell BKdr.out 2).trans rfl; have hfdr_2 := blk_frozen BKdr.out 2; have hcdr_3 : w2.cell? ⟨dr, 3, none⟩ = some (.int .i64 d) := (blk_cell BKdr.out 3).trans rfl; have hfdr_3 := blk_frozen BKdr.out 3; have hcdr_4 : w2.cell? ⟨dr, 4, none⟩ = some (.int .i64 (p.length : Int)) := (blk_cell BKdr.out 4).trans rfl; have hfdr_4 := blk_frozen BKdr.out 4; have hcdr_5 : w2.cell? ⟨dr, 5, none⟩ = some (.slice (some ⟨g, 0, none⟩) n cs) := (blk_cell BKdr.out 5).trans rfl; have hfdr_5 := blk_frozen BKdr.out 5; have hcdr_6 : w2.cell? ⟨dr, 6, none⟩ = some (.slice Ag m cg) := (blk_cell BKdr.out 6).trans rfl; have hfdr_6 := blk_frozen BKdr.out 6; have hcg3_0 : w2.cell? ⟨g3, 0, none⟩ = some (.int .i64 x) := (blk_cell BKg3.out 0).trans rfl; have hfg3_0 := blk_frozen BKg3.out 0; have hcg3_1 : w2.cell? ⟨g3, 1, none⟩ = some (.int .i64 y) := (blk_cell BKg3.out 1).trans rfl; have hfg3_1 := blk_frozen BKg3.out 1; have hcg3_2 : w2.cell? ⟨g3, 2, none⟩ = some (.int .i64 z) := (blk_cell BKg3.out 2).trans rfl; have hfg3_2 := blk_frozen BKg3.out 2; have hcg3_3 : w2.cell? ⟨g3, 3, none⟩ = some (.slice B p.length cc) := (blk_cell BKg3.out 3).trans rfl; have hfg3_3 := blk_frozen BKg3.out 3; clear tok2))
 (try clear hcdr_0 hfdr_0)
 (try clear hcdr_1 hfdr_1)
 (try clear hcdr_2 hfdr_2)
 (try clear hcdr_3 hfdr_3)
 (try clear hcdr_4 hfdr_4)
 (try clear hcdr_5 hfdr_5)
 (try clear hcdr_6 hfdr_6)
 (try clear hcg3_0 hfg3_0)
 (try clear hcg3_1 hfg3_1)
 (try clear hcg3_2 hfg3_2)
 (try clear hcg3_3 hfg3_3)
 have hs : Below w2.heap.size w2 (World.drew w2) := below_drew1 (Below.refl _ _)
 have SZ3 := Aside0.mk (show w2.heap.size ≤ (World.drew w2).heap.size from hs.size)
 replace BKdr := Aside0.mk (blk_below BKdr.out hs)
 replace HH := Aside0.mk (DiskO.below HH.out hs)
 replace BKg3 := Aside0.mk (blk_below BKg3.out hs)
 have n_ := Aside0.mk (below_step HB.out hs)
 clear HB
 have HB := n_
 clear n_ hs
 refine start_ (n := 12) (S := fun w' => w'.cell? ⟨dr, 0, none⟩ = some (.int .i64 a) ∧ w'.cell? ⟨dr, 1, none⟩ = some (.int .i64 b) ∧ w'.cell? ⟨dr, 2, none⟩ = some (.int .i64 c) ∧ w'.cell? ⟨dr, 3, none⟩ = some (.int .i64 d) ∧ w'.cell? ⟨dr, 4, none⟩ = some (.int .i64 (p.length : Int)) ∧ w'.cell? ⟨dr, 5, none⟩ = some (.slice (some ⟨g, 0, none⟩) n cs) ∧ w'.cell? ⟨dr, 6, none⟩ = some (.slice Ag m cg) ∧ w'.cell? ⟨g3, 0, none⟩ = some (.int .i64 x) ∧ w'.cell? ⟨g3, 1, none⟩ = some (.int .i64 y) ∧ w'.cell? ⟨g3, 2, none⟩ = some (.int .i64 z) ∧ w'.cell? ⟨g3, 3, none⟩ = some (.slice B p.length cc)) (ds := []) #[false, false, false, false, false, false, false, false, false, false, false, false] (by kernel_rfl) rfl rfl ⟨(blk_cell BKdr.out 0).trans rfl, (blk_cell BKdr.out 1).trans rfl, (blk_cell BKdr.out 2).trans rfl, (blk_cell BKdr.out 3).trans rfl, (blk_cell BKdr.out 4).trans rfl, (blk_cell BKdr.out 5).trans rfl, (blk_cell BKdr.out 6).trans rfl, (blk_cell BKg3.out 0).trans rfl, (blk_cell BKg3.out 1).trans rfl, (blk_cell BKg3.out 2).trans rfl, (blk_cell BKg3.out 3).trans rfl⟩ (fun hHeld => ?_)
 generalize World.drew w2 = w3 at HB BKdr HH BKg3 SZ3 hHeld ⊢
 refine pure_ (i := 0) (N := some 14) (v := ?_) (a' := ?_) #[true, false, false, false, false, false, false, false, false, false, false, false] rfl rfl (by kernel_rfl) (fun _ _ _ h => h) (Or.inl ⟨by rfl, ?_⟩) ?_ ?_
 rotate_left
 ·
  intro w'
  go_simp
  with_reducible rfl
 rotate_left
 ·
  simp only [Act.put, List.setIfInBounds_toArray, List.set_cons_zero, List.set_cons_succ, i64_w, i32_w]
  rfl
 refine pure_ (i := 1) (N := some 15) (v := ?_) (a' := ?_) #[true, true, false, false, false, false, false, false, false, false, false, false] rfl rfl (by kernel_rfl) (fun _ _ _ h => h) (Or.inl ⟨by rfl, ?_⟩) ?_ ?_
 rotate_left
 ·
  intro w'
  go_simp
  with_reducible rfl
 rotate_left
 ·
  simp only [Act.put, List.setIfInBounds_toArray, List.set_cons_zero, List.set_cons_succ, i64_w, i32_w]
  rfl
 refine pure_ (i := 2) (N := some 16) (v := ?_) (a' := ?_) #[true, true, true, false, false, false, false, false, false, false, false, false] rfl rfl (by kernel_rfl) (fun _ _ _ h => h) (Or.inl ⟨by rfl, ?_⟩) ?_ ?_
 rotate_left
 ·
  intro w'
  go_simp
  with_reducible rfl
 rotate_left
 ·
  simp only [Act.put, List.setIfInBounds_toArray, List.set_cons_zero, List.set_cons_succ, i64_w, i32_w]
  rfl
 refine pure_ (i := 3) (N := some 17) (v := ?_) (a' := ?_) #[true, true, true, true, false, false, false, false, false, false, false, false] rfl rfl (by kernel_rfl) (fun _ _ _ h => h) (Or.inl ⟨by rfl, ?_⟩) ?_ ?_
 rotate_left
 ·
  intro w'
  go_simp
  with_reducible rfl
 rotate_left
 ·
  simp only [Act.put, List.setIfInBounds_toArray, List.set_cons_zero, List.set_cons_succ, i64_w, i32_w]
  rfl
 refine pure_ (i := 6) (N := some 20) (v := ?_) (a' := ?_) #[true, true, true, true, false, false, true, false, false, false, false, false] rfl rfl (by kernel_rfl) (fun _ _ _ h => h) (Or.inl ⟨by rfl, ?_⟩) ?_ ?_
 rotate_left
 ·
  intro w'
  go_simp
  with_reducible rfl
 rotate_left
 ·
  simp only [Act.put, List.setIfInBounds_toArray, List.set_cons_zero, List.set_cons_succ, i64_w, i32_w]
  rfl
 refine pure_ (i := 7) (N := some 21) (v := ?_) (a' := ?_) #[true, true, true, true, false, false, true, true, false, false, false, false] rfl rfl (by kernel_rfl) (fun _ _ _ h => h) (Or.inl ⟨by rfl, ?_⟩) ?_ ?_
 rotate_left
 ·
  intro w'
  go_simp
  with_reducible rfl
 rotate_left
 ·
  simp only [Act.put, List.setIfInBounds_toArray, List.set_cons_zero, List.set_cons_succ, i64_w, i32_w]
  rfl
 refine pure_ (i := 8) (N := some 22) (v := ?_) (a' := ?_) #[true, true, true, true, false, false, true, true, true, false, false, false] rfl rfl (by kernel_rfl) (fun _ _ _ h => h) (Or.inl ⟨by rfl, ?_⟩) ?_ ?_
 rotate_left
 ·
  intro w'
  go_simp
  with_reducible rfl
 rotate_left
 ·
  simp only [Act.put, List.setIfInBounds_toArray, List.set_cons_zero, List.set_cons_succ, i64_w, i32_w]
  rfl
 refine take_ (i := 4) (N := some 18) (v := ?_) (a' := ?_) #[true, true, true, true, true, false, true, true, true, false, false, false] rfl rfl (by kernel_rfl) (fun _ _ _ h => h) (Or.inl ⟨by rfl, ?_⟩) hHeld ?_ ?_
 rotate_left
 ·
  rintro w' ⟨s0, s1, s2, s3, s4, s5, s6, s7, s8, s9, s10⟩
  go_simp
  with_reducible rfl
 rotate_left
 ·
  simp only [Act.put, List.setIfInBounds_toArray, List.set_cons_zero, List.set_cons_succ, i64_w, i32_w]
  rfl
 refine pure_ (i := 5) (N := some 19) (v := ?_) (a' := ?_) #[true, true, true, true, true, true, true, true, true, false, false, false] rfl rfl (by kernel_rfl) (fun _ _ _ h => h) (Or.inl ⟨by rfl, ?_⟩) ?_ ?_
 rotate_left
 ·
  intro w'
  go_simp
  with_reducible rfl
 rotate_left
 ·
  simp only [Act.put, List.setIfInBounds_toArray, List.set_cons_zero, List.set_cons_succ, i64_w, i32_w]
  rfl
 refine take_ (i := 9) (N := some 23) (v := ?_) (a' := ?_) #[true, true, true, true, true, true, true, true, true, true, false, false] rfl rfl (by kernel_rfl) (fun _ _ _ h => h) (Or.inl ⟨by rfl, ?_⟩) hHeld ?_ ?_
 rotate_left
 ·
  rintro w' ⟨s0, s1, s2, s3, s4, s5, s6, s7, s8, s9, s10⟩
  go_simp
  with_reducible rfl
 rotate_left
 ·
  simp only [Act.put, List.setIfInBounds_toArray, List.set_cons_zero, List.set_cons_succ, i64_w, i32_w]
  rfl
 refine pure_ (i := 10) (N := some 24) (v := ?_) (a' := ?_) #[true, true, true, true, true, true, true, true, true, true, true, false] rfl rfl (by kernel_rfl) (fun _ _ _ h => h) (Or.inl ⟨by rfl, ?_⟩) ?_ ?_
 rotate_left
 ·
  intro w'
  go_simp
  with_reducible rfl
 rotate_left
 ·
  simp only [Act.put, List.setIfInBounds_toArray, List.set_cons_zero, List.set_cons_succ, i64_w, i32_w]
  rfl
 refine pure_ (i := 11) (N := some 25) (v := ?_) (a' := ?_) #[true, true, true, true, true, true, true, true, true, true, true, true] rfl rfl (by kernel_rfl) (fun _ _ _ h => h) (Or.inl ⟨by rfl, ?_⟩) ?_ ?_
 rotate_left
 ·
  intro w'
  go_simp
  with_reducible rfl
 rotate_left
 ·
  simp only [Act.put, List.setIfInBounds_toArray, List.set_cons_zero, List.set_cons_succ, i64_w, i32_w]
  rfl
 refine done_ (by kernel_rfl) ?_
 have hcdr_0 : w3.cell? ⟨dr, 0, none⟩ = some (.int .i64 a) := (blk_cell BKdr.out 0).trans rfl
 have hfdr_0 := blk_frozen BKdr.out 0
 have hcdr_1 : w3.cell? ⟨dr, 1, none⟩ = some (.int .i64 b) := (blk_cell BKdr.out 1).trans rfl
 have hfdr_1 := blk_frozen BKdr.out 1
 have hcdr_2 : w3.cell? ⟨dr, 2, none⟩ = some (.int .i64 c) := (blk_cell BKdr.out 2).trans rfl
 have hfdr_2 := blk_frozen BKdr.out 2
 have hcdr_3 : w3.cell? ⟨dr, 3, none⟩ = some (.int .i64 d) := (blk_cell BKdr.out 3).trans rfl
 have hfdr_3 := blk_frozen BKdr.out 3
 have hcdr_4 : w3.cell? ⟨dr, 4, none⟩ = some (.int .i64 (p.length : Int)) := (blk_cell BKdr.out 4).trans rfl
 have hfdr_4 := blk_frozen BKdr.out 4
 have hcdr_5 : w3.cell? ⟨dr, 5, none⟩ = some (.slice (some ⟨g, 0, none⟩) n cs) := (blk_cell BKdr.out 5).trans rfl
 have hfdr_5 := blk_frozen BKdr.out 5
 have hcdr_6 : w3.cell? ⟨dr, 6, none⟩ = some (.slice Ag m cg) := (blk_cell BKdr.out 6).trans rfl
 have hfdr_6 := blk_frozen BKdr.out 6
 have hcg3_0 : w3.cell? ⟨g3, 0, none⟩ = some (.int .i64 x) := (blk_cell BKg3.out 0).trans rfl
 have hfg3_0 := blk_frozen BKg3.out 0
 have hcg3_1 : w3.cell? ⟨g3, 1, none⟩ = some (.int .i64 y) := (blk_cell BKg3.out 1).trans rfl
 have hfg3_1 := blk_frozen BKg3.out 1
 have hcg3_2 : w3.cell? ⟨g3, 2, none⟩ = some (.int .i64 z) := (blk_cell BKg3.out 2).trans rfl
 have hfg3_2 := blk_frozen BKg3.out 2
 have hcg3_3 : w3.cell? ⟨g3, 3, none⟩ = some (.slice B p.length cc) := (blk_cell BKg3.out 3).trans rfl
 have hfg3_3 := blk_frozen BKg3.out 3
 go_wp2_with (fail)
 (try clear hcdr_0 hfdr_0)
 (try clear hcdr_1 hfdr_1)
 (try clear hcdr_2 hfdr_2)
 (try clear hcdr_3 hfdr_3)
 (try clear hcdr_4 hfdr_4)
 (try clear hcdr_5 hfdr_5)
 (try clear hcdr_6 hfdr_6)
 (try clear hcg3_0 hfg3_0)
 (try clear hcg3_1 hfg3_1)
 (try clear hcg3_2 hfg3_2)
 (try clear hcg3_3 hfg3_3)
 have hs : Below w3.heap.size w3 (World.drew w3) := below_drew1 (Below.refl _ _)
 have SZ4 := Aside0.mk (show w3.heap.size ≤ (World.drew w3).heap.size from hs.size)
 replace BKdr := Aside0.mk (blk_below BKdr.out hs)
 replace HH := Aside0.mk (DiskO.below HH.out hs)
 replace BKg3 := Aside0.mk (blk_below BKg3.out hs)
 have n_ := Aside0.mk (below_step HB.out hs)
 clear HB
 have HB := n_
 clear n_ hs
 refine start_ (n := 10) (S := fun w' => w'.cell? ⟨dr, 0, none⟩ = some (.int .i64 a) ∧ w'.cell? ⟨dr, 1, none⟩ = some (.int .i64 b) ∧ w'.cell? ⟨dr, 2, none⟩ = some (.int .i64 c) ∧ w'.cell? ⟨dr, 3, none⟩ = some (.int .i64 d) ∧ w'.cell? ⟨dr, 4, none⟩ = some (.int .i64 (p.length : Int)) ∧ w'.cell? ⟨dr, 5, none⟩ = some (.slice (some ⟨g, 0, none⟩) n cs) ∧ w'.cell? ⟨dr, 6, none⟩ = some (.slice Ag m cg) ∧ w'.cell? ⟨g3, 0, none⟩ = some (.int .i64 x) ∧ w'.cell? ⟨g3, 1, none⟩ = some (.int .i64 y) ∧ w'.cell? ⟨g3, 2, none⟩ = some (.int .i64 z) ∧ w'.cell? ⟨g3, 3, none⟩ = some (.slice B p.length cc)) (ds := [9]) #[false, false, false, false, false, false, false, false, false, false] (by kernel_rfl) rfl rfl ⟨(blk_cell BKdr.out 0).trans rfl, (blk_cell BKdr.out 1).trans rfl, (blk_cell BKdr.out 2).trans rfl, (blk_cell BKdr.out 3).trans rfl, (blk_cell BKdr.out 4).trans rfl, (blk_cell BKdr.out 5).trans rfl, (blk_cell BKdr.out 6).trans rfl, (blk_cell BKg3.out 0).trans rfl, (blk_cell BKg3.out 1).trans rfl, (blk_cell BKg3.out 2).trans rfl, (blk_cell BKg3.out 3).trans rfl⟩ (fun hHeld => ?_)
 generalize World.drew w3 = w4 at HB BKdr HH BKg3 SZ4 hHeld ⊢
 refine pure_ (i := 0) (N := some 26) (v := ?_) (a' := ?_) #[true, false, false, false, false, false, false, false, false, false] rfl rfl (by kernel_rfl) (fun _ _ _ h => h) (Or.inl ⟨by rfl, ?_⟩) ?_ ?_
 rotate_left
 ·
  intro w'
  go_simp
  with_reducible rfl
 rotate_left
 ·
  simp only [Act.put, List.setIfInBounds_toArray, List.set_cons_zero, List.set_cons_succ, i64_w, i32_w]
  rfl
 refine pure_ (i := 1) (N := some 27) (v := ?_) (a' := ?_) #[true, true, false, false, false, false, false, false, false, false] rfl rfl (by kernel_rfl) (fun _ _ _ h => h) (Or.inl ⟨by rfl, ?_⟩) ?_ ?_
 rotate_left
 ·
  intro w'
  go_simp
  with_reducible rfl
 rotate_left
 ·
  simp only [Act.put, List.setIfInBounds_toArray, List.set_cons_zero, List.set_cons_succ, i64_w, i32_w]
  rfl
 refine pure_ (i := 2) (N := some 28) (v := ?_) (a' := ?_) #[true, true, true, false, false, false, false, false, false, false] rfl rfl (by kernel_rfl) (fun _ _ _ h => h) (Or.inl ⟨by rfl, ?_⟩) ?_ ?_
 rotate_left
 ·
  intro w'
  go_simp
  with_reducible rfl
 rotate_left
 ·
  simp only [Act.put, List.setIfInBounds_toArray, List.set_cons_zero, List.set_cons_succ, i64_w, i32_w]
  rfl
 refine pure_ (i := 4) (N := some 30) (v := ?_) (a' := ?_) #[true, true, true, false, true, false, false, false, false, false] rfl rfl (by kernel_rfl) (fun _ _ _ h => h) (Or.inl ⟨by rfl, ?_⟩) ?_ ?_
 rotate_left
 ·
  intro w'
  go_simp
  with_reducible rfl
 rotate_left
 ·
  simp only [Act.put, List.setIfInBounds_toArray, List.set_cons_zero, List.set_cons_succ, i64_w, i32_w]
  rfl
 refine pure_ (i := 5) (N := some 31) (v := ?_) (a' := ?_) #[true, true, true, false, true, true, false, false, false, false] rfl rfl (by kernel_rfl) (fun _ _ _ h => h) (Or.inl ⟨by rfl, ?_⟩) ?_ ?_
 rotate_left
 ·
  intro w'
  go_simp
  with_reducible rfl
 rotate_left
 ·
  simp only [Act.put, List.setIfInBounds_toArray, List.set_cons_zero, List.set_cons_succ, i64_w, i32_w]
  rfl
 refine take_ (i := 3) (N := some 29) (v := ?_) (a' := ?_) #[true, true, true, true, true, true, false, false, false, false] rfl rfl (by kernel_rfl) (fun _ _ _ h => h) (Or.inl ⟨by rfl, ?_⟩) hHeld ?_ ?_
 rotate_left
 ·
  rintro w' ⟨s0, s1, s2, s3, s4, s5, s6, s7, s8, s9, s10⟩
  go_simp
  with_reducible rfl
 rotate_left
 ·
  simp only [Act.put, List.setIfInBounds_toArray, List.set_cons_zero, List.set_cons_succ, i64_w, i32_w]
  rfl
 refine take_ (i := 6) (N := some 32) (v := ?_) (a' := ?_) #[true, true, true, true, true, true, true, false, false, false] rfl rfl (by kernel_rfl) (fun _ _ _ h => h) (Or.inl ⟨by rfl, ?_⟩) hHeld ?_ ?_
 rotate_left
 ·
  rintro w' ⟨s0, s1, s2, s3, s4, s5, s6, s7, s8, s9, s10⟩
  go_simp
  with_reducible rfl
 rotate_left
 ·
  simp only [Act.put, List.setIfInBounds_toArray, List.set_cons_zero, List.set_cons_succ, i64_w, i32_w]
  rfl
 refine one_ (i := 7) (N := some 33) #[true, true, true, true, true, true, true, true, false, false] rfl rfl (by kernel_rfl) (by decide) (fun K hK => ?_)
 refine goes_ Try.func48 (by kernel_rfl) rfl #[.slice B p.length cc] (by rfl) rfl rfl (by simp only [List.map_toArray, List.map_cons, List.map_nil]; rfl) ?_
 with_reducible refine (slices_Clone_byte_byte.calls B cc p p _ ?s1 ALe.out AC.out).mono ?_
 (case s1 => exact Kd.C_below ACx.out (by repeat (first | exact HB.out | apply below_alloc | apply pw_below_drewN | apply below_drew1)))
 rintro e w5 ⟨v5, rfl, hv, hb⟩
 refine ⟨_, rfl, ?_⟩
 have hs : Below w4.heap.size w4 w5 := below_step (by repeat (first | exact Below.refl _ _ | apply below_alloc | apply pw_below_drewN | apply below_drew1)) hb
 have hl : w4.heap.size ≤ _ := below_size (w := w4) (by repeat (first | exact Below.refl _ _ | apply below_alloc | apply pw_below_drewN | apply below_drew1))
 have SZ5 := Aside0.mk (show w4.heap.size ≤ w5.heap.size from hs.size)
 replace BKdr := Aside0.mk (blk_below BKdr.out hs)
 replace HH := Aside0.mk (DiskO.below HH.out hs)
 replace BKg3 := Aside0.mk (blk_below BKg3.out hs)
 have HV := Aside0.mk (show Kd.R (Kd.int .u8) 5 w5 base (fun k => Gr ok w w5 k ∧ k ≠ g) v5 p from Kd.R_mono (Kd.R_lower (Kd.R_bound hv) (by have h1 := hl; have h3 := HG.out; have := HZ2.out; have := SZ1.out; have := SZ2.out; have := SZ3.out; have := SZ4.out; omega)) (fun k hk => ⟨⟨hk.2.2.1, .inr (by have h2 := hk.2.1; have h1 := hl; have h3 := HG.out; have := HZ2.out; have := SZ1.out; have := SZ2.out; have := SZ3.out; have := SZ4.out; omega)⟩, by have h2 := hk.2.1; have h1 := hl; have h3 := HG.out; have := HZ2.out; have := SZ1.out; have := SZ2.out; have := SZ3.out; have := SZ4.out; omega⟩))
 clear hv
 obtain ⟨A5, c5, e5_⟩ := Kd.R_slice HV.out
 subst e5_
 have hqs := HI.out
 obtain ⟨u0, hcu, hfu⟩ := R_cell_row HH.out.2.2.1 (i := i) hqs
 clear hqs
 have n_ := Aside0.mk (below_step HB.out hs)
 clear HB
 have HB := n_
 clear n_ hs hb
 (try clear hl)
 refine hK.out _ _ ⟨(blk_cell BKdr.out 0).trans rfl, (blk_cell BKdr.out 1).trans rfl, (blk_cell BKdr.out 2).trans rfl, (blk_cell BKdr.out 3).trans rfl, (blk_cell BKdr.out 4).trans rfl, (blk_cell BKdr.out 5).trans rfl, (blk_cell BKdr.out 6).trans rfl, (blk_cell BKg3.out 0).trans rfl, (blk_cell BKg3.out 1).trans rfl, (blk_cell BKg3.out 2).trans rfl, (blk_cell BKg3.out 3).trans rfl⟩ (fun hHeld => ?_)
 clear hK K
 refine norm_ (a' := ?_) ?_ ?_
 rotate_left
 ·
  show Act.put _ (some 33) _ = _
  simp only [Act.put, List.setIfInBounds_toArray, List.set_cons_zero, List.set_cons_succ, i64_w, i32_w]
  rfl
 refine pure_ (i := 8) (N := some 34) (v := ?_) (a' := ?_) #[true, true, true, true, true, true, true, true, true, false] rfl rfl (by kernel_rfl) (fun _ _ _ h => h) (Or.inl ⟨by rfl, ?_⟩) ?_ ?_
 rotate_left
 ·
  intro w'
  go_simp
  with_reducible rfl
 rotate_left
 ·
  simp only [Act.put, List.setIfInBounds_toArray, List.set_cons_zero, List.set_cons_succ, i64_w, i32_w]
  rfl
 refine last_ (i := 9) (N := none) #[true, true, true, true, true, true, true, true, true, true] rfl rfl (by kernel_rfl) (by decide) (fun K hK => ?_)
 refine skip_ (w1 := ?_) (by rfl) rfl ?_ ?_
 rotate_left
 ·
  go_simp
  rfl
 refine hK.out _ _ ?_
 clear hK K
 refine done_ (by kernel_rfl) ?_
 have hcdr_0 : w5.cell? ⟨dr, 0, none⟩ = some (.int .i64 a) := (blk_cell BKdr.out 0).trans rfl
 have hfdr_0 := blk_frozen BKdr.out 0
 have hcdr_1 : w5.cell? ⟨dr, 1, none⟩ = some (.int .i64 b) := (blk_cell BKdr.out 1).trans rfl
 have hfdr_1 := blk_frozen BKdr.out 1
 have hcdr_2 : w5.cell? ⟨dr, 2, none⟩ = some (.int .i64 c) := (blk_cell BKdr.out 2).trans rfl
 have hfdr_2 := blk_frozen BKdr.out 2
 have hcdr_3 : w5.cell? ⟨dr, 3, none⟩ = some (.int .i64 d) := (blk_cell BKdr.out 3).trans rfl
 have hfdr_3 := blk_frozen BKdr.out 3
 have hcdr_4 : w5.cell? ⟨dr, 4, none⟩ = some (.int .i64 (p.length : Int)) := (blk_cell BKdr.out 4).trans rfl
 have hfdr_4 := blk_frozen BKdr.out 4
 have hcdr_5 : w5.cell? ⟨dr, 5, none⟩ = some (.slice (some ⟨g, 0, none⟩) n cs) := (blk_cell BKdr.out 5).trans rfl
 have hfdr_5 := blk_frozen BKdr.out 5
 have hcdr_6 : w5.cell? ⟨dr, 6, none⟩ = some (.slice Ag m cg) := (blk_cell BKdr.out 6).trans rfl
 have hfdr_6 := blk_frozen BKdr.out 6
 have hcg3_0 : w5.cell? ⟨g3, 0, none⟩ = some (.int .i64 x) := (blk_cell BKg3.out 0).trans rfl
 have hfg3_0 := blk_frozen BKg3.out 0
 have hcg3_1 : w5.cell? ⟨g3, 1, none⟩ = some (.int .i64 y) := (blk_cell BKg3.out 1).trans rfl
 have hfg3_1 := blk_frozen BKg3.out 1
 have hcg3_2 : w5.cell? ⟨g3, 2, none⟩ = some (.int .i64 z) := (blk_cell BKg3.out 2).trans rfl
 have hfg3_2 := blk_frozen BKg3.out 2
 have hcg3_3 : w5.cell? ⟨g3, 3, none⟩ = some (.slice B p.length cc) := (blk_cell BKg3.out 3).trans rfl
 have hfg3_3 := blk_frozen BKg3.out 3
 go_wp2_with (fail)
 go_ret
 have K1 := HH.out.gr (ok := ok) (w := w) HG.out.2 (fun k hk => .inl hk) HH0.out.base_
 have K2 := (K1.setSlot HI.out HV.out).1
 have hg := HH0.out.2.2.1.1 g rfl
 refine ⟨rfl, K2.gr HG.out.2 (fun k hk => hk.2) HH0.out.base_, ((Wrote.start HG.out.2).below HB.out).cell hg (HH0.out.base_ g hg) _⟩
end Go.Proofs.Ytemmhgfjfbdggaa.P
namespace Go.Proofs.Ytemmhgfjfbdggaa.P
open Go.RowKit Go.Proofs.YtemmhgfjfbdggaaW.PrintWords Go.Proofs.YtemmhgfjfbdggaaW.PrintLast Go.Proofs.YtemmhgfjfbdggaaW.PrintMore
attribute [local go_sem] max2_int min2_int max_two min_two max_three min_three max_four min_four
set_option linter.unusedVariables false
set_option linter.unusedSimpArgs false
def wipeF {α : Type} (z : α) (xs : List α) (i : Nat) : Nat → List α
 | 0 => xs
 | c + 1 => wipeF z (xs.set i z) (i + 1) c
theorem wipeF_len {α : Type} (z : α) : ∀ (c : Nat) (xs : List α) (i : Nat), (wipeF z xs i c).length = xs.length
 | 0, _, _ => rfl
 | c + 1, xs, i => by rw [wipeF, wipeF_len z c]; simp
theorem wipeF_get {α : Type} (z : α) : ∀ (c : Nat) (xs : List α) (i j : Nat), j < xs.length → (wipeF z xs i c).getD j z = if i ≤ j ∧ j < i + c then z else xs.getD j z
 | 0, xs, i, j, hj => by rw [wipeF, if_neg (by omega)]
 | c + 1, xs, i, j, hj => by
  rw [wipeF, wipeF_get z c (xs.set i z) (i + 1) j (by simpa using hj)]
  by_cases h1 : i = j
  ·
   subst h1
   rw [if_neg (by omega), if_pos (by omega)]
   simp [List.getD_eq_getElem?_getD, hj]
  ·
   by_cases h2 : i + 1 ≤ j ∧ j < i + 1 + c
   ·
    rw [if_pos h2, if_pos (by omega)]
   ·
    rw [if_neg h2, if_neg (by omega)]
    simp [List.getD_eq_getElem?_getD, List.getElem?_set_ne h1]
theorem wipeF_mem {α : Type} (z : α) (Q : α → Prop) (hz : Q z) : ∀ (c : Nat) (xs : List α) (i : Nat), (∀ x ∈ xs, Q x) → ∀ x ∈ wipeF z xs i c, Q x
 | 0, _, _, h => h
 | c + 1, xs, i, h => wipeF_mem z Q hz c (xs.set i z) (i + 1) (fun x hx => by
  rcases List.mem_or_eq_of_mem_set hx with hx | rfl
  ·
   exact h x hx
  ·
   exact hz)
theorem DiskO.clearSlots {base : Nat} {ok : Nat → Prop} {w : World} {D dr g n cs m cg : Nat} {Ag : Option Addr} {a b c d sz : Int} {gone : List Bool} {off : Bool} {cut wr : Int} : ∀ (q : Nat) (W : World) (slots : List (List Int)) (i : Nat),
  DiskO W base ok D dr (some ⟨g, 0, none⟩) n cs Ag m cg a b c d sz slots gone off cut wr → Wrote base ok w W → i + q ≤ slots.length →
  DiskO (W.setCells g i (List.replicate q (.slice none 0 0))) base ok D dr (some ⟨g, 0, none⟩) n cs Ag m cg a b c d sz (wipeF [] slots i q) gone off cut wr ∧ Wrote base ok w (W.setCells g i (List.replicate q (.slice none 0 0)))
 | 0, W, slots, i, h, hw, _ => ⟨h, hw⟩
 | q + 1, W, slots, i, h, hw, hi => by
  have h1 := h.setSlot (i := i) (by omega) (Kd.R_nil (Kd.int .u8) 5 W base (fun k => ok k ∧ k ≠ g))
  rw [List.replicate_succ]
  exact DiskO.clearSlots q (W.setCell ⟨g, i, none⟩ (.slice none 0 0)) (slots.set i []) (i + 1) h1.1 (hw.cell h1.2 (h.base_ g h1.2) _) (by rw [List.length_set]; omega)
theorem DiskO.clearGone {base : Nat} {ok : Nat → Prop} {w : World} {D dr g n cs m cg : Nat} {As : Option Addr} {a b c d sz : Int} {slots : List (List Int)} {off : Bool} {cut wr : Int} : ∀ (q : Nat) (W : World) (gone : List Bool) (i : Nat),
  DiskO W base ok D dr As n cs (some ⟨g, 0, none⟩) m cg a b c d sz slots gone off cut wr → Wrote base ok w W → i + q ≤ gone.length →
  DiskO (W.setCells g i (List.replicate q (.bool false))) base ok D dr As n cs (some ⟨g, 0, none⟩) m cg a b c d sz slots (wipeF false gone i q) off cut wr ∧ Wrote base ok w (W.setCells g i (List.replicate q (.bool false)))
 | 0, W, gone, i, h, hw, _ => ⟨h, hw⟩
 | q + 1, W, gone, i, h, hw, hi => by
  have h1 := h.setGone (i := i) (x := false)
  rw [List.replicate_succ]
  exact DiskO.clearGone q (W.setCell ⟨g, i, none⟩ (.bool false)) (gone.set i false) (i + 1) h1.1 (hw.cell h1.2 (h.base_ g h1.2) _) (by rw [List.length_set]; omega)
theorem DiskO.slotCell {W : World} {base : Nat} {ok : Nat → Prop} {D dr g n cs m cg : Nat} {Ag : Option Addr} {a b c d sz : Int} {slots : List (List Int)} {gone : List Bool} {off : Bool} {cut wr : Int} (h : DiskO W base ok D dr (some ⟨g, 0, none⟩) n cs Ag m cg a b c d sz slots gone off cut wr) {i : Nat} (hi : i < slots.length) : (W.cell? ⟨g, i, none⟩).isSome = true ∧ W.frozen? ⟨g, i, none⟩ = false := by
 obtain ⟨u, h1, h2⟩ := R_cell_row h.2.2.1 hi
 rw [h1]
 exact ⟨rfl, h2⟩
theorem DiskO.goneCell {W : World} {base : Nat} {ok : Nat → Prop} {D dr g n cs m cg : Nat} {As : Option Addr} {a b c d sz : Int} {slots : List (List Int)} {gone : List Bool} {off : Bool} {cut wr : Int} (h : DiskO W base ok D dr As n cs (some ⟨g, 0, none⟩) m cg a b c d sz slots gone off cut wr) {i : Nat} (hi : i < gone.length) : (W.cell? ⟨g, i, none⟩).isSome = true ∧ W.frozen? ⟨g, i, none⟩ = false := by
 have hr := h.2.2.2.1
 rw [h.lens.2.2.1] at hr
 have h1 := Kd.R_cell false hr (i : Int) (by omega) (by omega)
 rw [Int.toNat_natCast] at h1
 rw [h1.1]
 exact ⟨rfl, h1.2⟩
theorem wrap_add2 (i dn : Nat) (h : i + 2 * dn ≤ 1000000) : wrap64 ((i : Int) + wrap64 (2 * (dn : Int))) = ((i + 2 * dn : Nat) : Int) := by
 have e1 : wrap64 (2 * (dn : Int)) = 2 * (dn : Int) := by
  unfold wrap64
  omega
 rw [e1]
 unfold wrap64
 omega
theorem zero45 (w : World) : (zeroValue 45).run Try.prog w = .ok (.slice none 0 0) w := by kernel_rfl
theorem zero4 (w : World) : (zeroValue 4).run Try.prog w = .ok (.bool false) w := by kernel_rfl
set_option maxHeartbeats 8000000 in
set_option maxRecDepth 100000 in
theorem Whole_yes (D dr : Nat) (As Ag : Option Addr) (n cs m cg : Nat) (a b c d sz : Int) (slots : List (List Int)) (gone : List Bool) (off : Bool) (cut wr : Int) (base : Nat) (ok : Nat → Prop) (w : World) (H : DiskO w base ok D dr As n cs Ag m cg a b c d sz slots gone off cut wr) (hm : 1 ≤ m) : Calls Try.prog 26 #[.pointer (some ⟨D, 0, none⟩)] w fun e w' => e = .returned (.int .i64 0) ∧ DiskO w' base (Gr ok w w') D dr As n cs Ag m cg a b c d sz slots (wipeF false gone 0 gone.length) off cut wr ∧ Wrote base ok w w' := by
 have hl := H.lens
 obtain ⟨g, cap, e, _⟩ := Kd.R_form H.2.2.2.1 (by omega)
 injection e with e1 e2 e3
 subst e1
 have HH0 := Aside0.mk H
 have HHr := Aside0.mk H
 have HM1 := Aside0.mk hm
 have HML := Aside0.mk hl.2.2.1
 have HB := Aside0.mk (Wrote.start (ok := ok) (w := w) H.low)
 have BKD := Aside0.mk H.1
 have BKdr := Aside0.mk H.2.1
 have HZ1 := Aside0.mk (show D < w.heap.size from blk_lt H.1)
 have HZ2 := Aside0.mk (show dr < w.heap.size from blk_lt H.2.1)
 have hneDd : D ≠ dr := H.ne
 have hnedD : dr ≠ D := hneDd.symm
 clear H hm hl e2 e3
 obtain ⟨hcD_0, hcD_1, hcD_2, hcD_3, hfD_0, hfD_1, hfD_2, hfD_3⟩ := cs4 BKD.out
 obtain ⟨hcdr_0, hcdr_1, hcdr_2, hcdr_3, hcdr_4, hcdr_5, hcdr_6, hfdr_0, hfdr_1, hfdr_2, hfdr_3, hfdr_4, hfdr_5, hfdr_6⟩ := cs7 BKdr.out
 go_enter Try.func26, Try.ntmps26
 have tok1 : True := trivial
 go_wp2_with (first | (have _ := tok1; go_at_call 45; (with_reducible refine (made_yes D dr _ _ _ _ (sB BKD.out)).mono ?_); rintro e w1 ⟨rfl, hd⟩; have hb := hd.below; (try clear hcD_0 hfD_0); (try clear hcD_1 hfD_1); (try clear hcD_2 hfD_2); (try clear hcD_3 hfD_3); (try clear hcdr_0 hfdr_0); (try clear hcdr_1 hfdr_1); (try clear hcdr_2 hfdr_2); (try clear hcdr_3 hfdr_3); (try clear hcdr_4 hfdr_4); (try clear hcdr_5 hfdr_5); (try clear hcdr_6 hfdr_6); have hs : Below w.heap.size w w1 := below_step Lt8.b hb; have SZ1 := Aside0.mk (show w.heap.size ≤ w1.heap.size from hs.size); replace BKD := Aside0.mk (blk_below BKD.out hs); replace BKdr := Aside0.mk (blk_below BKdr.out hs); replace HHr := Aside0.mk (DiskO.below HHr.out hs); replace HB := Aside0.mk (Wrote.below HB.out hs); clear hb hd hs; obtain ⟨hcD_0, hcD_1, hcD_2, hcD_3, hfD_0, hfD_1, hfD_2, hfD_3⟩ := cs4 BKD.out; obtain ⟨hcdr_0, hcdr_1, hcdr_2, hcdr_3, hcdr_4, hcdr_5, hcdr_6, hfdr_0, hfdr_1, hfdr_2, hfdr_3, hfdr_4, hfdr_5, hfdr_6⟩ := cs7 BKdr.out; clear tok1))
 have hcl : ∀ ty, (Builtin.clear_ #[76] ty #[.slice (some ⟨g, 0, none⟩) m cg]).run Try.prog w1 = .ok (.tuple #[]) (w1.setCells g 0 (List.replicate m (.bool false))) := fun ty =>
  Lib.run_clear_slice w1 76 4 ty (.bool false) Try.underlying76 zero4 rfl rfl g 0 m cg HM1.out (fun j hj => by rw [Nat.zero_add]; exact (HHr.out.goneCell (i := j) (by have := HML.out; omega)).1) (fun j hj => by rw [Nat.zero_add]; exact (HHr.out.goneCell (i := j) (by have := HML.out; omega)).2)
 go_wp2_with (simp only [hcl])
 go_ret
 have K := DiskO.clearGone m w1 gone 0 HHr.out HB.out (by have := HML.out; omega)
 have e := HML.out
 rw [← e]
 exact ⟨rfl, K.1.gr HB.out.1 (fun k hk => .inl hk) HH0.out.base_, K.2⟩
set_option maxHeartbeats 8000000 in
set_option maxRecDepth 100000 in
theorem blank_good (D dr : Nat) (As Ag : Option Addr) (n cs m cg : Nat) (a b c d sz : Int) (slots : List (List Int)) (gone : List Bool) (off : Bool) (cut wr : Int) (base : Nat) (ok : Nat → Prop) (x : Int) (i : Nat) (w : World) (H : DiskO w base ok D dr As n cs Ag m cg a b c d sz slots gone off cut wr) (hm : m ≤ 16) (hd : 1 ≤ d ∧ d ≤ 4096) (hx : 0 ≤ x ∧ x < m) (hat : atOf m d x 0 0 = (i : Int)) (hi : i + 2 * d.toNat ≤ slots.length) (hsl : slots.length ≤ 1000000) : Calls Try.prog 50 #[.pointer (some ⟨dr, 0, none⟩), .int .i64 x] w fun e w' => e = .returned (.int .i64 0) ∧ DiskO w' base (Gr ok w w') D dr As n cs Ag m cg a b c d sz (wipeF [] slots i (2 * d.toNat)) (gone.set x.toNat true) off cut wr ∧ Wrote base ok w w' := by
 have hl := H.lens
 obtain ⟨g, cap, e, _⟩ := Kd.R_form H.2.2.1 (by omega)
 injection e with e1 e2 e3
 subst e1
 obtain ⟨g2, cap2, e', _⟩ := Kd.R_form H.2.2.2.1 (by omega)
 injection e' with e1' e2' e3'
 subst e1'
 obtain ⟨dn, rfl⟩ : ∃ dn : Nat, d = (dn : Int) := ⟨d.toNat, by omega⟩
 rw [Int.toNat_natCast] at hi ⊢
 obtain ⟨xn, rfl⟩ : ∃ xn : Nat, x = (xn : Int) := ⟨x.toNat, by omega⟩
 rw [Int.toNat_natCast]
 have HH0 := Aside0.mk H
 have HHr := Aside0.mk H
 have HM := Aside0.mk hm
 have HDD := Aside0.mk hd
 have HX := Aside0.mk hx
 have HAT := Aside0.mk hat
 have HI := Aside0.mk hi
 have HLN := Aside0.mk hl
 have HB := Aside0.mk (Wrote.start (ok := ok) (w := w) H.low)
 have BKD := Aside0.mk H.1
 have BKdr := Aside0.mk H.2.1
 have HZ2 := Aside0.mk (show dr < w.heap.size from blk_lt H.2.1)
 have b1 : decide ((i : Int) < 0) = false := decide_eq_false (by omega)
 have b2 : decide (xn < m) = true := decide_eq_true (by omega)
 have b3 : (xn < m) = True := eq_true (by omega)
 obtain ⟨j, hj⟩ : ∃ j : Nat, j = i + 2 * dn := ⟨_, rfl⟩
 have f1 : (j ≤ cs) = True := eq_true (by omega)
 have f2 : (i ≤ j) = True := eq_true (by omega)
 have f3 : (cs = i) = False := eq_false (by omega)
 have HJ := Aside0.mk hj
 have hij : i + 2 * dn ≤ 1000000 := by omega
 have hE : wrap64 ((i : Int) + wrap64 (2 * (dn : Int))) = (j : Int) := by
  rw [hj]
  exact wrap_add2 i dn hij
 clear hj hij
 clear H hm hd hx hat hi hl e2 e3 e2' e3' hsl
 obtain ⟨hcdr_0, hcdr_1, hcdr_2, hcdr_3, hcdr_4, hcdr_5, hcdr_6, hfdr_0, hfdr_1, hfdr_2, hfdr_3, hfdr_4, hfdr_5, hfdr_6⟩ := cs7 BKdr.out
 go_enter Try.func50, Try.ntmps50
 have tok1 : True := trivial
 go_wp2_with (first | (have _ := tok1; go_at_call 46; (with_reducible refine (at_yes dr a b c (dn : Int) sz (some ⟨g, 0, none⟩) (some ⟨g2, 0, none⟩) n cs m cg (xn : Int) 0 0 _ (sB BKdr.out) HM.out (by have := HDD.out; omega)).mono ?_); rintro e w1 ⟨rfl, hd⟩; rw [HAT.out]; have hb := hd.below; (try clear hcdr_0 hfdr_0); (try clear hcdr_1 hfdr_1); (try clear hcdr_2 hfdr_2); (try clear hcdr_3 hfdr_3); (try clear hcdr_4 hfdr_4); (try clear hcdr_5 hfdr_5); (try clear hcdr_6 hfdr_6); have hs : Below w.heap.size w w1 := below_step Lt8.b hb; have SZ1 := Aside0.mk (show w.heap.size ≤ w1.heap.size from hs.size); replace BKdr := Aside0.mk (blk_below BKdr.out hs); replace HHr := Aside0.mk (DiskO.below HHr.out hs); replace HB := Aside0.mk (Wrote.below HB.out hs); clear hb hd hs; obtain ⟨hcdr_0, hcdr_1, hcdr_2, hcdr_3, hcdr_4, hcdr_5, hcdr_6, hfdr_0, hfdr_1, hfdr_2, hfdr_3, hfdr_4, hfdr_5, hfdr_6⟩ := cs7 BKdr.out; clear tok1))
 (try clear hcdr_0 hfdr_0)
 (try clear hcdr_1 hfdr_1)
 (try clear hcdr_2 hfdr_2)
 (try clear hcdr_3 hfdr_3)
 (try clear hcdr_4 hfdr_4)
 (try clear hcdr_5 hfdr_5)
 (try clear hcdr_6 hfdr_6)
 have hs : Below w1.heap.size w1 (World.drew w1) := below_drew1 (Below.refl _ _)
 have SZ2 := Aside0.mk (show w1.heap.size ≤ (World.drew w1).heap.size from hs.size)
 replace BKdr := Aside0.mk (blk_below BKdr.out hs)
 replace HHr := Aside0.mk (DiskO.below HHr.out hs)
 replace HB := Aside0.mk (Wrote.below HB.out hs)
 clear hs
 refine start_ (n := 15) (S := fun w' => w'.cell? ⟨dr, 0, none⟩ = some (.int .i64 a) ∧ w'.cell? ⟨dr, 1, none⟩ = some (.int .i64 b) ∧ w'.cell? ⟨dr, 2, none⟩ = some (.int .i64 c) ∧ w'.cell? ⟨dr, 3, none⟩ = some (.int .i64 (dn : Int)) ∧ w'.cell? ⟨dr, 4, none⟩ = some (.int .i64 sz) ∧ w'.cell? ⟨dr, 5, none⟩ = some (.slice (some ⟨g, 0, none⟩) n cs) ∧ w'.cell? ⟨dr, 6, none⟩ = some (.slice (some ⟨g2, 0, none⟩) m cg)) (ds := [14]) #[O,O,O,O,O,O,O,O,O,O,O,O,O,O,O] (by kernel_rfl) rfl rfl ⟨(blk_cell BKdr.out 0).trans rfl, (blk_cell BKdr.out 1).trans rfl, (blk_cell BKdr.out 2).trans rfl, (blk_cell BKdr.out 3).trans rfl, (blk_cell BKdr.out 4).trans rfl, (blk_cell BKdr.out 5).trans rfl, (blk_cell BKdr.out 6).trans rfl⟩ (fun hHeld => ?_)
 generalize World.drew w1 = w2 at HB BKdr HHr SZ2 hHeld ⊢
 refine pv 0 11 ?_ #[X,O,O,O,O,O,O,O,O,O,O,O,O,O,O] rfl rfl (by kernel_rfl) (fun _ _ _ h => h) ⟨by rfl, ?_⟩ ?_ ?_ ?_; rotate_left; (intro w'; go_simp; with_reducible rfl); rotate_left; (simp only [sP]; rfl)
 refine pv 1 12 ?_ #[X,X,O,O,O,O,O,O,O,O,O,O,O,O,O] rfl rfl (by kernel_rfl) (fun _ _ _ h => h) ⟨by rfl, ?_⟩ ?_ ?_ ?_; rotate_left; (intro w'; go_simp; with_reducible rfl); rotate_left; (simp only [sP]; rfl)
 refine pv 2 13 ?_ #[X,X,X,O,O,O,O,O,O,O,O,O,O,O,O] rfl rfl (by kernel_rfl) (fun _ _ _ h => h) ⟨by rfl, ?_⟩ ?_ ?_ ?_; rotate_left; (intro w'; go_simp; with_reducible rfl); rotate_left; (simp only [sP]; rfl)
 refine pv 4 15 ?_ #[X,X,X,O,X,O,O,O,O,O,O,O,O,O,O] rfl rfl (by kernel_rfl) (fun _ _ _ h => h) ⟨by rfl, ?_⟩ ?_ ?_ ?_; rotate_left; (intro w'; go_simp; with_reducible rfl); rotate_left; (simp only [sP]; rfl)
 refine pv 5 16 ?_ #[X,X,X,O,X,X,O,O,O,O,O,O,O,O,O] rfl rfl (by kernel_rfl) (fun _ _ _ h => h) ⟨by rfl, ?_⟩ ?_ ?_ ?_; rotate_left; (intro w'; go_simp; with_reducible rfl); rotate_left; (simp only [sP]; rfl)
 refine pv 6 17 ?_ #[X,X,X,O,X,X,X,O,O,O,O,O,O,O,O] rfl rfl (by kernel_rfl) (fun _ _ _ h => h) ⟨by rfl, ?_⟩ ?_ ?_ ?_; rotate_left; (intro w'; go_simp; with_reducible rfl); rotate_left; (simp only [sP]; rfl)
 refine pv 7 18 ?_ #[X,X,X,O,X,X,X,X,O,O,O,O,O,O,O] rfl rfl (by kernel_rfl) (fun _ _ _ h => h) ⟨by rfl, ?_⟩ ?_ ?_ ?_; rotate_left; (intro w'; go_simp; with_reducible rfl); rotate_left; (simp only [sP]; rfl)
 refine pv 8 19 ?_ #[X,X,X,O,X,X,X,X,X,O,O,O,O,O,O] rfl rfl (by kernel_rfl) (fun _ _ _ h => h) ⟨by rfl, ?_⟩ ?_ ?_ ?_; rotate_left; (intro w'; go_simp; with_reducible rfl); rotate_left; (simp only [sP]; rfl)
 refine pv 9 20 ?_ #[X,X,X,O,X,X,X,X,X,X,O,O,O,O,O] rfl rfl (by kernel_rfl) (fun _ _ _ h => h) ⟨by rfl, ?_⟩ ?_ ?_ ?_; rotate_left; (intro w'; go_simp; with_reducible rfl); rotate_left; (simp only [sP]; rfl)
 refine tv 3 14 ?_ #[X,X,X,X,X,X,X,X,X,X,O,O,O,O,O] rfl rfl (by kernel_rfl) (fun _ _ _ h => h) ⟨by rfl, ?_⟩ hHeld ?_ ?_ ?_; rotate_left; (rintro w' ⟨s0, s1, s2, s3, s4, s5, s6⟩; go_simp; with_reducible rfl); rotate_left; (simp only [sP]; rfl)
 refine tv 10 21 ?_ #[X,X,X,X,X,X,X,X,X,X,X,O,O,O,O] rfl rfl (by kernel_rfl) (fun _ _ _ h => h) ⟨by rfl, ?_⟩ hHeld ?_ ?_ ?_; rotate_left; (rintro w' ⟨s0, s1, s2, s3, s4, s5, s6⟩; go_simp; with_reducible rfl); rotate_left; (simp only [sP]; rfl)
 refine pv 11 22 ?_ #[X,X,X,X,X,X,X,X,X,X,X,X,O,O,O] rfl rfl (by kernel_rfl) (fun _ _ _ h => h) ⟨by rfl, ?_⟩ ?_ ?_ ?_; rotate_left; (intro w'; go_simp; with_reducible rfl); rotate_left; (simp only [sP]; rfl)
 refine pv 12 23 ?_ #[X,X,X,X,X,X,X,X,X,X,X,X,X,O,O] rfl rfl (by kernel_rfl) (fun _ _ _ h => h) ⟨by rfl, ?_⟩ ?_ ?_ ?_; rotate_left; (intro w'; go_simp; with_reducible rfl); rotate_left; (simp only [sP]; rfl)
 refine pv 13 24 ?_ #[X,X,X,X,X,X,X,X,X,X,X,X,X,X,O] rfl rfl (by kernel_rfl) (fun _ _ _ h => h) ⟨by rfl, ?_⟩ ?_ ?_ ?_; rotate_left; (intro w'; go_simp; with_reducible rfl); rotate_left; (simp only [sP]; rfl)
 refine last_ (i := 14) (N := none) #[X,X,X,X,X,X,X,X,X,X,X,X,X,X,X] rfl rfl (by kernel_rfl) (by decide) (fun K hK => ?_)
 have hcl : ∀ ty, (Builtin.clear_ #[34] ty #[.slice (some ⟨g, i, none⟩) (j - i) (cs - i)]).run Try.prog w2 = .ok (.tuple #[]) (w2.setCells g i (List.replicate (j - i) (.slice none 0 0))) := fun ty => Lib.run_clear_slice w2 34 45 ty (.slice none 0 0) Try.underlying34 zero45 rfl rfl g i (j - i) (cs - i) (by clear hE; have := HJ.out; have := HDD.out; omega) (fun q hq => (HHr.out.slotCell (i := i + q) (by clear hE; have := HJ.out; have := HI.out; omega)).1) (fun q hq => (HHr.out.slotCell (i := i + q) (by clear hE; have := HJ.out; have := HI.out; omega)).2)
 refine value_ (w1 := ?_) (v := ?_) (by rfl) rfl ?_ ?_
 rotate_left 2
 ·
  go_simp
  constructor
  ·
   rfl
  ·
   rfl
 refine hK.out _ _ ?_
 clear hK K
 refine done_ (by kernel_rfl) ?_
 obtain ⟨hcdr_0, hcdr_1, hcdr_2, hcdr_3, hcdr_4, hcdr_5, hcdr_6, hfdr_0, hfdr_1, hfdr_2, hfdr_3, hfdr_4, hfdr_5, hfdr_6⟩ := cs7 BKdr.out
 (try clear hcdr_0 hfdr_0)
 (try clear hcdr_1 hfdr_1)
 (try clear hcdr_2 hfdr_2)
 (try clear hcdr_3 hfdr_3)
 (try clear hcdr_4 hfdr_4)
 (try clear hcdr_5 hfdr_5)
 (try clear hcdr_6 hfdr_6)
 clear hE
 have K := DiskO.clearSlots (j - i) w2 slots i HHr.out HB.out (by have := HJ.out; have := HI.out; omega)
 generalize w2.setCells g i (List.replicate (j - i) (.slice none 0 0)) = w3 at K ⊢
 clear HHr HB BKdr
 have HHr := Aside0.mk K.1
 have HB := Aside0.mk K.2
 have BKdr := Aside0.mk K.1.2.1
 clear K
 obtain ⟨u0, hcu⟩ := Option.isSome_iff_exists.mp (HHr.out.goneCell (i := xn) (by have := HX.out; have := HLN.out; omega)).1
 have hfu := (HHr.out.goneCell (i := xn) (by have := HX.out; have := HLN.out; omega)).2
 obtain ⟨hcdr_0, hcdr_1, hcdr_2, hcdr_3, hcdr_4, hcdr_5, hcdr_6, hfdr_0, hfdr_1, hfdr_2, hfdr_3, hfdr_4, hfdr_5, hfdr_6⟩ := cs7 BKdr.out
 go_wp2_with (fail)
 go_ret
 have K2 := HHr.out.setGone (i := xn) (x := true)
 have e : j - i = 2 * dn := by have := HJ.out; omega
 rw [e] at K2
 exact ⟨rfl, K2.1.gr HB.out.1 (fun k hk => .inl hk) HH0.out.base_, HB.out.cell K2.2 (HH0.out.base_ g2 K2.2) _⟩
set_option maxHeartbeats 8000000 in
set_option maxRecDepth 100000 in
theorem blank_bad (dr : Nat) (a b c d sz : Int) (As Ag : Option Addr) (n cs m cg : Nat) (x : Int) (w : World) (hR : w.heap[dr]? = some (.cells #[.int .i64 a, .int .i64 b, .int .i64 c, .int .i64 d, .int .i64 sz, .slice As n cs, .slice Ag m cg] 78 (0, 0))) (hm : m ≤ 16) (hd : 0 ≤ d ∧ d ≤ 4096) (hat : atOf m d x 0 0 < 0) : Calls Try.prog 50 #[.pointer (some ⟨dr, 0, none⟩), .int .i64 x] w fun e w' => e = .returned (.int .i64 80) ∧ Below w.heap.size w w' := by
 have HM := Aside0.mk hm
 have HDD := Aside0.mk hd
 have BKdr := Aside0.mk hR
 have HB := Aside0.mk (Below.refl w.heap.size w)
 have f0 : decide (atOf m d x 0 0 < 0) = true := decide_eq_true hat
 clear hR hm hd hat
 obtain ⟨hcdr_0, hcdr_1, hcdr_2, hcdr_3, hcdr_4, hcdr_5, hcdr_6, hfdr_0, hfdr_1, hfdr_2, hfdr_3, hfdr_4, hfdr_5, hfdr_6⟩ := cs7 BKdr.out
 go_enter Try.func50, Try.ntmps50
 have tok1 : True := trivial
 go_wp2_with (first | (have _ := tok1; go_at_call 46; (with_reducible refine (at_yes dr a b c d sz As Ag n cs m cg x 0 0 _ (sB BKdr.out) HM.out HDD.out).mono ?_); rintro e w1 ⟨rfl, hd⟩; have hb := hd.below; (try clear hcdr_0 hfdr_0); (try clear hcdr_1 hfdr_1); (try clear hcdr_2 hfdr_2); (try clear hcdr_3 hfdr_3); (try clear hcdr_4 hfdr_4); (try clear hcdr_5 hfdr_5); (try clear hcdr_6 hfdr_6); have hs : Below w.heap.size w w1 := below_step Lt8.b hb; have SZ1 := Aside0.mk (show w.heap.size ≤ w1.heap.size from hs.size); replace BKdr := Aside0.mk (blk_below BKdr.out hs); replace HB := Aside0.mk (below_step HB.out hs); clear hb hd hs; obtain ⟨hcdr_0, hcdr_1, hcdr_2, hcdr_3, hcdr_4, hcdr_5, hcdr_6, hfdr_0, hfdr_1, hfdr_2, hfdr_3, hfdr_4, hfdr_5, hfdr_6⟩ := cs7 BKdr.out; clear tok1))
 go_ret
 exact ⟨rfl, HB.out⟩
set_option maxHeartbeats 8000000 in
set_option maxRecDepth 100000 in
theorem Wipe_bad (D dr : Nat) (a b c d sz : Int) (off : Bool) (cut wr : Int) (As Ag : Option Addr) (n cs m cg : Nat) (x : Int) (w : World) (hD : w.heap[D]? = some (.cells #[.pointer (some ⟨dr, 0, none⟩), .bool off, .int .i64 cut, .int .i64 wr] 58 (0, 0))) (hR : w.heap[dr]? = some (.cells #[.int .i64 a, .int .i64 b, .int .i64 c, .int .i64 d, .int .i64 sz, .slice As n cs, .slice Ag m cg] 78 (0, 0))) (hm : m ≤ 16) (hd : 0 ≤ d ∧ d ≤ 4096) (hat : atOf m d x 0 0 < 0) : Calls Try.prog 24 #[.pointer (some ⟨D, 0, none⟩), .int .i64 x] w fun e w' => e = .returned (.int .i64 80) ∧ Below w.heap.size w w' := by
 have HM := Aside0.mk hm
 have HDD := Aside0.mk hd
 have HA := Aside0.mk hat
 have BKD := Aside0.mk hD
 have BKdr := Aside0.mk hR
 have HB := Aside0.mk (Below.refl w.heap.size w)
 clear hD hR hm hd hat
 obtain ⟨hcD_0, hcD_1, hcD_2, hcD_3, hfD_0, hfD_1, hfD_2, hfD_3⟩ := cs4 BKD.out
 obtain ⟨hcdr_0, hcdr_1, hcdr_2, hcdr_3, hcdr_4, hcdr_5, hcdr_6, hfdr_0, hfdr_1, hfdr_2, hfdr_3, hfdr_4, hfdr_5, hfdr_6⟩ := cs7 BKdr.out
 go_enter Try.func24, Try.ntmps24
 have tok1 : True := trivial
 go_wp2_with (first | (have _ := tok1; go_at_call 45; (with_reducible refine (made_yes D dr _ _ _ _ (sB BKD.out)).mono ?_); rintro e w1 ⟨rfl, hd⟩; have hb := hd.below; (try clear hcD_0 hfD_0); (try clear hcD_1 hfD_1); (try clear hcD_2 hfD_2); (try clear hcD_3 hfD_3); (try clear hcdr_0 hfdr_0); (try clear hcdr_1 hfdr_1); (try clear hcdr_2 hfdr_2); (try clear hcdr_3 hfdr_3); (try clear hcdr_4 hfdr_4); (try clear hcdr_5 hfdr_5); (try clear hcdr_6 hfdr_6); have hs : Below w.heap.size w w1 := below_step Lt8.b hb; have SZ1 := Aside0.mk (show w.heap.size ≤ w1.heap.size from hs.size); replace BKD := Aside0.mk (blk_below BKD.out hs); replace BKdr := Aside0.mk (blk_below BKdr.out hs); replace HB := Aside0.mk (below_step HB.out hs); clear hb hd hs; obtain ⟨hcD_0, hcD_1, hcD_2, hcD_3, hfD_0, hfD_1, hfD_2, hfD_3⟩ := cs4 BKD.out; obtain ⟨hcdr_0, hcdr_1, hcdr_2, hcdr_3, hcdr_4, hcdr_5, hcdr_6, hfdr_0, hfdr_1, hfdr_2, hfdr_3, hfdr_4, hfdr_5, hfdr_6⟩ := cs7 BKdr.out; clear tok1; have tok2 : True := trivial) | (have _ := tok2; go_at_call 50; (with_reducible refine (blank_bad dr a b c d sz As Ag n cs m cg x _ (sB BKdr.out) HM.out HDD.out HA.out).mono ?_); rintro e w2 ⟨rfl, hb⟩; (try clear hcD_0 hfD_0); (try clear hcD_1 hfD_1); (try clear hcD_2 hfD_2); (try clear hcD_3 hfD_3); (try clear hcdr_0 hfdr_0); (try clear hcdr_1 hfdr_1); (try clear hcdr_2 hfdr_2); (try clear hcdr_3 hfdr_3); (try clear hcdr_4 hfdr_4); (try clear hcdr_5 hfdr_5); (try clear hcdr_6 hfdr_6); have hs : Below w1.heap.size w1 w2 := below_step Lt8.b hb; have SZ2 := Aside0.mk (show w1.heap.size ≤ w2.heap.size from hs.size); replace BKD := Aside0.mk (blk_below BKD.out hs); replace BKdr := Aside0.mk (blk_below BKdr.out hs); replace HB := Aside0.mk (below_step HB.out hs); clear hb hs; (try clear hl); obtain ⟨hcD_0, hcD_1, hcD_2, hcD_3, hfD_0, hfD_1, hfD_2, hfD_3⟩ := cs4 BKD.out; obtain ⟨hcdr_0, hcdr_1, hcdr_2, hcdr_3, hcdr_4, hcdr_5, hcdr_6, hfdr_0, hfdr_1, hfdr_2, hfdr_3, hfdr_4, hfdr_5, hfdr_6⟩ := cs7 BKdr.out; clear tok2))
 go_ret
 exact ⟨rfl, HB.out⟩
set_option maxHeartbeats 8000000 in
set_option maxRecDepth 100000 in
theorem Wipe_good (D dr : Nat) (As Ag : Option Addr) (n cs m cg : Nat) (a b c d sz : Int) (slots : List (List Int)) (gone : List Bool) (off : Bool) (cut wr : Int) (base : Nat) (ok : Nat → Prop) (x : Int) (i : Nat) (w : World) (H : DiskO w base ok D dr As n cs Ag m cg a b c d sz slots gone off cut wr) (hm : m ≤ 16) (hd : 1 ≤ d ∧ d ≤ 4096) (hx : 0 ≤ x ∧ x < m) (hat : atOf m d x 0 0 = (i : Int)) (hi : i + 2 * d.toNat ≤ slots.length) (hsl : slots.length ≤ 1000000) : Calls Try.prog 24 #[.pointer (some ⟨D, 0, none⟩), .int .i64 x] w fun e w' => e = .returned (.int .i64 0) ∧ DiskO w' base (Gr ok w w') D dr As n cs Ag m cg a b c d sz (wipeF [] slots i (2 * d.toNat)) (gone.set x.toNat true) off cut wr ∧ Wrote base ok w w' := by
 have HH0 := Aside0.mk H
 have HHr := Aside0.mk H
 have HM := Aside0.mk hm
 have HDD := Aside0.mk hd
 have HX := Aside0.mk hx
 have HAT := Aside0.mk hat
 have HI := Aside0.mk hi
 have HSL := Aside0.mk hsl
 have HB := Aside0.mk (Wrote.start (ok := ok) (w := w) H.low)
 have BKD := Aside0.mk H.1
 clear H hm hd hx hat hi hsl
 obtain ⟨hcD_0, hcD_1, hcD_2, hcD_3, hfD_0, hfD_1, hfD_2, hfD_3⟩ := cs4 BKD.out
 go_enter Try.func24, Try.ntmps24
 have tok1 : True := trivial
 go_wp2_with (first | (have _ := tok1; go_at_call 45; (with_reducible refine (made_yes D dr _ _ _ _ (sB BKD.out)).mono ?_); rintro e w1 ⟨rfl, hd⟩; have hb := hd.below; (try clear hcD_0 hfD_0); (try clear hcD_1 hfD_1); (try clear hcD_2 hfD_2); (try clear hcD_3 hfD_3); have hs : Below w.heap.size w w1 := below_step Lt8.b hb; have SZ1 := Aside0.mk (show w.heap.size ≤ w1.heap.size from hs.size); replace BKD := Aside0.mk (blk_below BKD.out hs); replace HHr := Aside0.mk (DiskO.below HHr.out hs); replace HB := Aside0.mk (Wrote.below HB.out hs); clear hb hd hs; obtain ⟨hcD_0, hcD_1, hcD_2, hcD_3, hfD_0, hfD_1, hfD_2, hfD_3⟩ := cs4 BKD.out; clear tok1))
 go_wp2_with (go_at_call 50; (with_reducible refine (blank_good D dr As Ag n cs m cg a b c d sz slots gone off cut wr base ok x i _ ?s1 HM.out HDD.out HX.out HAT.out HI.out HSL.out).mono ?_); (case s1 => exact DiskO.below HHr.out Lt8.b); rintro e wh ⟨rfl, hD2, hW2⟩)
 go_ret
 exact ⟨rfl, hD2.gr HB.out.1 (fun k hk => hk.2.elim .inl (fun h => .inr (Nat.le_trans HB.out.size h))) HH0.out.base_, HB.out.then_ hW2 (fun _ hk => .inl hk)⟩
end Go.Proofs.Ytemmhgfjfbdggaa.P

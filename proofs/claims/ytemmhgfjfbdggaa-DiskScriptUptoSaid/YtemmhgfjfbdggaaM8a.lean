import Derived.Test.YtemmhgfjfbdggaaPx0
import Derived.Test.YtemmhgfjfbdggaaP0Steps
import Derived.Test.YtemmhgfjfbdggaaM8h
import Derived.Test.YtemmhgfjfbdggaaPx2
import Derived.Test.YtemmhgfjfbdggaaWArr
namespace Go.Proofs.Ytemmhgfjfbdggaa.P
open Go.RowKit Go.Proofs.YtemmhgfjfbdggaaW.PrintWords Go.Proofs.YtemmhgfjfbdggaaW.PrintLast Go.Proofs.YtemmhgfjfbdggaaW.PrintMore
attribute [local go_sem] max2_int min2_int max_two min_two max_three min_three max_four min_four
set_option linter.unusedVariables false
set_option linter.unusedSimpArgs false
def NoDisk (w : World) (v : Value) : Prop := v = .pointer none ∨ ∃ D, v = .pointer (some ⟨D, 0, none⟩) ∧ w.heap[D]? = some (.cells #[.pointer none, .bool false, .int .i64 0, .int .i64 0] 58 (0, 0))
theorem NoDisk.below {w w' : World} {v : Value} (h : NoDisk w v) (hb : Below w.heap.size w w') : NoDisk w' v := by
 rcases h with h | ⟨D, h, hD⟩
 ·
  exact .inl h
 ·
  exact .inr ⟨D, h, blk_below hD hb⟩
end Go.Proofs.Ytemmhgfjfbdggaa.P
namespace Go.Proofs.Ytemmhgfjfbdggaa.P
open Go.RowKit Go.Proofs.YtemmhgfjfbdggaaW.PrintWords Go.Proofs.YtemmhgfjfbdggaaW.PrintLast Go.Proofs.YtemmhgfjfbdggaaW.PrintMore
attribute [local go_sem] max2_int min2_int max_two min_two max_three min_three max_four min_four
set_option linter.unusedVariables false
set_option linter.unusedSimpArgs false
theorem NoDisk.zero {w : World} {D : Nat} (h : w.heap[D]? = some (.cells #[.pointer none, .bool false, .int .i64 0, .int .i64 0] 58 (0, 0))) : NoDisk w (.pointer (some ⟨D, 0, none⟩)) := Or.inr ⟨D, rfl, h⟩
theorem many (a b c d : Int) (h : okP a b c d = true) : wrap64 (wrap64 ((a + b) * d) * 2) = (a + b) * d * 2 ∧ 0 ≤ (a + b) * d ∧ (a + b) * d ≤ 4096 ∧ 1 ≤ a + b ∧ a + b ≤ 16 := by
 have hp := okP_iff.mp h
 have h1 : 0 ≤ (a + b) * d := Int.mul_nonneg (by omega) (by omega)
 have h2 : (a + b) * d ≤ 16 * d := Int.mul_le_mul_of_nonneg_right (by omega) (by omega)
 refine ⟨?_, h1, by omega, by omega, by omega⟩
 have e : wrap64 ((a + b) * d) = (a + b) * d := by unfold wrap64; omega
 rw [e]
 unfold wrap64
 omega
set_option maxHeartbeats 8000000 in
set_option maxRecDepth 100000 in
theorem New_some (a b c d : Int) (w : World) (hp : okP a b c d = true) : Calls Try.prog 10 #[.agg #[.int .i64 a, .int .i64 b, .int .i64 c, .int .i64 d]] w fun e w' => ∃ (D dr : Nat), e = .returned (.tuple #[.pointer (some ⟨D, 0, none⟩), .int .i64 0]) ∧ w'.heap[D]? = some (.cells #[.pointer (some ⟨dr, 0, none⟩), .bool false, .int .i64 (-1), .int .i64 0] 58 (0, 0)) ∧ Below w.heap.size w w' := by
 have hu23 := Try.underlying23
 have hu58 := Try.underlying58
 have hu78 := Try.underlying78
 have HB := Aside0.mk (Below.refl w.heap.size w)
 have HD := Aside0.mk (show layout_Drives.f a b c d = some (a + b, 0) by unfold layout_Drives.f; rw [if_pos hp])
 have HM := Aside0.mk (many a b c d hp)
 clear hp
 go_enter Try.func10, Try.ntmps10
 have tok1 : True := trivial
 go_wp2_with (first | (have _ := tok1; (with_reducible refine gate_dst (N := 1) rfl ?_); refine box_event rfl (N := 1) rfl (cs := #[.int .i64 a, .int .i64 b, .int .i64 c, .int .i64 d]) (t := 23) (by go_simp; try rfl) ?_; intro g1 hg w1 hbox hb; have hs : Below w.heap.size w w1 := below_step Lt8.b hb; have SZ1 := Aside0.mk (show w.heap.size ≤ g1 ∧ g1 < w1.heap.size from ⟨by rw [hg]; exact (below_size Lt8.b), blk_lt hbox⟩); replace HB := Aside0.mk (below_step HB.out hs); have BKg1 := Aside0.mk hbox; clear hb hbox hg hs; obtain ⟨hcg1_0, hcg1_1, hcg1_2, hcg1_3, hfg1_0, hfg1_1, hfg1_2, hfg1_3⟩ := cs4 BKg1.out; clear tok1; have tok2 : True := trivial) | (have _ := tok2; go_at_call 42; (with_reducible refine (layout_Drives.calls a b c d (a + b) 0 _ HD.out).mono ?_); rintro e w2 ⟨rfl, hb⟩; (try clear hcg1_0 hfg1_0); (try clear hcg1_1 hfg1_1); (try clear hcg1_2 hfg1_2); (try clear hcg1_3 hfg1_3); have hs : Below w1.heap.size w1 w2 := below_step Lt8.b hb; have SZ2 := Aside0.mk (show w1.heap.size ≤ w2.heap.size from hs.size); replace BKg1 := Aside0.mk (blk_below BKg1.out hs); replace HB := Aside0.mk (below_step HB.out hs); clear hb hs; (try clear hl); obtain ⟨hcg1_0, hcg1_1, hcg1_2, hcg1_3, hfg1_0, hfg1_1, hfg1_2, hfg1_3⟩ := cs4 BKg1.out; clear tok2))
 (try clear hcg1_0 hfg1_0)
 (try clear hcg1_1 hfg1_1)
 (try clear hcg1_2 hfg1_2)
 (try clear hcg1_3 hfg1_3)
 have hs : Below w2.heap.size w2 (World.drew w2) := below_drew1 (Below.refl _ _)
 replace BKg1 := Aside0.mk (blk_below BKg1.out hs)
 replace HB := Aside0.mk (below_step HB.out hs)
 clear hs
 refine start_ (n := 18) (S := fun w' => w'.cell? ⟨g1, 0, none⟩ = some (.int .i64 a) ∧ w'.cell? ⟨g1, 1, none⟩ = some (.int .i64 b) ∧ w'.cell? ⟨g1, 2, none⟩ = some (.int .i64 c) ∧ w'.cell? ⟨g1, 3, none⟩ = some (.int .i64 d)) (ds := []) #[O,O,O,O,O,O,O,O,O,O,O,O,O,O,O,O,O,O] (by kernel_rfl) rfl rfl ⟨(blk_cell BKg1.out 0).trans rfl, (blk_cell BKg1.out 1).trans rfl, (blk_cell BKg1.out 2).trans rfl, (blk_cell BKg1.out 3).trans rfl⟩ (fun hHeld => ?_)
 generalize World.drew w2 = w3 at HB BKg1 hHeld ⊢
 refine pv 1 16 ?_ #[O,X,O,O,O,O,O,O,O,O,O,O,O,O,O,O,O,O] rfl rfl (by kernel_rfl) (fun _ _ _ h => h) ⟨by rfl, ?_⟩ ?_ ?_ ?_; rotate_left; (intro w'; go_simp; with_reducible rfl); rotate_left; (simp only [sP]; rfl)
 refine pv 2 17 ?_ #[O,X,X,O,O,O,O,O,O,O,O,O,O,O,O,O,O,O] rfl rfl (by kernel_rfl) (fun _ _ _ h => h) ⟨by rfl, ?_⟩ ?_ ?_ ?_; rotate_left; (intro w'; go_simp; with_reducible rfl); rotate_left; (simp only [sP]; rfl)
 refine pv 3 18 ?_ #[O,X,X,X,O,O,O,O,O,O,O,O,O,O,O,O,O,O] rfl rfl (by kernel_rfl) (fun _ _ _ h => h) ⟨by rfl, ?_⟩ ?_ ?_ ?_; rotate_left; (intro w'; go_simp; with_reducible rfl); rotate_left; (simp only [sP]; rfl)
 refine pv 4 19 ?_ #[O,X,X,X,X,O,O,O,O,O,O,O,O,O,O,O,O,O] rfl rfl (by kernel_rfl) (fun _ _ _ h => h) ⟨by rfl, ?_⟩ ?_ ?_ ?_; rotate_left; (intro w'; go_simp; with_reducible rfl); rotate_left; (simp only [sP]; rfl)
 refine pv 7 22 ?_ #[O,X,X,X,X,O,O,X,O,O,O,O,O,O,O,O,O,O] rfl rfl (by kernel_rfl) (fun _ _ _ h => h) ⟨by rfl, ?_⟩ ?_ ?_ ?_; rotate_left; (intro w'; go_simp; with_reducible rfl); rotate_left; (simp only [sP]; rfl)
 refine pv 8 23 ?_ #[O,X,X,X,X,O,O,X,X,O,O,O,O,O,O,O,O,O] rfl rfl (by kernel_rfl) (fun _ _ _ h => h) ⟨by rfl, ?_⟩ ?_ ?_ ?_; rotate_left; (intro w'; go_simp; with_reducible rfl); rotate_left; (simp only [sP]; rfl)
 refine pv 13 28 ?_ #[O,X,X,X,X,O,O,X,X,O,O,O,O,X,O,O,O,O] rfl rfl (by kernel_rfl) (fun _ _ _ h => h) ⟨by rfl, ?_⟩ ?_ ?_ ?_; rotate_left; (intro w'; go_simp; with_reducible rfl); rotate_left; (simp only [sP]; rfl)
 refine tv 0 15 ?_ #[X,X,X,X,X,O,O,X,X,O,O,O,O,X,O,O,O,O] rfl rfl (by kernel_rfl) (fun _ _ _ h => h) ⟨by rfl, ?_⟩ hHeld ?_ ?_ ?_; rotate_left; (rintro w' ⟨s0, s1, s2, s3⟩; go_simp; with_reducible rfl); rotate_left; (simp only [sP]; rfl)
 refine tv 5 20 ?_ #[X,X,X,X,X,X,O,X,X,O,O,O,O,X,O,O,O,O] rfl rfl (by kernel_rfl) (fun _ _ _ h => h) ⟨by rfl, ?_⟩ hHeld ?_ ?_ ?_; rotate_left; (rintro w' ⟨s0, s1, s2, s3⟩; go_simp; with_reducible rfl); rotate_left; (simp only [sP]; rfl)
 refine pv 6 21 ?_ #[X,X,X,X,X,X,X,X,X,O,O,O,O,X,O,O,O,O] rfl rfl (by kernel_rfl) (fun _ _ _ h => h) ⟨by rfl, ?_⟩ ?_ ?_ ?_; rotate_left; (intro w'; go_simp; with_reducible rfl); rotate_left; (simp only [sP]; rfl)
 refine tv 9 24 ?_ #[X,X,X,X,X,X,X,X,X,X,O,O,O,X,O,O,O,O] rfl rfl (by kernel_rfl) (fun _ _ _ h => h) ⟨by rfl, ?_⟩ hHeld ?_ ?_ ?_; rotate_left; (rintro w' ⟨s0, s1, s2, s3⟩; go_simp; with_reducible rfl); rotate_left; (simp only [sP]; rfl)
 refine pv 10 25 ?_ #[X,X,X,X,X,X,X,X,X,X,X,O,O,X,O,O,O,O] rfl rfl (by kernel_rfl) (fun _ _ _ h => h) ⟨by rfl, ?_⟩ ?_ ?_ ?_; rotate_left; (intro w'; go_simp; with_reducible rfl); rotate_left; (simp only [sP]; rfl)
 refine pv 11 26 ?_ #[X,X,X,X,X,X,X,X,X,X,X,X,O,X,O,O,O,O] rfl rfl (by kernel_rfl) (fun _ _ _ h => h) ⟨by rfl, ?_⟩ ?_ ?_ ?_; rotate_left; (intro w'; go_simp; with_reducible rfl); rotate_left; (simp only [sP]; rfl)
 refine join_ (σ := Value × Value) 3 #[X,X,X,X,X,X,X,X,X,X,X,X,X,X,X,O,O,O] (fun s => [(27, s.1), (29, s.2)]) (fun s w' => (∃ A n c, s.1 = Value.slice A n c) ∧ (∃ A n c, s.2 = Value.slice A n c) ∧ w'.heap[g1]? = some (.cells #[.int .i64 a, .int .i64 b, .int .i64 c, .int .i64 d] 23 (0, 0)) ∧ Below w.heap.size w w') ?_ ?_
 rotate_left
 ·
  intro hCont
  refine two_ (i := 12) (j := 14) (Ni := some 27) (Nj := some 29) #[X,X,X,X,X,X,X,X,X,X,X,X,X,X,O,O,O,O] #[X,X,X,X,X,X,X,X,X,X,X,X,O,X,X,O,O,O] rfl rfl rfl rfl (by kernel_rfl) (by decide) (by decide) (fun K hK => ?_) (fun K hK => ?_)
  ·
   skip
   refine Kd.R_make_step (Kd.slice 5 (Kd.int .u8)) _ 45 (by rfl) (N := 27) rfl 34 _ _ rfl _ rfl rfl Try.underlying34 (.slice none 0 0) 24 info45 rfl (by decide) (by omega) ([] : List Int) (ok := fun _ => True) (okp := fun _ => True) ⟨_, rfl, Kd.R_nil _ _ _ _ _⟩ (fun _ hk => hk) trivial (by have := HM.out; rw [this.1]; omega) (by have := HM.out; rw [this.1]; omega) (Below.refl _ _) (Nat.le_refl _) ?_
   intro vm12 wm12_0 ho hb hg_ hnew_
   obtain ⟨A_, c_, e_⟩ := Kd.R_slice ho
   have hv12 : ∃ A n c, vm12 = .slice A n c := ⟨_, _, _, e_⟩
   clear ho hg_ hnew_
   have n_ := Aside0.mk (blk_below BKg1.out hb)
   have m_ := Aside0.mk (below_step HB.out hb)
   clear BKg1 HB hb
   have BKg1 := n_
   have HB := m_
   clear n_ m_
   refine hK.out _ _ ⟨(blk_cell BKg1.out 0).trans rfl, (blk_cell BKg1.out 1).trans rfl, (blk_cell BKg1.out 2).trans rfl, (blk_cell BKg1.out 3).trans rfl⟩ (fun hHeld => ?_)
   clear hK K
   refine norm_ (a' := ?_) ?_ ?_
   rotate_left
   ·
    show Act.put _ (some 27) _ = _
    simp only [sP]
    rfl
   refine one_ (i := 14) (N := some 29) #[X,X,X,X,X,X,X,X,X,X,X,X,X,X,X,O,O,O] rfl rfl (by kernel_rfl) (by decide) (fun K hK => ?_)
   refine Kd.R_make_step Kd.bool _ 4 (by rfl) (N := 29) rfl 76 _ _ rfl _ rfl rfl Try.underlying76 (.bool false) 1 info4 rfl (by decide) (by omega) false (ok := fun _ => True) (okp := fun _ => True) rfl (fun _ hk => hk) trivial (by have := HM.out; omega) (by have := HM.out; omega) (Below.refl _ _) (Nat.le_refl _) ?_
   intro vm14 wm14_1 ho hb hg_ hnew_
   obtain ⟨A_, c_, e_⟩ := Kd.R_slice ho
   have hv14 : ∃ A n c, vm14 = .slice A n c := ⟨_, _, _, e_⟩
   clear ho hg_ hnew_
   have n_ := Aside0.mk (blk_below BKg1.out hb)
   have m_ := Aside0.mk (below_step HB.out hb)
   clear BKg1 HB hb
   have BKg1 := n_
   have HB := m_
   clear n_ m_
   refine hK.out _ _ ⟨(blk_cell BKg1.out 0).trans rfl, (blk_cell BKg1.out 1).trans rfl, (blk_cell BKg1.out 2).trans rfl, (blk_cell BKg1.out 3).trans rfl⟩ (fun hHeld => ?_)
   clear hK K
   refine norm_ (a' := ?_) ?_ ?_
   rotate_left
   ·
    show Act.put _ (some 29) _ = _
    simp only [sP]
    rfl
   exact norm_ (by simp only [putAll, Act.put, List.setIfInBounds_toArray, List.set_cons_zero, List.set_cons_succ]) (hCont (vm12, vm14) _ ⟨hv12, hv14, BKg1.out, HB.out⟩)
  ·
   skip
   refine Kd.R_make_step Kd.bool _ 4 (by rfl) (N := 29) rfl 76 _ _ rfl _ rfl rfl Try.underlying76 (.bool false) 1 info4 rfl (by decide) (by omega) false (ok := fun _ => True) (okp := fun _ => True) rfl (fun _ hk => hk) trivial (by have := HM.out; omega) (by have := HM.out; omega) (Below.refl _ _) (Nat.le_refl _) ?_
   intro vm14 wm14_0 ho hb hg_ hnew_
   obtain ⟨A_, c_, e_⟩ := Kd.R_slice ho
   have hv14 : ∃ A n c, vm14 = .slice A n c := ⟨_, _, _, e_⟩
   clear ho hg_ hnew_
   have n_ := Aside0.mk (blk_below BKg1.out hb)
   have m_ := Aside0.mk (below_step HB.out hb)
   clear BKg1 HB hb
   have BKg1 := n_
   have HB := m_
   clear n_ m_
   refine hK.out _ _ ⟨(blk_cell BKg1.out 0).trans rfl, (blk_cell BKg1.out 1).trans rfl, (blk_cell BKg1.out 2).trans rfl, (blk_cell BKg1.out 3).trans rfl⟩ (fun hHeld => ?_)
   clear hK K
   refine norm_ (a' := ?_) ?_ ?_
   rotate_left
   ·
    show Act.put _ (some 29) _ = _
    simp only [sP]
    rfl
   refine one_ (i := 12) (N := some 27) #[X,X,X,X,X,X,X,X,X,X,X,X,X,X,X,O,O,O] rfl rfl (by kernel_rfl) (by decide) (fun K hK => ?_)
   refine Kd.R_make_step (Kd.slice 5 (Kd.int .u8)) _ 45 (by rfl) (N := 27) rfl 34 _ _ rfl _ rfl rfl Try.underlying34 (.slice none 0 0) 24 info45 rfl (by decide) (by omega) ([] : List Int) (ok := fun _ => True) (okp := fun _ => True) ⟨_, rfl, Kd.R_nil _ _ _ _ _⟩ (fun _ hk => hk) trivial (by have := HM.out; rw [this.1]; omega) (by have := HM.out; rw [this.1]; omega) (Below.refl _ _) (Nat.le_refl _) ?_
   intro vm12 wm12_1 ho hb hg_ hnew_
   obtain ⟨A_, c_, e_⟩ := Kd.R_slice ho
   have hv12 : ∃ A n c, vm12 = .slice A n c := ⟨_, _, _, e_⟩
   clear ho hg_ hnew_
   have n_ := Aside0.mk (blk_below BKg1.out hb)
   have m_ := Aside0.mk (below_step HB.out hb)
   clear BKg1 HB hb
   have BKg1 := n_
   have HB := m_
   clear n_ m_
   refine hK.out _ _ ⟨(blk_cell BKg1.out 0).trans rfl, (blk_cell BKg1.out 1).trans rfl, (blk_cell BKg1.out 2).trans rfl, (blk_cell BKg1.out 3).trans rfl⟩ (fun hHeld => ?_)
   clear hK K
   refine norm_ (a' := ?_) ?_ ?_
   rotate_left
   ·
    show Act.put _ (some 27) _ = _
    simp only [sP]
    rfl
   exact norm_ (by simp only [putAll, Act.put, List.setIfInBounds_toArray, List.set_cons_zero, List.set_cons_succ]) (hCont (vm12, vm14) _ ⟨hv12, hv14, BKg1.out, HB.out⟩)
 rintro ⟨v27, v29⟩ wf ⟨⟨A7, n7, c7, e7⟩, ⟨A9, n9, c9, e9⟩, hbk, hbw⟩
 obtain rfl : v27 = .slice A7 n7 c7 := e7
 obtain rfl : v29 = .slice A9 n9 c9 := e9
 clear BKg1 HB
 have BKg1 := Aside0.mk hbk
 have HB := Aside0.mk hbw
 clear hbk hbw
 have hHeld : (fun w' => w'.cell? ⟨g1, 0, none⟩ = some (.int .i64 a) ∧ w'.cell? ⟨g1, 1, none⟩ = some (.int .i64 b) ∧ w'.cell? ⟨g1, 2, none⟩ = some (.int .i64 c) ∧ w'.cell? ⟨g1, 3, none⟩ = some (.int .i64 d)) wf := ⟨(blk_cell BKg1.out 0).trans rfl, (blk_cell BKg1.out 1).trans rfl, (blk_cell BKg1.out 2).trans rfl, (blk_cell BKg1.out 3).trans rfl⟩
 refine norm_ (a' := ?_) ?_ ?_
 rotate_left
 ·
  simp only [putAll, Act.put, List.setIfInBounds_toArray, List.set_cons_zero, List.set_cons_succ]
  rfl
 refine pv 15 30 ?_ #[X,X,X,X,X,X,X,X,X,X,X,X,X,X,X,X,O,O] rfl rfl (by kernel_rfl) (fun _ _ _ h => h) ⟨by rfl, ?_⟩ ?_ ?_ ?_; rotate_left; (intro w'; go_simp; with_reducible rfl); rotate_left; (simp only [sP]; rfl)
 refine one_ (i := 16) (N := some 31) #[X,X,X,X,X,X,X,X,X,X,X,X,X,X,X,X,X,O] rfl rfl (by kernel_rfl) (by decide) (fun K hK => ?_)
 refine box_step (by rfl) (N := 31) rfl (cs := #[.int .i64 a, .int .i64 b, .int .i64 c, .int .i64 d, .int .i64 (wrap64 (wrap64 (12 + wrap64 (4 * (a + b))) + c)), .slice A7 n7 c7, .slice A9 n9 c9]) (t := 78) ?hr ?_
 (case hr => first | (go_simp; done) | (go_simp; rfl))
 intro g6 hg w8 hbox hb
 have n_ := Aside0.mk (blk_below BKg1.out hb)
 have m_ := Aside0.mk (below_step HB.out hb)
 clear BKg1 HB
 have BKg1 := n_
 have HB := m_
 clear n_ m_ hb hg hbox
 refine hK.out _ _ ⟨(blk_cell BKg1.out 0).trans rfl, (blk_cell BKg1.out 1).trans rfl, (blk_cell BKg1.out 2).trans rfl, (blk_cell BKg1.out 3).trans rfl⟩ (fun hHeld => ?_)
 clear hK K
 refine norm_ (a' := ?_) ?_ ?_
 rotate_left
 ·
  show Act.put _ (some 31) _ = _
  simp only [sP]
  rfl
 refine pv 17 6 ?_ #[X,X,X,X,X,X,X,X,X,X,X,X,X,X,X,X,X,X] rfl rfl (by kernel_rfl) (fun _ _ _ h => h) ⟨by rfl, ?_⟩ ?_ ?_ ?_; rotate_left; (intro w'; go_simp; with_reducible rfl); rotate_left; (simp only [sP]; rfl)
 refine done_ (by kernel_rfl) ?_
 clear BKg1
 have HS8 := Aside0.mk (show w.heap.size ≤ w8.heap.size from HB.out.size)
 have tok3 : True := trivial
 go_wp2_with (first | (have _ := tok3; (with_reducible refine gate_dst (N := 34) rfl ?_); refine box_event rfl (N := 34) rfl (cs := #[.pointer (some ⟨g6, 0, none⟩), .bool false, .int .i64 (-1), .int .i64 0]) (t := 58) (by go_simp; try rfl) ?_; intro g9 hg w4 hbox hb; have hs : Below w8.heap.size w8 w4 := below_step Lt8.b hb; have SZ4 := Aside0.mk (show w8.heap.size ≤ g9 ∧ g9 < w4.heap.size from ⟨by rw [hg]; exact (below_size Lt8.b), blk_lt hbox⟩); replace HB := Aside0.mk (below_step HB.out hs); have BKg9 := Aside0.mk hbox; clear hb hbox hg hs; obtain ⟨hcg9_0, hcg9_1, hcg9_2, hcg9_3, hfg9_0, hfg9_1, hfg9_2, hfg9_3⟩ := cs4 BKg9.out; clear tok3))
 go_ret2
 exact ⟨_, rfl, ⟨_, BKg9.out⟩, HB.out⟩
set_option maxHeartbeats 4000000 in
set_option maxRecDepth 100000 in
theorem made_yes (D dr : Nat) (x y z : Value) (w : World) (hD : w.heap[D]? = some (.cells #[.pointer (some ⟨dr, 0, none⟩), x, y, z] 58 (0, 0))) : Calls Try.prog 45 #[.pointer (some ⟨D, 0, none⟩)] w fun e w' => e = .returned (.bool true) ∧ Drawn0 w w' := by
 have hc0 : w.cell? ⟨D, 0, none⟩ = some (.pointer (some ⟨dr, 0, none⟩)) := (blk_cell hD 0).trans rfl
 have hf0 := blk_frozen hD 0
 clear hD
 go_enter Try.func45, Try.ntmps45
 go_wp2
 go_ret
 exact ⟨rfl, Drawn0.refl _⟩
set_option maxHeartbeats 4000000 in
set_option maxRecDepth 100000 in
theorem Writes_yes (D dr : Nat) (o : Bool) (y : Value) (n : Int) (w : World) (hD : w.heap[D]? = some (.cells #[.pointer (some ⟨dr, 0, none⟩), .bool o, y, .int .i64 n] 58 (0, 0))) : Calls Try.prog 20 #[.pointer (some ⟨D, 0, none⟩)] w fun e w' => e = .returned (.int .i64 n) ∧ Below w.heap.size w w' := by
 have HN := Aside0.mk hD
 have HB := Aside0.mk (Below.refl w.heap.size w)
 have hc : w.cell? ⟨D, 3, none⟩ = some (.int .i64 n) := (blk_cell hD 3).trans rfl
 have hf := blk_frozen hD 3
 clear hD
 go_enter Try.func20, Try.ntmps20
 go_wp2_with (go_at_call 45; (with_reducible refine (made_yes D dr _ _ _ _ (blk_below HN.out Lt8.b)).mono ?_); rintro e w1 ⟨rfl, ⟨nd, rfl⟩⟩)
 go_ret
 exact ⟨rfl, (sH HB.out)⟩
set_option maxHeartbeats 4000000 in
set_option maxRecDepth 100000 in
theorem Off_yes (D dr : Nat) (o : Bool) (y : Value) (n : Int) (w : World) (hD : w.heap[D]? = some (.cells #[.pointer (some ⟨dr, 0, none⟩), .bool o, y, .int .i64 n] 58 (0, 0))) : Calls Try.prog 19 #[.pointer (some ⟨D, 0, none⟩)] w fun e w' => e = .returned (.bool o) ∧ Below w.heap.size w w' := by
 have HN := Aside0.mk hD
 have HB := Aside0.mk (Below.refl w.heap.size w)
 have hc : w.cell? ⟨D, 1, none⟩ = some (.bool o) := (blk_cell hD 1).trans rfl
 have hf := blk_frozen hD 1
 clear hD
 go_enter Try.func19, Try.ntmps19
 go_wp2_with (go_at_call 45; (with_reducible refine (made_yes D dr _ _ _ _ (blk_below HN.out Lt8.b)).mono ?_); rintro e w1 ⟨rfl, ⟨nd, rfl⟩⟩)
 go_ret
 exact ⟨rfl, (sH HB.out)⟩
set_option maxHeartbeats 8000000 in
set_option maxRecDepth 100000 in
theorem awake_ev (w : World) : Calls Try.prog 8 #[] w fun e w' => e = .returned (.bool true) ∧ Below w.heap.size w w' := by
 have HB := Aside0.mk (Below.refl w.heap.size w)
 have HP := Aside0.mk (show okP 2 1 16 8 = true by decide)
 go_enter Try.func8, Try.ntmps8
 have tok1 : True := trivial
 go_wp2_with (first | (have _ := tok1; go_at_call 10; (with_reducible refine (New_some 2 1 16 8 _ HP.out).mono ?_); rintro e w1 ⟨D, dr, rfl, hD, hb⟩; have hs : Below w.heap.size w w1 := below_step Lt8.b hb; have SZ1 := Aside0.mk (show w.heap.size ≤ w1.heap.size from hs.size); replace HB := Aside0.mk (below_step HB.out hs); have BKD := Aside0.mk hD; clear hD; clear hb hs; (try clear hl); clear tok1; have tok2 : True := trivial) | (have _ := tok2; go_at_call 20; (with_reducible refine (Writes_yes D dr false _ 0 _ (sB BKD.out)).mono ?_); rintro e w2 ⟨rfl, hb⟩; (try clear hcD_0 hfD_0); (try clear hcD_1 hfD_1); (try clear hcD_2 hfD_2); (try clear hcD_3 hfD_3); have hs : Below w1.heap.size w1 w2 := below_step Lt8.b hb; have SZ2 := Aside0.mk (show w1.heap.size ≤ w2.heap.size from hs.size); replace BKD := Aside0.mk (blk_below BKD.out hs); replace HB := Aside0.mk (below_step HB.out hs); clear hb hs; (try clear hl); obtain ⟨hcD_0, hcD_1, hcD_2, hcD_3, hfD_0, hfD_1, hfD_2, hfD_3⟩ := cs4 BKD.out; clear tok2; have tok3 : True := trivial) | (have _ := tok3; go_at_call 19; (with_reducible refine (Off_yes D dr false _ 0 _ (sB BKD.out)).mono ?_); rintro e w3 ⟨rfl, hb⟩; (try clear hcD_0 hfD_0); (try clear hcD_1 hfD_1); (try clear hcD_2 hfD_2); (try clear hcD_3 hfD_3); have hs : Below w2.heap.size w2 w3 := below_step Lt8.b hb; have SZ3 := Aside0.mk (show w2.heap.size ≤ w3.heap.size from hs.size); replace BKD := Aside0.mk (blk_below BKD.out hs); replace HB := Aside0.mk (below_step HB.out hs); clear hb hs; (try clear hl); obtain ⟨hcD_0, hcD_1, hcD_2, hcD_3, hfD_0, hfD_1, hfD_2, hfD_3⟩ := cs4 BKD.out; clear tok3))
 go_ret
 exact ⟨rfl, HB.out⟩
end Go.Proofs.Ytemmhgfjfbdggaa.P
namespace Go.Proofs.Ytemmhgfjfbdggaa.P
open Go.RowKit Go.Proofs.YtemmhgfjfbdggaaW.PrintWords Go.Proofs.YtemmhgfjfbdggaaW.PrintLast Go.Proofs.YtemmhgfjfbdggaaW.PrintMore
attribute [local go_sem] max2_int min2_int max_two min_two max_three min_three max_four min_four
set_option linter.unusedVariables false
set_option linter.unusedSimpArgs false
def sizeOf08 (a b c : Int) : Int := wrap64 (wrap64 (12 + wrap64 (4 * (a + b))) + c)
end Go.Proofs.Ytemmhgfjfbdggaa.P
namespace Go.Proofs.Ytemmhgfjfbdggaa.P
open Go.RowKit Go.Proofs.YtemmhgfjfbdggaaW.PrintWords Go.Proofs.YtemmhgfjfbdggaaW.PrintLast Go.Proofs.YtemmhgfjfbdggaaW.PrintMore
attribute [local go_sem] max2_int min2_int max_two min_two max_three min_three max_four min_four
set_option linter.unusedVariables false
set_option linter.unusedSimpArgs false
theorem R_put_row {α : Type} {d : Kd α} {e e' base g n cap i : Nat} {ok : Nat → Prop} {W : World} {xs : List (List α)} {x : List α} {v : Value}
  (h : (Kd.slice e' d).R e W base ok (.slice (some ⟨g, 0, none⟩) n cap) xs) (hi : i < xs.length) (hv : d.R e' W base (fun k => ok k ∧ k ≠ g) v x) :
  (Kd.slice e' d).R e (W.setCell ⟨g, i, none⟩ v) base ok (.slice (some ⟨g, 0, none⟩) n cap) (xs.set i x) ∧ W.grownBy (W.setCell ⟨g, i, none⟩ v) (some g) := by
 obtain ⟨rfl, _⟩ := Kd.R_reads' h
 obtain ⟨h0, inner, hown, hr⟩ := h
 have hs := hown.stored i v
 refine ⟨⟨h0, inner.set i v, by rw [List.length_set]; exact hs.1, ?_⟩, hs.2⟩
 have hg : ∀ k, some k ≠ (Value.slice (some ⟨g, 0, none⟩) xs.length cap).ownBlock → k ≠ g := fun k hk e => hk (by rw [e]; rfl)
 have hr' : Reps ((Kd.slice e' d).M (W.setCell ⟨g, i, none⟩ v) base (fun k => ok k ∧ some k ≠ (Value.slice (some ⟨g, 0, none⟩) xs.length cap).ownBlock)) 1 xs inner := by
  refine Reps.imp_ hr (fun p c hp => ?_)
  obtain ⟨u, e, hR⟩ := hp
  exact ⟨u, e, Kd.R_far hR (p := ⟨g, i, none⟩) (fun k hk => hg k hk.2) v⟩
 have hx : (Kd.slice e' d).M (W.setCell ⟨g, i, none⟩ v) base (fun k => ok k ∧ some k ≠ (Value.slice (some ⟨g, 0, none⟩) xs.length cap).ownBlock) x [v] :=
  ⟨v, rfl, Kd.R_far (Kd.R_mono hv (fun k hk => ⟨hk.1, fun e => hk.2 (by injection e)⟩)) (p := ⟨g, i, none⟩) (fun k hk => hg k hk.2) v⟩
 have := Kd.reps_set hr' hi hx rfl
 have e2 : inner.set i v = inner.take (i * 1) ++ [v] ++ inner.drop (i * 1 + [v].length) := by
  have hl : i < inner.length := by have := hr.1; simp only [Kd.slice, Nat.mul_one] at this; omega
  rw [List.set_eq_take_append_cons_drop, if_pos hl]
  simp
 rw [e2]
 exact this
theorem R_cell_row {α : Type} {d : Kd α} {e e' base g n cap i : Nat} {ok : Nat → Prop} {W : World} {xs : List (List α)}
  (h : (Kd.slice e' d).R e W base ok (.slice (some ⟨g, 0, none⟩) n cap) xs) (hi : i < xs.length) : ∃ u, W.cell? ⟨g, i, none⟩ = some u ∧ W.frozen? ⟨g, i, none⟩ = false := by
 obtain ⟨rfl, _⟩ := Kd.R_reads' h
 obtain ⟨h0, inner, hown, hr⟩ := h
 have hl : inner.length = xs.length := by
  have := hr.1
  simpa [Kd.slice] using this
 refine ⟨inner[i]'(by omega), ?_, World.ownsRow.frozenAt hown i⟩
 rw [World.ownsRow.cellAt hown i (by simpa [Kd.slice] using hi)]
 simp
theorem bytes_elem {w : World} {A : Option Addr} {l : List (List Int)} (h : Kd.C (Kd.slice 5 (Kd.int .u8)) w A l.length l) (k : Nat) (hk : k < l.length) :
  ∃ (ad : Addr) (x : List Int), A = some ad ∧ l.take (k + 1) = l.take k ++ [x] ∧ x ∈ l ∧ ∃ B c, w.cell? (ad.add k) = some (.slice B x.length c) ∧ x.length ≤ c ∧ Kd.C (Kd.int .u8) w B x.length x := by
 obtain ⟨ad, cs, e, hl, hK, hc⟩ := Kd.C_get h [] (k : Int) (by omega) (by omega)
 obtain ⟨B, c, rfl, hle, hC⟩ := hK
 have e1 : l.getD ((k : Int).toNat) [] = l[k] := by simp [hk]
 rw [e1] at hle hC hc
 refine ⟨ad, l[k], e, List.take_succ_eq_append_getElem hk, List.getElem_mem hk, B, c, ?_, hle, hC⟩
 have := hc 0 _ rfl
 simpa [Kd.slice] using this
theorem filled_step (l : List (List Int)) (k : Nat) (x : List Int) (hk : k < l.length) (e : l.take (k + 1) = l.take k ++ [x]) :
  (l.take k ++ List.replicate (l.length - k) []).set k x = l.take (k + 1) ++ List.replicate (l.length - (k + 1)) [] := by
 have hl : (l.take k).length = k := by rw [List.length_take]; omega
 rw [show l.length - k = (l.length - (k + 1)) + 1 by omega, List.replicate_succ, List.set_append_right _ _ (by omega), hl, Nat.sub_self, List.set_cons_zero, e, List.append_assoc]
 rfl
set_option maxHeartbeats 8000000 in
set_option maxRecDepth 100000 in
theorem Params_yes (D dr : Nat) (a b c d sz : Int) (off : Bool) (cut wr : Int) (As Ag : Option Addr) (ns cs ng cg : Nat) (w : World) (hD : w.heap[D]? = some (.cells #[.pointer (some ⟨dr, 0, none⟩), .bool off, .int .i64 cut, .int .i64 wr] 58 (0, 0))) (hR : w.heap[dr]? = some (.cells #[.int .i64 a, .int .i64 b, .int .i64 c, .int .i64 d, .int .i64 sz, .slice As ns cs, .slice Ag ng cg] 78 (0, 0))) : Calls Try.prog 27 #[.pointer (some ⟨D, 0, none⟩)] w fun e w' => e = .returned (.tuple #[.agg #[.int .i64 a, .int .i64 b, .int .i64 c, .int .i64 d], .int .i64 0]) ∧ Below w.heap.size w w' := by
 have hu := Try.underlying23
 have HB := Aside0.mk (Below.refl w.heap.size w)
 have BKD := Aside0.mk hD
 have BKdr := Aside0.mk hR
 have HZ1 := Aside0.mk (show D < w.heap.size from blk_lt hD)
 have HZ2 := Aside0.mk (show dr < w.heap.size from blk_lt hR)
 have hneDd : D ≠ dr := by
  intro e
  subst e
  rw [hD] at hR
  simp at hR
 have hnedD : dr ≠ D := hneDd.symm
 clear hD hR
 obtain ⟨hcD_0, hcD_1, hcD_2, hcD_3, hfD_0, hfD_1, hfD_2, hfD_3⟩ := cs4 BKD.out
 obtain ⟨hcdr_0, hcdr_1, hcdr_2, hcdr_3, hcdr_4, hcdr_5, hcdr_6, hfdr_0, hfdr_1, hfdr_2, hfdr_3, hfdr_4, hfdr_5, hfdr_6⟩ := cs7 BKdr.out
 go_enter Try.func27, Try.ntmps27
 have tok1 : True := trivial
 go_wp2_with (first | (have _ := tok1; (with_reducible refine gate_dst (N := 2) rfl ?_); refine box_event rfl (N := 2) rfl (cs := #[.int .i64 0, .int .i64 0, .int .i64 0, .int .i64 0]) (t := 23) (by go_simp; try rfl) ?_; intro g2 hg w1 hbox hb; have hs : Below w.heap.size w w1 := below_step Lt8.b hb; have SZ1 := Aside0.mk (show w.heap.size ≤ g2 ∧ g2 < w1.heap.size from ⟨by rw [hg]; exact (below_size Lt8.b), blk_lt hbox⟩); (try clear hcD_0 hfD_0); (try clear hcD_1 hfD_1); (try clear hcD_2 hfD_2); (try clear hcD_3 hfD_3); (try clear hcdr_0 hfdr_0); (try clear hcdr_1 hfdr_1); (try clear hcdr_2 hfdr_2); (try clear hcdr_3 hfdr_3); (try clear hcdr_4 hfdr_4); (try clear hcdr_5 hfdr_5); (try clear hcdr_6 hfdr_6); replace BKD := Aside0.mk (blk_below BKD.out hs); replace BKdr := Aside0.mk (blk_below BKdr.out hs); replace HB := Aside0.mk (below_step HB.out hs); have hneD_g2 : D ≠ g2 := (by have := SZ1.out; have := HZ1.out; have := HZ2.out; omega); have hneg2_D : g2 ≠ D := hneD_g2.symm; have hnedr_g2 : dr ≠ g2 := (by have := SZ1.out; have := HZ1.out; have := HZ2.out; omega); have hneg2_dr : g2 ≠ dr := hnedr_g2.symm; have BKg2 := Aside0.mk hbox; clear hb hbox hg hs; obtain ⟨hcD_0, hcD_1, hcD_2, hcD_3, hfD_0, hfD_1, hfD_2, hfD_3⟩ := cs4 BKD.out; obtain ⟨hcdr_0, hcdr_1, hcdr_2, hcdr_3, hcdr_4, hcdr_5, hcdr_6, hfdr_0, hfdr_1, hfdr_2, hfdr_3, hfdr_4, hfdr_5, hfdr_6⟩ := cs7 BKdr.out; obtain ⟨hcg2_0, hcg2_1, hcg2_2, hcg2_3, hfg2_0, hfg2_1, hfg2_2, hfg2_3⟩ := cs4 BKg2.out; clear tok1; have tok2 : True := trivial) | (have _ := tok2; go_at_call 45; (with_reducible refine (made_yes D dr _ _ _ _ (sB BKD.out)).mono ?_); rintro e w2 ⟨rfl, hd⟩; have hb := hd.below; (try clear hcD_0 hfD_0); (try clear hcD_1 hfD_1); (try clear hcD_2 hfD_2); (try clear hcD_3 hfD_3); (try clear hcdr_0 hfdr_0); (try clear hcdr_1 hfdr_1); (try clear hcdr_2 hfdr_2); (try clear hcdr_3 hfdr_3); (try clear hcdr_4 hfdr_4); (try clear hcdr_5 hfdr_5); (try clear hcdr_6 hfdr_6); (try clear hcg2_0 hfg2_0); (try clear hcg2_1 hfg2_1); (try clear hcg2_2 hfg2_2); (try clear hcg2_3 hfg2_3); have hs : Below w1.heap.size w1 w2 := below_step Lt8.b hb; have SZ2 := Aside0.mk (show w1.heap.size ≤ w2.heap.size from hs.size); replace BKD := Aside0.mk (blk_below BKD.out hs); replace BKdr := Aside0.mk (blk_below BKdr.out hs); replace BKg2 := Aside0.mk (blk_below BKg2.out hs); replace HB := Aside0.mk (below_step HB.out hs); clear hb hd hs; obtain ⟨hcD_0, hcD_1, hcD_2, hcD_3, hfD_0, hfD_1, hfD_2, hfD_3⟩ := cs4 BKD.out; obtain ⟨hcdr_0, hcdr_1, hcdr_2, hcdr_3, hcdr_4, hcdr_5, hcdr_6, hfdr_0, hfdr_1, hfdr_2, hfdr_3, hfdr_4, hfdr_5, hfdr_6⟩ := cs7 BKdr.out; obtain ⟨hcg2_0, hcg2_1, hcg2_2, hcg2_3, hfg2_0, hfg2_1, hfg2_2, hfg2_3⟩ := cs4 BKg2.out; clear tok2))
 (try clear hcD_0 hfD_0)
 (try clear hcD_1 hfD_1)
 (try clear hcD_2 hfD_2)
 (try clear hcD_3 hfD_3)
 (try clear hcdr_0 hfdr_0)
 (try clear hcdr_1 hfdr_1)
 (try clear hcdr_2 hfdr_2)
 (try clear hcdr_3 hfdr_3)
 (try clear hcdr_4 hfdr_4)
 (try clear hcdr_5 hfdr_5)
 (try clear hcdr_6 hfdr_6)
 (try clear hcg2_0 hfg2_0)
 (try clear hcg2_1 hfg2_1)
 (try clear hcg2_2 hfg2_2)
 (try clear hcg2_3 hfg2_3)
 replace BKD := Aside0.mk (blk_far BKD.out (p := ⟨g2, 0, none⟩) (by show _ ≠ _; have := HZ1.out; have := HZ2.out; have := SZ1.out; have := SZ2.out; omega) (.int .i64 a))
 replace BKdr := Aside0.mk (blk_far BKdr.out (p := ⟨g2, 0, none⟩) (by show _ ≠ _; have := HZ1.out; have := HZ2.out; have := SZ1.out; have := SZ2.out; omega) (.int .i64 a))
 replace BKg2 := Aside0.mk (blk_put BKg2.out 0 (.int .i64 a) rfl)
 replace HB := Aside0.mk (below_set HB.out (by have := HZ1.out; have := HZ2.out; have := SZ1.out; have := SZ2.out; omega : w.heap.size ≤ g2) (j := 0) (v := .int .i64 a))
 replace BKD := Aside0.mk (blk_far BKD.out (p := ⟨g2, 1, none⟩) (by show _ ≠ _; have := HZ1.out; have := HZ2.out; have := SZ1.out; have := SZ2.out; omega) (.int .i64 b))
 replace BKdr := Aside0.mk (blk_far BKdr.out (p := ⟨g2, 1, none⟩) (by show _ ≠ _; have := HZ1.out; have := HZ2.out; have := SZ1.out; have := SZ2.out; omega) (.int .i64 b))
 replace BKg2 := Aside0.mk (blk_put BKg2.out 1 (.int .i64 b) rfl)
 replace HB := Aside0.mk (below_set HB.out (by have := HZ1.out; have := HZ2.out; have := SZ1.out; have := SZ2.out; omega : w.heap.size ≤ g2) (j := 1) (v := .int .i64 b))
 replace BKD := Aside0.mk (blk_far BKD.out (p := ⟨g2, 2, none⟩) (by show _ ≠ _; have := HZ1.out; have := HZ2.out; have := SZ1.out; have := SZ2.out; omega) (.int .i64 c))
 replace BKdr := Aside0.mk (blk_far BKdr.out (p := ⟨g2, 2, none⟩) (by show _ ≠ _; have := HZ1.out; have := HZ2.out; have := SZ1.out; have := SZ2.out; omega) (.int .i64 c))
 replace BKg2 := Aside0.mk (blk_put BKg2.out 2 (.int .i64 c) rfl)
 replace HB := Aside0.mk (below_set HB.out (by have := HZ1.out; have := HZ2.out; have := SZ1.out; have := SZ2.out; omega : w.heap.size ≤ g2) (j := 2) (v := .int .i64 c))
 replace BKD := Aside0.mk (blk_far BKD.out (p := ⟨g2, 3, none⟩) (by show _ ≠ _; have := HZ1.out; have := HZ2.out; have := SZ1.out; have := SZ2.out; omega) (.int .i64 d))
 replace BKdr := Aside0.mk (blk_far BKdr.out (p := ⟨g2, 3, none⟩) (by show _ ≠ _; have := HZ1.out; have := HZ2.out; have := SZ1.out; have := SZ2.out; omega) (.int .i64 d))
 replace BKg2 := Aside0.mk (blk_put BKg2.out 3 (.int .i64 d) rfl)
 replace HB := Aside0.mk (below_set HB.out (by have := HZ1.out; have := HZ2.out; have := SZ1.out; have := SZ2.out; omega : w.heap.size ≤ g2) (j := 3) (v := .int .i64 d))
 have SZ3 := Aside0.mk (show w2.heap.size ≤ ((((w2.setCell ⟨g2, 0, none⟩ (.int .i64 a)).setCell ⟨g2, 1, none⟩ (.int .i64 b)).setCell ⟨g2, 2, none⟩ (.int .i64 c)).setCell ⟨g2, 3, none⟩ (.int .i64 d)).heap.size from by simp [World.setCell])
 generalize ((((w2.setCell ⟨g2, 0, none⟩ (.int .i64 a)).setCell ⟨g2, 1, none⟩ (.int .i64 b)).setCell ⟨g2, 2, none⟩ (.int .i64 c)).setCell ⟨g2, 3, none⟩ (.int .i64 d)) = w3 at HB BKD BKdr BKg2 SZ3 ⊢
 obtain ⟨hcD_0, hcD_1, hcD_2, hcD_3, hfD_0, hfD_1, hfD_2, hfD_3⟩ := cs4 BKD.out
 obtain ⟨hcdr_0, hcdr_1, hcdr_2, hcdr_3, hcdr_4, hcdr_5, hcdr_6, hfdr_0, hfdr_1, hfdr_2, hfdr_3, hfdr_4, hfdr_5, hfdr_6⟩ := cs7 BKdr.out
 obtain ⟨hcg2_0, hcg2_1, hcg2_2, hcg2_3, hfg2_0, hfg2_1, hfg2_2, hfg2_3⟩ := cs4 BKg2.out
 refine bodyPost_ret (results_ct rfl _ _ g2 23 #[.int .i64 a, .int .i64 b, .int .i64 c, .int .i64 d] (0, 0) _ rfl (sB BKg2.out) hu rfl (by kernel_rfl)) rfl ?_
 exact ⟨rfl, (sH HB.out)⟩
def wipedOf (k : Nat) (gone : List Bool) : List Int := ((List.range k).filter fun i : Nat => gone.getD i false).map fun i : Nat => (i : Int)
theorem wipedOf_yes {k : Nat} {gone : List Bool} (h : gone.getD k false = true) : wipedOf (k + 1) gone = wipedOf k gone ++ [(k : Int)] := by
 unfold wipedOf
 rw [List.range_succ, List.filter_append, List.map_append, List.filter_cons_of_pos (p := fun i : Nat => gone.getD i false) (a := k) (l := []) h]
 rfl
theorem wipedOf_no {k : Nat} {gone : List Bool} (h : gone.getD k false = false) : wipedOf (k + 1) gone = wipedOf k gone := by
 unfold wipedOf
 rw [List.range_succ, List.filter_append, List.map_append, List.filter_cons_of_neg (p := fun i : Nat => gone.getD i false) (a := k) (l := []) (by rw [h]; decide)]
 simp
theorem wipedOf_len (k : Nat) (gone : List Bool) : (wipedOf k gone).length ≤ k := by
 unfold wipedOf
 rw [List.length_map]
 exact Nat.le_trans (List.length_filter_le _ _) (by simp)
theorem infoI64 : (Try.prog.info? 3).map (fun i => (i.zero, i.size, i.bytes)) = some (some (.int .i64 0), 1, 8) := by kernel_rfl
set_option maxHeartbeats 8000000 in
set_option maxRecDepth 100000 in
theorem Wiped_yes (D dr : Nat) (a b c d sz : Int) (off : Bool) (cut wr : Int) (As Ag : Option Addr) (ns cs cg : Nat) (gone : List Bool) (w : World) (hD : w.heap[D]? = some (.cells #[.pointer (some ⟨dr, 0, none⟩), .bool off, .int .i64 cut, .int .i64 wr] 58 (0, 0))) (hR : w.heap[dr]? = some (.cells #[.int .i64 a, .int .i64 b, .int .i64 c, .int .i64 d, .int .i64 sz, .slice As ns cs, .slice Ag gone.length cg] 78 (0, 0))) (hG : Kd.C Kd.bool w Ag gone.length gone) (hl : gone.length ≤ 1000000) : Calls Try.prog 25 #[.pointer (some ⟨D, 0, none⟩)] w fun e w' => ∃ v : Value, e = .returned v ∧ Kd.R (Kd.int .i64) 3 w' w.heap.size (fun _ => True) v (wipedOf gone.length gone) ∧ Below w.heap.size w w' := by
 have HB := Aside0.mk (Below.refl w.heap.size w)
 have BKD := Aside0.mk hD
 have BKdr := Aside0.mk hR
 have HG := Aside0.mk hG
 have HL := Aside0.mk hl
 clear hD hR hG hl
 obtain ⟨hcD_0, hcD_1, hcD_2, hcD_3, hfD_0, hfD_1, hfD_2, hfD_3⟩ := cs4 BKD.out
 obtain ⟨hcdr_0, hcdr_1, hcdr_2, hcdr_3, hcdr_4, hcdr_5, hcdr_6, hfdr_0, hfdr_1, hfdr_2, hfdr_3, hfdr_4, hfdr_5, hfdr_6⟩ := cs7 BKdr.out
 go_enter Try.func25, Try.ntmps25
 have tok1 : True := trivial
 go_wp2_with (first | (have _ := tok1; go_at_call 45; (with_reducible refine (made_yes D dr _ _ _ _ (sB BKD.out)).mono ?_); rintro e w1 ⟨rfl, hd⟩; have hb := hd.below; (try clear hcD_0 hfD_0); (try clear hcD_1 hfD_1); (try clear hcD_2 hfD_2); (try clear hcD_3 hfD_3); (try clear hcdr_0 hfdr_0); (try clear hcdr_1 hfdr_1); (try clear hcdr_2 hfdr_2); (try clear hcdr_3 hfdr_3); (try clear hcdr_4 hfdr_4); (try clear hcdr_5 hfdr_5); (try clear hcdr_6 hfdr_6); have hs : Below w.heap.size w w1 := below_step Lt8.b hb; have SZ1 := Aside0.mk (show w.heap.size ≤ w1.heap.size from hs.size); replace BKD := Aside0.mk (blk_below BKD.out hs); replace BKdr := Aside0.mk (blk_below BKdr.out hs); replace HB := Aside0.mk (below_step HB.out hs); clear hb hd hs; obtain ⟨hcD_0, hcD_1, hcD_2, hcD_3, hfD_0, hfD_1, hfD_2, hfD_3⟩ := cs4 BKD.out; obtain ⟨hcdr_0, hcdr_1, hcdr_2, hcdr_3, hcdr_4, hcdr_5, hcdr_6, hfdr_0, hfdr_1, hfdr_2, hfdr_3, hfdr_4, hfdr_5, hfdr_6⟩ := cs7 BKdr.out; clear tok1))
 go_loopg [3, 16] gone.length (fun kq v3 v16 wr => ∃ k : Nat, v16 = .int .i64 (k : Int) ∧ Aside0 (k ≤ gone.length ∧ gone.length - k ≤ kq) ∧ Aside0 (Kd.R (Kd.int .i64) 3 wr w.heap.size (fun _ => True) v3 (wipedOf k gone)) ∧ Aside0 (Below w.heap.size w wr))
 case atStart => exact ⟨0, rfl, Aside0.mk ⟨by omega, by omega⟩, Aside0.mk (Kd.R_nil _ _ _ _ _), HB⟩
 case round =>
  clear HB
  obtain ⟨k, rfl, AX, HO, HB⟩ := hrel
  by_cases hlt : k < gone.length
  ·
   obtain ⟨ad, eA, hx0⟩ := Kd.at_bool HG.out (k : Int) (by omega) (by omega)
   subst eA
   rw [rdOf, Int.toNat_natCast] at hx0
   have b1 : decide ((k : Int) < (gone.length : Int)) = true := decide_eq_true (by omega)
   have b2 : decide (k < gone.length) = true := decide_eq_true hlt
   have b3 : (k < gone.length) = True := eq_true hlt
   have hx := pw_cell_below HB.out hx0
   have HK := Aside0.mk hlt
   clear hlt hx0
   have AL := Aside0.mk (wipedOf_len k gone)
   by_cases hg : gone.getD k false = true
   ·
    rw [hg] at hx
    have AJ := Aside0.mk (wipedOf_yes hg)
    clear hg
    go_wp2_with ((with_reducible refine gate_builtin (b := .append) (xs := #[.tmp 22, .tmp 24]) rfl ?_); at_builtin; refine Kd.R_append (Kd.int .i64) (w0 := w) w.heap.size rfl (.tmp 22) (.tmp 24) 54 3 (.int .i64 0) 8 rfl Try.underlying54 infoI64 rfl (by decide) (by omega) _ (wipedOf k gone) (k : Int) [.int .i64 (k : Int)] (fun _ => True) (fun _ => False) rfl rfl rfl (fun _ hk => hk.elim) (fun _ _ => trivial) HO.out HB.out HB.out.size (by have := AL.out; have := HK.out; have := HL.out; omega) ?_; intro v9 w9 ho hb hg hat; rw [← AJ.out] at ho; clear HB HO; have HB := Aside0.mk hb; have HO := Aside0.mk ho; clear hb ho hg hat)
    go_roundg (gk - 1)
    case measure =>
     have := AX.out
     have := HK.out
     omega
    case rel =>
     have h1 := AX.out
     have h2 := HK.out
     have h3 := HL.out
     exact ⟨k + 1, by rw [show wrap64 ((k : Int) + 1) = ((k + 1 : Nat) : Int) by unfold wrap64; omega], Aside0.mk ⟨by omega, by omega⟩, HO, HB⟩
   ·
    have hg : gone.getD k false = false := by simpa using hg
    rw [hg] at hx
    have AJ := Aside0.mk (wipedOf_no hg)
    clear hg
    go_wp2
    go_roundg (gk - 1)
    case measure =>
     have := AX.out
     have := HK.out
     omega
    case rel =>
     have h1 := AX.out
     have h2 := HK.out
     have h3 := HL.out
     exact ⟨k + 1, by rw [show wrap64 ((k : Int) + 1) = ((k + 1 : Nat) : Int) by unfold wrap64; omega], Aside0.mk ⟨by omega, by omega⟩, Aside0.mk (by rw [AJ.out]; exact HO.out), HB⟩
  ·
   have b1 : decide ((k : Int) < (gone.length : Int)) = false := decide_eq_false (by omega)
   have b2 : decide (k < gone.length) = false := decide_eq_false hlt
   have e : k = gone.length := by
    have := AX.out
    omega
   clear hlt
   go_wp2
   go_ret
   refine ⟨_, rfl, ?_, HB.out⟩
   have := HO.out
   rwa [e] at this
end Go.Proofs.Ytemmhgfjfbdggaa.P
